/- The statement FnExactLeadAll of this program: what its proof uses, part 13 of 15. The call returns true for all arguments. No condition of its own. -/
import Derived.Test.YtjpponjekcemjaaZFnExactLeadAll11
section
namespace Go.Proofs.Ytjpponjekcemjaa.PB
open Go.RowKit Go.Proofs.YtjpponjekcemjaaW.PrintWords Go.Proofs.YtjpponjekcemjaaW.PrintLast Go.Proofs.YtjpponjekcemjaaW.PrintMore Go.Proofs.Ytjpponjekcemjaa.La
attribute [local go_sem] max2_int min2_int max_two min_two max_three min_three max_four min_four   -- for this text's walks alone
set_option linter.unusedVariables false
set_option linter.unusedSimpArgs false
def laws_toSpotS.l0 : Nat → List (S29) → List (S39) → Int → Option ((List (S39)))
 | 0, _, _, _ => none
 | k + 1, x0, x3, x4 => if x4 < (x0.length : Int) then (if 0 ≤ x4 then ((laws_toSpot.f ((rd_T29 x0 x4).f0) ((rd_T29 x0 x4).f1)).bind fun bt454 => (if x4 < (x3.length : Int) then (laws_toSpotS.l0 k x0 (x3.set (x4 : Int).toNat (⟨bt454.1, bt454.2⟩ : S39)) (wrap64 (x4 + 1))) else (none))) else (none)) else (some x3)
def laws_toSpotS.f (k : Nat) (l0 : List (S29)) : Option ((List (S39))) := if 0 ≤ (l0.length : Int) then (if ((l0.length : Int) : Int).toNat ≤ 140737488355328 then (laws_toSpotS.l0 k l0 (List.replicate ((l0.length : Int) : Int).toNat z39) 0) else (none)) else (none)
theorem laws_toSpotS.mono_l : ∀ k, (∀ y0 y1 y2, LeO (laws_toSpotS.l0 k y0 y1 y2) (laws_toSpotS.l0 (k + 1) y0 y1 y2))
 | 0 => fun _ _ _ r h => by simp [laws_toSpotS.l0] at h
 | k + 1 => by
  have ih0 := laws_toSpotS.mono_l k
  ·intro y0 y1 y2
   unfold laws_toSpotS.l0
   repeat' first
   | (with_reducible exact ih0 _ _ _)
   | (with_reducible exact LeO.refl _)
   | (with_reducible exact LeO.none _)
   | (with_reducible refine LeO.ite ?_ ?_)
   | (with_reducible refine LeO.bind ?_ (fun _ => ?_))
   | exact ih0 _ _ _
   | exact LeO.none _
   | refine LeO.ite ?_ ?_
   | refine LeO.bind ?_ (fun _ => ?_)
theorem laws_toSpotS.mono : ∀ a0 k, LeO (laws_toSpotS.f k a0) (laws_toSpotS.f (k + 1) a0) := by
 intro a0 k
 have ih0 := laws_toSpotS.mono_l k
 unfold laws_toSpotS.f
 repeat' first
   | (with_reducible exact ih0 _ _ _)
   | (with_reducible exact LeO.refl _)
   | (with_reducible exact LeO.none _)
   | (with_reducible refine LeO.ite ?_ ?_)
   | (with_reducible refine LeO.bind ?_ (fun _ => ?_))
   | exact ih0 _ _ _
   | exact LeO.none _
   | refine LeO.ite ?_ ?_
   | refine LeO.bind ?_ (fun _ => ?_)
set_option maxHeartbeats 8000000 in
set_option maxRecDepth 100000 in
theorem laws_toSpotS.calls (k : Nat) (A0 : Option Addr) (c0 : Nat) (l0 : List (S29)) (r : List (S39)) (w : World) (hr0 : Kd.C k29 w A0 l0.length l0) (hc0 : l0.length ≤ c0) (h : laws_toSpotS.f k l0 = some r) :
  Calls Try.prog 19 #[.slice A0 l0.length c0] w fun e w' => ∃ v0_ : Value, e = .returned (v0_) ∧ Kd.R k39 39 w' w.heap.size (fun _ => True) v0_ r ∧ Below w.heap.size w w' := by
 have hu29 := Try.underlying29
 have hu39 := Try.underlying39
 have HR0 := Aside0.mk hr0
 have HC0 := Aside0.mk hc0
 clear hr0 hc0
 have HB := Aside0.mk (Below.refl w.heap.size w)
 have H : (if 0 ≤ (l0.length : Int) then (if ((l0.length : Int) : Int).toNat ≤ 140737488355328 then (laws_toSpotS.l0 k l0 (List.replicate ((l0.length : Int) : Int).toNat z39) 0) else (none)) else (none)) = some r := h
 clear h
 by_cases c2 : 0 ≤ (l0.length : Int)
 ·rw [if_pos c2] at H
  have c2b0 := eq_true c2; have c2b1 : decide (0 ≤ (l0.length : Int)) = true := decide_eq_true c2; clear c2
  by_cases c3 : ((l0.length : Int) : Int).toNat ≤ 140737488355328
  ·rw [if_pos c3] at H
   have c3b0 := eq_true c3; have c3b1 : decide (((l0.length : Int) : Int).toNat ≤ 140737488355328) = true := decide_eq_true c3; clear c3; obtain ⟨y450, hy450⟩ : ∃ y_ : List (S39), y_ = (List.replicate ((l0.length : Int) : Int).toNat z39) := ⟨_, rfl⟩
   replace H : (laws_toSpotS.l0 k l0 y450 0) = some r := by first | (rw [hy450]; with_reducible exact H) | (have H2_ := (Option.bind_some _ _).symm.trans H; rw [hy450]; with_reducible exact H2_) | (have H2_ := (Option.bind_some _ _).symm.trans H; with_reducible exact H2_) | with_reducible exact H | (rw [hy450]; exact H) | exact H
   have Ny450 := Aside0.mk hy450; clear hy450; have H' := Aside0.mk H; clear H
   go_enter Try.func19, Try.ntmps19
   go_wp2_with (first | ((with_reducible refine gate_dst (N := 7) rfl ?_); refine Kd.R_make k39 _ 39 rfl (N := 7) rfl 36 _ _ rfl (l0.length : Int) rfl rfl Try.underlying36 (.agg #[(.int .i8 0), (.int .i8 0)]) 2 info39 rfl (by decide) (by omega) z39 (ok := fun _ => True) (okp := fun _ => True) (k39_mkM _ _ _ z39 ) (fun _ hk => hk) trivial (oda) (Nat.le_trans (Nat.mul_le_mul_right _ (oda : (l0.length : Int).toNat ≤ 140737488355328)) (by omega)) (Below.refl _ _) (Nat.le_refl _) ?_; intro v451 w4 ho5 hb hg_ hnew_; clear hg_ hnew_; (first | rw [← Ny450.out] at ho5 | (simp only [Int.reduceToNat] at ho5; rw [← Ny450.out] at ho5)); have HO452 := Aside0.mk (Kd.R_lower ho5 (below_size (by repeat (first | (with_reducible first | exact HB.out | apply below_alloc | apply pw_below_drewN | apply below_drew1) | exact HB.out)))); replace HB := bst HB hb; clear hb ho5))
   go_loopg [4] k (fun kq v4 w' => ∃ (x3_1 : List (S39)) (x4_1 : Int), v4 = .int .i64 x4_1 ∧ Aside0 (laws_toSpotS.l0 kq l0 x3_1 x4_1 = some r) ∧ Aside0 (kq ≤ k) ∧ Aside0 (Kd.R k39 39 w' w.heap.size (fun _ => True) v451 x3_1) ∧ Aside0 (Below w.heap.size w w'))
   case atStart => exact ⟨(y450), (0), (by first | rfl | (simp; done) | (simp [*]; done)), H', ⟨Nat.le_refl _⟩, ⟨by (with_reducible repeat (first | apply Kd.R_alloc | apply Kd.R_drewN | apply Kd.R_drew)); exact HO452.out⟩, ⟨pb HB⟩⟩
   case round =>
    clear H'
    try clear c1
    try clear c2
    try clear c2b0
    try clear c2b1
    try clear p2
    try clear c3
    try clear c3b0
    try clear c3b1
    obtain ⟨x3_1, x4_1, rfl, HA, HK1, HO_3, HB⟩ := hrel
    cases gk with
    | zero => exact absurd HA.out (by simp [laws_toSpotS.l0])
    | succ k1 =>
     have H := HA.out; clear HA; simp only [laws_toSpotS.l0] at H
     by_cases c6 : x4_1 < (l0.length : Int)
     ·rw [if_pos c6] at H
      have c6b0 : decide (x4_1 < (l0.length : Int)) = true := decide_eq_true c6; clear c6
      by_cases c7 : 0 ≤ x4_1
      ·rw [if_pos c7] at H
       have c7b0 : decide (0 ≤ x4_1) = true := decide_eq_true c7; clear c7; replace H := Option.bind_eq_some_iff.mp H; obtain ⟨⟨t454, t455⟩, A80, H⟩ := H; replace H : (if x4_1 < (x3_1.length : Int) then (laws_toSpotS.l0 k1 l0 (x3_1.set (x4_1 : Int).toNat (⟨t454, t455⟩ : S39)) (wrap64 (x4_1 + 1))) else (none)) = some r := H; have A8 := Aside0.mk A80; clear A80
       by_cases c9 : x4_1 < (x3_1.length : Int)
       ·rw [if_pos c9] at H
        have c9b0 : decide (x4_1 < (x3_1.length : Int)) = true := decide_eq_true c9; clear c9; obtain ⟨y456, hy456⟩ : ∃ y_ : List (S39), y_ = (x3_1.set (x4_1 : Int).toNat (⟨t454, t455⟩ : S39)) := ⟨_, rfl⟩
        replace H : (laws_toSpotS.l0 k1 l0 y456 (wrap64 (x4_1 + 1))) = some r := by first | (rw [hy456]; with_reducible exact H) | (have H2_ := (Option.bind_some _ _).symm.trans H; rw [hy456]; with_reducible exact H2_) | (have H2_ := (Option.bind_some _ _).symm.trans H; with_reducible exact H2_) | with_reducible exact H | (rw [hy456]; exact H) | exact H
        have Ny456 := Aside0.mk hy456; clear hy456; have H' := Aside0.mk H; clear H; have p453 : 0 ≤ (x4_1 : Int) := oda; have q453 : x4_1 < (l0.length : Int) := oda; obtain ⟨ad453, e453, hx453_0, hx453_1⟩ := at_T29 HR0.out x4_1 p453 q453; cases e453
        try replace hx453_0 := cb HB hx453_0
        try replace hx453_1 := cb HB hx453_1
        replace p453 := eq_true p453; replace q453 := eq_true q453
        go_wp2_with (first | ((with_reducible refine gate_callee (f := 10) rfl ?_); refine gl (some 20) Try.func10 #[.agg #[.int .i8 ((rd_T29 l0 x4_1).f0), .int .i8 ((rd_T29 l0 x4_1).f1)]] ?_; (with_reducible refine (laws_toSpot.calls ((rd_T29 l0 x4_1).f0) ((rd_T29 l0 x4_1).f1) t454 t455 _ A8.out).mono ?_); rintro e w11 ⟨rfl, hb⟩; refine ⟨_, rfl, ?_⟩; replace HO_3 := krb HO_3 hb; replace HB := bst HB hb; (try clear hb); (try clear hb2); (try clear hk); (try clear hi); have p10 : 0 ≤ (x4_1 : Int) := oda; have q10 : (x4_1 : Int) < ((x3_1.length : Int) : Int) := oda; obtain ⟨go10, co10, eo10, gb10, gl10, cl10, HG10⟩ := Kd.R_form HO_3.out (by omega); (first | cases eo10 | (injection eo10 with ea_ en_ ec_; (first | subst ea_ | (injection ea_ with ea_; subst ea_)); subst ec_; clear en_)); have GB10 := Aside0.mk gb10; have GG10 := Aside0.mk HG10; clear gb10 gl10 HG10; obtain ⟨ce10, hcl10, hM10, hcc10, hfr10⟩ := Kd.R_elem HO_3.out z39 (x4_1 : Int) p10 q10; obtain rfl := k39_openM hM10; have hx10_0 : w11.cell? ⟨go10, (x4_1 : Int).toNat * 2, none⟩ = some (.int .i8 ((rd_T39 x3_1 x4_1).f0)) := hcc10 0 _ rfl; have hx10_1 : w11.cell? ⟨go10, (x4_1 : Int).toNat * 2 + 1, none⟩ = some (.int .i8 ((rd_T39 x3_1 x4_1).f1)) := hcc10 1 _ rfl; have hf10_0 : w11.frozen? ⟨go10, (x4_1 : Int).toNat * 2, none⟩ = false := hfr10 0; have hf10_1 : w11.frozen? ⟨go10, (x4_1 : Int).toNat * 2 + 1, none⟩ = false := hfr10 1; clear hcl10 hcc10 hfr10 hM10; replace p10 := eq_true p10; replace q10 := eq_true q10; have HX12 := Aside0.mk (show Kd.R k39 39 w11 w.heap.size (fun _ => True) (.slice (some ⟨go10, 0, none⟩) x3_1.length co10) x3_1 from (by (with_reducible repeat (first | apply Kd.R_alloc | apply Kd.R_drewN | apply Kd.R_drew)); exact HO_3.out)); obtain ⟨ce12, hcl12, hM12, hcc12, hfr12⟩ := Kd.R_elem HX12.out z39 (x4_1 : Int) (oda) (by have h_ : (x4_1 : Int) < ((x3_1.length : Int) : Int) := oda; first | exact h_ | (have e_ := (Kd.R_reads' HO_3.out).1; omega) | simpa using h_); obtain rfl := k39_openM hM12; have HP12 := Kd.R_seg HX12.out (x4_1 : Int) (oda) (by have h_ : (x4_1 : Int) < ((x3_1.length : Int) : Int) := oda; first | exact h_ | (have e_ := (Kd.R_reads' HO_3.out).1; omega) | simpa using h_) (seg := [.int .i8 t454, .int .i8 t455]) (j := 0) hcl12 hcc12 (show 2 ≤ 2 from by decide) (x' := (⟨t454, t455⟩ : S39)) (k39_mkM _ _ _ (⟨t454, t455⟩ : S39) ) (fun _ hk => hk); have hx12_0 := hcc12 0 _ rfl; (try simp only [show (k39).sz = 2 from rfl, Nat.mul_one, Nat.add_zero] at hx12_0); have hf12_0 := hfr12 0; (try simp only [show (k39).sz = 2 from rfl, Nat.mul_one, Nat.add_zero] at hf12_0); have hx12_1 := hcc12 1 _ rfl; (try simp only [show (k39).sz = 2 from rfl, Nat.mul_one, Nat.add_zero] at hx12_1); have hf12_1 := hfr12 1; (try simp only [show (k39).sz = 2 from rfl, Nat.mul_one, Nat.add_zero] at hf12_1); clear hcl12 hcc12 hfr12 hM12) | ((with_reducible refine gate_store (t := 39) (p := 21) rfl ?_); refine store_event (t := 39) (p := 21) (v := ?vo_w13) (w1 := ((w11.setCell ⟨go10, (x4_1 : Int).toNat * 2, none⟩ (.int .i8 t454)).setCell ⟨go10, (x4_1 : Int).toNat * 2 + 1, none⟩ (.int .i8 t455))) ?hg ?ho ?hn ?hr ?_; (case ho => rfl); (case hg => rfl); (case hn => rfl); (case hr => first | (go_simp; done) | (go_simp; rfl)); intro w13 hw; have hg : w11.grownBy w13 (some go10) := (by rw [hw]; exact HP12.2); have hp_ : Kd.R k39 39 w13 w.heap.size (fun _ => True) (.slice (some ⟨go10, 0, none⟩) x3_1.length co10) y456 := (by rw [hw, Ny456.out]; exact HP12.1); clear HP12; replace HO_3 := Aside0.mk (hp_); replace HB := Aside0.mk ((by rw [hw]; exact below_set (below_set (HB.out) GB10.out) GB10.out : Below w.heap.size w w13)); clear hg hw hp_))
        go_roundg k1
        case measure => have := HK1.out; omega
        case rel => exact ⟨(y456), (wrap64 (x4_1 + 1)), (by first | rfl | (simp; done) | (simp [*]; done)), H', ⟨by have := HK1.out; omega⟩, ⟨by (with_reducible repeat (first | apply Kd.R_alloc | apply Kd.R_drewN | apply Kd.R_drew)); exact HO_3.out⟩, ⟨pb HB⟩⟩
       ·rw [if_neg c9] at H
        exact absurd H (by simp)
      ·rw [if_neg c7] at H
       exact absurd H (by simp)
     ·rw [if_neg c6] at H
      have c6b0 : decide (x4_1 < (l0.length : Int)) = false := decide_eq_false c6; clear c6; obtain rfl := Option.some.inj H
      go_wp2
      go_ret
      exact ⟨_, by first | rfl | (simp [errW_none, errW_some] <;> rfl) | (simp [*, errW_none, errW_some] <;> rfl), by (with_reducible repeat (first | apply Kd.R_alloc | apply Kd.R_drewN | apply Kd.R_drew)); exact HO_3.out, pb HB⟩
  ·rw [if_neg c3] at H
   exact absurd H (by simp)
 ·rw [if_neg c2] at H
  exact absurd H (by simp)
mutual
def impl_LeadAll.l0 : Nat → List (S39) → Int → List Int → List (S39) → Int → Int → Int → Int → LA 10 → Option (List Int × Int)
 | 0, _, _, _, _, _, _, _, _, _ => none
 | k + 1, x1, x3, x10, x28, x29, x30, x458000, x458001, x458002 => if x30 < x29 then (if 0 ≤ x30 then (if x30 < (x28.length : Int) then ((impl_LeadTo.f k x458000 x458001 x458002 x1 ((rd_T39 x28 x30).f0) ((rd_T39 x28 x30).f1) x3).bind fun bt464 => (if bt464.2.2 = 0 then (impl_LeadAll.l1 k x1 x3 x10 bt464.1 x28 x29 x30 bt464.1 (bt464.1.length : Int) 0 x458000 x458001 x458002) else (some (([] : List Int), bt464.2.2)))) else (none)) else (none)) else (some (x10, 0))
def impl_LeadAll.l1 : Nat → List (S39) → Int → List Int → List Int → List (S39) → Int → Int → List Int → Int → Int → Int → Int → LA 10 → Option (List Int × Int)
 | 0, _, _, _, _, _, _, _, _, _, _, _, _, _ => none
 | k + 1, x1, x3, x10, x13, x28, x29, x30, x46, x47, x48, x458000, x458001, x458002 => if x48 < x47 then (if 0 ≤ x48 then (if x48 < (x46.length : Int) then ((impl_File_moved.f k x1 (rd x46 x48)).bind fun t470 => (impl_LeadAll.l1 k t470 x3 x10 x13 x28 x29 x30 x46 x47 (wrap64 (x48 + 1)) x458000 x458001 x458002)) else (none)) else (none)) else (if x10.length + x13.length < 17592186044416 then ((some (x10 ++ x13 : List Int)).bind fun y473 => (if (y473.length : Int) > 60 then (some (([] : List Int), 3)) else (impl_LeadAll.l0 k x1 x3 y473 x28 x29 (wrap64 (x30 + 1)) x458000 x458001 x458002))) else (none))
end
def impl_LeadAll.f (k : Nat) (a0_0 : Int) (a0_1 : Int) (a0_2 : LA 10) (l1 : List (S39)) (l2 : List (S39)) (a3 : Int) : Option (List Int × Int) := (impl_ValidFile.f k a0_0 a0_1 a0_2 l1).bind fun t458 => (if t458 = true then (if (l2.length : Int) > 10 then (some (([] : List Int), 3)) else (impl_LeadAll.l0 k l1 a3 (([] : List Int)) l2 (l2.length : Int) 0 a0_0 a0_1 a0_2)) else (some (([] : List Int), 1)))
theorem impl_LeadAll.mono_l : ∀ k, (∀ y0 y1 y2 y3 y4 y5 y6 y7 y8, LeO (impl_LeadAll.l0 k y0 y1 y2 y3 y4 y5 y6 y7 y8) (impl_LeadAll.l0 (k + 1) y0 y1 y2 y3 y4 y5 y6 y7 y8)) ∧ (∀ y0 y1 y2 y3 y4 y5 y6 y7 y8 y9 y10 y11 y12, LeO (impl_LeadAll.l1 k y0 y1 y2 y3 y4 y5 y6 y7 y8 y9 y10 y11 y12) (impl_LeadAll.l1 (k + 1) y0 y1 y2 y3 y4 y5 y6 y7 y8 y9 y10 y11 y12))
 | 0 => ⟨fun _ _ _ _ _ _ _ _ _ r h => by simp [impl_LeadAll.l0] at h, fun _ _ _ _ _ _ _ _ _ _ _ _ _ r h => by simp [impl_LeadAll.l1] at h⟩
 | k + 1 => by
  obtain ⟨ih0, ih1⟩ := impl_LeadAll.mono_l k; refine ⟨?_, ?_⟩
  ·intro y0 y1 y2 y3 y4 y5 y6 y7 y8
   unfold impl_LeadAll.l0
   repeat' first
   | (with_reducible exact ih0 _ _ _ _ _ _ _ _ _)
   | (with_reducible exact ih1 _ _ _ _ _ _ _ _ _ _ _ _ _)
   | (with_reducible exact impl_File_moved.mono _ _ _)
   | (with_reducible exact impl_LeadTo.mono _ _ _ _ _ _ _ _)
   | (with_reducible exact impl_ValidFile.mono _ _ _ _ _)
   | (with_reducible exact LeO.refl _)
   | (with_reducible exact LeO.none _)
   | (with_reducible refine LeO.ite ?_ ?_)
   | (with_reducible refine LeO.bind ?_ (fun _ => ?_))
   | exact ih0 _ _ _ _ _ _ _ _ _
   | exact ih1 _ _ _ _ _ _ _ _ _ _ _ _ _
   | exact impl_File_moved.mono _ _ _
   | exact impl_LeadTo.mono _ _ _ _ _ _ _ _
   | exact impl_ValidFile.mono _ _ _ _ _
   | exact LeO.none _
   | refine LeO.ite ?_ ?_
   | refine LeO.bind ?_ (fun _ => ?_)
  ·intro y0 y1 y2 y3 y4 y5 y6 y7 y8 y9 y10 y11 y12
   unfold impl_LeadAll.l1
   repeat' first
   | (with_reducible exact ih0 _ _ _ _ _ _ _ _ _)
   | (with_reducible exact ih1 _ _ _ _ _ _ _ _ _ _ _ _ _)
   | (with_reducible exact impl_File_moved.mono _ _ _)
   | (with_reducible exact impl_LeadTo.mono _ _ _ _ _ _ _ _)
   | (with_reducible exact impl_ValidFile.mono _ _ _ _ _)
   | (with_reducible exact LeO.refl _)
   | (with_reducible exact LeO.none _)
   | (with_reducible refine LeO.ite ?_ ?_)
   | (with_reducible refine LeO.bind ?_ (fun _ => ?_))
   | exact ih0 _ _ _ _ _ _ _ _ _
   | exact ih1 _ _ _ _ _ _ _ _ _ _ _ _ _
   | exact impl_File_moved.mono _ _ _
   | exact impl_LeadTo.mono _ _ _ _ _ _ _ _
   | exact impl_ValidFile.mono _ _ _ _ _
   | exact LeO.none _
   | refine LeO.ite ?_ ?_
   | refine LeO.bind ?_ (fun _ => ?_)
theorem impl_LeadAll.mono : ∀ a0 a1 a2 a3 a4 a5 k, LeO (impl_LeadAll.f k a0 a1 a2 a3 a4 a5) (impl_LeadAll.f (k + 1) a0 a1 a2 a3 a4 a5) := by
 intro a0 a1 a2 a3 a4 a5 k
 obtain ⟨ih0, ih1⟩ := impl_LeadAll.mono_l k
 unfold impl_LeadAll.f
 repeat' first
   | (with_reducible exact ih0 _ _ _ _ _ _ _ _ _)
   | (with_reducible exact ih1 _ _ _ _ _ _ _ _ _ _ _ _ _)
   | (with_reducible exact impl_File_moved.mono _ _ _)
   | (with_reducible exact impl_LeadTo.mono _ _ _ _ _ _ _ _)
   | (with_reducible exact impl_ValidFile.mono _ _ _ _ _)
   | (with_reducible exact LeO.refl _)
   | (with_reducible exact LeO.none _)
   | (with_reducible refine LeO.ite ?_ ?_)
   | (with_reducible refine LeO.bind ?_ (fun _ => ?_))
   | exact ih0 _ _ _ _ _ _ _ _ _
   | exact ih1 _ _ _ _ _ _ _ _ _ _ _ _ _
   | exact impl_File_moved.mono _ _ _
   | exact impl_LeadTo.mono _ _ _ _ _ _ _ _
   | exact impl_ValidFile.mono _ _ _ _ _
   | exact LeO.none _
   | refine LeO.ite ?_ ?_
   | refine LeO.bind ?_ (fun _ => ?_)
set_option maxHeartbeats 8000000 in
set_option maxRecDepth 100000 in
theorem impl_LeadAll.calls (k : Nat) (a0_0 : Int) (a0_1 : Int) (a0_2 : LA 10) (P1_ : Nat → Prop) (A1 : Option Addr) (c1 : Nat) (l1 : List (S39)) (A2 : Option Addr) (c2 : Nat) (l2 : List (S39)) (a3 : Int) (r1 : List Int) (r2 : Int) (w : World) (hs1 : Kd.V k39 39 w w.heap.size (fun k_ => P1_ k_) (.slice A1 l1.length c1) l1) (hr2 : Kd.C k39 w A2 l2.length l2) (hc2 : l2.length ≤ c2) (h : impl_LeadAll.f k a0_0 a0_1 a0_2 l1 l2 a3 = some (r1, r2)) :
  Calls Try.prog 20 #[.agg (mixA (Value.int .u16) [.int .i8 a0_0, .int .i8 a0_1] a0_2), .slice A1 l1.length c1, .slice A2 l2.length c2, .int .i64 a3] w fun e w' => ∃ v0_ : Value, e = .returned (.tuple #[v0_, .int .i64 r2]) ∧ Kd.R (Kd.int .i64) 2 w' w.heap.size (fun k_ => (w.heap.size ≤ k_)) v0_ r1 ∧ Below w.heap.size w w' := by
 have hu34 := Try.underlying34
 have hu39 := Try.underlying39
 have HO1 := Aside0.mk (show Kd.V k39 39 w w.heap.size (fun k_ => (P1_ k_ ∨ w.heap.size ≤ k_)) (.slice A1 l1.length c1) l1 from Kd.V_mono hs1 (fun k_ hk => .inl hk))
 have HR2 := Aside0.mk hr2
 have HC2 := Aside0.mk hc2
 clear hr2 hc2
 have HB := Aside0.mk (Below.refl w.heap.size w)
 have H : ((impl_ValidFile.f k a0_0 a0_1 a0_2 l1).bind fun t458 => (if t458 = true then (if (l2.length : Int) > 10 then (some (([] : List Int), 3)) else (impl_LeadAll.l0 k l1 a3 (([] : List Int)) l2 (l2.length : Int) 0 a0_0 a0_1 a0_2)) else (some (([] : List Int), 1)))) = some (r1, r2) := h
 clear h
 replace H := Option.bind_eq_some_iff.mp H
 obtain ⟨t458, A50, H⟩ := H
 replace H : (if t458 = true then (if (l2.length : Int) > 10 then (some (([] : List Int), 3)) else (impl_LeadAll.l0 k l1 a3 (([] : List Int)) l2 (l2.length : Int) 0 a0_0 a0_1 a0_2)) else (some (([] : List Int), 1))) = some (r1, r2) := H
 have A5 := Aside0.mk A50
 clear A50
 by_cases c6 : t458 = true
 ·subst c6
  have H1 : (if (l2.length : Int) > 10 then (some (([] : List Int), 3)) else (impl_LeadAll.l0 k l1 a3 (([] : List Int)) l2 (l2.length : Int) 0 a0_0 a0_1 a0_2)) = some (r1, r2) := by rw [if_pos rfl] at H; exact H
  clear H; have H := H1; clear H1
  by_cases c7 : (l2.length : Int) > 10
  ·rw [if_pos c7] at H
   have c7b0 : decide (10 < (l2.length : Int)) = true := decide_eq_true c7; have c7b1 : decide (10 < l2.length) = true := decide_eq_true (by omega); clear c7; simp only [Option.some.injEq, Prod.mk.injEq] at H; obtain ⟨rfl, rfl⟩ := H
   go_enter Try.func20, Try.ntmps20
   go_wp2_with (first | ((with_reducible refine gate_dst (N := 4) rfl ?_); refine box_event ?hg (N := 4) ?hd (cs := (mixA (Value.int .u16) [.int .i8 a0_0, .int .i8 a0_1] a0_2)) (t := 34) ?hr ?_; (case hd => rfl); (case hg => rfl); (case hr => first | (go_simp; done) | (go_simp; rfl)); intro gb457 hg w8 hbox hb; have n0_ := Aside0.mk (Kd.V_below (Kd.V_elderB (by (with_reducible repeat (first | apply Kd.V_alloc | apply Kd.V_drewN | apply Kd.V_drew)); exact HO1.out) gb457 (Nat.le_of_eq hg.symm)) hb); have n1_ := bst HB hb; have n2_ := Aside0.mk (hbox); have n3_ := gwl HB hg; have n4_ := gwl HB hg; clear HO1; clear HB; have HO1 := n0_; have HB := n1_; have BK457 := n2_; have GW457 := n3_; have GE457 := n4_; clear n0_ n1_ n2_ n3_ n4_; clear hb hbox hg) | ((with_reducible refine gate_dst (N := 19) rfl ?_); refine wpList_run0 (v := .agg (mixA (Value.int .u16) [.int .i8 a0_0, .int .i8 a0_1] a0_2)) rfl (load_mix_run (P := Try.prog) 34 (.tmp 4) rfl gb457 rfl (show World.rangeAt _ gb457 0 ([.int .i8 a0_0, .int .i8 a0_1] ++ a0_2.l.map (Value.int .u16)) from mix_range (show (World.heap _)[gb457]? = some (.cells (mixA (Value.int .u16) [.int .i8 a0_0, .int .i8 a0_1] a0_2) 34 (0, 0)) from by (with_reducible repeat (first | refine blk_drewN ?_ _ | refine blk_drew ?_ | refine blk_alloc ?_ _)); exact BK457.out)) Try.underlying34 rfl (by kernel_rfl) rfl) ?_) | ((with_reducible refine gate_callee (f := 35) rfl ?_); refine gl (some 21) Try.func35 #[.agg (mixA (Value.int .u16) [.int .i8 a0_0, .int .i8 a0_1] a0_2), .slice A1 l1.length c1] ?_; (with_reducible refine (impl_ValidFile.calls k a0_0 a0_1 a0_2 _ _ l1 true _ ?side1 ?side2 A5.out).mono ?_); (case side1 => repeat (first | exact (Kd.V_reads' HO1.out).2.2 | (with_reducible refine Kd.C_alloc ?_ _) | (with_reducible refine Kd.C_drewN ?_ _) | (with_reducible refine Kd.C_drew ?_))); (case side2 => exact (Kd.V_reads' HO1.out).2.1); rintro e w10 ⟨rfl, hb⟩; refine ⟨_, rfl, ?_⟩; replace HO1 := Aside0.mk (Kd.V_below (by (with_reducible repeat (first | apply Kd.V_alloc | apply Kd.V_drewN | apply Kd.V_drew)); exact HO1.out) hb); replace BK457 := bkb BK457 hb; replace HB := bst HB hb; (try clear hb); (try clear hb2); (try clear hk); (try clear hi)))
   go_ret2
   exact ⟨_, by first | rfl | (simp [errW_none, errW_some] <;> rfl) | (simp [*, errW_none, errW_some] <;> rfl), by first | exact Kd.R_nil _ _ _ _ _ | exact Kd.N_nil _ _ _ _ _ | exact Kd.V_nil _ _ _ _ _ | exact Kd.Q_nil _ _ _ _ _ | exact Kd.S_nil _ _ _ _ _, pbs HB⟩
  ·rw [if_neg c7] at H
   have c7b0 : decide (10 < (l2.length : Int)) = false := decide_eq_false c7; have c7b1 : decide (10 < l2.length) = false := decide_eq_false (by omega); clear c7; obtain ⟨y459, hy459⟩ : ∃ y_ : List Int, y_ = (([] : List Int)) := ⟨_, rfl⟩
   replace H : (impl_LeadAll.l0 k l1 a3 y459 l2 (l2.length : Int) 0 a0_0 a0_1 a0_2) = some (r1, r2) := by first | (rw [hy459]; with_reducible exact H) | (have H2_ := (Option.bind_some _ _).symm.trans H; rw [hy459]; with_reducible exact H2_) | (have H2_ := (Option.bind_some _ _).symm.trans H; with_reducible exact H2_) | with_reducible exact H | (rw [hy459]; exact H) | exact H
   have Ny459 := Aside0.mk hy459; clear hy459; have H' := Aside0.mk H; clear H
   go_enter Try.func20, Try.ntmps20
   go_wp2_with (first | ((with_reducible refine gate_dst (N := 4) rfl ?_); refine box_event ?hg (N := 4) ?hd (cs := (mixA (Value.int .u16) [.int .i8 a0_0, .int .i8 a0_1] a0_2)) (t := 34) ?hr ?_; (case hd => rfl); (case hg => rfl); (case hr => first | (go_simp; done) | (go_simp; rfl)); intro gb457 hg w11 hbox hb; have n0_ := Aside0.mk (Kd.V_below (Kd.V_elderB (by (with_reducible repeat (first | apply Kd.V_alloc | apply Kd.V_drewN | apply Kd.V_drew)); exact HO1.out) gb457 (Nat.le_of_eq hg.symm)) hb); have n1_ := bst HB hb; have n2_ := Aside0.mk (hbox); have n3_ := gwl HB hg; have n4_ := gwl HB hg; clear HO1; clear HB; have HO1 := n0_; have HB := n1_; have BK457 := n2_; have GW457 := n3_; have GE457 := n4_; clear n0_ n1_ n2_ n3_ n4_; clear hb hbox hg) | ((with_reducible refine gate_dst (N := 19) rfl ?_); refine wpList_run0 (v := .agg (mixA (Value.int .u16) [.int .i8 a0_0, .int .i8 a0_1] a0_2)) rfl (load_mix_run (P := Try.prog) 34 (.tmp 4) rfl gb457 rfl (show World.rangeAt _ gb457 0 ([.int .i8 a0_0, .int .i8 a0_1] ++ a0_2.l.map (Value.int .u16)) from mix_range (show (World.heap _)[gb457]? = some (.cells (mixA (Value.int .u16) [.int .i8 a0_0, .int .i8 a0_1] a0_2) 34 (0, 0)) from by (with_reducible repeat (first | refine blk_drewN ?_ _ | refine blk_drew ?_ | refine blk_alloc ?_ _)); exact BK457.out)) Try.underlying34 rfl (by kernel_rfl) rfl) ?_) | ((with_reducible refine gate_callee (f := 35) rfl ?_); refine gl (some 21) Try.func35 #[.agg (mixA (Value.int .u16) [.int .i8 a0_0, .int .i8 a0_1] a0_2), .slice A1 l1.length c1] ?_; (with_reducible refine (impl_ValidFile.calls k a0_0 a0_1 a0_2 _ _ l1 true _ ?side1 ?side2 A5.out).mono ?_); (case side1 => repeat (first | exact (Kd.V_reads' HO1.out).2.2 | (with_reducible refine Kd.C_alloc ?_ _) | (with_reducible refine Kd.C_drewN ?_ _) | (with_reducible refine Kd.C_drew ?_))); (case side2 => exact (Kd.V_reads' HO1.out).2.1); rintro e w13 ⟨rfl, hb⟩; refine ⟨_, rfl, ?_⟩; replace HO1 := Aside0.mk (Kd.V_below (by (with_reducible repeat (first | apply Kd.V_alloc | apply Kd.V_drewN | apply Kd.V_drew)); exact HO1.out) hb); replace BK457 := bkb BK457 hb; replace HB := bst HB hb; (try clear hb); (try clear hb2); (try clear hk); (try clear hi)) | ((with_reducible refine gate_dst (N := 27) rfl ?_); refine Kd.R_lit (Kd.int .i64) _ 2 ?hg (N := 27) ?hd (xs := ([] : List Int)) (inner := []) (ok := fun _ => True) (okp := fun _ => True) ?hr ?hp (fun _ hk => hk) trivial (Below.refl _ _) (Nat.le_refl _) (by simp) ?_; (case hd => rfl); (case hg => rfl); (case hr => first | (go_simp; done) | (go_simp; rfl)); (case hp => exact (Reps.none _ _)); intro v460 w14 ho15 hb hg_ hnew_; clear hg_ hnew_; (first | rw [← Ny459.out] at ho15 | (simp only [Int.reduceToNat] at ho15; rw [← Ny459.out] at ho15)); replace HO1 := Aside0.mk (Kd.V_elder' (by (with_reducible repeat (first | apply Kd.V_alloc | apply Kd.V_drewN | apply Kd.V_drew)); exact HO1.out) (Kd.R_base ho15) hb); have HO461 := Aside0.mk (Kd.R_lower (Kd.R_newM (M := fun k_ => (w.heap.size ≤ k_)) ho15 (below_size (by repeat (first | (with_reducible first | exact HB.out | apply below_alloc | apply pw_below_drewN | apply below_drew1 | refine below_set ?_ GE457.out) | exact HB.out))) (fun k_ h_ => h_)) (below_size (by repeat (first | (with_reducible first | exact HB.out | apply below_alloc | apply pw_below_drewN | apply below_drew1 | refine below_set ?_ GE457.out) | exact HB.out)))); replace BK457 := bkb BK457 hb; replace HB := bst HB hb; clear hb ho15))
   go_loopg [1, 10, 30] k (fun kq v1 v10 v30 w' => ∃ (x1_1 : List (S39)) (x10_1 : List Int) (x30_1 : Int), v30 = .int .i64 x30_1 ∧ Aside0 (impl_LeadAll.l0 kq x1_1 a3 x10_1 l2 (l2.length : Int) x30_1 a0_0 a0_1 a0_2 = some (r1, r2)) ∧ Aside0 (kq ≤ k) ∧ Aside0 (Kd.V k39 39 w' w.heap.size (fun k_ => (P1_ k_ ∨ w.heap.size ≤ k_) ∧ some k_ ≠ (v10 : Value).ownBlock ∧ k_ ≠ gb457) v1 x1_1) ∧ Aside0 (Kd.R (Kd.int .i64) 2 w' w.heap.size (fun k_ => (w.heap.size ≤ k_)) v10 x10_1) ∧ Aside0 (w'.heap[gb457]? = some (.cells (mixA (Value.int .u16) [.int .i8 a0_0, .int .i8 a0_1] a0_2) 34 (0, 0))) ∧ Aside0 (Below w.heap.size w w'))
   case atStart => exact ⟨(l1), (y459), (0), (by first | rfl | (simp; done) | (simp [*]; done)), H', ⟨Nat.le_refl _⟩, ⟨by (with_reducible repeat (first | apply Kd.V_alloc | apply Kd.V_drewN | apply Kd.V_drew)); exact Kd.V_mono HO1.out (fun _ hk => ⟨hk.1.1, ⟨hk.2, hk.1.2⟩⟩)⟩, ⟨by (with_reducible repeat (first | apply Kd.R_alloc | apply Kd.R_drewN | apply Kd.R_drew)); exact Kd.R_mono HO461.out (fun _ hk => hk.1)⟩, ⟨pk BK457⟩, ⟨pbs HB⟩⟩
   case round =>
    clear H'
    try clear c1
    try clear c2
    try clear p2
    try clear c3
    try clear c6
    try clear c7
    try clear c7b0
    try clear c7b1
    obtain ⟨x1_1, x10_1, x30_1, rfl, HA, HK1, HO_1, HO_10, BK457, HB⟩ := hrel
    cases gk with
    | zero => exact absurd HA.out (by simp [impl_LeadAll.l0])
    | succ k1 =>
     have H := HA.out; clear HA; simp only [impl_LeadAll.l0] at H
     by_cases c16 : x30_1 < (l2.length : Int)
     ·rw [if_pos c16] at H
      have c16b0 : decide (x30_1 < (l2.length : Int)) = true := decide_eq_true c16; clear c16
      by_cases c17 : 0 ≤ x30_1
      ·rw [if_pos c17] at H
       have c17b0 : decide (0 ≤ x30_1) = true := decide_eq_true c17; clear c17
       by_cases c18 : x30_1 < (l2.length : Int)
       ·rw [if_pos c18] at H
        have c18b0 : decide (x30_1 < (l2.length : Int)) = true := decide_eq_true c18; clear c18; replace H := Option.bind_eq_some_iff.mp H; obtain ⟨⟨t464, t467, t468⟩, A190, H⟩ := H; replace H : (if t468 = 0 then (impl_LeadAll.l1 k1 x1_1 a3 x10_1 t464 l2 (l2.length : Int) x30_1 t464 (t464.length : Int) 0 a0_0 a0_1 a0_2) else (some (([] : List Int), t468))) = some (r1, r2) := H; have A19 := Aside0.mk A190; clear A190
        by_cases c20 : t468 = 0
        ·rw [if_pos c20] at H
         have c20b0 : (t468 == 0) = true := beq_iff_eq.mpr c20; have c20b1 : (t468 != 0) = false := bne_eq_false_iff_eq.mpr c20; clear c20; have H' := Aside0.mk H; clear H; have p462 : 0 ≤ (x30_1 : Int) := oda; have q462 : x30_1 < (l2.length : Int) := oda; obtain ⟨ad462, e462, hx462_0, hx462_1⟩ := at_T39 HR2.out x30_1 p462 q462; cases e462
         try replace hx462_0 := cb HB hx462_0
         try replace hx462_1 := cb HB hx462_1
         replace p462 := eq_true p462; replace q462 := eq_true q462
         go_wp2_with (first | ((with_reducible refine gate_dst (N := 12) rfl ?_); refine box_event ?hg (N := 12) ?hd (cs := #[.int .i8 0, .int .i8 0]) (t := 39) ?hr ?_; (case hd => rfl); (case hg => rfl); (case hr => first | (go_simp; done) | (go_simp; rfl)); intro gb463 hg w21 hbox hb; have n0_ := Aside0.mk (Kd.V_below (Kd.V_elderB (by (with_reducible repeat (first | apply Kd.V_alloc | apply Kd.V_drewN | apply Kd.V_drew)); exact HO_1.out) gb463 (Nat.le_of_eq hg.symm)) hb); have n1_ := krb HO_10 hb; have n2_ := bkb BK457 hb; have n3_ := bst HB hb; have n4_ := Aside0.mk (hbox); have n5_ := gwl HB hg; have n6_ := gwl HB hg; have n7_ := nbl BK457 hg; have n8_ := nbg BK457 hg; clear HO_1; clear HO_10; clear BK457; clear HB; have HO_1 := n0_; have HO_10 := n1_; have BK457 := n2_; have HB := n3_; have BK463 := n4_; have GW463 := n5_; have GE463 := n6_; have NB457_463 := n7_; have NB463_457 := n8_; clear n0_ n1_ n2_ n3_ n4_ n5_ n6_ n7_ n8_; clear hb hbox hg; have hnb22 := NB463_457.out; have hnc22 := NB457_463.out; have hcz23_0 : w21.cell? ⟨gb463, 0, none⟩ = some (.int .i8 0) := (blk_cell BK463.out 0).trans rfl; have hcz23_1 : w21.cell? ⟨gb463, 1, none⟩ = some (.int .i8 0) := (blk_cell BK463.out 1).trans rfl; have hfz23_0 := blk_frozen BK463.out 0; have hfz23_1 := blk_frozen BK463.out 1) | ((with_reducible refine gate_dst (N := 35) rfl ?_); refine wpList_run0 (v := .agg (mixA (Value.int .u16) [.int .i8 a0_0, .int .i8 a0_1] a0_2)) rfl (load_mix_run (P := Try.prog) 34 (.tmp 4) rfl gb457 rfl (show World.rangeAt _ gb457 0 ([.int .i8 a0_0, .int .i8 a0_1] ++ a0_2.l.map (Value.int .u16)) from mix_range (show (World.heap _)[gb457]? = some (.cells (mixA (Value.int .u16) [.int .i8 a0_0, .int .i8 a0_1] a0_2) 34 (0, 0)) from by (with_reducible repeat (first | refine blk_drewN ?_ _ | refine blk_drew ?_ | refine blk_alloc ?_ _)); refine blk_far ?_ NB457_463.out _; (with_reducible repeat (first | refine blk_drewN ?_ _ | refine blk_drew ?_ | refine blk_alloc ?_ _)); refine blk_far ?_ NB457_463.out _; (with_reducible repeat (first | refine blk_drewN ?_ _ | refine blk_drew ?_ | refine blk_alloc ?_ _)); exact BK457.out)) Try.underlying34 rfl (by kernel_rfl) rfl) ?_; obtain ⟨Ao25, co25, eo25⟩ := Kd.V_slice HO_1.out; subst eo25) | ((with_reducible refine gate_callee (f := 11) rfl ?_); refine gl (some 39) Try.func11 #[.agg (mixA (Value.int .u16) [.int .i8 a0_0, .int .i8 a0_1] a0_2), .slice Ao25 x1_1.length co25, .agg #[.int .i8 ((rd_T39 l2 x30_1).f0), .int .i8 ((rd_T39 l2 x30_1).f1)], .int .i64 a3] ?_; (with_reducible refine (impl_LeadTo.calls k1 a0_0 a0_1 a0_2 _ _ x1_1 ((rd_T39 l2 x30_1).f0) ((rd_T39 l2 x30_1).f1) a3 t464 t467 t468 _ ?side1 ?side2 A19.out).mono ?_); (case side1 => refine (Kd.V_reads' (e := 39) (base := w.heap.size) (ok := fun k_ => (((P1_ k_ ∨ w.heap.size ≤ k_) ∧ (some k_ ≠ (u10 : Value).ownBlock ∧ k_ ≠ gb457)) ∧ k_ ≠ gb463)) (n := x1_1.length) (c := co25) ?_).2.2; exact (by (with_reducible repeat (first | apply Kd.V_alloc | apply Kd.V_drewN | apply Kd.V_drew)); exact (Kd.V_mono (Kd.V_far (p := ⟨gb463, 1, none⟩) (Kd.V_far (p := ⟨gb463, 0, none⟩) (Kd.V_mono HO_1.out (fun k_ hk => (⟨hk, hk.2⟩ : _ ∧ k_ ≠ gb463))) (fun _ hk => hk.2) (.int .i8 ((rd_T39 l2 x30_1).f0))) (fun _ hk => hk.2) (.int .i8 ((rd_T39 l2 x30_1).f1))) (fun _ h_ => h_.1)))); (case side2 => exact (Kd.V_reads' HO_1.out).2.1); rintro e w26 ⟨v465, rfl, ho0, hb⟩; refine ⟨_, rfl, ?_⟩; have n0_ := Aside0.mk (Kd.V_elder' (by (with_reducible repeat (first | apply Kd.V_alloc | apply Kd.V_drewN | apply Kd.V_drew)); exact (Kd.V_mono (Kd.V_far (p := ⟨gb463, 1, none⟩) (Kd.V_far (p := ⟨gb463, 0, none⟩) (Kd.V_mono HO_1.out (fun k_ hk => (⟨hk, hk.2⟩ : _ ∧ k_ ≠ gb463))) (fun _ hk => hk.2) (.int .i8 ((rd_T39 l2 x30_1).f0))) (fun _ hk => hk.2) (.int .i8 ((rd_T39 l2 x30_1).f1))) (fun _ h_ => h_.1))) (Kd.R_base ho0) hb); have n1_ := Aside0.mk (Kd.R_elder' (by (with_reducible repeat (first | apply Kd.R_alloc | apply Kd.R_drewN | apply Kd.R_drew)); exact (Kd.R_mono (Kd.R_far (p := ⟨gb463, 1, none⟩) (Kd.R_far (p := ⟨gb463, 0, none⟩) (Kd.R_types HO_10.out BK463.out (by decide)) (fun _ hk => hk.2) (.int .i8 ((rd_T39 l2 x30_1).f0))) (fun _ hk => hk.2) (.int .i8 ((rd_T39 l2 x30_1).f1))) (fun _ h_ => h_.1))) (Kd.R_base ho0) hb); have n2_ := Aside0.mk (Kd.R_lower (Kd.R_new' (Kd.R_newM (M := fun k_ => (w.heap.size ≤ k_)) ho0 (below_size (by repeat (first | (with_reducible first | exact HB.out | apply below_alloc | apply pw_below_drewN | apply below_drew1 | refine below_set ?_ GE457.out | refine below_set ?_ GE463.out) | exact HB.out))) (fun k_ h_ => h_)) (Kd.R_lt (by (with_reducible repeat (first | apply Kd.R_alloc | apply Kd.R_drewN | apply Kd.R_drew)); exact (Kd.R_mono (Kd.R_far (p := ⟨gb463, 1, none⟩) (Kd.R_far (p := ⟨gb463, 0, none⟩) (Kd.R_types HO_10.out BK463.out (by decide)) (fun _ hk => hk.2) (.int .i8 ((rd_T39 l2 x30_1).f0))) (fun _ hk => hk.2) (.int .i8 ((rd_T39 l2 x30_1).f1))) (fun _ h_ => h_.1))))) (below_size (by repeat (first | (with_reducible first | exact HB.out | apply below_alloc | apply pw_below_drewN | apply below_drew1 | refine below_set ?_ GE457.out | refine below_set ?_ GE463.out) | exact HB.out)))); have n3_ := Aside0.mk (blk_below (g := gb457) (o := .cells (mixA (Value.int .u16) [.int .i8 a0_0, .int .i8 a0_1] a0_2) 34 (0, 0)) (by (with_reducible repeat (first | refine blk_drewN ?_ _ | refine blk_drew ?_ | refine blk_alloc ?_ _)); refine blk_far ?_ NB457_463.out _; (with_reducible repeat (first | refine blk_drewN ?_ _ | refine blk_drew ?_ | refine blk_alloc ?_ _)); refine blk_far ?_ NB457_463.out _; (with_reducible repeat (first | refine blk_drewN ?_ _ | refine blk_drew ?_ | refine blk_alloc ?_ _)); exact BK457.out) hb); have n4_ := Aside0.mk (blk_below (g := gb463) (o := .cells #[.int .i8 ((rd_T39 l2 x30_1).f0), .int .i8 ((rd_T39 l2 x30_1).f1)] 39 (0, 0)) (by (with_reducible repeat (first | refine blk_drewN ?_ _ | refine blk_drew ?_ | refine blk_alloc ?_ _)); refine blk_put (cs := #[.int .i8 ((rd_T39 l2 x30_1).f0), .int .i8 0]) ?_ 1 _ rfl; (with_reducible repeat (first | refine blk_drewN ?_ _ | refine blk_drew ?_ | refine blk_alloc ?_ _)); refine blk_put (cs := #[.int .i8 0, .int .i8 0]) ?_ 0 _ rfl; (with_reducible repeat (first | refine blk_drewN ?_ _ | refine blk_drew ?_ | refine blk_alloc ?_ _)); exact BK463.out) hb); have n5_ := bst HB hb; clear HO_1; clear HO_10; clear BK457; clear BK463; clear HB; have HO_1 := n0_; have HO_10 := n1_; have HO466 := n2_; have BK457 := n3_; have BK463 := n4_; have HB := n5_; clear n0_ n1_ n2_ n3_ n4_ n5_; (try clear hb); (try clear hb2); (try clear hk); (try clear hi); (try clear ho0); obtain ⟨Ao27, co27, eo27⟩ := Kd.R_slice HO466.out; subst eo27))
         go_loopg [1, 48] k1 (fun kq v1 v48 w' => ∃ (x1_2 : List (S39)) (x48_2 : Int), v48 = .int .i64 x48_2 ∧ Aside0 (impl_LeadAll.l1 kq x1_2 a3 x10_1 t464 l2 (l2.length : Int) x30_1 t464 (t464.length : Int) x48_2 a0_0 a0_1 a0_2 = some (r1, r2)) ∧ Aside0 (kq ≤ k1) ∧ Aside0 (Kd.V k39 39 w' w.heap.size (fun k_ => (P1_ k_ ∨ w.heap.size ≤ k_) ∧ some k_ ≠ (u10 : Value).ownBlock ∧ some k_ ≠ ((.slice Ao27 t464.length co27) : Value).ownBlock ∧ some k_ ≠ ((.slice Ao27 t464.length co27) : Value).ownBlock ∧ k_ ≠ gb457 ∧ k_ ≠ gb463) v1 x1_2) ∧ Aside0 (Kd.R (Kd.int .i64) 2 w' w.heap.size (fun k_ => (w.heap.size ≤ k_) ∧ some k_ ≠ ((.slice Ao27 t464.length co27) : Value).ownBlock ∧ some k_ ≠ ((.slice Ao27 t464.length co27) : Value).ownBlock) u10 x10_1) ∧ Aside0 (Kd.R (Kd.int .i64) 2 w' w.heap.size (fun k_ => (w.heap.size ≤ k_) ∧ some k_ ≠ (u10 : Value).ownBlock) (.slice Ao27 t464.length co27) t464) ∧ Aside0 (Kd.R (Kd.int .i64) 2 w' w.heap.size (fun k_ => (w.heap.size ≤ k_) ∧ some k_ ≠ (u10 : Value).ownBlock) (.slice Ao27 t464.length co27) t464) ∧ Aside0 (w'.heap[gb457]? = some (.cells (mixA (Value.int .u16) [.int .i8 a0_0, .int .i8 a0_1] a0_2) 34 (0, 0))) ∧ Aside0 (w'.heap[gb463]? = some (.cells #[.int .i8 ((rd_T39 l2 x30_1).f0), .int .i8 ((rd_T39 l2 x30_1).f1)] 39 (0, 0))) ∧ Aside0 (Below w.heap.size w w'))
         case atStart => exact ⟨(x1_1), (0), (by first | rfl | (simp; done) | (simp [*]; done)), H', ⟨Nat.le_refl _⟩, ⟨by (with_reducible repeat (first | apply Kd.V_alloc | apply Kd.V_drewN | apply Kd.V_drew)); exact Kd.V_mono HO_1.out (fun _ hk => ⟨hk.1.1.1, ⟨hk.1.1.2.1, ⟨hk.2, ⟨hk.2, ⟨hk.1.1.2.2, hk.1.2⟩⟩⟩⟩⟩)⟩, ⟨by (with_reducible repeat (first | apply Kd.R_alloc | apply Kd.R_drewN | apply Kd.R_drew)); exact Kd.R_mono HO_10.out (fun _ hk => ⟨hk.1, ⟨hk.2, hk.2⟩⟩)⟩, ⟨by (with_reducible repeat (first | apply Kd.R_alloc | apply Kd.R_drewN | apply Kd.R_drew)); exact Kd.R_mono HO466.out (fun _ hk => ⟨hk.1.1, hk.2⟩)⟩, ⟨by (with_reducible repeat (first | apply Kd.R_alloc | apply Kd.R_drewN | apply Kd.R_drew)); exact Kd.R_mono HO466.out (fun _ hk => ⟨hk.1.1, hk.2⟩)⟩, ⟨pk BK457⟩, ⟨pk BK463⟩, ⟨pbs HB⟩⟩
         case round =>
          clear H'
          try clear c1
          try clear c2
          try clear p2
          try clear c3
          try clear p4
          try clear q4
          try clear hx4
          try clear c6
          try clear c7
          try clear c7b0
          try clear c7b1
          try clear c11
          try clear c16
          try clear c16b0
          try clear c17
          try clear c17b0
          try clear c18
          try clear c18b0
          try clear c20
          try clear c20b0
          try clear c20b1
          try clear c22
          try clear hcz23_0
          try clear hcz23_1
          try clear hfz23_0
          try clear hfz23_1
          try clear hx462_0
          try clear hx462_1
          try clear p2
          try clear p462
          try clear q462
          obtain ⟨x1_2, x48_2, rfl, HA, HK2, HO_1, HO_10, HO_13, HO_46, BK457, BK463, HB⟩ := hrel
          cases gk with
          | zero => exact absurd HA.out (by simp [impl_LeadAll.l1])
          | succ k2 =>
           have H := HA.out; clear HA; simp only [impl_LeadAll.l1] at H
           by_cases c28 : x48_2 < (t464.length : Int)
           ·rw [if_pos c28] at H
            have c28b0 : decide (x48_2 < (t464.length : Int)) = true := decide_eq_true c28; clear c28
            by_cases c29 : 0 ≤ x48_2
            ·rw [if_pos c29] at H
             have c29b0 : decide (0 ≤ x48_2) = true := decide_eq_true c29; clear c29
             by_cases c30 : x48_2 < (t464.length : Int)
             ·rw [if_pos c30] at H
              have c30b0 : decide (x48_2 < (t464.length : Int)) = true := decide_eq_true c30; clear c30; replace H := Option.bind_eq_some_iff.mp H; obtain ⟨t470, A310, H⟩ := H; replace H : (impl_LeadAll.l1 k2 t470 a3 x10_1 t464 l2 (l2.length : Int) x30_1 t464 (t464.length : Int) (wrap64 (x48_2 + 1)) a0_0 a0_1 a0_2) = some (r1, r2) := H; have A31 := Aside0.mk A310; clear A310; have H' := Aside0.mk H; clear H; have p469 : 0 ≤ (x48_2 : Int) := oda; have q469 : x48_2 < (t464.length : Int) := oda; obtain ⟨ad469, e469, hx469_0⟩ := Kd.at_int (Kd.R_reads' HO_46.out).2.2 x48_2 p469 q469; cases e469; replace p469 := eq_true p469; replace q469 := eq_true q469; obtain ⟨Ao32, co32, eo32⟩ := Kd.V_slice HO_1.out; subst eo32
              go_wp2_with (first | ((with_reducible refine gate_callee (f := 40) rfl ?_); refine gl (some 54) Try.func40 #[.slice Ao32 x1_2.length co32, .int .i64 (rd t464 x48_2)] ?_; (with_reducible refine (impl_File_moved.calls k2 _ _ x1_2 (rd t464 x48_2) t470 _ ?side1 ?side2 A31.out).mono ?_); (case side1 => repeat (first | exact (Kd.V_reads' HO_1.out).2.2 | (with_reducible refine Kd.C_alloc ?_ _) | (with_reducible refine Kd.C_drewN ?_ _) | (with_reducible refine Kd.C_drew ?_))); (case side2 => exact (Kd.V_reads' HO_1.out).2.1); rintro e w33 ⟨v471, rfl, ho0, hb⟩; refine ⟨_, rfl, ?_⟩; replace HO_1 := Aside0.mk (Kd.V_elder' (by (with_reducible repeat (first | apply Kd.V_alloc | apply Kd.V_drewN | apply Kd.V_drew)); exact HO_1.out) (Kd.R_base ho0) hb); replace HO_10 := krb HO_10 hb; replace HO_13 := krb HO_13 hb; replace HO_46 := krb HO_46 hb; have HO472 := Aside0.mk (Kd.R_lower (Kd.R_newB (Kd.R_newM (M := fun k_ => (w.heap.size ≤ k_)) ho0 (below_size (by repeat (first | (with_reducible first | exact HB.out | apply below_alloc | apply pw_below_drewN | apply below_drew1 | refine below_set ?_ GE457.out | refine below_set ?_ GE463.out) | exact HB.out))) (fun k_ h_ => h_)) (g := gb463) (o := .cells #[.int .i8 ((rd_T39 l2 x30_1).f0), .int .i8 ((rd_T39 l2 x30_1).f1)] 39 (0, 0)) (pk BK463)) (below_size (by repeat (first | (with_reducible first | exact HB.out | apply below_alloc | apply pw_below_drewN | apply below_drew1 | refine below_set ?_ GE457.out | refine below_set ?_ GE463.out) | exact HB.out)))); replace BK457 := bkb BK457 hb; replace BK463 := bkb BK463 hb; replace HB := bst HB hb; (try clear hb); (try clear hb2); (try clear hk); (try clear hi); (try clear ho0)))
              go_roundg k2
              case measure => have := HK1.out; have := HK2.out; omega
              case rel => exact ⟨(t470), (wrap64 (x48_2 + 1)), (by first | rfl | (simp; done) | (simp [*]; done)), H', ⟨by have := HK1.out; have := HK2.out; omega⟩, ⟨by (with_reducible repeat (first | apply Kd.V_alloc | apply Kd.V_drewN | apply Kd.V_drew)); exact Kd.V_mono (Kd.R_V (Kd.R_types (Kd.R_apart' (Kd.R_apart' (Kd.R_apart' HO472.out (Kd.R_typed HO_10.out) (by decide)) (Kd.R_typed HO_13.out) (by decide)) (Kd.R_typed HO_46.out) (by decide)) BK457.out (by decide))) (fun k_ hk => ⟨.inr hk.1.1.1.1.1.1, ⟨hk.1.1.1.2, ⟨hk.1.1.2, ⟨hk.1.2, ⟨hk.2, hk.1.1.1.1.2⟩⟩⟩⟩⟩)⟩, ⟨by (with_reducible repeat (first | apply Kd.R_alloc | apply Kd.R_drewN | apply Kd.R_drew)); exact HO_10.out⟩, ⟨by (with_reducible repeat (first | apply Kd.R_alloc | apply Kd.R_drewN | apply Kd.R_drew)); exact HO_13.out⟩, ⟨by (with_reducible repeat (first | apply Kd.R_alloc | apply Kd.R_drewN | apply Kd.R_drew)); exact HO_46.out⟩, ⟨pk BK457⟩, ⟨pk BK463⟩, ⟨pbs HB⟩⟩
             ·rw [if_neg c30] at H
              exact absurd H (by simp)
            ·rw [if_neg c29] at H
             exact absurd H (by simp)
           ·rw [if_neg c28] at H
            have c28b0 : decide (x48_2 < (t464.length : Int)) = false := decide_eq_false c28; clear c28
            by_cases c34 : x10_1.length + t464.length < 17592186044416
            ·rw [if_pos c34] at H
             have LMc34 := Aside0.mk c34; clear c34; obtain ⟨y473, hy473⟩ : ∃ y_ : List Int, y_ = (x10_1 ++ t464) := ⟨_, rfl⟩
             replace H : (if (y473.length : Int) > 60 then (some (([] : List Int), 3)) else (impl_LeadAll.l0 k2 x1_2 a3 y473 l2 (l2.length : Int) (wrap64 (x30_1 + 1)) a0_0 a0_1 a0_2)) = some (r1, r2) := by first | (rw [hy473]; with_reducible exact H) | (have H2_ := (Option.bind_some _ _).symm.trans H; rw [hy473]; with_reducible exact H2_) | (have H2_ := (Option.bind_some _ _).symm.trans H; with_reducible exact H2_) | with_reducible exact H | (rw [hy473]; exact H) | exact H
             have Ny473 := Aside0.mk hy473; clear hy473
             by_cases c35 : (y473.length : Int) > 60
             ·rw [if_pos c35] at H
              have c35b0 : decide (60 < (y473.length : Int)) = true := decide_eq_true c35; have c35b1 : decide (60 < y473.length) = true := decide_eq_true (by omega); clear c35; simp only [Option.some.injEq, Prod.mk.injEq] at H; obtain ⟨rfl, rfl⟩ := H
              go_wp2_with (first | ((with_reducible refine gate_builtin (b := .append) (xs := #[.tmp 56, .tmp 57]) rfl ?_); at_builtin; refine Kd.R_append_rows (Kd.int .i64) (w0 := w) w.heap.size rfl (.tmp 56) (.tmp 57) 31 2 (.int .i64 0) 8 rfl Try.underlying31 info2 rfl (by decide) (by omega) u10 x10_1 t464 _ _ _ (fun k_ => (w.heap.size ≤ k_) ∧ some k_ ≠ (.slice Ao27 t464.length co27 : Value).ownBlock ∧ some k_ ≠ (.slice Ao27 t464.length co27 : Value).ownBlock) (fun _ => False) rfl rfl ?aO ?aR (fun _ _ h => h) (fun _ h => h.elim) ?aF ?aB ?aS ?aL ?_; (case aR => repeat (first | exact (Kd.R_reads' HO_13.out).2.2 | (with_reducible refine Kd.C_alloc ?_ _) | (with_reducible refine Kd.C_drewN ?_ _) | (with_reducible refine Kd.C_drew ?_))); (case aB => exact (pbs HB)); (case aF => exact (fun k_ hk => ⟨(Nat.le_trans (below_size (by repeat (first | (with_reducible first | exact HB.out | apply below_alloc | apply pw_below_drewN | apply below_drew1 | refine below_set ?_ GE457.out | refine below_set ?_ GE463.out) | exact HB.out))) hk), Kd.fresh' (Kd.R_lt (by (with_reducible repeat (first | apply Kd.R_alloc | apply Kd.R_drewN | apply Kd.R_drew)); exact HO_13.out)) k_ hk, Kd.fresh' (Kd.R_lt (by (with_reducible repeat (first | apply Kd.R_alloc | apply Kd.R_drewN | apply Kd.R_drew)); exact HO_46.out)) k_ hk⟩)); (case aO => exact (by (with_reducible repeat (first | apply Kd.R_alloc | apply Kd.R_drewN | apply Kd.R_drew)); exact HO_10.out)); (case aS => exact (below_size (by repeat (first | (with_reducible first | exact HB.out | apply below_alloc | apply pw_below_drewN | apply below_drew1 | refine below_set ?_ GE457.out | refine below_set ?_ GE463.out) | exact HB.out)))); (case aL => have := LMc34.out; omega); intro v474 w36 ho hb hg hat; rw [← Ny473.out] at ho; have n0_ := Aside0.mk (Kd.V_afterv (ok := (fun k_ => (P1_ k_ ∨ w.heap.size ≤ k_) ∧ some k_ ≠ (.slice Ao27 t464.length co27 : Value).ownBlock ∧ some k_ ≠ (.slice Ao27 t464.length co27 : Value).ownBlock ∧ k_ ≠ gb457 ∧ k_ ≠ gb463)) (by (with_reducible repeat (first | apply Kd.V_alloc | apply Kd.V_drewN | apply Kd.V_drew)); exact Kd.V_mono HO_1.out (fun _ hk => ⟨⟨hk.1, ⟨hk.2.2.1, ⟨hk.2.2.2.1, ⟨hk.2.2.2.2.1, hk.2.2.2.2.2⟩⟩⟩⟩, hk.2.1⟩)) hg hat); have n1_ := Aside0.mk (Kd.R_after (ok := (fun k_ => (w.heap.size ≤ k_))) (by (with_reducible repeat (first | apply Kd.R_alloc | apply Kd.R_drewN | apply Kd.R_drew)); exact HO_13.out) hg hat); have n2_ := Aside0.mk (Kd.R_after (ok := (fun k_ => (w.heap.size ≤ k_))) (by (with_reducible repeat (first | apply Kd.R_alloc | apply Kd.R_drewN | apply Kd.R_drew)); exact HO_46.out) hg hat); have n3_ := Aside0.mk (blk_grown (g := gb457) (o := .cells (mixA (Value.int .u16) [.int .i8 a0_0, .int .i8 a0_1] a0_2) 34 (0, 0)) (pk BK457) hg (Kd.R_ne HO_10.out BK457.out (by decide))); have n4_ := Aside0.mk (blk_grown (g := gb463) (o := .cells #[.int .i8 ((rd_T39 l2 x30_1).f0), .int .i8 ((rd_T39 l2 x30_1).f1)] 39 (0, 0)) (pk BK463) hg (Kd.R_ne HO_10.out BK463.out (by decide))); have n5_ := Aside0.mk (hb); have n6_ := Aside0.mk (ho); clear HO_1; clear HO_13; clear HO_46; clear BK457; clear BK463; clear HB; clear HO_10; have HO_1 := n0_; have HO_13 := n1_; have HO_46 := n2_; have BK457 := n3_; have BK463 := n4_; have HB := n5_; have HO475 := n6_; clear n0_ n1_ n2_ n3_ n4_ n5_ n6_; clear ho hb hg hat; obtain ⟨Ao37, co37, eo37⟩ := Kd.R_slice HO475.out; subst eo37))
              go_ret2
              exact ⟨_, by first | rfl | (simp [errW_none, errW_some] <;> rfl) | (simp [*, errW_none, errW_some] <;> rfl), by first | exact Kd.R_nil _ _ _ _ _ | exact Kd.N_nil _ _ _ _ _ | exact Kd.V_nil _ _ _ _ _ | exact Kd.Q_nil _ _ _ _ _ | exact Kd.S_nil _ _ _ _ _, pbs HB⟩
             ·rw [if_neg c35] at H
              have c35b0 : decide (60 < (y473.length : Int)) = false := decide_eq_false c35; have c35b1 : decide (60 < y473.length) = false := decide_eq_false (by omega); clear c35; have H' := Aside0.mk H; clear H
              go_wp2_with (first | ((with_reducible refine gate_builtin (b := .append) (xs := #[.tmp 56, .tmp 57]) rfl ?_); at_builtin; refine Kd.R_append_rows (Kd.int .i64) (w0 := w) w.heap.size rfl (.tmp 56) (.tmp 57) 31 2 (.int .i64 0) 8 rfl Try.underlying31 info2 rfl (by decide) (by omega) u10 x10_1 t464 _ _ _ (fun k_ => (w.heap.size ≤ k_) ∧ some k_ ≠ (.slice Ao27 t464.length co27 : Value).ownBlock ∧ some k_ ≠ (.slice Ao27 t464.length co27 : Value).ownBlock) (fun _ => False) rfl rfl ?aO ?aR (fun _ _ h => h) (fun _ h => h.elim) ?aF ?aB ?aS ?aL ?_; (case aR => repeat (first | exact (Kd.R_reads' HO_13.out).2.2 | (with_reducible refine Kd.C_alloc ?_ _) | (with_reducible refine Kd.C_drewN ?_ _) | (with_reducible refine Kd.C_drew ?_))); (case aB => exact (pbs HB)); (case aF => exact (fun k_ hk => ⟨(Nat.le_trans (below_size (by repeat (first | (with_reducible first | exact HB.out | apply below_alloc | apply pw_below_drewN | apply below_drew1 | refine below_set ?_ GE457.out | refine below_set ?_ GE463.out) | exact HB.out))) hk), Kd.fresh' (Kd.R_lt (by (with_reducible repeat (first | apply Kd.R_alloc | apply Kd.R_drewN | apply Kd.R_drew)); exact HO_13.out)) k_ hk, Kd.fresh' (Kd.R_lt (by (with_reducible repeat (first | apply Kd.R_alloc | apply Kd.R_drewN | apply Kd.R_drew)); exact HO_46.out)) k_ hk⟩)); (case aO => exact (by (with_reducible repeat (first | apply Kd.R_alloc | apply Kd.R_drewN | apply Kd.R_drew)); exact HO_10.out)); (case aS => exact (below_size (by repeat (first | (with_reducible first | exact HB.out | apply below_alloc | apply pw_below_drewN | apply below_drew1 | refine below_set ?_ GE457.out | refine below_set ?_ GE463.out) | exact HB.out)))); (case aL => have := LMc34.out; omega); intro v474 w38 ho hb hg hat; rw [← Ny473.out] at ho; have n0_ := Aside0.mk (Kd.V_afterv (ok := (fun k_ => (P1_ k_ ∨ w.heap.size ≤ k_) ∧ some k_ ≠ (.slice Ao27 t464.length co27 : Value).ownBlock ∧ some k_ ≠ (.slice Ao27 t464.length co27 : Value).ownBlock ∧ k_ ≠ gb457 ∧ k_ ≠ gb463)) (by (with_reducible repeat (first | apply Kd.V_alloc | apply Kd.V_drewN | apply Kd.V_drew)); exact Kd.V_mono HO_1.out (fun _ hk => ⟨⟨hk.1, ⟨hk.2.2.1, ⟨hk.2.2.2.1, ⟨hk.2.2.2.2.1, hk.2.2.2.2.2⟩⟩⟩⟩, hk.2.1⟩)) hg hat); have n1_ := Aside0.mk (Kd.R_after (ok := (fun k_ => (w.heap.size ≤ k_))) (by (with_reducible repeat (first | apply Kd.R_alloc | apply Kd.R_drewN | apply Kd.R_drew)); exact HO_13.out) hg hat); have n2_ := Aside0.mk (Kd.R_after (ok := (fun k_ => (w.heap.size ≤ k_))) (by (with_reducible repeat (first | apply Kd.R_alloc | apply Kd.R_drewN | apply Kd.R_drew)); exact HO_46.out) hg hat); have n3_ := Aside0.mk (blk_grown (g := gb457) (o := .cells (mixA (Value.int .u16) [.int .i8 a0_0, .int .i8 a0_1] a0_2) 34 (0, 0)) (pk BK457) hg (Kd.R_ne HO_10.out BK457.out (by decide))); have n4_ := Aside0.mk (blk_grown (g := gb463) (o := .cells #[.int .i8 ((rd_T39 l2 x30_1).f0), .int .i8 ((rd_T39 l2 x30_1).f1)] 39 (0, 0)) (pk BK463) hg (Kd.R_ne HO_10.out BK463.out (by decide))); have n5_ := Aside0.mk (hb); have n6_ := Aside0.mk (ho); clear HO_1; clear HO_13; clear HO_46; clear BK457; clear BK463; clear HB; clear HO_10; have HO_1 := n0_; have HO_13 := n1_; have HO_46 := n2_; have BK457 := n3_; have BK463 := n4_; have HB := n5_; have HO475 := n6_; clear n0_ n1_ n2_ n3_ n4_ n5_ n6_; clear ho hb hg hat; obtain ⟨Ao39, co39, eo39⟩ := Kd.R_slice HO475.out; subst eo39))
              go_roundg k2
              case measure => have := HK1.out; have := HK2.out; omega
              case rel => exact ⟨(x1_2), (y473), (wrap64 (x30_1 + 1)), (by first | rfl | (simp; done) | (simp [*]; done)), H', ⟨by have := HK1.out; have := HK2.out; omega⟩, ⟨by (with_reducible repeat (first | apply Kd.V_alloc | apply Kd.V_drewN | apply Kd.V_drew)); exact Kd.V_mono HO_1.out (fun _ hk => ⟨hk.1.1, ⟨hk.2, hk.1.2.2.2.1⟩⟩)⟩, ⟨by (with_reducible repeat (first | apply Kd.R_alloc | apply Kd.R_drewN | apply Kd.R_drew)); exact Kd.R_mono HO475.out (fun _ hk => hk.1)⟩, ⟨pk BK457⟩, ⟨pbs HB⟩⟩
            ·rw [if_neg c34] at H
             exact absurd H (by simp)
        ·rw [if_neg c20] at H
         have c20b0 : (t468 == 0) = false := beq_eq_false_iff_ne.mpr c20; have c20b1 : (t468 != 0) = true := bne_iff_ne.mpr c20; simp only [Option.some.injEq, Prod.mk.injEq] at H; obtain ⟨rfl, rfl⟩ := H; have p462 : 0 ≤ (x30_1 : Int) := oda; have q462 : x30_1 < (l2.length : Int) := oda; obtain ⟨ad462, e462, hx462_0, hx462_1⟩ := at_T39 HR2.out x30_1 p462 q462; cases e462
         try replace hx462_0 := cb HB hx462_0
         try replace hx462_1 := cb HB hx462_1
         replace p462 := eq_true p462; replace q462 := eq_true q462
         go_wp2_with (first | ((with_reducible refine gate_dst (N := 12) rfl ?_); refine box_event ?hg (N := 12) ?hd (cs := #[.int .i8 0, .int .i8 0]) (t := 39) ?hr ?_; (case hd => rfl); (case hg => rfl); (case hr => first | (go_simp; done) | (go_simp; rfl)); intro gb463 hg w40 hbox hb; have n0_ := Aside0.mk (Kd.V_below (Kd.V_elderB (by (with_reducible repeat (first | apply Kd.V_alloc | apply Kd.V_drewN | apply Kd.V_drew)); exact HO_1.out) gb463 (Nat.le_of_eq hg.symm)) hb); have n1_ := krb HO_10 hb; have n2_ := bkb BK457 hb; have n3_ := bst HB hb; have n4_ := Aside0.mk (hbox); have n5_ := gwl HB hg; have n6_ := gwl HB hg; have n7_ := nbl BK457 hg; have n8_ := nbg BK457 hg; clear HO_1; clear HO_10; clear BK457; clear HB; have HO_1 := n0_; have HO_10 := n1_; have BK457 := n2_; have HB := n3_; have BK463 := n4_; have GW463 := n5_; have GE463 := n6_; have NB457_463 := n7_; have NB463_457 := n8_; clear n0_ n1_ n2_ n3_ n4_ n5_ n6_ n7_ n8_; clear hb hbox hg; have hnb41 := NB463_457.out; have hnc41 := NB457_463.out; have hcz42_0 : w40.cell? ⟨gb463, 0, none⟩ = some (.int .i8 0) := (blk_cell BK463.out 0).trans rfl; have hcz42_1 : w40.cell? ⟨gb463, 1, none⟩ = some (.int .i8 0) := (blk_cell BK463.out 1).trans rfl; have hfz42_0 := blk_frozen BK463.out 0; have hfz42_1 := blk_frozen BK463.out 1) | ((with_reducible refine gate_dst (N := 35) rfl ?_); refine wpList_run0 (v := .agg (mixA (Value.int .u16) [.int .i8 a0_0, .int .i8 a0_1] a0_2)) rfl (load_mix_run (P := Try.prog) 34 (.tmp 4) rfl gb457 rfl (show World.rangeAt _ gb457 0 ([.int .i8 a0_0, .int .i8 a0_1] ++ a0_2.l.map (Value.int .u16)) from mix_range (show (World.heap _)[gb457]? = some (.cells (mixA (Value.int .u16) [.int .i8 a0_0, .int .i8 a0_1] a0_2) 34 (0, 0)) from by (with_reducible repeat (first | refine blk_drewN ?_ _ | refine blk_drew ?_ | refine blk_alloc ?_ _)); refine blk_far ?_ NB457_463.out _; (with_reducible repeat (first | refine blk_drewN ?_ _ | refine blk_drew ?_ | refine blk_alloc ?_ _)); refine blk_far ?_ NB457_463.out _; (with_reducible repeat (first | refine blk_drewN ?_ _ | refine blk_drew ?_ | refine blk_alloc ?_ _)); exact BK457.out)) Try.underlying34 rfl (by kernel_rfl) rfl) ?_; obtain ⟨Ao44, co44, eo44⟩ := Kd.V_slice HO_1.out; subst eo44) | ((with_reducible refine gate_callee (f := 11) rfl ?_); refine gl (some 39) Try.func11 #[.agg (mixA (Value.int .u16) [.int .i8 a0_0, .int .i8 a0_1] a0_2), .slice Ao44 x1_1.length co44, .agg #[.int .i8 ((rd_T39 l2 x30_1).f0), .int .i8 ((rd_T39 l2 x30_1).f1)], .int .i64 a3] ?_; (with_reducible refine (impl_LeadTo.calls k1 a0_0 a0_1 a0_2 _ _ x1_1 ((rd_T39 l2 x30_1).f0) ((rd_T39 l2 x30_1).f1) a3 t464 t467 t468 _ ?side1 ?side2 A19.out).mono ?_); (case side1 => refine (Kd.V_reads' (e := 39) (base := w.heap.size) (ok := fun k_ => (((P1_ k_ ∨ w.heap.size ≤ k_) ∧ (some k_ ≠ (u10 : Value).ownBlock ∧ k_ ≠ gb457)) ∧ k_ ≠ gb463)) (n := x1_1.length) (c := co44) ?_).2.2; exact (by (with_reducible repeat (first | apply Kd.V_alloc | apply Kd.V_drewN | apply Kd.V_drew)); exact (Kd.V_mono (Kd.V_far (p := ⟨gb463, 1, none⟩) (Kd.V_far (p := ⟨gb463, 0, none⟩) (Kd.V_mono HO_1.out (fun k_ hk => (⟨hk, hk.2⟩ : _ ∧ k_ ≠ gb463))) (fun _ hk => hk.2) (.int .i8 ((rd_T39 l2 x30_1).f0))) (fun _ hk => hk.2) (.int .i8 ((rd_T39 l2 x30_1).f1))) (fun _ h_ => h_.1)))); (case side2 => exact (Kd.V_reads' HO_1.out).2.1); rintro e w45 ⟨v465, rfl, ho0, hb⟩; refine ⟨_, rfl, ?_⟩; have n0_ := Aside0.mk (Kd.V_elder' (by (with_reducible repeat (first | apply Kd.V_alloc | apply Kd.V_drewN | apply Kd.V_drew)); exact (Kd.V_mono (Kd.V_far (p := ⟨gb463, 1, none⟩) (Kd.V_far (p := ⟨gb463, 0, none⟩) (Kd.V_mono HO_1.out (fun k_ hk => (⟨hk, hk.2⟩ : _ ∧ k_ ≠ gb463))) (fun _ hk => hk.2) (.int .i8 ((rd_T39 l2 x30_1).f0))) (fun _ hk => hk.2) (.int .i8 ((rd_T39 l2 x30_1).f1))) (fun _ h_ => h_.1))) (Kd.R_base ho0) hb); have n1_ := Aside0.mk (Kd.R_elder' (by (with_reducible repeat (first | apply Kd.R_alloc | apply Kd.R_drewN | apply Kd.R_drew)); exact (Kd.R_mono (Kd.R_far (p := ⟨gb463, 1, none⟩) (Kd.R_far (p := ⟨gb463, 0, none⟩) (Kd.R_types HO_10.out BK463.out (by decide)) (fun _ hk => hk.2) (.int .i8 ((rd_T39 l2 x30_1).f0))) (fun _ hk => hk.2) (.int .i8 ((rd_T39 l2 x30_1).f1))) (fun _ h_ => h_.1))) (Kd.R_base ho0) hb); have n2_ := Aside0.mk (Kd.R_lower (Kd.R_new' (Kd.R_newM (M := fun k_ => (w.heap.size ≤ k_)) ho0 (below_size (by repeat (first | (with_reducible first | exact HB.out | apply below_alloc | apply pw_below_drewN | apply below_drew1 | refine below_set ?_ GE457.out | refine below_set ?_ GE463.out) | exact HB.out))) (fun k_ h_ => h_)) (Kd.R_lt (by (with_reducible repeat (first | apply Kd.R_alloc | apply Kd.R_drewN | apply Kd.R_drew)); exact (Kd.R_mono (Kd.R_far (p := ⟨gb463, 1, none⟩) (Kd.R_far (p := ⟨gb463, 0, none⟩) (Kd.R_types HO_10.out BK463.out (by decide)) (fun _ hk => hk.2) (.int .i8 ((rd_T39 l2 x30_1).f0))) (fun _ hk => hk.2) (.int .i8 ((rd_T39 l2 x30_1).f1))) (fun _ h_ => h_.1))))) (below_size (by repeat (first | (with_reducible first | exact HB.out | apply below_alloc | apply pw_below_drewN | apply below_drew1 | refine below_set ?_ GE457.out | refine below_set ?_ GE463.out) | exact HB.out)))); have n3_ := Aside0.mk (blk_below (g := gb457) (o := .cells (mixA (Value.int .u16) [.int .i8 a0_0, .int .i8 a0_1] a0_2) 34 (0, 0)) (by (with_reducible repeat (first | refine blk_drewN ?_ _ | refine blk_drew ?_ | refine blk_alloc ?_ _)); refine blk_far ?_ NB457_463.out _; (with_reducible repeat (first | refine blk_drewN ?_ _ | refine blk_drew ?_ | refine blk_alloc ?_ _)); refine blk_far ?_ NB457_463.out _; (with_reducible repeat (first | refine blk_drewN ?_ _ | refine blk_drew ?_ | refine blk_alloc ?_ _)); exact BK457.out) hb); have n4_ := Aside0.mk (blk_below (g := gb463) (o := .cells #[.int .i8 ((rd_T39 l2 x30_1).f0), .int .i8 ((rd_T39 l2 x30_1).f1)] 39 (0, 0)) (by (with_reducible repeat (first | refine blk_drewN ?_ _ | refine blk_drew ?_ | refine blk_alloc ?_ _)); refine blk_put (cs := #[.int .i8 ((rd_T39 l2 x30_1).f0), .int .i8 0]) ?_ 1 _ rfl; (with_reducible repeat (first | refine blk_drewN ?_ _ | refine blk_drew ?_ | refine blk_alloc ?_ _)); refine blk_put (cs := #[.int .i8 0, .int .i8 0]) ?_ 0 _ rfl; (with_reducible repeat (first | refine blk_drewN ?_ _ | refine blk_drew ?_ | refine blk_alloc ?_ _)); exact BK463.out) hb); have n5_ := bst HB hb; clear HO_1; clear HO_10; clear BK457; clear BK463; clear HB; have HO_1 := n0_; have HO_10 := n1_; have HO466 := n2_; have BK457 := n3_; have BK463 := n4_; have HB := n5_; clear n0_ n1_ n2_ n3_ n4_ n5_; (try clear hb); (try clear hb2); (try clear hk); (try clear hi); (try clear ho0)))
         go_ret2
         exact ⟨_, by first | rfl | (simp [errW_none, errW_some] <;> rfl) | (simp [*, errW_none, errW_some] <;> rfl), by first | exact Kd.R_nil _ _ _ _ _ | exact Kd.N_nil _ _ _ _ _ | exact Kd.V_nil _ _ _ _ _ | exact Kd.Q_nil _ _ _ _ _ | exact Kd.S_nil _ _ _ _ _, pbs HB⟩
       ·rw [if_neg c18] at H
        exact absurd H (by simp)
      ·rw [if_neg c17] at H
       exact absurd H (by simp)
     ·rw [if_neg c16] at H
      have c16b0 : decide (x30_1 < (l2.length : Int)) = false := decide_eq_false c16; clear c16; simp only [Option.some.injEq, Prod.mk.injEq] at H; obtain ⟨rfl, rfl⟩ := H
      go_wp2
      go_ret2
      exact ⟨_, by first | rfl | (simp [errW_none, errW_some] <;> rfl) | (simp [*, errW_none, errW_some] <;> rfl), by (with_reducible repeat (first | apply Kd.R_alloc | apply Kd.R_drewN | apply Kd.R_drew)); exact HO_10.out, pbs HB⟩
 ·replace c6 := Bool.eq_false_iff.mpr c6
  subst c6
  have H1 : (some (([] : List Int), 1)) = some (r1, r2) := by rw [if_neg (show ¬ (false = true) by decide)] at H; exact H
  clear H; have H := H1; clear H1; simp only [Option.some.injEq, Prod.mk.injEq] at H; obtain ⟨rfl, rfl⟩ := H
  go_enter Try.func20, Try.ntmps20
  go_wp2_with (first | ((with_reducible refine gate_dst (N := 4) rfl ?_); refine box_event ?hg (N := 4) ?hd (cs := (mixA (Value.int .u16) [.int .i8 a0_0, .int .i8 a0_1] a0_2)) (t := 34) ?hr ?_; (case hd => rfl); (case hg => rfl); (case hr => first | (go_simp; done) | (go_simp; rfl)); intro gb457 hg w46 hbox hb; have n0_ := Aside0.mk (Kd.V_below (Kd.V_elderB (by (with_reducible repeat (first | apply Kd.V_alloc | apply Kd.V_drewN | apply Kd.V_drew)); exact HO1.out) gb457 (Nat.le_of_eq hg.symm)) hb); have n1_ := bst HB hb; have n2_ := Aside0.mk (hbox); have n3_ := gwl HB hg; have n4_ := gwl HB hg; clear HO1; clear HB; have HO1 := n0_; have HB := n1_; have BK457 := n2_; have GW457 := n3_; have GE457 := n4_; clear n0_ n1_ n2_ n3_ n4_; clear hb hbox hg) | ((with_reducible refine gate_dst (N := 19) rfl ?_); refine wpList_run0 (v := .agg (mixA (Value.int .u16) [.int .i8 a0_0, .int .i8 a0_1] a0_2)) rfl (load_mix_run (P := Try.prog) 34 (.tmp 4) rfl gb457 rfl (show World.rangeAt _ gb457 0 ([.int .i8 a0_0, .int .i8 a0_1] ++ a0_2.l.map (Value.int .u16)) from mix_range (show (World.heap _)[gb457]? = some (.cells (mixA (Value.int .u16) [.int .i8 a0_0, .int .i8 a0_1] a0_2) 34 (0, 0)) from by (with_reducible repeat (first | refine blk_drewN ?_ _ | refine blk_drew ?_ | refine blk_alloc ?_ _)); exact BK457.out)) Try.underlying34 rfl (by kernel_rfl) rfl) ?_) | ((with_reducible refine gate_callee (f := 35) rfl ?_); refine gl (some 21) Try.func35 #[.agg (mixA (Value.int .u16) [.int .i8 a0_0, .int .i8 a0_1] a0_2), .slice A1 l1.length c1] ?_; (with_reducible refine (impl_ValidFile.calls k a0_0 a0_1 a0_2 _ _ l1 false _ ?side1 ?side2 A5.out).mono ?_); (case side1 => repeat (first | exact (Kd.V_reads' HO1.out).2.2 | (with_reducible refine Kd.C_alloc ?_ _) | (with_reducible refine Kd.C_drewN ?_ _) | (with_reducible refine Kd.C_drew ?_))); (case side2 => exact (Kd.V_reads' HO1.out).2.1); rintro e w48 ⟨rfl, hb⟩; refine ⟨_, rfl, ?_⟩; replace HO1 := Aside0.mk (Kd.V_below (by (with_reducible repeat (first | apply Kd.V_alloc | apply Kd.V_drewN | apply Kd.V_drew)); exact HO1.out) hb); replace BK457 := bkb BK457 hb; replace HB := bst HB hb; (try clear hb); (try clear hb2); (try clear hk); (try clear hi)))
  go_ret2
  exact ⟨_, by first | rfl | (simp [errW_none, errW_some] <;> rfl) | (simp [*, errW_none, errW_some] <;> rfl), by first | exact Kd.R_nil _ _ _ _ _ | exact Kd.N_nil _ _ _ _ _ | exact Kd.V_nil _ _ _ _ _ | exact Kd.Q_nil _ _ _ _ _ | exact Kd.S_nil _ _ _ _ _, pbs HB⟩
end Go.Proofs.Ytjpponjekcemjaa.PB
end
section
namespace Go.Proofs.Ytjpponjekcemjaa.PB
open Go.RowKit Go.Proofs.YtjpponjekcemjaaW.PrintWords Go.Proofs.YtjpponjekcemjaaW.PrintLast Go.Proofs.YtjpponjekcemjaaW.PrintMore Go.Proofs.Ytjpponjekcemjaa.La
attribute [local go_sem] max2_int min2_int max_two min_two max_three min_three max_four min_four   -- for this text's walks alone
set_option linter.unusedVariables false
set_option linter.unusedSimpArgs false
def laws_eqSpotS.l0 : Nat → List (S39) → List (S39) → Int → Option (Bool)
 | 0, _, _, _ => none
 | k + 1, x0, x1, x5 => if x5 < (x0.length : Int) then (if 0 ≤ x5 then (if x5 < (x1.length : Int) then ((laws_eqSpot.f ((rd_T39 x0 x5).f0) ((rd_T39 x0 x5).f1) ((rd_T39 x1 x5).f0) ((rd_T39 x1 x5).f1)).bind fun t478 => (if t478 = true then (laws_eqSpotS.l0 k x0 x1 (wrap64 (x5 + 1))) else (some false))) else (none)) else (none)) else (some true)
def laws_eqSpotS.f (k : Nat) (l0 : List (S39)) (l1 : List (S39)) : Option (Bool) := if (l0.length : Int) = (l1.length : Int) then (laws_eqSpotS.l0 k l0 l1 0) else (some false)
theorem laws_eqSpotS.mono_l : ∀ k, (∀ y0 y1 y2, LeO (laws_eqSpotS.l0 k y0 y1 y2) (laws_eqSpotS.l0 (k + 1) y0 y1 y2))
 | 0 => fun _ _ _ r h => by simp [laws_eqSpotS.l0] at h
 | k + 1 => by
  have ih0 := laws_eqSpotS.mono_l k
  ·intro y0 y1 y2
   unfold laws_eqSpotS.l0
   repeat' first
   | (with_reducible exact ih0 _ _ _)
   | (with_reducible exact LeO.refl _)
   | (with_reducible exact LeO.none _)
   | (with_reducible refine LeO.ite ?_ ?_)
   | (with_reducible refine LeO.bind ?_ (fun _ => ?_))
   | exact ih0 _ _ _
   | exact LeO.none _
   | refine LeO.ite ?_ ?_
   | refine LeO.bind ?_ (fun _ => ?_)
theorem laws_eqSpotS.mono : ∀ a0 a1 k, LeO (laws_eqSpotS.f k a0 a1) (laws_eqSpotS.f (k + 1) a0 a1) := by
 intro a0 a1 k
 have ih0 := laws_eqSpotS.mono_l k
 unfold laws_eqSpotS.f
 repeat' first
   | (with_reducible exact ih0 _ _ _)
   | (with_reducible exact LeO.refl _)
   | (with_reducible exact LeO.none _)
   | (with_reducible refine LeO.ite ?_ ?_)
   | (with_reducible refine LeO.bind ?_ (fun _ => ?_))
   | exact ih0 _ _ _
   | exact LeO.none _
   | refine LeO.ite ?_ ?_
   | refine LeO.bind ?_ (fun _ => ?_)
def laws_eqSpotS.T6 : Bool × List (List Nat × List Nat) := (true, [([], []), ([], []), ([0, 1], [0, 1]), ([2], [2]), ([], []), ([], []), ([4, 5], [4, 5]), ([6], [6]), ([3, 7], [3, 7]), ([8], [8])])
def laws_eqSpotS.B6 : List Nat := [0, 0, 3, 7, 0, 0, 48, 112, 255, 511]
theorem laws_eqSpotS.tab6 : rtab .any (opsOf Try.f21 6) = laws_eqSpotS.T6 := by kernel_rfl
theorem laws_eqSpotS.bits6 : waitsOk laws_eqSpotS.T6.2 laws_eqSpotS.B6 = true := by kernel_rfl
set_option maxHeartbeats 8000000 in
set_option maxRecDepth 100000 in
theorem laws_eqSpotS.calls (k : Nat) (A0 : Option Addr) (c0 : Nat) (l0 : List (S39)) (A1 : Option Addr) (c1 : Nat) (l1 : List (S39)) (r : Bool) (w : World) (hr0 : Kd.C k39 w A0 l0.length l0) (hc0 : l0.length ≤ c0) (hr1 : Kd.C k39 w A1 l1.length l1) (hc1 : l1.length ≤ c1) (h : laws_eqSpotS.f k l0 l1 = some r) :
  Calls Try.prog 21 #[.slice A0 l0.length c0, .slice A1 l1.length c1] w fun e w' => e = .returned (.bool r) ∧ Below w.heap.size w w' := by
 have hu39 := Try.underlying39
 have HR0 := Aside0.mk hr0
 have HC0 := Aside0.mk hc0
 clear hr0 hc0
 have HR1 := Aside0.mk hr1
 have HC1 := Aside0.mk hc1
 clear hr1 hc1
 have HB := Aside0.mk (Below.refl w.heap.size w)
 have H : (if (l0.length : Int) = (l1.length : Int) then (laws_eqSpotS.l0 k l0 l1 0) else (some false)) = some r := h
 clear h
 by_cases c3 : (l0.length : Int) = (l1.length : Int)
 ·rw [if_pos c3] at H
  have c3b0 : ((l0.length : Int) == (l1.length : Int)) = true := beq_iff_eq.mpr c3; have c3b1 : ((l0.length : Int) != (l1.length : Int)) = false := bne_eq_false_iff_eq.mpr c3
  have c3b2 : (l0.length == l1.length) = true := by first | simpa using c3 | (simp at c3 ⊢; omega)
  clear c3; have H' := Aside0.mk H; clear H
  go_enter Try.func21, Try.ntmps21
  go_wp2
  go_loopg [5] k (fun kq v5 w' => ∃ (x5_1 : Int), v5 = .int .i64 x5_1 ∧ Aside0 (laws_eqSpotS.l0 kq l0 l1 x5_1 = some r) ∧ Aside0 (kq ≤ k) ∧ Aside0 (Below w.heap.size w w'))
  case atStart => exact ⟨(0), (by first | rfl | (simp; done) | (simp [*]; done)), H', ⟨Nat.le_refl _⟩, ⟨pb HB⟩⟩
  case round =>
   clear H'
   try clear c1
   try clear c2
   try clear p2
   try clear c3
   try clear c3b0
   try clear c3b1
   try clear c3b2
   obtain ⟨x5_1, rfl, HA, HK1, HB⟩ := hrel
   cases gk with
   | zero => exact absurd HA.out (by simp [laws_eqSpotS.l0])
   | succ k1 =>
    have H := HA.out; clear HA; simp only [laws_eqSpotS.l0] at H
    by_cases c4 : x5_1 < (l0.length : Int)
    ·rw [if_pos c4] at H
     have c4b0 : decide (x5_1 < (l0.length : Int)) = true := decide_eq_true c4; clear c4
     by_cases c5 : 0 ≤ x5_1
     ·rw [if_pos c5] at H
      have c5b0 : decide (0 ≤ x5_1) = true := decide_eq_true c5; clear c5
      by_cases c6 : x5_1 < (l1.length : Int)
      ·rw [if_pos c6] at H
       have c6b0 : decide (x5_1 < (l1.length : Int)) = true := decide_eq_true c6; clear c6; obtain ⟨t478, A7, H⟩ := obn H
       by_cases c8 : t478 = true
       ·subst c8
        have H1 : (laws_eqSpotS.l0 k1 l0 l1 (wrap64 (x5_1 + 1))) = some r := by rw [if_pos rfl] at H; exact H
        clear H; have H := H1; clear H1; have H' := Aside0.mk H; clear H
        try go_wp2
        replace HB := Aside0.mk (below_drew1 HB.out); have p476 : 0 ≤ (x5_1 : Int) := oda; have q476 : x5_1 < (l0.length : Int) := oda; obtain ⟨ad476, e476, hx476_0, hx476_1⟩ := at_T39 HR0.out x5_1 p476 q476; have hw476_1 := hx476_1; have hw476_0 := hx476_0; cases e476
        try replace hx476_0 := cb HB hx476_0
        try replace hx476_1 := cb HB hx476_1
        replace p476 := eq_true p476; replace q476 := eq_true q476; have p477 : 0 ≤ (x5_1 : Int) := oda; have q477 : x5_1 < (l1.length : Int) := oda; obtain ⟨ad477, e477, hx477_0, hx477_1⟩ := at_T39 HR1.out x5_1 p477 q477; have hw477_1 := hx477_1; have hw477_0 := hx477_0; cases e477
        try replace hx477_0 := cb HB hx477_0
        try replace hx477_1 := cb HB hx477_1
        replace p477 := eq_true p477; replace q477 := eq_true q477
        refine start_ (n := 10) (S := fun w' => w'.cell? (ad476.add ((x5_1).toNat * 2)) = some (.int .i8 ((rd_T39 l0 x5_1).f0)) ∧ w'.cell? ⟨(ad476.add ((x5_1).toNat * 2)).block, (ad476.add ((x5_1).toNat * 2)).off + 1, none⟩ = some (.int .i8 ((rd_T39 l0 x5_1).f1)) ∧ w'.cell? (ad477.add ((x5_1).toNat * 2)) = some (.int .i8 ((rd_T39 l1 x5_1).f0)) ∧ w'.cell? ⟨(ad477.add ((x5_1).toNat * 2)).block, (ad477.add ((x5_1).toNat * 2)).off + 1, none⟩ = some (.int .i8 ((rd_T39 l1 x5_1).f1))) (ds := []) (bA 10 0) (by kernel_rfl) rfl rfl ⟨(cb HB hw476_0), (cb HB hw476_1), (cb HB hw477_0), (cb HB hw477_1)⟩ (fun hHeld => ?_); refine with_tabW laws_eqSpotS.tab6 laws_eqSpotS.bits6 (fun HT_ HW_ => ?_)
        generalize wr.drew = w9 at HB hx476_0 hx476_1 hx477_0 hx477_1 hHeld ⊢; refine pu 0 17 10 1 HT_ ?_; refine pu 1 18 10 3 HT_ ?_; refine pu 2 19 10 7 HT_ ?_; refine pu 4 21 10 23 HT_ ?_; refine pu 5 22 10 55 HT_ ?_; refine pu 6 23 10 119 HT_ ?_; refine tk 3 20 10 127 HT_ HW_ hHeld ?_; refine tk 7 24 10 255 HT_ HW_ hHeld ?_; refine one_ (i := 8) (N := some 25) (bA 10 511) rfl rfl (one_of HT_.out (by kernel_rfl)) (by decide) (fun K hK => ?_); refine gs Try.func38 #[.agg #[.int .i8 ((rd_T39 l0 x5_1).f0), .int .i8 ((rd_T39 l0 x5_1).f1)], .agg #[.int .i8 ((rd_T39 l1 x5_1).f0), .int .i8 ((rd_T39 l1 x5_1).f1)]] ?_; with_reducible refine (laws_eqSpot.calls ((rd_T39 l0 x5_1).f0) ((rd_T39 l0 x5_1).f1) ((rd_T39 l1 x5_1).f0) ((rd_T39 l1 x5_1).f1) true _ A7.out).mono ?_
        rintro e w10 ⟨rfl, hb⟩
        refine ⟨_, rfl, ?_⟩; replace HB := bst HB hb; (try clear hb); (try clear hb2); (try clear hk); (try clear hi); refine hK.out _ _ ⟨(cb HB hw476_0), (cb HB hw476_1), (cb HB hw477_0), (cb HB hw477_1)⟩ (fun hHeld => ?_); clear hK K; refine nm 25 ?_; refine pu 9 26 10 1023 HT_ ?_; refine done_ (done_of HT_.out (by kernel_rfl)) ?_
        try go_wp2
        go_roundg k1
        case measure => have := HK1.out; omega
        case rel => exact ⟨(wrap64 (x5_1 + 1)), (by first | rfl | (simp; done) | (simp [*]; done)), H', ⟨by have := HK1.out; omega⟩, ⟨pb HB⟩⟩
       ·replace c8 := Bool.eq_false_iff.mpr c8
        subst c8
        have H1 : (some false) = some r := by rw [if_neg (show ¬ (false = true) by decide)] at H; exact H
        clear H; have H := H1; clear H1; obtain rfl := Option.some.inj H
        try go_wp2
        replace HB := Aside0.mk (below_drew1 HB.out); have p476 : 0 ≤ (x5_1 : Int) := oda; have q476 : x5_1 < (l0.length : Int) := oda; obtain ⟨ad476, e476, hx476_0, hx476_1⟩ := at_T39 HR0.out x5_1 p476 q476; have hw476_1 := hx476_1; have hw476_0 := hx476_0; cases e476
        try replace hx476_0 := cb HB hx476_0
        try replace hx476_1 := cb HB hx476_1
        replace p476 := eq_true p476; replace q476 := eq_true q476; have p477 : 0 ≤ (x5_1 : Int) := oda; have q477 : x5_1 < (l1.length : Int) := oda; obtain ⟨ad477, e477, hx477_0, hx477_1⟩ := at_T39 HR1.out x5_1 p477 q477; have hw477_1 := hx477_1; have hw477_0 := hx477_0; cases e477
        try replace hx477_0 := cb HB hx477_0
        try replace hx477_1 := cb HB hx477_1
        replace p477 := eq_true p477; replace q477 := eq_true q477
        refine start_ (n := 10) (S := fun w' => w'.cell? (ad476.add ((x5_1).toNat * 2)) = some (.int .i8 ((rd_T39 l0 x5_1).f0)) ∧ w'.cell? ⟨(ad476.add ((x5_1).toNat * 2)).block, (ad476.add ((x5_1).toNat * 2)).off + 1, none⟩ = some (.int .i8 ((rd_T39 l0 x5_1).f1)) ∧ w'.cell? (ad477.add ((x5_1).toNat * 2)) = some (.int .i8 ((rd_T39 l1 x5_1).f0)) ∧ w'.cell? ⟨(ad477.add ((x5_1).toNat * 2)).block, (ad477.add ((x5_1).toNat * 2)).off + 1, none⟩ = some (.int .i8 ((rd_T39 l1 x5_1).f1))) (ds := []) (bA 10 0) (by kernel_rfl) rfl rfl ⟨(cb HB hw476_0), (cb HB hw476_1), (cb HB hw477_0), (cb HB hw477_1)⟩ (fun hHeld => ?_); refine with_tabW laws_eqSpotS.tab6 laws_eqSpotS.bits6 (fun HT_ HW_ => ?_)
        generalize wr.drew = w11 at HB hx476_0 hx476_1 hx477_0 hx477_1 hHeld ⊢; refine pu 0 17 10 1 HT_ ?_; refine pu 1 18 10 3 HT_ ?_; refine pu 2 19 10 7 HT_ ?_; refine pu 4 21 10 23 HT_ ?_; refine pu 5 22 10 55 HT_ ?_; refine pu 6 23 10 119 HT_ ?_; refine tk 3 20 10 127 HT_ HW_ hHeld ?_; refine tk 7 24 10 255 HT_ HW_ hHeld ?_; refine one_ (i := 8) (N := some 25) (bA 10 511) rfl rfl (one_of HT_.out (by kernel_rfl)) (by decide) (fun K hK => ?_); refine gs Try.func38 #[.agg #[.int .i8 ((rd_T39 l0 x5_1).f0), .int .i8 ((rd_T39 l0 x5_1).f1)], .agg #[.int .i8 ((rd_T39 l1 x5_1).f0), .int .i8 ((rd_T39 l1 x5_1).f1)]] ?_; with_reducible refine (laws_eqSpot.calls ((rd_T39 l0 x5_1).f0) ((rd_T39 l0 x5_1).f1) ((rd_T39 l1 x5_1).f0) ((rd_T39 l1 x5_1).f1) false _ A7.out).mono ?_
        rintro e w12 ⟨rfl, hb⟩
        refine ⟨_, rfl, ?_⟩; replace HB := bst HB hb; (try clear hb); (try clear hb2); (try clear hk); (try clear hi); refine hK.out _ _ ⟨(cb HB hw476_0), (cb HB hw476_1), (cb HB hw477_0), (cb HB hw477_1)⟩ (fun hHeld => ?_); clear hK K; refine nm 25 ?_; refine pu 9 26 10 1023 HT_ ?_; refine done_ (done_of HT_.out (by kernel_rfl)) ?_
        try go_wp2
        go_ret
        exact ⟨by first | rfl | (simp [errW_none, errW_some] <;> rfl) | (simp [*, errW_none, errW_some] <;> rfl), pb HB⟩
      ·rw [if_neg c6] at H
       exact absurd H (by simp)
     ·rw [if_neg c5] at H
      exact absurd H (by simp)
    ·rw [if_neg c4] at H
     have c4b0 : decide (x5_1 < (l0.length : Int)) = false := decide_eq_false c4; clear c4; obtain rfl := Option.some.inj H
     go_wp2
     go_ret
     exact ⟨by first | rfl | (simp [errW_none, errW_some] <;> rfl) | (simp [*, errW_none, errW_some] <;> rfl), pb HB⟩
 ·rw [if_neg c3] at H
  have c3b0 : ((l0.length : Int) == (l1.length : Int)) = false := beq_eq_false_iff_ne.mpr c3; have c3b1 : ((l0.length : Int) != (l1.length : Int)) = true := bne_iff_ne.mpr c3
  have c3b2 : (l0.length == l1.length) = false := by first | simpa using c3 | (simp at c3 ⊢; omega)
  obtain rfl := Option.some.inj H
  go_enter Try.func21, Try.ntmps21
  go_wp2
  go_ret
  exact ⟨by first | rfl | (simp [errW_none, errW_some] <;> rfl) | (simp [*, errW_none, errW_some] <;> rfl), pb HB⟩
def laws_markSpotS.l0 : Nat → List (S39) → Int → Int → Option (Int × (List (S39)))
 | 0, _, _, _ => none
 | k + 1, x0, x1, x5 => if x5 < (x0.length : Int) then (if 0 ≤ x5 then ((some (x0.set (x5 : Int).toNat (⟨IntKind.i8.wrap (x1), (rd_T39 x0 x5).f1⟩ : S39) : List (S39))).bind fun y479 => (laws_markSpotS.l0 k (y479.set (x5 : Int).toNat (⟨(rd_T39 y479 x5).f0, IntKind.i8.wrap (wrap64 (x1 + 1))⟩ : S39)) (wrap64 ((wrap64 (x1 + 1)) + 1)) (wrap64 (x5 + 1)))) else (none)) else (some (x1, x0))
def laws_markSpotS.f (k : Nat) (l0 : List (S39)) (a1 : Int) : Option (Int × (List (S39))) := laws_markSpotS.l0 k l0 a1 0
theorem laws_markSpotS.mono_l : ∀ k, (∀ y0 y1 y2, LeO (laws_markSpotS.l0 k y0 y1 y2) (laws_markSpotS.l0 (k + 1) y0 y1 y2))
 | 0 => fun _ _ _ r h => by simp [laws_markSpotS.l0] at h
 | k + 1 => by
  have ih0 := laws_markSpotS.mono_l k
  ·intro y0 y1 y2
   unfold laws_markSpotS.l0
   repeat' first
   | (with_reducible exact ih0 _ _ _)
   | (with_reducible exact LeO.refl _)
   | (with_reducible exact LeO.none _)
   | (with_reducible refine LeO.ite ?_ ?_)
   | (with_reducible refine LeO.bind ?_ (fun _ => ?_))
   | exact ih0 _ _ _
   | exact LeO.none _
   | refine LeO.ite ?_ ?_
   | refine LeO.bind ?_ (fun _ => ?_)
theorem laws_markSpotS.mono : ∀ a0 a1 k, LeO (laws_markSpotS.f k a0 a1) (laws_markSpotS.f (k + 1) a0 a1) := by
 intro a0 a1 k
 have ih0 := laws_markSpotS.mono_l k
 unfold laws_markSpotS.f
 repeat' first
   | (with_reducible exact ih0 _ _ _)
   | (with_reducible exact LeO.refl _)
   | (with_reducible exact LeO.none _)
   | (with_reducible refine LeO.ite ?_ ?_)
   | (with_reducible refine LeO.bind ?_ (fun _ => ?_))
   | exact ih0 _ _ _
   | exact LeO.none _
   | refine LeO.ite ?_ ?_
   | refine LeO.bind ?_ (fun _ => ?_)
set_option maxHeartbeats 8000000 in
set_option maxRecDepth 100000 in
theorem laws_markSpotS.calls (k : Nat) (P0_ : Nat → Prop) (u9000_ : Value) (l0 : List (S39)) (a1 : Int) (r1 : Int) (r2 : List (S39)) (w0 w : World) (hB : Below w0.heap.size w0 w) (ho0 : Kd.R k39 39 w w0.heap.size P0_ u9000_ l0) (h : laws_markSpotS.f k l0 a1 = some (r1, r2)) :
  Calls Try.prog 22 #[u9000_, .int .i64 a1] w fun e w' => e = .returned (.int .i64 r1) ∧ Kd.R k39 39 w' w0.heap.size (fun k_ => (P0_ k_ ∨ w.heap.size ≤ k_)) u9000_ r2 ∧ Below w0.heap.size w0 w' ∧ Kept w w' (fun k_ => P0_ k_) := by
 have HO0 := Aside0.mk (show Kd.R k39 39 w w0.heap.size (fun k_ => (P0_ k_ ∨ w.heap.size ≤ k_)) u9000_ l0 from Kd.R_mono ho0 (fun k_ hk => (.inl hk)))
 have HK := Aside0.mk (Kept.refl w (fun k_ => P0_ k_))
 have HW0 := Aside0.mk hB.size
 have HB := Aside0.mk hB
 clear hB
 have H : (laws_markSpotS.l0 k l0 a1 0) = some (r1, r2) := h
 clear h
 have H' := Aside0.mk H
 clear H
 go_enter Try.func22, Try.ntmps22
 go_wp2
 go_loopg [1, 5] k (fun kq v1 v5 w' => ∃ (x0_1 : List (S39)) (x1_1 : Int) (x5_1 : Int), v1 = .int .i64 x1_1 ∧ v5 = .int .i64 x5_1 ∧ Aside0 (laws_markSpotS.l0 kq x0_1 x1_1 x5_1 = some (r1, r2)) ∧ Aside0 (kq ≤ k) ∧ Aside0 (Kd.R k39 39 w' w0.heap.size (fun k_ => (P0_ k_ ∨ w.heap.size ≤ k_)) u9000_ x0_1) ∧ Aside0 (Kept w w' (fun k_ => P0_ k_)) ∧ Aside0 (Below w0.heap.size w0 w'))
 case atStart => exact ⟨(l0), (a1), (0), (by first | rfl | (simp; done) | (simp [*]; done)), (by first | rfl | (simp; done) | (simp [*]; done)), H', ⟨Nat.le_refl _⟩, ⟨by (with_reducible repeat (first | apply Kd.R_alloc | apply Kd.R_drewN | apply Kd.R_drew)); exact HO0.out⟩, ⟨by repeat (first | (with_reducible first | exact HK.out | apply Kept.alloc | apply Kept.drewN | apply Kept.drew) | exact HK.out)⟩, ⟨pb HB⟩⟩
 case round =>
  clear H'
  try clear c2
  try clear p2
  obtain ⟨x0_1, x1_1, x5_1, rfl, rfl, HA, HK1, HO_0, HK, HB⟩ := hrel
  cases gk with
  | zero => exact absurd HA.out (by simp [laws_markSpotS.l0])
  | succ k1 =>
   have H := HA.out; clear HA; simp only [laws_markSpotS.l0] at H
   by_cases c3 : x5_1 < (x0_1.length : Int)
   ·rw [if_pos c3] at H
    have c3b0 : decide (x5_1 < (x0_1.length : Int)) = true := decide_eq_true c3; clear c3
    by_cases c4 : 0 ≤ x5_1
    ·rw [if_pos c4] at H
     have c4b0 : decide (0 ≤ x5_1) = true := decide_eq_true c4; clear c4; obtain ⟨y479, hy479⟩ : ∃ y_ : List (S39), y_ = (x0_1.set (x5_1 : Int).toNat (⟨IntKind.i8.wrap (x1_1), (rd_T39 x0_1 x5_1).f1⟩ : S39)) := ⟨_, rfl⟩
     replace H : (laws_markSpotS.l0 k1 (y479.set (x5_1 : Int).toNat (⟨(rd_T39 y479 x5_1).f0, IntKind.i8.wrap (wrap64 (x1_1 + 1))⟩ : S39)) (wrap64 ((wrap64 (x1_1 + 1)) + 1)) (wrap64 (x5_1 + 1))) = some (r1, r2) := by first | (rw [hy479]; with_reducible exact H) | (have H2_ := (Option.bind_some _ _).symm.trans H; rw [hy479]; with_reducible exact H2_) | (have H2_ := (Option.bind_some _ _).symm.trans H; with_reducible exact H2_) | with_reducible exact H | (rw [hy479]; exact H) | exact H
     have Ny479 := Aside0.mk hy479; clear hy479; obtain ⟨y480, hy480⟩ : ∃ y_ : List (S39), y_ = (y479.set (x5_1 : Int).toNat (⟨(rd_T39 y479 x5_1).f0, IntKind.i8.wrap (wrap64 (x1_1 + 1))⟩ : S39)) := ⟨_, rfl⟩
     replace H : (laws_markSpotS.l0 k1 y480 (wrap64 ((wrap64 (x1_1 + 1)) + 1)) (wrap64 (x5_1 + 1))) = some (r1, r2) := by first | (rw [hy480]; with_reducible exact H) | (have H2_ := (Option.bind_some _ _).symm.trans H; rw [hy480]; with_reducible exact H2_) | (have H2_ := (Option.bind_some _ _).symm.trans H; with_reducible exact H2_) | with_reducible exact H | (rw [hy480]; exact H) | exact H
     have Ny480 := Aside0.mk hy480; clear hy480; have H' := Aside0.mk H; clear H; obtain ⟨Ao7, co7, eo7⟩ := Kd.R_slice HO_0.out; subst eo7; have p5 : 0 ≤ (x5_1 : Int) := oda; have q5 : (x5_1 : Int) < ((x0_1.length : Int) : Int) := oda; obtain ⟨go5, co5, eo5, gb5, gl5, cl5, HG5⟩ := Kd.R_form HO_0.out (by omega); (first | cases eo5 | (injection eo5 with ea_ en_ ec_; (first | subst ea_ | (injection ea_ with ea_; subst ea_)); subst ec_; clear en_)); have GB5 := Aside0.mk gb5; have GG5 := Aside0.mk HG5; clear gb5 gl5 HG5; have HMgo5 := Aside0.mk (show (P0_ go5 ∨ w.heap.size ≤ go5) from (HO_0.out.1 _ rfl)); obtain ⟨ce5, hcl5, hM5, hcc5, hfr5⟩ := Kd.R_elem HO_0.out z39 (x5_1 : Int) p5 q5; obtain rfl := k39_openM hM5; have hx5_0 : wr.cell? ⟨go5, (x5_1 : Int).toNat * 2, none⟩ = some (.int .i8 ((rd_T39 x0_1 x5_1).f0)) := hcc5 0 _ rfl; have hx5_1 : wr.cell? ⟨go5, (x5_1 : Int).toNat * 2 + 1, none⟩ = some (.int .i8 ((rd_T39 x0_1 x5_1).f1)) := hcc5 1 _ rfl; have hf5_0 : wr.frozen? ⟨go5, (x5_1 : Int).toNat * 2, none⟩ = false := hfr5 0; have hf5_1 : wr.frozen? ⟨go5, (x5_1 : Int).toNat * 2 + 1, none⟩ = false := hfr5 1; clear hcl5 hcc5 hfr5 hM5; replace p5 := eq_true p5; replace q5 := eq_true q5; have HX8 := Aside0.mk (show Kd.R k39 39 wr w0.heap.size (fun k_ => (P0_ k_ ∨ w.heap.size ≤ k_)) (.slice (some ⟨go5, 0, none⟩) x0_1.length co7) x0_1 from (by (with_reducible repeat (first | apply Kd.R_alloc | apply Kd.R_drewN | apply Kd.R_drew)); exact HO_0.out)); obtain ⟨ce8, hcl8, hM8, hcc8, hfr8⟩ := Kd.R_elem HX8.out z39 (x5_1 : Int) (oda) (by have h_ : (x5_1 : Int) < ((x0_1.length : Int) : Int) := oda; first | exact h_ | (have e_ := (Kd.R_reads' HO_0.out).1; omega) | simpa using h_); obtain rfl := k39_openM hM8; have HP8 := Kd.R_seg HX8.out (x5_1 : Int) (oda) (by have h_ : (x5_1 : Int) < ((x0_1.length : Int) : Int) := oda; first | exact h_ | (have e_ := (Kd.R_reads' HO_0.out).1; omega) | simpa using h_) (seg := [.int .i8 (IntKind.i8.wrap (x1_1))]) (j := 0) hcl8 hcc8 (show 1 ≤ 2 from by decide) (x' := (⟨IntKind.i8.wrap (x1_1), (rd_T39 x0_1 x5_1).f1⟩ : S39)) (k39_mkM _ _ _ (⟨IntKind.i8.wrap (x1_1), (rd_T39 x0_1 x5_1).f1⟩ : S39) ) (fun _ hk => hk); have hx8_0 := hcc8 0 _ rfl; (try simp only [show (k39).sz = 2 from rfl, Nat.mul_one, Nat.add_zero] at hx8_0); have hf8_0 := hfr8 0; (try simp only [show (k39).sz = 2 from rfl, Nat.mul_one, Nat.add_zero] at hf8_0); clear hcl8 hcc8 hfr8 hM8
     go_wp2_with (first | ((with_reducible refine gate_store (t := 22) (p := 17) rfl ?_); refine store_event (t := 22) (p := 17) (v := ?vo_w9) (w1 := (wr.setCell ⟨go5, (x5_1 : Int).toNat * 2, none⟩ (.int .i8 (IntKind.i8.wrap (x1_1))))) ?hg ?ho ?hn ?hr ?_; (case ho => rfl); (case hg => rfl); (case hn => rfl); (case hr => first | (go_simp; done) | (go_simp; rfl)); intro w9 hw; have hg : wr.grownBy w9 (some go5) := (by rw [hw]; exact HP8.2); have hp_ : Kd.R k39 39 w9 w0.heap.size (fun k_ => (P0_ k_ ∨ w.heap.size ≤ k_)) (.slice (some ⟨go5, 0, none⟩) x0_1.length co7) y479 := (by rw [hw, Ny479.out]; exact HP8.1); clear HP8; have n0_ := Aside0.mk (hp_); have n1_ := Aside0.mk ((by rw [hw]; exact below_set (HB.out) GB5.out : Below w0.heap.size w0 w9)); have n2_ := Aside0.mk (Kept.of_grown (S := (fun k_ => P0_ k_)) hg (by repeat (first | (with_reducible first | exact HK.out | apply Kept.alloc | apply Kept.drewN | apply Kept.drew) | exact HK.out)) (fun k_ e_ => (HO_0.out.1 k_ e_))); clear HO_0; clear HB; clear HK; have HO_0 := n0_; have HB := n1_; have HK := n2_; clear n0_ n1_ n2_; clear hg hw hp_; have p6 : 0 ≤ (x5_1 : Int) := oda; have q6 : (x5_1 : Int) < ((x0_1.length : Int) : Int) := oda; obtain ⟨ce6, hcl6, hM6, hcc6, hfr6⟩ := Kd.R_elem HO_0.out z39 (x5_1 : Int) p6 q6; obtain rfl := k39_openM hM6; have hx6_0 : w9.cell? ⟨go5, (x5_1 : Int).toNat * 2, none⟩ = some (.int .i8 ((rd_T39 y479 x5_1).f0)) := hcc6 0 _ rfl; have hx6_1 : w9.cell? ⟨go5, (x5_1 : Int).toNat * 2 + 1, none⟩ = some (.int .i8 ((rd_T39 y479 x5_1).f1)) := hcc6 1 _ rfl; have hf6_0 : w9.frozen? ⟨go5, (x5_1 : Int).toNat * 2, none⟩ = false := hfr6 0; have hf6_1 : w9.frozen? ⟨go5, (x5_1 : Int).toNat * 2 + 1, none⟩ = false := hfr6 1; clear hcl6 hcc6 hfr6 hM6; replace p6 := eq_true p6; replace q6 := eq_true q6; have HX10 := Aside0.mk (show Kd.R k39 39 w9 w0.heap.size (fun k_ => (P0_ k_ ∨ w.heap.size ≤ k_)) (.slice (some ⟨go5, 0, none⟩) x0_1.length co7) y479 from (by (with_reducible repeat (first | apply Kd.R_alloc | apply Kd.R_drewN | apply Kd.R_drew)); exact HO_0.out)); obtain ⟨ce10, hcl10, hM10, hcc10, hfr10⟩ := Kd.R_elem HX10.out z39 (x5_1 : Int) (oda) (by have h_ : (x5_1 : Int) < ((x0_1.length : Int) : Int) := oda; first | exact h_ | (have e_ := (Kd.R_reads' HO_0.out).1; omega) | simpa using h_); obtain rfl := k39_openM hM10; have HP10 := Kd.R_seg HX10.out (x5_1 : Int) (oda) (by have h_ : (x5_1 : Int) < ((x0_1.length : Int) : Int) := oda; first | exact h_ | (have e_ := (Kd.R_reads' HO_0.out).1; omega) | simpa using h_) (seg := [.int .i8 (IntKind.i8.wrap (wrap64 (x1_1 + 1)))]) (j := 1) hcl10 hcc10 (show 2 ≤ 2 from by decide) (x' := (⟨(rd_T39 y479 x5_1).f0, IntKind.i8.wrap (wrap64 (x1_1 + 1))⟩ : S39)) (k39_mkM _ _ _ (⟨(rd_T39 y479 x5_1).f0, IntKind.i8.wrap (wrap64 (x1_1 + 1))⟩ : S39) ) (fun _ hk => hk); have hx10_1 := hcc10 1 _ rfl; (try simp only [show (k39).sz = 2 from rfl, Nat.mul_one, Nat.add_zero] at hx10_1); have hf10_1 := hfr10 1; (try simp only [show (k39).sz = 2 from rfl, Nat.mul_one, Nat.add_zero] at hf10_1); clear hcl10 hcc10 hfr10 hM10) | ((with_reducible refine gate_store (t := 22) (p := 25) rfl ?_); refine store_event (t := 22) (p := 25) (v := ?vo_w11) (w1 := (w9.setCell ⟨go5, (x5_1 : Int).toNat * 2 + 1, none⟩ (.int .i8 (IntKind.i8.wrap (wrap64 (x1_1 + 1)))))) ?hg ?ho ?hn ?hr ?_; (case ho => rfl); (case hg => rfl); (case hn => rfl); (case hr => first | (go_simp; done) | (go_simp; rfl)); intro w11 hw; have hg : w9.grownBy w11 (some go5) := (by rw [hw]; exact HP10.2); have hp_ : Kd.R k39 39 w11 w0.heap.size (fun k_ => (P0_ k_ ∨ w.heap.size ≤ k_)) (.slice (some ⟨go5, 0, none⟩) x0_1.length co7) y480 := (by rw [hw, Ny480.out]; exact HP10.1); clear HP10; have n0_ := Aside0.mk (hp_); have n1_ := Aside0.mk ((by rw [hw]; exact below_set (HB.out) GB5.out : Below w0.heap.size w0 w11)); have n2_ := Aside0.mk (Kept.of_grown (S := (fun k_ => P0_ k_)) hg (by repeat (first | (with_reducible first | exact HK.out | apply Kept.alloc | apply Kept.drewN | apply Kept.drew) | exact HK.out)) (fun k_ e_ => (HO_0.out.1 k_ e_))); clear HO_0; clear HB; clear HK; have HO_0 := n0_; have HB := n1_; have HK := n2_; clear n0_ n1_ n2_; clear hg hw hp_))
     go_roundg k1
     case measure => have := HK1.out; omega
     case rel => exact ⟨(y480), (wrap64 ((wrap64 (x1_1 + 1)) + 1)), (wrap64 (x5_1 + 1)), (by first | rfl | (simp; done) | (simp [*]; done)), (by first | rfl | (simp; done) | (simp [*]; done)), H', ⟨by have := HK1.out; omega⟩, ⟨by (with_reducible repeat (first | apply Kd.R_alloc | apply Kd.R_drewN | apply Kd.R_drew)); exact HO_0.out⟩, ⟨by repeat (first | (with_reducible first | exact HK.out | apply Kept.alloc | apply Kept.drewN | apply Kept.drew) | exact HK.out)⟩, ⟨pb HB⟩⟩
    ·rw [if_neg c4] at H
     exact absurd H (by simp)
   ·rw [if_neg c3] at H
    have c3b0 : decide (x5_1 < (x0_1.length : Int)) = false := decide_eq_false c3; clear c3; simp only [Option.some.injEq, Prod.mk.injEq] at H; obtain ⟨rfl, rfl⟩ := H; obtain ⟨Ao12, co12, eo12⟩ := Kd.R_slice HO_0.out; subst eo12
    go_wp2
    go_ret
    exact ⟨by first | rfl | (simp [errW_none, errW_some] <;> rfl) | (simp [*, errW_none, errW_some] <;> rfl), by (with_reducible repeat (first | apply Kd.R_alloc | apply Kd.R_drewN | apply Kd.R_drew)); exact HO_0.out, by repeat (first | (with_reducible first | exact HB.out | apply below_alloc | apply pw_below_drewN | apply below_drew1) | exact HB.out), by repeat (first | (with_reducible first | exact HK.out | apply Kept.alloc | apply Kept.drewN | apply Kept.drew) | exact HK.out)⟩
end Go.Proofs.Ytjpponjekcemjaa.PB
end
section
namespace Go.Proofs.Ytjpponjekcemjaa.PB
open Go.RowKit Go.Proofs.YtjpponjekcemjaaW.PrintWords Go.Proofs.YtjpponjekcemjaaW.PrintLast Go.Proofs.YtjpponjekcemjaaW.PrintMore Go.Proofs.Ytjpponjekcemjaa.La
attribute [local go_sem] max2_int min2_int max_two min_two max_three min_three max_four min_four   -- for this text's walks alone
set_option linter.unusedVariables false
set_option linter.unusedSimpArgs false
mutual
def laws_FnExactLeadAll.j0 : Nat → List (S29) → List (S29) → Int → List Int → Int → List (S39) → List (S39) → List Int → Int → Bool → Int → Int → LA 10 → Option (Bool)
 | 0, _, _, _, _, _, _, _, _, _, _, _, _, _ => none
 | k + 1, x1, x2, x3, x10, x11, x12, x13, x14, x15, x63, x482000, x482001, x482002 => if x63 = true then (some false) else ((laws_toFile.f k x1).bind fun t511 => ((laws_eqFile.f k x12 t511).bind fun t514 => (if t514 = true then ((laws_toSpotS.f k x2).bind fun t515 => ((laws_eqSpotS.f k x13 t515).bind fun t518 => (if t518 = true then ((laws_markFile.f k x12 1).bind fun bt519 => ((laws_markSpotS.f k x13 bt519.1).bind fun bt521 => (if bt521.1 < 0 then (laws_FnExactLeadAll.j1 k x1 x2 x3 x10 x11 x14 true x482000 x482001 x482002) else ((laws_eqInt64S.f k x14 x10).bind fun t523 => (if t523 = true then (laws_FnExactLeadAll.j1 k x1 x2 x3 x10 x11 x14 (x15 != x11) x482000 x482001 x482002) else (laws_FnExactLeadAll.j1 k x1 x2 x3 x10 x11 x14 true x482000 x482001 x482002)))))) else (some false)))) else (some false))))
def laws_FnExactLeadAll.j1 : Nat → List (S29) → List (S29) → Int → List Int → Int → List Int → Bool → Int → Int → LA 10 → Option (Bool)
 | 0, _, _, _, _, _, _, _, _, _, _ => none
 | k + 1, x1, x2, x3, x10, x11, x14, x92, x482000, x482001, x482002 => if x92 = true then (some false) else ((laws_markInt64S.f k x14 1).bind fun bt524 => ((laws_heldInt64S.f k bt524.2 1).bind fun t526 => (if t526 < 0 then (some false) else (if t526 = bt524.1 then ((laws_toRoom.f k x482000 x482001 x482002).bind fun bt527 => ((laws_toFile.f k x1).bind fun t530 => ((laws_toSpotS.f k x2).bind fun t533 => ((impl_LeadAll.f k bt527.1 bt527.2.1 bt527.2.2 t530 t533 x3).bind fun bt536 => ((laws_eqInt64S.f k bt536.1 x10).bind fun t540 => (if t540 = true then (laws_FnExactLeadAll.j2 k bt524.2 bt524.1 (bt536.2 != x11)) else (laws_FnExactLeadAll.j2 k bt524.2 bt524.1 true))))))) else (some false)))))
def laws_FnExactLeadAll.j2 : Nat → List Int → Int → Bool → Option (Bool)
 | 0, _, _, _ => none
 | k + 1, x14, x17, x123 => if x123 = true then (some false) else ((laws_heldInt64S.f k x14 1).bind fun t541 => (if t541 < 0 then (some false) else (if t541 = x17 then (some true) else (some false))))
end
def laws_FnExactLeadAll.f (k : Nat) (a0_0 : Int) (a0_1 : Int) (a0_2 : LA 10) (l1 : List (S29)) (l2 : List (S29)) (a3 : Int) : Option (Bool) := (laws_szFile.f l1 1048576).bind fun t482 => (if t482 < 0 then (some true) else ((laws_szSpotS.f l2 t482).bind fun t483 => (if t483 < 0 then (some true) else ((laws_toRoom.f k a0_0 a0_1 a0_2).bind fun bt484 => ((laws_toFile.f k l1).bind fun t487 => ((laws_toSpotS.f k l2).bind fun t490 => ((spec_LeadAll.f k bt484.1 bt484.2.1 bt484.2.2 t487 t490 a3).bind fun bt493 => ((laws_toFile.f k l1).bind fun t497 => ((laws_toSpotS.f k l2).bind fun t500 => ((laws_toRoom.f k a0_0 a0_1 a0_2).bind fun bt503 => ((impl_LeadAll.f k bt503.1 bt503.2.1 bt503.2.2 t497 t500 a3).bind fun bt506 => ((laws_eqInt64S.f k bt506.1 bt493.1).bind fun t510 => (if t510 = true then (laws_FnExactLeadAll.j0 k l1 l2 a3 bt493.1 bt493.2 t497 t500 bt506.1 bt506.2 (bt506.2 != bt493.2) a0_0 a0_1 a0_2) else (laws_FnExactLeadAll.j0 k l1 l2 a3 bt493.1 bt493.2 t497 t500 bt506.1 bt506.2 true a0_0 a0_1 a0_2))))))))))))))
theorem laws_FnExactLeadAll.mono_l : ∀ k, (∀ y0 y1 y2 y3 y4 y5 y6 y7 y8 y9 y10 y11 y12, LeO (laws_FnExactLeadAll.j0 k y0 y1 y2 y3 y4 y5 y6 y7 y8 y9 y10 y11 y12) (laws_FnExactLeadAll.j0 (k + 1) y0 y1 y2 y3 y4 y5 y6 y7 y8 y9 y10 y11 y12)) ∧ (∀ y0 y1 y2 y3 y4 y5 y6 y7 y8 y9, LeO (laws_FnExactLeadAll.j1 k y0 y1 y2 y3 y4 y5 y6 y7 y8 y9) (laws_FnExactLeadAll.j1 (k + 1) y0 y1 y2 y3 y4 y5 y6 y7 y8 y9)) ∧ (∀ y0 y1 y2, LeO (laws_FnExactLeadAll.j2 k y0 y1 y2) (laws_FnExactLeadAll.j2 (k + 1) y0 y1 y2))
 | 0 => ⟨fun _ _ _ _ _ _ _ _ _ _ _ _ _ r h => by simp [laws_FnExactLeadAll.j0] at h, fun _ _ _ _ _ _ _ _ _ _ r h => by simp [laws_FnExactLeadAll.j1] at h, fun _ _ _ r h => by simp [laws_FnExactLeadAll.j2] at h⟩
 | k + 1 => by
  obtain ⟨ih0, ih1, ih2⟩ := laws_FnExactLeadAll.mono_l k; refine ⟨?_, ?_, ?_⟩
  ·intro y0 y1 y2 y3 y4 y5 y6 y7 y8 y9 y10 y11 y12
   unfold laws_FnExactLeadAll.j0
   repeat' first
   | (with_reducible exact ih0 _ _ _ _ _ _ _ _ _ _ _ _ _)
   | (with_reducible exact ih1 _ _ _ _ _ _ _ _ _ _)
   | (with_reducible exact ih2 _ _ _)
   | (with_reducible exact impl_LeadAll.mono _ _ _ _ _ _ _)
   | (with_reducible exact laws_eqFile.mono _ _ _)
   | (with_reducible exact laws_eqInt64S.mono _ _ _)
   | (with_reducible exact laws_eqSpotS.mono _ _ _)
   | (with_reducible exact laws_heldInt64S.mono _ _ _)
   | (with_reducible exact laws_markFile.mono _ _ _)
   | (with_reducible exact laws_markInt64S.mono _ _ _)
   | (with_reducible exact laws_markSpotS.mono _ _ _)
   | (with_reducible exact laws_toFile.mono _ _)
   | (with_reducible exact laws_toRoom.mono _ _ _ _)
   | (with_reducible exact laws_toSpotS.mono _ _)
   | (with_reducible exact spec_LeadAll.mono _ _ _ _ _ _ _)
   | (with_reducible exact LeO.refl _)
   | (with_reducible exact LeO.none _)
   | (with_reducible refine LeO.ite ?_ ?_)
   | (with_reducible refine LeO.bind ?_ (fun _ => ?_))
   | exact ih0 _ _ _ _ _ _ _ _ _ _ _ _ _
   | exact ih1 _ _ _ _ _ _ _ _ _ _
   | exact ih2 _ _ _
   | exact impl_LeadAll.mono _ _ _ _ _ _ _
   | exact laws_eqFile.mono _ _ _
   | exact laws_eqInt64S.mono _ _ _
   | exact laws_eqSpotS.mono _ _ _
   | exact laws_heldInt64S.mono _ _ _
   | exact laws_markFile.mono _ _ _
   | exact laws_markInt64S.mono _ _ _
   | exact laws_markSpotS.mono _ _ _
   | exact laws_toFile.mono _ _
   | exact laws_toRoom.mono _ _ _ _
   | exact laws_toSpotS.mono _ _
   | exact spec_LeadAll.mono _ _ _ _ _ _ _
   | exact LeO.none _
   | refine LeO.ite ?_ ?_
   | refine LeO.bind ?_ (fun _ => ?_)
  ·intro y0 y1 y2 y3 y4 y5 y6 y7 y8 y9
   unfold laws_FnExactLeadAll.j1
   repeat' first
   | (with_reducible exact ih0 _ _ _ _ _ _ _ _ _ _ _ _ _)
   | (with_reducible exact ih1 _ _ _ _ _ _ _ _ _ _)
   | (with_reducible exact ih2 _ _ _)
   | (with_reducible exact impl_LeadAll.mono _ _ _ _ _ _ _)
   | (with_reducible exact laws_eqFile.mono _ _ _)
   | (with_reducible exact laws_eqInt64S.mono _ _ _)
   | (with_reducible exact laws_eqSpotS.mono _ _ _)
   | (with_reducible exact laws_heldInt64S.mono _ _ _)
   | (with_reducible exact laws_markFile.mono _ _ _)
   | (with_reducible exact laws_markInt64S.mono _ _ _)
   | (with_reducible exact laws_markSpotS.mono _ _ _)
   | (with_reducible exact laws_toFile.mono _ _)
   | (with_reducible exact laws_toRoom.mono _ _ _ _)
   | (with_reducible exact laws_toSpotS.mono _ _)
   | (with_reducible exact spec_LeadAll.mono _ _ _ _ _ _ _)
   | (with_reducible exact LeO.refl _)
   | (with_reducible exact LeO.none _)
   | (with_reducible refine LeO.ite ?_ ?_)
   | (with_reducible refine LeO.bind ?_ (fun _ => ?_))
   | exact ih0 _ _ _ _ _ _ _ _ _ _ _ _ _
   | exact ih1 _ _ _ _ _ _ _ _ _ _
   | exact ih2 _ _ _
   | exact impl_LeadAll.mono _ _ _ _ _ _ _
   | exact laws_eqFile.mono _ _ _
   | exact laws_eqInt64S.mono _ _ _
   | exact laws_eqSpotS.mono _ _ _
   | exact laws_heldInt64S.mono _ _ _
   | exact laws_markFile.mono _ _ _
   | exact laws_markInt64S.mono _ _ _
   | exact laws_markSpotS.mono _ _ _
   | exact laws_toFile.mono _ _
   | exact laws_toRoom.mono _ _ _ _
   | exact laws_toSpotS.mono _ _
   | exact spec_LeadAll.mono _ _ _ _ _ _ _
   | exact LeO.none _
   | refine LeO.ite ?_ ?_
   | refine LeO.bind ?_ (fun _ => ?_)
  ·intro y0 y1 y2
   unfold laws_FnExactLeadAll.j2
   repeat' first
   | (with_reducible exact ih0 _ _ _ _ _ _ _ _ _ _ _ _ _)
   | (with_reducible exact ih1 _ _ _ _ _ _ _ _ _ _)
   | (with_reducible exact ih2 _ _ _)
   | (with_reducible exact impl_LeadAll.mono _ _ _ _ _ _ _)
   | (with_reducible exact laws_eqFile.mono _ _ _)
   | (with_reducible exact laws_eqInt64S.mono _ _ _)
   | (with_reducible exact laws_eqSpotS.mono _ _ _)
   | (with_reducible exact laws_heldInt64S.mono _ _ _)
   | (with_reducible exact laws_markFile.mono _ _ _)
   | (with_reducible exact laws_markInt64S.mono _ _ _)
   | (with_reducible exact laws_markSpotS.mono _ _ _)
   | (with_reducible exact laws_toFile.mono _ _)
   | (with_reducible exact laws_toRoom.mono _ _ _ _)
   | (with_reducible exact laws_toSpotS.mono _ _)
   | (with_reducible exact spec_LeadAll.mono _ _ _ _ _ _ _)
   | (with_reducible exact LeO.refl _)
   | (with_reducible exact LeO.none _)
   | (with_reducible refine LeO.ite ?_ ?_)
   | (with_reducible refine LeO.bind ?_ (fun _ => ?_))
   | exact ih0 _ _ _ _ _ _ _ _ _ _ _ _ _
   | exact ih1 _ _ _ _ _ _ _ _ _ _
   | exact ih2 _ _ _
   | exact impl_LeadAll.mono _ _ _ _ _ _ _
   | exact laws_eqFile.mono _ _ _
   | exact laws_eqInt64S.mono _ _ _
   | exact laws_eqSpotS.mono _ _ _
   | exact laws_heldInt64S.mono _ _ _
   | exact laws_markFile.mono _ _ _
   | exact laws_markInt64S.mono _ _ _
   | exact laws_markSpotS.mono _ _ _
   | exact laws_toFile.mono _ _
   | exact laws_toRoom.mono _ _ _ _
   | exact laws_toSpotS.mono _ _
   | exact spec_LeadAll.mono _ _ _ _ _ _ _
   | exact LeO.none _
   | refine LeO.ite ?_ ?_
   | refine LeO.bind ?_ (fun _ => ?_)
theorem laws_FnExactLeadAll.mono : ∀ a0 a1 a2 a3 a4 a5 k, LeO (laws_FnExactLeadAll.f k a0 a1 a2 a3 a4 a5) (laws_FnExactLeadAll.f (k + 1) a0 a1 a2 a3 a4 a5) := by
 intro a0 a1 a2 a3 a4 a5 k
 obtain ⟨ih0, ih1, ih2⟩ := laws_FnExactLeadAll.mono_l k
 unfold laws_FnExactLeadAll.f
 repeat' first
   | (with_reducible exact ih0 _ _ _ _ _ _ _ _ _ _ _ _ _)
   | (with_reducible exact ih1 _ _ _ _ _ _ _ _ _ _)
   | (with_reducible exact ih2 _ _ _)
   | (with_reducible exact impl_LeadAll.mono _ _ _ _ _ _ _)
   | (with_reducible exact laws_eqFile.mono _ _ _)
   | (with_reducible exact laws_eqInt64S.mono _ _ _)
   | (with_reducible exact laws_eqSpotS.mono _ _ _)
   | (with_reducible exact laws_heldInt64S.mono _ _ _)
   | (with_reducible exact laws_markFile.mono _ _ _)
   | (with_reducible exact laws_markInt64S.mono _ _ _)
   | (with_reducible exact laws_markSpotS.mono _ _ _)
   | (with_reducible exact laws_toFile.mono _ _)
   | (with_reducible exact laws_toRoom.mono _ _ _ _)
   | (with_reducible exact laws_toSpotS.mono _ _)
   | (with_reducible exact spec_LeadAll.mono _ _ _ _ _ _ _)
   | (with_reducible exact LeO.refl _)
   | (with_reducible exact LeO.none _)
   | (with_reducible refine LeO.ite ?_ ?_)
   | (with_reducible refine LeO.bind ?_ (fun _ => ?_))
   | exact ih0 _ _ _ _ _ _ _ _ _ _ _ _ _
   | exact ih1 _ _ _ _ _ _ _ _ _ _
   | exact ih2 _ _ _
   | exact impl_LeadAll.mono _ _ _ _ _ _ _
   | exact laws_eqFile.mono _ _ _
   | exact laws_eqInt64S.mono _ _ _
   | exact laws_eqSpotS.mono _ _ _
   | exact laws_heldInt64S.mono _ _ _
   | exact laws_markFile.mono _ _ _
   | exact laws_markInt64S.mono _ _ _
   | exact laws_markSpotS.mono _ _ _
   | exact laws_toFile.mono _ _
   | exact laws_toRoom.mono _ _ _ _
   | exact laws_toSpotS.mono _ _
   | exact spec_LeadAll.mono _ _ _ _ _ _ _
   | exact LeO.none _
   | refine LeO.ite ?_ ?_
   | refine LeO.bind ?_ (fun _ => ?_)
set_option maxHeartbeats 8000000 in
set_option maxRecDepth 100000 in
theorem laws_FnExactLeadAll.calls (k : Nat) (a0_0 : Int) (a0_1 : Int) (a0_2 : LA 10) (A1 : Option Addr) (c1 : Nat) (l1 : List (S29)) (A2 : Option Addr) (c2 : Nat) (l2 : List (S29)) (a3 : Int) (r : Bool) (w : World) (hr1 : Kd.C k29 w A1 l1.length l1) (hc1 : l1.length ≤ c1) (hr2 : Kd.C k29 w A2 l2.length l2) (hc2 : l2.length ≤ c2) (h : laws_FnExactLeadAll.f k a0_0 a0_1 a0_2 l1 l2 a3 = some r) :
  Calls Try.prog 4 #[.agg (mixA (Value.int .u16) [.int .i8 a0_0, .int .i8 a0_1] a0_2), .slice A1 l1.length c1, .slice A2 l2.length c2, .int .i64 a3] w fun e w' => e = .returned (.bool r) ∧ Below w.heap.size w w' := by
 have hu26 := Try.underlying26
 have HR1 := Aside0.mk hr1
 have HC1 := Aside0.mk hc1
 clear hr1 hc1
 have HR2 := Aside0.mk hr2
 have HC2 := Aside0.mk hc2
 clear hr2 hc2
 have HB := Aside0.mk (Below.refl w.heap.size w)
 have H : ((laws_szFile.f l1 1048576).bind fun t482 => (if t482 < 0 then (some true) else ((laws_szSpotS.f l2 t482).bind fun t483 => (if t483 < 0 then (some true) else ((laws_toRoom.f k a0_0 a0_1 a0_2).bind fun bt484 => ((laws_toFile.f k l1).bind fun t487 => ((laws_toSpotS.f k l2).bind fun t490 => ((spec_LeadAll.f k bt484.1 bt484.2.1 bt484.2.2 t487 t490 a3).bind fun bt493 => ((laws_toFile.f k l1).bind fun t497 => ((laws_toSpotS.f k l2).bind fun t500 => ((laws_toRoom.f k a0_0 a0_1 a0_2).bind fun bt503 => ((impl_LeadAll.f k bt503.1 bt503.2.1 bt503.2.2 t497 t500 a3).bind fun bt506 => ((laws_eqInt64S.f k bt506.1 bt493.1).bind fun t510 => (if t510 = true then (laws_FnExactLeadAll.j0 k l1 l2 a3 bt493.1 bt493.2 t497 t500 bt506.1 bt506.2 (bt506.2 != bt493.2) a0_0 a0_1 a0_2) else (laws_FnExactLeadAll.j0 k l1 l2 a3 bt493.1 bt493.2 t497 t500 bt506.1 bt506.2 true a0_0 a0_1 a0_2))))))))))))))) = some r := h
 clear h
 obtain ⟨t482, A5, H⟩ := obn H
 by_cases c6 : t482 < 0
 ·rw [if_pos c6] at H
  have c6b0 : decide (t482 < 0) = true := decide_eq_true c6; clear c6; obtain rfl := Option.some.inj H
  go_enter Try.func4, Try.ntmps4
  go_wp2_with (first | ((with_reducible refine gate_dst (N := 4) rfl ?_); refine box_event ?hg (N := 4) ?hd (cs := (mixA (Value.int .u16) [.int .i8 a0_0, .int .i8 a0_1] a0_2)) (t := 26) ?hr ?_; (case hd => rfl); (case hg => rfl); (case hr => first | (go_simp; done) | (go_simp; rfl)); intro gb481 hg w7 hbox hb; have n0_ := bst HB hb; have n1_ := Aside0.mk (hbox); have n2_ := gwl HB hg; have n3_ := gwl HB hg; clear HB; have HB := n0_; have BK481 := n1_; have GW481 := n2_; have GE481 := n3_; clear n0_ n1_ n2_ n3_; clear hb hbox hg) | ((with_reducible refine gate_callee (f := 6) rfl ?_); refine gl (some 23) Try.func6 #[.slice A1 l1.length c1, .int .i64 1048576] ?_; (with_reducible refine (laws_szFile.calls _ _ l1 1048576 t482 _ ?side1 ?side2 A5.out).mono ?_); (case side1 => repeat (first | exact (Kd.C_below HR1.out HB.out) | (with_reducible refine Kd.C_alloc ?_ _) | (with_reducible refine Kd.C_drewN ?_ _) | (with_reducible refine Kd.C_drew ?_))); (case side2 => exact HC1.out); rintro e w' ⟨rfl, ⟨nd, rfl⟩⟩; refine ⟨_, rfl, ?_⟩))
  go_ret
  exact ⟨by first | rfl | (simp [errW_none, errW_some] <;> rfl) | (simp [*, errW_none, errW_some] <;> rfl), pbs HB⟩
 ·rw [if_neg c6] at H
  have c6b0 : decide (t482 < 0) = false := decide_eq_false c6; clear c6; obtain ⟨t483, A8, H⟩ := obn H
  by_cases c9 : t483 < 0
  ·rw [if_pos c9] at H
   have c9b0 : decide (t483 < 0) = true := decide_eq_true c9; clear c9; obtain rfl := Option.some.inj H
   go_enter Try.func4, Try.ntmps4
   go_wp2_with (first | ((with_reducible refine gate_dst (N := 4) rfl ?_); refine box_event ?hg (N := 4) ?hd (cs := (mixA (Value.int .u16) [.int .i8 a0_0, .int .i8 a0_1] a0_2)) (t := 26) ?hr ?_; (case hd => rfl); (case hg => rfl); (case hr => first | (go_simp; done) | (go_simp; rfl)); intro gb481 hg w10 hbox hb; have n0_ := bst HB hb; have n1_ := Aside0.mk (hbox); have n2_ := gwl HB hg; have n3_ := gwl HB hg; clear HB; have HB := n0_; have BK481 := n1_; have GW481 := n2_; have GE481 := n3_; clear n0_ n1_ n2_ n3_; clear hb hbox hg) | ((with_reducible refine gate_callee (f := 6) rfl ?_); refine gl (some 23) Try.func6 #[.slice A1 l1.length c1, .int .i64 1048576] ?_; (with_reducible refine (laws_szFile.calls _ _ l1 1048576 t482 _ ?side1 ?side2 A5.out).mono ?_); (case side1 => repeat (first | exact (Kd.C_below HR1.out HB.out) | (with_reducible refine Kd.C_alloc ?_ _) | (with_reducible refine Kd.C_drewN ?_ _) | (with_reducible refine Kd.C_drew ?_))); (case side2 => exact HC1.out); rintro e w' ⟨rfl, ⟨nd, rfl⟩⟩; refine ⟨_, rfl, ?_⟩) | ((with_reducible refine gate_callee (f := 17) rfl ?_); refine gl (some 28) Try.func17 #[.slice A2 l2.length c2, .int .i64 t482] ?_; (with_reducible refine (laws_szSpotS.calls _ _ l2 t482 t483 _ ?side1 ?side2 A8.out).mono ?_); (case side1 => repeat (first | exact (Kd.C_below HR2.out (pbs HB)) | (with_reducible refine Kd.C_alloc ?_ _) | (with_reducible refine Kd.C_drewN ?_ _) | (with_reducible refine Kd.C_drew ?_))); (case side2 => exact HC2.out); rintro e w' ⟨rfl, ⟨nd, rfl⟩⟩; refine ⟨_, rfl, ?_⟩))
   go_ret
   exact ⟨by first | rfl | (simp [errW_none, errW_some] <;> rfl) | (simp [*, errW_none, errW_some] <;> rfl), pbs HB⟩
  ·rw [if_neg c9] at H
   have c9b0 : decide (t483 < 0) = false := decide_eq_false c9; clear c9; replace H := Option.bind_eq_some_iff.mp H; obtain ⟨⟨t484, t485, t486⟩, A110, H⟩ := H; replace H : ((laws_toFile.f k l1).bind fun t487 => ((laws_toSpotS.f k l2).bind fun t490 => ((spec_LeadAll.f k t484 t485 t486 t487 t490 a3).bind fun bt493 => ((laws_toFile.f k l1).bind fun t497 => ((laws_toSpotS.f k l2).bind fun t500 => ((laws_toRoom.f k a0_0 a0_1 a0_2).bind fun bt503 => ((impl_LeadAll.f k bt503.1 bt503.2.1 bt503.2.2 t497 t500 a3).bind fun bt506 => ((laws_eqInt64S.f k bt506.1 bt493.1).bind fun t510 => (if t510 = true then (laws_FnExactLeadAll.j0 k l1 l2 a3 bt493.1 bt493.2 t497 t500 bt506.1 bt506.2 (bt506.2 != bt493.2) a0_0 a0_1 a0_2) else (laws_FnExactLeadAll.j0 k l1 l2 a3 bt493.1 bt493.2 t497 t500 bt506.1 bt506.2 true a0_0 a0_1 a0_2)))))))))) = some r := H; have A11 := Aside0.mk A110; clear A110; obtain ⟨t487, A12, H⟩ := obn H; obtain ⟨t490, A13, H⟩ := obn H; replace H := Option.bind_eq_some_iff.mp H; obtain ⟨⟨t493, t496⟩, A140, H⟩ := H; replace H : ((laws_toFile.f k l1).bind fun t497 => ((laws_toSpotS.f k l2).bind fun t500 => ((laws_toRoom.f k a0_0 a0_1 a0_2).bind fun bt503 => ((impl_LeadAll.f k bt503.1 bt503.2.1 bt503.2.2 t497 t500 a3).bind fun bt506 => ((laws_eqInt64S.f k bt506.1 t493).bind fun t510 => (if t510 = true then (laws_FnExactLeadAll.j0 k l1 l2 a3 t493 t496 t497 t500 bt506.1 bt506.2 (bt506.2 != t496) a0_0 a0_1 a0_2) else (laws_FnExactLeadAll.j0 k l1 l2 a3 t493 t496 t497 t500 bt506.1 bt506.2 true a0_0 a0_1 a0_2))))))) = some r := H; have A14 := Aside0.mk A140; clear A140; obtain ⟨t497, A15, H⟩ := obn H; obtain ⟨t500, A16, H⟩ := obn H; replace H := Option.bind_eq_some_iff.mp H; obtain ⟨⟨t503, t504, t505⟩, A170, H⟩ := H; replace H : ((impl_LeadAll.f k t503 t504 t505 t497 t500 a3).bind fun bt506 => ((laws_eqInt64S.f k bt506.1 t493).bind fun t510 => (if t510 = true then (laws_FnExactLeadAll.j0 k l1 l2 a3 t493 t496 t497 t500 bt506.1 bt506.2 (bt506.2 != t496) a0_0 a0_1 a0_2) else (laws_FnExactLeadAll.j0 k l1 l2 a3 t493 t496 t497 t500 bt506.1 bt506.2 true a0_0 a0_1 a0_2)))) = some r := H; have A17 := Aside0.mk A170; clear A170; replace H := Option.bind_eq_some_iff.mp H; obtain ⟨⟨t506, t509⟩, A180, H⟩ := H; replace H : ((laws_eqInt64S.f k t506 t493).bind fun t510 => (if t510 = true then (laws_FnExactLeadAll.j0 k l1 l2 a3 t493 t496 t497 t500 t506 t509 (t509 != t496) a0_0 a0_1 a0_2) else (laws_FnExactLeadAll.j0 k l1 l2 a3 t493 t496 t497 t500 t506 t509 true a0_0 a0_1 a0_2))) = some r := H; have A18 := Aside0.mk A180; clear A180; have HC19 := Aside0.mk H; clear H
   go_enter Try.func4, Try.ntmps4
   go_upto_region 12 with (first | ((with_reducible refine gate_dst (N := 4) rfl ?_); refine box_event ?hg (N := 4) ?hd (cs := (mixA (Value.int .u16) [.int .i8 a0_0, .int .i8 a0_1] a0_2)) (t := 26) ?hr ?_; (case hd => rfl); (case hg => rfl); (case hr => first | (go_simp; done) | (go_simp; rfl)); intro gb481 hg w20 hbox hb; have n0_ := bst HB hb; have n1_ := Aside0.mk (hbox); have n2_ := gwl HB hg; have n3_ := gwl HB hg; clear HB; have HB := n0_; have BK481 := n1_; have GW481 := n2_; have GE481 := n3_; clear n0_ n1_ n2_ n3_; clear hb hbox hg) | ((with_reducible refine gate_callee (f := 6) rfl ?_); refine gl (some 23) Try.func6 #[.slice A1 l1.length c1, .int .i64 1048576] ?_; (with_reducible refine (laws_szFile.calls _ _ l1 1048576 t482 _ ?side1 ?side2 A5.out).mono ?_); (case side1 => repeat (first | exact (Kd.C_below HR1.out HB.out) | (with_reducible refine Kd.C_alloc ?_ _) | (with_reducible refine Kd.C_drewN ?_ _) | (with_reducible refine Kd.C_drew ?_))); (case side2 => exact HC1.out); rintro e w' ⟨rfl, ⟨nd, rfl⟩⟩; refine ⟨_, rfl, ?_⟩) | ((with_reducible refine gate_callee (f := 17) rfl ?_); refine gl (some 28) Try.func17 #[.slice A2 l2.length c2, .int .i64 t482] ?_; (with_reducible refine (laws_szSpotS.calls _ _ l2 t482 t483 _ ?side1 ?side2 A8.out).mono ?_); (case side1 => repeat (first | exact (Kd.C_below HR2.out (pbs HB)) | (with_reducible refine Kd.C_alloc ?_ _) | (with_reducible refine Kd.C_drewN ?_ _) | (with_reducible refine Kd.C_drew ?_))); (case side2 => exact HC2.out); rintro e w' ⟨rfl, ⟨nd, rfl⟩⟩; refine ⟨_, rfl, ?_⟩) | ((with_reducible refine gate_dst (N := 32) rfl ?_); refine wpList_run0 (v := .agg (mixA (Value.int .u16) [.int .i8 a0_0, .int .i8 a0_1] a0_2)) rfl (load_mix_run (P := Try.prog) 26 (.tmp 4) rfl gb481 rfl (show World.rangeAt _ gb481 0 ([.int .i8 a0_0, .int .i8 a0_1] ++ a0_2.l.map (Value.int .u16)) from mix_range (show (World.heap _)[gb481]? = some (.cells (mixA (Value.int .u16) [.int .i8 a0_0, .int .i8 a0_1] a0_2) 26 (0, 0)) from by (with_reducible repeat (first | refine blk_drewN ?_ _ | refine blk_drew ?_ | refine blk_alloc ?_ _)); exact BK481.out)) Try.underlying26 rfl (by kernel_rfl) rfl) ?_) | ((with_reducible refine gate_callee (f := 8) rfl ?_); refine gl (some 33) Try.func8 #[.agg (mixA (Value.int .u16) [.int .i8 a0_0, .int .i8 a0_1] a0_2)] ?_; (with_reducible refine (laws_toRoom.calls k a0_0 a0_1 a0_2 t484 t485 t486 _ A11.out).mono ?_); rintro e w22 ⟨rfl, hb⟩; refine ⟨_, rfl, ?_⟩; replace BK481 := bkb BK481 hb; replace HB := bst HB hb; (try clear hb); (try clear hb2); (try clear hk); (try clear hi)) | ((with_reducible refine gate_callee (f := 9) rfl ?_); refine gl (some 35) Try.func9 #[.slice A1 l1.length c1] ?_; (with_reducible refine (laws_toFile.calls k _ _ l1 t487 _ ?side1 ?side2 A12.out).mono ?_); (case side1 => repeat (first | exact (Kd.C_below HR1.out HB.out) | (with_reducible refine Kd.C_alloc ?_ _) | (with_reducible refine Kd.C_drewN ?_ _) | (with_reducible refine Kd.C_drew ?_))); (case side2 => exact HC1.out); rintro e w23 ⟨v488, rfl, ho0, hb⟩; refine ⟨_, rfl, ?_⟩; have HO489 := Aside0.mk (Kd.R_lower ho0 (below_size (by repeat (first | (with_reducible first | exact HB.out | apply below_alloc | apply pw_below_drewN | apply below_drew1 | refine below_set ?_ GE481.out) | exact HB.out)))); replace BK481 := bkb BK481 hb; replace HB := bst HB hb; (try clear hb); (try clear hb2); (try clear hk); (try clear hi); (try clear ho0)) | ((with_reducible refine gate_callee (f := 19) rfl ?_); refine gl (some 37) Try.func19 #[.slice A2 l2.length c2] ?_; (with_reducible refine (laws_toSpotS.calls k _ _ l2 t490 _ ?side1 ?side2 A13.out).mono ?_); (case side1 => repeat (first | exact (Kd.C_below HR2.out HB.out) | (with_reducible refine Kd.C_alloc ?_ _) | (with_reducible refine Kd.C_drewN ?_ _) | (with_reducible refine Kd.C_drew ?_))); (case side2 => exact HC2.out); rintro e w24 ⟨v491, rfl, ho0, hb⟩; refine ⟨_, rfl, ?_⟩; have n0_ := Aside0.mk (Kd.R_elder' (by (with_reducible repeat (first | apply Kd.R_alloc | apply Kd.R_drewN | apply Kd.R_drew)); exact HO489.out) (Kd.R_base ho0) hb); have n1_ := Aside0.mk (Kd.R_lower (Kd.R_new' ho0 (Kd.R_lt (by (with_reducible repeat (first | apply Kd.R_alloc | apply Kd.R_drewN | apply Kd.R_drew)); exact HO489.out))) (below_size (by repeat (first | (with_reducible first | exact HB.out | apply below_alloc | apply pw_below_drewN | apply below_drew1 | refine below_set ?_ GE481.out) | exact HB.out)))); have n2_ := bkb BK481 hb; have n3_ := bst HB hb; clear HO489; clear BK481; clear HB; have HO489 := n0_; have HO492 := n1_; have BK481 := n2_; have HB := n3_; clear n0_ n1_ n2_ n3_; (try clear hb); (try clear hb2); (try clear hk); (try clear hi); (try clear ho0); obtain ⟨Ao25, co25, eo25⟩ := Kd.R_slice HO489.out; subst eo25; obtain ⟨Ao26, co26, eo26⟩ := Kd.R_slice HO492.out; subst eo26) | ((with_reducible refine gate_callee (f := 18) rfl ?_); refine gl (some 39) Try.func18 #[.agg (mixA (Value.int .u16) [.int .i8 t484, .int .i8 t485] t486), .slice Ao25 t487.length co25, .slice Ao26 t490.length co26, .int .i64 a3] ?_; (with_reducible refine (spec_LeadAll.calls k t484 t485 t486 (fun k_ => some k_ = (.slice Ao25 t487.length co25 : Value).ownBlock) _ _ t487 _ _ t490 a3 t493 t496 _ ?side1 ?side2 ?side3 A14.out).mono ?_); (case side1 => exact Kd.R_V (Kd.R_tight rfl (Kd.R_types (HO489.out) BK481.out (by decide)))); (case side2 => repeat (first | exact (Kd.R_reads' HO492.out).2.2 | (with_reducible refine Kd.C_alloc ?_ _) | (with_reducible refine Kd.C_drewN ?_ _) | (with_reducible refine Kd.C_drew ?_))); (case side3 => exact (Kd.R_reads' HO492.out).2.1); rintro e w27 ⟨v494, rfl, ho0, hb⟩; refine ⟨_, rfl, ?_⟩; replace HO489 := krb HO489 hb; replace HO492 := krb HO492 hb; have HO495 := Aside0.mk (Kd.R_lower (Kd.R_mono (ok' := fun k_ => True) ho0 (fun _ hk_ => trivial)) (below_size (by repeat (first | (with_reducible first | exact HB.out | apply below_alloc | apply pw_below_drewN | apply below_drew1 | refine below_set ?_ GE481.out) | exact HB.out)))); replace BK481 := bkb BK481 hb; replace HB := bst HB hb; (try clear hb); (try clear hb2); (try clear hk); (try clear hi); (try clear ho0)) | ((with_reducible refine gate_callee (f := 9) rfl ?_); refine gl (some 43) Try.func9 #[.slice A1 l1.length c1] ?_; (with_reducible refine (laws_toFile.calls k _ _ l1 t497 _ ?side1 ?side2 A15.out).mono ?_); (case side1 => repeat (first | exact (Kd.C_below HR1.out HB.out) | (with_reducible refine Kd.C_alloc ?_ _) | (with_reducible refine Kd.C_drewN ?_ _) | (with_reducible refine Kd.C_drew ?_))); (case side2 => exact HC1.out); rintro e w28 ⟨v498, rfl, ho0, hb⟩; refine ⟨_, rfl, ?_⟩; have n0_ := Aside0.mk (Kd.R_elder' (by (with_reducible repeat (first | apply Kd.R_alloc | apply Kd.R_drewN | apply Kd.R_drew)); exact HO489.out) (Kd.R_base ho0) hb); have n1_ := Aside0.mk (Kd.R_elder' (by (with_reducible repeat (first | apply Kd.R_alloc | apply Kd.R_drewN | apply Kd.R_drew)); exact HO492.out) (Kd.R_base ho0) hb); have n2_ := krb HO495 hb; have n3_ := Aside0.mk (Kd.R_lower (Kd.R_new' (Kd.R_new' ho0 (Kd.R_lt (by (with_reducible repeat (first | apply Kd.R_alloc | apply Kd.R_drewN | apply Kd.R_drew)); exact HO489.out))) (Kd.R_lt (by (with_reducible repeat (first | apply Kd.R_alloc | apply Kd.R_drewN | apply Kd.R_drew)); exact HO492.out))) (below_size (by repeat (first | (with_reducible first | exact HB.out | apply below_alloc | apply pw_below_drewN | apply below_drew1 | refine below_set ?_ GE481.out) | exact HB.out)))); have n4_ := bkb BK481 hb; have n5_ := bst HB hb; clear HO489; clear HO492; clear HO495; clear BK481; clear HB; have HO489 := n0_; have HO492 := n1_; have HO495 := n2_; have HO499 := n3_; have BK481 := n4_; have HB := n5_; clear n0_ n1_ n2_ n3_ n4_ n5_; (try clear hb); (try clear hb2); (try clear hk); (try clear hi); (try clear ho0)) | ((with_reducible refine gate_callee (f := 19) rfl ?_); refine gl (some 45) Try.func19 #[.slice A2 l2.length c2] ?_; (with_reducible refine (laws_toSpotS.calls k _ _ l2 t500 _ ?side1 ?side2 A16.out).mono ?_); (case side1 => repeat (first | exact (Kd.C_below HR2.out HB.out) | (with_reducible refine Kd.C_alloc ?_ _) | (with_reducible refine Kd.C_drewN ?_ _) | (with_reducible refine Kd.C_drew ?_))); (case side2 => exact HC2.out); rintro e w29 ⟨v501, rfl, ho0, hb⟩; refine ⟨_, rfl, ?_⟩; have n0_ := Aside0.mk (Kd.R_elder' (by (with_reducible repeat (first | apply Kd.R_alloc | apply Kd.R_drewN | apply Kd.R_drew)); exact HO489.out) (Kd.R_base ho0) hb); have n1_ := Aside0.mk (Kd.R_elder' (by (with_reducible repeat (first | apply Kd.R_alloc | apply Kd.R_drewN | apply Kd.R_drew)); exact HO492.out) (Kd.R_base ho0) hb); have n2_ := krb HO495 hb; have n3_ := Aside0.mk (Kd.R_elder' (by (with_reducible repeat (first | apply Kd.R_alloc | apply Kd.R_drewN | apply Kd.R_drew)); exact HO499.out) (Kd.R_base ho0) hb); have n4_ := Aside0.mk (Kd.R_lower (Kd.R_new' (Kd.R_new' (Kd.R_new' ho0 (Kd.R_lt (by (with_reducible repeat (first | apply Kd.R_alloc | apply Kd.R_drewN | apply Kd.R_drew)); exact HO489.out))) (Kd.R_lt (by (with_reducible repeat (first | apply Kd.R_alloc | apply Kd.R_drewN | apply Kd.R_drew)); exact HO492.out))) (Kd.R_lt (by (with_reducible repeat (first | apply Kd.R_alloc | apply Kd.R_drewN | apply Kd.R_drew)); exact HO499.out))) (below_size (by repeat (first | (with_reducible first | exact HB.out | apply below_alloc | apply pw_below_drewN | apply below_drew1 | refine below_set ?_ GE481.out) | exact HB.out)))); have n5_ := bkb BK481 hb; have n6_ := bst HB hb; clear HO489; clear HO492; clear HO495; clear HO499; clear BK481; clear HB; have HO489 := n0_; have HO492 := n1_; have HO495 := n2_; have HO499 := n3_; have HO502 := n4_; have BK481 := n5_; have HB := n6_; clear n0_ n1_ n2_ n3_ n4_ n5_ n6_; (try clear hb); (try clear hb2); (try clear hk); (try clear hi); (try clear ho0)) | ((with_reducible refine gate_dst (N := 47) rfl ?_); refine wpList_run0 (v := .agg (mixA (Value.int .u16) [.int .i8 a0_0, .int .i8 a0_1] a0_2)) rfl (load_mix_run (P := Try.prog) 26 (.tmp 4) rfl gb481 rfl (show World.rangeAt _ gb481 0 ([.int .i8 a0_0, .int .i8 a0_1] ++ a0_2.l.map (Value.int .u16)) from mix_range (show (World.heap _)[gb481]? = some (.cells (mixA (Value.int .u16) [.int .i8 a0_0, .int .i8 a0_1] a0_2) 26 (0, 0)) from by (with_reducible repeat (first | refine blk_drewN ?_ _ | refine blk_drew ?_ | refine blk_alloc ?_ _)); exact BK481.out)) Try.underlying26 rfl (by kernel_rfl) rfl) ?_) | ((with_reducible refine gate_callee (f := 8) rfl ?_); refine gl (some 48) Try.func8 #[.agg (mixA (Value.int .u16) [.int .i8 a0_0, .int .i8 a0_1] a0_2)] ?_; (with_reducible refine (laws_toRoom.calls k a0_0 a0_1 a0_2 t503 t504 t505 _ A17.out).mono ?_); rintro e w31 ⟨rfl, hb⟩; refine ⟨_, rfl, ?_⟩; replace HO489 := krb HO489 hb; replace HO492 := krb HO492 hb; replace HO495 := krb HO495 hb; replace HO499 := krb HO499 hb; replace HO502 := krb HO502 hb; replace BK481 := bkb BK481 hb; replace HB := bst HB hb; (try clear hb); (try clear hb2); (try clear hk); (try clear hi); obtain ⟨Ao32, co32, eo32⟩ := Kd.R_slice HO499.out; subst eo32; obtain ⟨Ao33, co33, eo33⟩ := Kd.R_slice HO502.out; subst eo33) | ((with_reducible refine gate_callee (f := 20) rfl ?_); refine gl (some 52) Try.func20 #[.agg (mixA (Value.int .u16) [.int .i8 t503, .int .i8 t504] t505), .slice Ao32 t497.length co32, .slice Ao33 t500.length co33, .int .i64 a3] ?_; (with_reducible refine (impl_LeadAll.calls k t503 t504 t505 (fun k_ => some k_ = (.slice Ao32 t497.length co32 : Value).ownBlock) _ _ t497 _ _ t500 a3 t506 t509 _ ?side1 ?side2 ?side3 A18.out).mono ?_); (case side1 => exact Kd.R_V (Kd.R_tight rfl (Kd.R_types (Kd.R_apart' (HO499.out) (Kd.R_typed HO495.out) (by decide)) BK481.out (by decide)))); (case side2 => repeat (first | exact (Kd.R_reads' HO502.out).2.2 | (with_reducible refine Kd.C_alloc ?_ _) | (with_reducible refine Kd.C_drewN ?_ _) | (with_reducible refine Kd.C_drew ?_))); (case side3 => exact (Kd.R_reads' HO502.out).2.1); rintro e w34 ⟨v507, rfl, ho0, hb⟩; refine ⟨_, rfl, ?_⟩; have n0_ := krb HO489 hb; have n1_ := krb HO492 hb; have n2_ := Aside0.mk (Kd.R_elder' (by (with_reducible repeat (first | apply Kd.R_alloc | apply Kd.R_drewN | apply Kd.R_drew)); exact HO495.out) (Kd.R_base ho0) hb); have n3_ := krb HO499 hb; have n4_ := krb HO502 hb; have n5_ := Aside0.mk (Kd.R_lower (Kd.R_new' (Kd.R_mono (ok' := fun k_ => True) ho0 (fun _ hk_ => trivial)) (Kd.R_lt (by (with_reducible repeat (first | apply Kd.R_alloc | apply Kd.R_drewN | apply Kd.R_drew)); exact HO495.out))) (below_size (by repeat (first | (with_reducible first | exact HB.out | apply below_alloc | apply pw_below_drewN | apply below_drew1 | refine below_set ?_ GE481.out) | exact HB.out)))); have n6_ := bkb BK481 hb; have n7_ := bst HB hb; clear HO489; clear HO492; clear HO495; clear HO499; clear HO502; clear BK481; clear HB; have HO489 := n0_; have HO492 := n1_; have HO495 := n2_; have HO499 := n3_; have HO502 := n4_; have HO508 := n5_; have BK481 := n6_; have HB := n7_; clear n0_ n1_ n2_ n3_ n4_ n5_ n6_ n7_; (try clear hb); (try clear hb2); (try clear hk); (try clear hi); (try clear ho0)))
   (try simp only [Act.put, List.setIfInBounds_toArray, List.set_cons_zero, List.set_cons_succ])
   go_cut [63] (fun v63 wc => ∃ (kq : Nat) (x63_18 : Bool), v63 = .bool x63_18 ∧ Aside0 (laws_FnExactLeadAll.j0 kq l1 l2 a3 t493 t496 t497 t500 t506 t509 x63_18 a0_0 a0_1 a0_2 = some r) ∧ Aside0 (kq ≤ k) ∧ Aside0 (Kd.R (Kd.int .i64) 2 wc w.heap.size (fun k_ => some k_ ≠ (v507 : Value).ownBlock) v494 t493) ∧ Aside0 (Kd.R k39 39 wc w.heap.size (fun k_ => some k_ ≠ ((.slice Ao33 t500.length co33) : Value).ownBlock) (.slice Ao32 t497.length co32) t497) ∧ Aside0 (Kd.R k39 39 wc w.heap.size (fun k_ => some k_ ≠ ((.slice Ao32 t497.length co32) : Value).ownBlock) (.slice Ao33 t500.length co33) t500) ∧ Aside0 (Kd.R (Kd.int .i64) 2 wc w.heap.size (fun k_ => some k_ ≠ (v494 : Value).ownBlock) v507 t506) ∧ Aside0 (wc.heap[gb481]? = some (.cells (mixA (Value.int .u16) [.int .i8 a0_0, .int .i8 a0_1] a0_2) 26 (0, 0))) ∧ Aside0 (Below w.heap.size w wc))
   case first =>
    have H := HC19.out; clear HC19; obtain ⟨t510, A35, H⟩ := obn H
    by_cases c36 : t510 = true
    ·subst c36
     have H1 : (laws_FnExactLeadAll.j0 k l1 l2 a3 t493 t496 t497 t500 t506 t509 (t509 != t496) a0_0 a0_1 a0_2) = some r := by rw [if_pos rfl] at H; exact H
     clear H; have H := H1; clear H1; have H' := Aside0.mk H; clear H; obtain ⟨Ao37, co37, eo37⟩ := Kd.R_slice HO508.out; subst eo37; obtain ⟨Ao38, co38, eo38⟩ := Kd.R_slice HO495.out; subst eo38
     go_wp2_with (first | ((with_reducible refine gate_callee (f := 12) rfl ?_); refine gl (some 57) Try.func12 #[.slice Ao37 t506.length co37, .slice Ao38 t493.length co38] ?_; (with_reducible refine (laws_eqInt64S.calls k _ _ t506 _ _ t493 true _ ?side1 ?side2 ?side3 ?side4 A35.out).mono ?_); (case side1 => repeat (first | exact (Kd.R_reads' HO508.out).2.2 | (with_reducible refine Kd.C_alloc ?_ _) | (with_reducible refine Kd.C_drewN ?_ _) | (with_reducible refine Kd.C_drew ?_))); (case side2 => exact (Kd.R_reads' HO508.out).2.1); (case side3 => repeat (first | exact (Kd.R_reads' HO495.out).2.2 | (with_reducible refine Kd.C_alloc ?_ _) | (with_reducible refine Kd.C_drewN ?_ _) | (with_reducible refine Kd.C_drew ?_))); (case side4 => exact (Kd.R_reads' HO495.out).2.1); rintro e w' ⟨rfl, ⟨nd, rfl⟩⟩; refine ⟨_, rfl, ?_⟩))
     go_meet
     case rel => exact ⟨_, ((t509 != t496)), (by first | rfl | (simp; done) | (simp [*]; done)), H', ⟨by first | omega | exact Nat.le_refl _⟩, ⟨by (with_reducible repeat (first | apply Kd.R_alloc | apply Kd.R_drewN | apply Kd.R_drew)); exact Kd.R_mono HO495.out (fun _ hk => hk.2)⟩, ⟨by (with_reducible repeat (first | apply Kd.R_alloc | apply Kd.R_drewN | apply Kd.R_drew)); exact Kd.R_mono HO499.out (fun _ hk => hk.2)⟩, ⟨by (with_reducible repeat (first | apply Kd.R_alloc | apply Kd.R_drewN | apply Kd.R_drew)); exact Kd.R_mono HO502.out (fun _ hk => hk.2)⟩, ⟨by (with_reducible repeat (first | apply Kd.R_alloc | apply Kd.R_drewN | apply Kd.R_drew)); exact Kd.R_mono HO508.out (fun _ hk => hk.2)⟩, ⟨pk BK481⟩, ⟨pbs HB⟩⟩
    ·replace c36 := Bool.eq_false_iff.mpr c36
     subst c36
     have H1 : (laws_FnExactLeadAll.j0 k l1 l2 a3 t493 t496 t497 t500 t506 t509 true a0_0 a0_1 a0_2) = some r := by rw [if_neg (show ¬ (false = true) by decide)] at H; exact H
     clear H; have H := H1; clear H1; have H' := Aside0.mk H; clear H; obtain ⟨Ao39, co39, eo39⟩ := Kd.R_slice HO508.out; subst eo39; obtain ⟨Ao40, co40, eo40⟩ := Kd.R_slice HO495.out; subst eo40
     go_wp2_with (first | ((with_reducible refine gate_callee (f := 12) rfl ?_); refine gl (some 57) Try.func12 #[.slice Ao39 t506.length co39, .slice Ao40 t493.length co40] ?_; (with_reducible refine (laws_eqInt64S.calls k _ _ t506 _ _ t493 false _ ?side1 ?side2 ?side3 ?side4 A35.out).mono ?_); (case side1 => repeat (first | exact (Kd.R_reads' HO508.out).2.2 | (with_reducible refine Kd.C_alloc ?_ _) | (with_reducible refine Kd.C_drewN ?_ _) | (with_reducible refine Kd.C_drew ?_))); (case side2 => exact (Kd.R_reads' HO508.out).2.1); (case side3 => repeat (first | exact (Kd.R_reads' HO495.out).2.2 | (with_reducible refine Kd.C_alloc ?_ _) | (with_reducible refine Kd.C_drewN ?_ _) | (with_reducible refine Kd.C_drew ?_))); (case side4 => exact (Kd.R_reads' HO495.out).2.1); rintro e w' ⟨rfl, ⟨nd, rfl⟩⟩; refine ⟨_, rfl, ?_⟩))
     go_meet
     case rel => exact ⟨_, (true), (by first | rfl | (simp; done) | (simp [*]; done)), H', ⟨by first | omega | exact Nat.le_refl _⟩, ⟨by (with_reducible repeat (first | apply Kd.R_alloc | apply Kd.R_drewN | apply Kd.R_drew)); exact Kd.R_mono HO495.out (fun _ hk => hk.2)⟩, ⟨by (with_reducible repeat (first | apply Kd.R_alloc | apply Kd.R_drewN | apply Kd.R_drew)); exact Kd.R_mono HO499.out (fun _ hk => hk.2)⟩, ⟨by (with_reducible repeat (first | apply Kd.R_alloc | apply Kd.R_drewN | apply Kd.R_drew)); exact Kd.R_mono HO502.out (fun _ hk => hk.2)⟩, ⟨by (with_reducible repeat (first | apply Kd.R_alloc | apply Kd.R_drewN | apply Kd.R_drew)); exact Kd.R_mono HO508.out (fun _ hk => hk.2)⟩, ⟨pk BK481⟩, ⟨pbs HB⟩⟩
   case rest =>
    clear HC19
    try clear c1
    try clear c2
    try clear p2
    try clear c3
    try clear c4
    try clear c6
    try clear c6b0
    try clear c8
    try clear c9
    try clear c9b0
    try clear c12
    try clear c17
    try clear c18
    try clear c19
    try clear c20
    try clear c36
    obtain ⟨kq, x63_18, rfl, HA, HJ18, HO_10, HO_12, HO_13, HO_14, BK481, HB⟩ := hcut
    cases kq with
    | zero => exact absurd HA.out (by simp [laws_FnExactLeadAll.j0])
    | succ kj18 =>
     have H := HA.out; clear HA; simp only [laws_FnExactLeadAll.j0] at H
     by_cases c41 : x63_18 = true
     ·subst c41
      have H1 : (some false) = some r := by rw [if_pos rfl] at H; exact H
      clear H; have H := H1; clear H1; obtain rfl := Option.some.inj H
      go_wp2
      go_ret
      exact ⟨by first | rfl | (simp [errW_none, errW_some] <;> rfl) | (simp [*, errW_none, errW_some] <;> rfl), pbs HB⟩
     ·replace c41 := Bool.eq_false_iff.mpr c41
      subst c41
      have H1 : ((laws_toFile.f kj18 l1).bind fun t511 => ((laws_eqFile.f kj18 t497 t511).bind fun t514 => (if t514 = true then ((laws_toSpotS.f kj18 l2).bind fun t515 => ((laws_eqSpotS.f kj18 t500 t515).bind fun t518 => (if t518 = true then ((laws_markFile.f kj18 t497 1).bind fun bt519 => ((laws_markSpotS.f kj18 t500 bt519.1).bind fun bt521 => (if bt521.1 < 0 then (laws_FnExactLeadAll.j1 kj18 l1 l2 a3 t493 t496 t506 true a0_0 a0_1 a0_2) else ((laws_eqInt64S.f kj18 t506 t493).bind fun t523 => (if t523 = true then (laws_FnExactLeadAll.j1 kj18 l1 l2 a3 t493 t496 t506 (t509 != t496) a0_0 a0_1 a0_2) else (laws_FnExactLeadAll.j1 kj18 l1 l2 a3 t493 t496 t506 true a0_0 a0_1 a0_2)))))) else (some false)))) else (some false)))) = some r := by rw [if_neg (show ¬ (false = true) by decide)] at H; exact H
      clear H; have H := H1; clear H1; obtain ⟨t511, A42, H⟩ := obn H; obtain ⟨t514, A43, H⟩ := obn H
      by_cases c44 : t514 = true
      ·subst c44
       have H1 : ((laws_toSpotS.f kj18 l2).bind fun t515 => ((laws_eqSpotS.f kj18 t500 t515).bind fun t518 => (if t518 = true then ((laws_markFile.f kj18 t497 1).bind fun bt519 => ((laws_markSpotS.f kj18 t500 bt519.1).bind fun bt521 => (if bt521.1 < 0 then (laws_FnExactLeadAll.j1 kj18 l1 l2 a3 t493 t496 t506 true a0_0 a0_1 a0_2) else ((laws_eqInt64S.f kj18 t506 t493).bind fun t523 => (if t523 = true then (laws_FnExactLeadAll.j1 kj18 l1 l2 a3 t493 t496 t506 (t509 != t496) a0_0 a0_1 a0_2) else (laws_FnExactLeadAll.j1 kj18 l1 l2 a3 t493 t496 t506 true a0_0 a0_1 a0_2)))))) else (some false)))) = some r := by rw [if_pos rfl] at H; exact H
       clear H; have H := H1; clear H1; obtain ⟨t515, A45, H⟩ := obn H; obtain ⟨t518, A46, H⟩ := obn H
       by_cases c47 : t518 = true
       ·subst c47
        have H1 : ((laws_markFile.f kj18 t497 1).bind fun bt519 => ((laws_markSpotS.f kj18 t500 bt519.1).bind fun bt521 => (if bt521.1 < 0 then (laws_FnExactLeadAll.j1 kj18 l1 l2 a3 t493 t496 t506 true a0_0 a0_1 a0_2) else ((laws_eqInt64S.f kj18 t506 t493).bind fun t523 => (if t523 = true then (laws_FnExactLeadAll.j1 kj18 l1 l2 a3 t493 t496 t506 (t509 != t496) a0_0 a0_1 a0_2) else (laws_FnExactLeadAll.j1 kj18 l1 l2 a3 t493 t496 t506 true a0_0 a0_1 a0_2)))))) = some r := by rw [if_pos rfl] at H; exact H
        clear H; have H := H1; clear H1; replace H := Option.bind_eq_some_iff.mp H; obtain ⟨⟨t519, t520⟩, A480, H⟩ := H; replace H : ((laws_markSpotS.f kj18 t500 t519).bind fun bt521 => (if bt521.1 < 0 then (laws_FnExactLeadAll.j1 kj18 l1 l2 a3 t493 t496 t506 true a0_0 a0_1 a0_2) else ((laws_eqInt64S.f kj18 t506 t493).bind fun t523 => (if t523 = true then (laws_FnExactLeadAll.j1 kj18 l1 l2 a3 t493 t496 t506 (t509 != t496) a0_0 a0_1 a0_2) else (laws_FnExactLeadAll.j1 kj18 l1 l2 a3 t493 t496 t506 true a0_0 a0_1 a0_2))))) = some r := H; have A48 := Aside0.mk A480; clear A480; replace H := Option.bind_eq_some_iff.mp H; obtain ⟨⟨t521, t522⟩, A490, H⟩ := H; replace H : (if t521 < 0 then (laws_FnExactLeadAll.j1 kj18 l1 l2 a3 t493 t496 t506 true a0_0 a0_1 a0_2) else ((laws_eqInt64S.f kj18 t506 t493).bind fun t523 => (if t523 = true then (laws_FnExactLeadAll.j1 kj18 l1 l2 a3 t493 t496 t506 (t509 != t496) a0_0 a0_1 a0_2) else (laws_FnExactLeadAll.j1 kj18 l1 l2 a3 t493 t496 t506 true a0_0 a0_1 a0_2)))) = some r := H; have A49 := Aside0.mk A490; clear A490; have HC50 := Aside0.mk H; clear H
        go_upto_region 21 with (first | ((with_reducible refine gate_callee (f := 9) rfl ?_); refine gl (some 66) Try.func9 #[.slice A1 l1.length c1] ?_; (with_reducible refine (laws_toFile.calls kj18 _ _ l1 t511 _ ?side1 ?side2 A42.out).mono ?_); (case side1 => repeat (first | exact (Kd.C_below HR1.out HB.out) | (with_reducible refine Kd.C_alloc ?_ _) | (with_reducible refine Kd.C_drewN ?_ _) | (with_reducible refine Kd.C_drew ?_))); (case side2 => exact HC1.out); rintro e w51 ⟨v512, rfl, ho0, hb⟩; refine ⟨_, rfl, ?_⟩; have n0_ := krb HO_10 hb; have n1_ := Aside0.mk (Kd.R_elder' (by (with_reducible repeat (first | apply Kd.R_alloc | apply Kd.R_drewN | apply Kd.R_drew)); exact HO_12.out) (Kd.R_base ho0) hb); have n2_ := Aside0.mk (Kd.R_elder' (by (with_reducible repeat (first | apply Kd.R_alloc | apply Kd.R_drewN | apply Kd.R_drew)); exact HO_13.out) (Kd.R_base ho0) hb); have n3_ := krb HO_14 hb; have n4_ := Aside0.mk (Kd.R_lower (Kd.R_new' (Kd.R_new' ho0 (Kd.R_lt (by (with_reducible repeat (first | apply Kd.R_alloc | apply Kd.R_drewN | apply Kd.R_drew)); exact HO_12.out))) (Kd.R_lt (by (with_reducible repeat (first | apply Kd.R_alloc | apply Kd.R_drewN | apply Kd.R_drew)); exact HO_13.out))) (below_size (by repeat (first | (with_reducible first | exact HB.out | apply below_alloc | apply pw_below_drewN | apply below_drew1 | refine below_set ?_ GE481.out) | exact HB.out)))); have n5_ := bkb BK481 hb; have n6_ := bst HB hb; clear HO_10; clear HO_12; clear HO_13; clear HO_14; clear BK481; clear HB; have HO_10 := n0_; have HO_12 := n1_; have HO_13 := n2_; have HO_14 := n3_; have HO513 := n4_; have BK481 := n5_; have HB := n6_; clear n0_ n1_ n2_ n3_ n4_ n5_ n6_; (try clear hb); (try clear hb2); (try clear hk); (try clear hi); (try clear ho0); obtain ⟨Ao52, co52, eo52⟩ := Kd.R_slice HO513.out; subst eo52) | ((with_reducible refine gate_callee (f := 13) rfl ?_); refine gl (some 67) Try.func13 #[.slice Ao32 t497.length co32, .slice Ao52 t511.length co52] ?_; (with_reducible refine (laws_eqFile.calls kj18 _ _ t497 _ _ t511 true _ ?side1 ?side2 ?side3 ?side4 A43.out).mono ?_); (case side1 => repeat (first | exact (Kd.R_reads' HO_12.out).2.2 | (with_reducible refine Kd.C_alloc ?_ _) | (with_reducible refine Kd.C_drewN ?_ _) | (with_reducible refine Kd.C_drew ?_))); (case side2 => exact (Kd.R_reads' HO_12.out).2.1); (case side3 => repeat (first | exact (Kd.R_reads' HO513.out).2.2 | (with_reducible refine Kd.C_alloc ?_ _) | (with_reducible refine Kd.C_drewN ?_ _) | (with_reducible refine Kd.C_drew ?_))); (case side4 => exact (Kd.R_reads' HO513.out).2.1); rintro e w53 ⟨rfl, hb⟩; refine ⟨_, rfl, ?_⟩; replace HO_10 := krb HO_10 hb; replace HO_12 := krb HO_12 hb; replace HO_13 := krb HO_13 hb; replace HO_14 := krb HO_14 hb; replace HO513 := krb HO513 hb; replace BK481 := bkb BK481 hb; replace HB := bst HB hb; (try clear hb); (try clear hb2); (try clear hk); (try clear hi)) | ((with_reducible refine gate_callee (f := 19) rfl ?_); refine gl (some 71) Try.func19 #[.slice A2 l2.length c2] ?_; (with_reducible refine (laws_toSpotS.calls kj18 _ _ l2 t515 _ ?side1 ?side2 A45.out).mono ?_); (case side1 => repeat (first | exact (Kd.C_below HR2.out HB.out) | (with_reducible refine Kd.C_alloc ?_ _) | (with_reducible refine Kd.C_drewN ?_ _) | (with_reducible refine Kd.C_drew ?_))); (case side2 => exact HC2.out); rintro e w54 ⟨v516, rfl, ho0, hb⟩; refine ⟨_, rfl, ?_⟩; have n0_ := krb HO_10 hb; have n1_ := Aside0.mk (Kd.R_elder' (by (with_reducible repeat (first | apply Kd.R_alloc | apply Kd.R_drewN | apply Kd.R_drew)); exact HO_12.out) (Kd.R_base ho0) hb); have n2_ := Aside0.mk (Kd.R_elder' (by (with_reducible repeat (first | apply Kd.R_alloc | apply Kd.R_drewN | apply Kd.R_drew)); exact HO_13.out) (Kd.R_base ho0) hb); have n3_ := krb HO_14 hb; have n4_ := Aside0.mk (Kd.R_elder' (by (with_reducible repeat (first | apply Kd.R_alloc | apply Kd.R_drewN | apply Kd.R_drew)); exact HO513.out) (Kd.R_base ho0) hb); have n5_ := Aside0.mk (Kd.R_lower (Kd.R_new' (Kd.R_new' (Kd.R_new' ho0 (Kd.R_lt (by (with_reducible repeat (first | apply Kd.R_alloc | apply Kd.R_drewN | apply Kd.R_drew)); exact HO_12.out))) (Kd.R_lt (by (with_reducible repeat (first | apply Kd.R_alloc | apply Kd.R_drewN | apply Kd.R_drew)); exact HO_13.out))) (Kd.R_lt (by (with_reducible repeat (first | apply Kd.R_alloc | apply Kd.R_drewN | apply Kd.R_drew)); exact HO513.out))) (below_size (by repeat (first | (with_reducible first | exact HB.out | apply below_alloc | apply pw_below_drewN | apply below_drew1 | refine below_set ?_ GE481.out) | exact HB.out)))); have n6_ := bkb BK481 hb; have n7_ := bst HB hb; clear HO_10; clear HO_12; clear HO_13; clear HO_14; clear HO513; clear BK481; clear HB; have HO_10 := n0_; have HO_12 := n1_; have HO_13 := n2_; have HO_14 := n3_; have HO513 := n4_; have HO517 := n5_; have BK481 := n6_; have HB := n7_; clear n0_ n1_ n2_ n3_ n4_ n5_ n6_ n7_; (try clear hb); (try clear hb2); (try clear hk); (try clear hi); (try clear ho0); obtain ⟨Ao55, co55, eo55⟩ := Kd.R_slice HO517.out; subst eo55) | ((with_reducible refine gate_callee (f := 21) rfl ?_); refine gl (some 72) Try.func21 #[.slice Ao33 t500.length co33, .slice Ao55 t515.length co55] ?_; (with_reducible refine (laws_eqSpotS.calls kj18 _ _ t500 _ _ t515 true _ ?side1 ?side2 ?side3 ?side4 A46.out).mono ?_); (case side1 => repeat (first | exact (Kd.R_reads' HO_13.out).2.2 | (with_reducible refine Kd.C_alloc ?_ _) | (with_reducible refine Kd.C_drewN ?_ _) | (with_reducible refine Kd.C_drew ?_))); (case side2 => exact (Kd.R_reads' HO_13.out).2.1); (case side3 => repeat (first | exact (Kd.R_reads' HO517.out).2.2 | (with_reducible refine Kd.C_alloc ?_ _) | (with_reducible refine Kd.C_drewN ?_ _) | (with_reducible refine Kd.C_drew ?_))); (case side4 => exact (Kd.R_reads' HO517.out).2.1); rintro e w56 ⟨rfl, hb⟩; refine ⟨_, rfl, ?_⟩; replace HO_10 := krb HO_10 hb; replace HO_12 := krb HO_12 hb; replace HO_13 := krb HO_13 hb; replace HO_14 := krb HO_14 hb; replace HO513 := krb HO513 hb; replace HO517 := krb HO517 hb; replace BK481 := bkb BK481 hb; replace HB := bst HB hb; (try clear hb); (try clear hb2); (try clear hk); (try clear hi)) | ((with_reducible refine gate_callee (f := 14) rfl ?_); refine gl (some 76) Try.func14 #[.slice Ao32 t497.length co32, .int .i64 1] ?_; (with_reducible refine (laws_markFile.calls kj18 (fun k_ => some k_ = (.slice Ao32 t497.length co32 : Value).ownBlock) (.slice Ao32 t497.length co32) t497 1 t519 t520 w _ ?side1 ?side2 A48.out).mono ?_); (case side1 => repeat (first | (with_reducible first | exact HB.out | apply below_alloc | apply pw_below_drewN | apply below_drew1 | refine below_set ?_ GE481.out) | exact HB.out)); (case side2 => exact Kd.R_tight rfl HO_12.out); rintro e w57 ⟨rfl, hy0, hb, hkp⟩; refine ⟨_, rfl, ?_⟩; have n0_ := Aside0.mk (Kd.R_mono (ok' := fun k_ => some k_ ≠ (v507 : Value).ownBlock) (Kd.R_keptB ((Kd.R_apart' HO_10.out (Kd.R_typed HO_12.out) (by decide))) hkp (fun k_ hk_ hs_ => (hk_.2) hs_)) (fun k_ hk_ => hk_.1.1)); have n1_ := Aside0.mk (Kd.R_reok rfl hy0 (fun k_ e_ => HO_12.out.1 k_ e_)); have n2_ := Aside0.mk (Kd.R_mono (ok' := fun k_ => some k_ ≠ (.slice Ao32 t497.length co32 : Value).ownBlock ∧ some k_ ≠ (.slice Ao52 t511.length co52 : Value).ownBlock ∧ some k_ ≠ (.slice Ao55 t515.length co55 : Value).ownBlock) (Kd.R_keptB (HO_13.out) hkp (fun k_ hk_ hs_ => (hk_.1.1) hs_)) (fun k_ hk_ => ⟨hk_.1.1.1, hk_.1.1.2, hk_.1.2⟩)); have n3_ := Aside0.mk (Kd.R_mono (ok' := fun k_ => some k_ ≠ (v494 : Value).ownBlock) (Kd.R_keptB ((Kd.R_apart' HO_14.out (Kd.R_typed HO_12.out) (by decide))) hkp (fun k_ hk_ hs_ => (hk_.2) hs_)) (fun k_ hk_ => hk_.1.1)); have n4_ := Aside0.mk (blk_kept (pk BK481) hkp (fun hs_ => (fun e_ => (Kd.R_ne HO_12.out BK481.out (by decide)) e_) hs_)); have n5_ := Aside0.mk (Kd.R_mono (ok' := fun k_ => some k_ ≠ (.slice Ao32 t497.length co32 : Value).ownBlock ∧ some k_ ≠ (.slice Ao33 t500.length co33 : Value).ownBlock ∧ some k_ ≠ (.slice Ao55 t515.length co55 : Value).ownBlock) (Kd.R_keptB (HO513.out) hkp (fun k_ hk_ hs_ => (hk_.1.1.2) hs_)) (fun k_ hk_ => ⟨hk_.1.1.1.2, hk_.1.1.2, hk_.1.2⟩)); have n6_ := Aside0.mk (Kd.R_mono (ok' := fun k_ => some k_ ≠ (.slice Ao32 t497.length co32 : Value).ownBlock ∧ some k_ ≠ (.slice Ao33 t500.length co33 : Value).ownBlock ∧ some k_ ≠ (.slice Ao52 t511.length co52 : Value).ownBlock) (Kd.R_keptB (HO517.out) hkp (fun k_ hk_ hs_ => (hk_.1.1.2) hs_)) (fun k_ hk_ => ⟨hk_.1.1.1.2, hk_.1.1.2, hk_.1.2⟩)); have n7_ := Aside0.mk (hb); clear HO_10; clear HO_12; clear HO_13; clear HO_14; clear BK481; clear HO513; clear HO517; clear HB; have HO_10 := n0_; have HO_12 := n1_; have HO_13 := n2_; have HO_14 := n3_; have BK481 := n4_; have HO513 := n5_; have HO517 := n6_; have HB := n7_; clear n0_ n1_ n2_ n3_ n4_ n5_ n6_ n7_; (try clear hb); (try clear hkp); (try clear hy0)) | ((with_reducible refine gate_callee (f := 22) rfl ?_); refine gl (some 79) Try.func22 #[.slice Ao33 t500.length co33, .int .i64 t519] ?_; (with_reducible refine (laws_markSpotS.calls kj18 (fun k_ => some k_ = (.slice Ao33 t500.length co33 : Value).ownBlock) (.slice Ao33 t500.length co33) t500 t519 t521 t522 w _ ?side1 ?side2 A49.out).mono ?_); (case side1 => repeat (first | (with_reducible first | exact HB.out | apply below_alloc | apply pw_below_drewN | apply below_drew1 | refine below_set ?_ GE481.out) | exact HB.out)); (case side2 => exact Kd.R_tight rfl HO_13.out); rintro e w58 ⟨rfl, hy0, hb, hkp⟩; refine ⟨_, rfl, ?_⟩; have n0_ := Aside0.mk (Kd.R_mono (ok' := fun k_ => some k_ ≠ (v507 : Value).ownBlock) (Kd.R_keptB ((Kd.R_apart' HO_10.out (Kd.R_typed HO_13.out) (by decide))) hkp (fun k_ hk_ hs_ => (hk_.2) hs_)) (fun k_ hk_ => hk_.1.1)); have n1_ := Aside0.mk (Kd.R_mono (ok' := fun k_ => some k_ ≠ (.slice Ao33 t500.length co33 : Value).ownBlock ∧ some k_ ≠ (.slice Ao52 t511.length co52 : Value).ownBlock ∧ some k_ ≠ (.slice Ao55 t515.length co55 : Value).ownBlock) (Kd.R_keptB (HO_12.out) hkp (fun k_ hk_ hs_ => (hk_.1.1) hs_)) (fun k_ hk_ => ⟨hk_.1.1.1, hk_.1.1.2, hk_.1.2⟩)); have n2_ := Aside0.mk (Kd.R_reok rfl hy0 (fun k_ e_ => HO_13.out.1 k_ e_)); have n3_ := Aside0.mk (Kd.R_mono (ok' := fun k_ => some k_ ≠ (v494 : Value).ownBlock) (Kd.R_keptB ((Kd.R_apart' HO_14.out (Kd.R_typed HO_13.out) (by decide))) hkp (fun k_ hk_ hs_ => (hk_.2) hs_)) (fun k_ hk_ => hk_.1.1)); have n4_ := Aside0.mk (blk_kept (pk BK481) hkp (fun hs_ => (fun e_ => (Kd.R_ne HO_13.out BK481.out (by decide)) e_) hs_)); have n5_ := Aside0.mk (Kd.R_mono (ok' := fun k_ => some k_ ≠ (.slice Ao32 t497.length co32 : Value).ownBlock ∧ some k_ ≠ (.slice Ao33 t500.length co33 : Value).ownBlock ∧ some k_ ≠ (.slice Ao55 t515.length co55 : Value).ownBlock) (Kd.R_keptB (HO513.out) hkp (fun k_ hk_ hs_ => (hk_.2.1) hs_)) (fun k_ hk_ => ⟨hk_.1.1, hk_.1.2.1, hk_.1.2.2⟩)); have n6_ := Aside0.mk (Kd.R_mono (ok' := fun k_ => some k_ ≠ (.slice Ao32 t497.length co32 : Value).ownBlock ∧ some k_ ≠ (.slice Ao33 t500.length co33 : Value).ownBlock ∧ some k_ ≠ (.slice Ao52 t511.length co52 : Value).ownBlock) (Kd.R_keptB (HO517.out) hkp (fun k_ hk_ hs_ => (hk_.2.1) hs_)) (fun k_ hk_ => ⟨hk_.1.1, hk_.1.2.1, hk_.1.2.2⟩)); have n7_ := Aside0.mk (hb); clear HO_10; clear HO_12; clear HO_13; clear HO_14; clear BK481; clear HO513; clear HO517; clear HB; have HO_10 := n0_; have HO_12 := n1_; have HO_13 := n2_; have HO_14 := n3_; have BK481 := n4_; have HO513 := n5_; have HO517 := n6_; have HB := n7_; clear n0_ n1_ n2_ n3_ n4_ n5_ n6_ n7_; (try clear hb); (try clear hkp); (try clear hy0)))
        (try simp only [Act.put, List.setIfInBounds_toArray, List.set_cons_zero, List.set_cons_succ])
        go_cut [92] (fun v92 wc => ∃ (kq : Nat) (x92_49 : Bool), v92 = .bool x92_49 ∧ Aside0 (laws_FnExactLeadAll.j1 kq l1 l2 a3 t493 t496 t506 x92_49 a0_0 a0_1 a0_2 = some r) ∧ Aside0 (kq ≤ kj18) ∧ Aside0 (Kd.R (Kd.int .i64) 2 wc w.heap.size (fun k_ => some k_ ≠ (v507 : Value).ownBlock) v494 t493) ∧ Aside0 (Kd.R (Kd.int .i64) 2 wc w.heap.size (fun k_ => some k_ ≠ (v494 : Value).ownBlock) v507 t506) ∧ Aside0 (wc.heap[gb481]? = some (.cells (mixA (Value.int .u16) [.int .i8 a0_0, .int .i8 a0_1] a0_2) 26 (0, 0))) ∧ Aside0 (Below w.heap.size w wc))
        case first =>
         have H := HC50.out; clear HC50
         by_cases c59 : t521 < 0
         ·rw [if_pos c59] at H
          have c59b0 : decide (t521 < 0) = true := decide_eq_true c59; clear c59; (first | rw [c59b0] | (simp only [i64_w, i32_w]; rw [c59b0]) | skip); have H' := Aside0.mk H; clear H
          go_wp2
          go_meet
          case rel => exact ⟨_, (true), (by first | rfl | (simp; done) | (simp [*]; done)), H', ⟨by have := HJ18.out; first | omega | exact Nat.le_refl _⟩, ⟨by (with_reducible repeat (first | apply Kd.R_alloc | apply Kd.R_drewN | apply Kd.R_drew)); exact HO_10.out⟩, ⟨by (with_reducible repeat (first | apply Kd.R_alloc | apply Kd.R_drewN | apply Kd.R_drew)); exact HO_14.out⟩, ⟨pk BK481⟩, ⟨pbs HB⟩⟩
         ·rw [if_neg c59] at H
          have c59b0 : decide (t521 < 0) = false := decide_eq_false c59; clear c59; (first | rw [c59b0] | (simp only [i64_w, i32_w]; rw [c59b0]) | skip); obtain ⟨t523, A60, H⟩ := obn H
          by_cases c61 : t523 = true
          ·subst c61
           have H1 : (laws_FnExactLeadAll.j1 kj18 l1 l2 a3 t493 t496 t506 (t509 != t496) a0_0 a0_1 a0_2) = some r := by rw [if_pos rfl] at H; exact H
           clear H; have H := H1; clear H1; have H' := Aside0.mk H; clear H; obtain ⟨Ao62, co62, eo62⟩ := Kd.R_slice HO_14.out; subst eo62; obtain ⟨Ao63, co63, eo63⟩ := Kd.R_slice HO_10.out; subst eo63
           go_wp2_with (first | (go_at_call 12; (with_reducible refine (laws_eqInt64S.calls kj18 _ _ t506 _ _ t493 true _ ?side1 ?side2 ?side3 ?side4 A60.out).mono ?_); (case side1 => repeat (first | exact (Kd.R_reads' HO_14.out).2.2 | (with_reducible refine Kd.C_alloc ?_ _) | (with_reducible refine Kd.C_drewN ?_ _) | (with_reducible refine Kd.C_drew ?_))); (case side2 => exact (Kd.R_reads' HO_14.out).2.1); (case side3 => repeat (first | exact (Kd.R_reads' HO_10.out).2.2 | (with_reducible refine Kd.C_alloc ?_ _) | (with_reducible refine Kd.C_drewN ?_ _) | (with_reducible refine Kd.C_drew ?_))); (case side4 => exact (Kd.R_reads' HO_10.out).2.1); rintro e w' ⟨rfl, ⟨nd, rfl⟩⟩))
           go_meet
           case rel => exact ⟨_, ((t509 != t496)), (by first | rfl | (simp; done) | (simp [*]; done)), H', ⟨by have := HJ18.out; first | omega | exact Nat.le_refl _⟩, ⟨by (with_reducible repeat (first | apply Kd.R_alloc | apply Kd.R_drewN | apply Kd.R_drew)); exact HO_10.out⟩, ⟨by (with_reducible repeat (first | apply Kd.R_alloc | apply Kd.R_drewN | apply Kd.R_drew)); exact HO_14.out⟩, ⟨pk BK481⟩, ⟨pbs HB⟩⟩
          ·replace c61 := Bool.eq_false_iff.mpr c61
           subst c61
           have H1 : (laws_FnExactLeadAll.j1 kj18 l1 l2 a3 t493 t496 t506 true a0_0 a0_1 a0_2) = some r := by rw [if_neg (show ¬ (false = true) by decide)] at H; exact H
           clear H; have H := H1; clear H1; have H' := Aside0.mk H; clear H; obtain ⟨Ao64, co64, eo64⟩ := Kd.R_slice HO_14.out; subst eo64; obtain ⟨Ao65, co65, eo65⟩ := Kd.R_slice HO_10.out; subst eo65
           go_wp2_with (first | (go_at_call 12; (with_reducible refine (laws_eqInt64S.calls kj18 _ _ t506 _ _ t493 false _ ?side1 ?side2 ?side3 ?side4 A60.out).mono ?_); (case side1 => repeat (first | exact (Kd.R_reads' HO_14.out).2.2 | (with_reducible refine Kd.C_alloc ?_ _) | (with_reducible refine Kd.C_drewN ?_ _) | (with_reducible refine Kd.C_drew ?_))); (case side2 => exact (Kd.R_reads' HO_14.out).2.1); (case side3 => repeat (first | exact (Kd.R_reads' HO_10.out).2.2 | (with_reducible refine Kd.C_alloc ?_ _) | (with_reducible refine Kd.C_drewN ?_ _) | (with_reducible refine Kd.C_drew ?_))); (case side4 => exact (Kd.R_reads' HO_10.out).2.1); rintro e w' ⟨rfl, ⟨nd, rfl⟩⟩))
           go_meet
           case rel => exact ⟨_, (true), (by first | rfl | (simp; done) | (simp [*]; done)), H', ⟨by have := HJ18.out; first | omega | exact Nat.le_refl _⟩, ⟨by (with_reducible repeat (first | apply Kd.R_alloc | apply Kd.R_drewN | apply Kd.R_drew)); exact HO_10.out⟩, ⟨by (with_reducible repeat (first | apply Kd.R_alloc | apply Kd.R_drewN | apply Kd.R_drew)); exact HO_14.out⟩, ⟨pk BK481⟩, ⟨pbs HB⟩⟩
        case rest =>
         clear HC50
         try clear c1
         try clear c2
         try clear p2
         try clear c3
         try clear c4
         try clear c5
         try clear c6
         try clear c6b0
         try clear c8
         try clear c9
         try clear c9b0
         try clear c12
         try clear c13
         try clear c14
         try clear c17
         try clear c18
         try clear c19
         try clear c20
         try clear c21
         try clear c22
         try clear c36
         try clear c41
         try clear c44
         try clear c47
         try clear c59
         try clear c59b0
         try clear c61
         try clear p2
         obtain ⟨kq, x92_49, rfl, HA, HJ49, HO_10, HO_14, BK481, HB⟩ := hcut
         cases kq with
         | zero => exact absurd HA.out (by simp [laws_FnExactLeadAll.j1])
         | succ kj49 =>
          have H := HA.out; clear HA; simp only [laws_FnExactLeadAll.j1] at H
          by_cases c66 : x92_49 = true
          ·subst c66
           have H1 : (some false) = some r := by rw [if_pos rfl] at H; exact H
           clear H; have H := H1; clear H1; obtain rfl := Option.some.inj H
           go_wp2
           go_ret
           exact ⟨by first | rfl | (simp [errW_none, errW_some] <;> rfl) | (simp [*, errW_none, errW_some] <;> rfl), pbs HB⟩
          ·replace c66 := Bool.eq_false_iff.mpr c66
           subst c66
           have H1 : ((laws_markInt64S.f kj49 t506 1).bind fun bt524 => ((laws_heldInt64S.f kj49 bt524.2 1).bind fun t526 => (if t526 < 0 then (some false) else (if t526 = bt524.1 then ((laws_toRoom.f kj49 a0_0 a0_1 a0_2).bind fun bt527 => ((laws_toFile.f kj49 l1).bind fun t530 => ((laws_toSpotS.f kj49 l2).bind fun t533 => ((impl_LeadAll.f kj49 bt527.1 bt527.2.1 bt527.2.2 t530 t533 a3).bind fun bt536 => ((laws_eqInt64S.f kj49 bt536.1 t493).bind fun t540 => (if t540 = true then (laws_FnExactLeadAll.j2 kj49 bt524.2 bt524.1 (bt536.2 != t496)) else (laws_FnExactLeadAll.j2 kj49 bt524.2 bt524.1 true))))))) else (some false))))) = some r := by rw [if_neg (show ¬ (false = true) by decide)] at H; exact H
           clear H; have H := H1; clear H1; replace H := Option.bind_eq_some_iff.mp H; obtain ⟨⟨t524, t525⟩, A670, H⟩ := H; replace H : ((laws_heldInt64S.f kj49 t525 1).bind fun t526 => (if t526 < 0 then (some false) else (if t526 = t524 then ((laws_toRoom.f kj49 a0_0 a0_1 a0_2).bind fun bt527 => ((laws_toFile.f kj49 l1).bind fun t530 => ((laws_toSpotS.f kj49 l2).bind fun t533 => ((impl_LeadAll.f kj49 bt527.1 bt527.2.1 bt527.2.2 t530 t533 a3).bind fun bt536 => ((laws_eqInt64S.f kj49 bt536.1 t493).bind fun t540 => (if t540 = true then (laws_FnExactLeadAll.j2 kj49 t525 t524 (bt536.2 != t496)) else (laws_FnExactLeadAll.j2 kj49 t525 t524 true))))))) else (some false)))) = some r := H; have A67 := Aside0.mk A670; clear A670; obtain ⟨t526, A68, H⟩ := obn H
           by_cases c69 : t526 < 0
           ·rw [if_pos c69] at H
            have c69b0 : decide (t526 < 0) = true := decide_eq_true c69; clear c69; obtain rfl := Option.some.inj H; obtain ⟨Ao70, co70, eo70⟩ := Kd.R_slice HO_14.out; subst eo70
            go_wp2_with (first | ((with_reducible refine gate_callee (f := 15) rfl ?_); refine gl (some 95) Try.func15 #[.slice Ao70 t506.length co70, .int .i64 1] ?_; (with_reducible refine (laws_markInt64S.calls kj49 (fun k_ => some k_ = (.slice Ao70 t506.length co70 : Value).ownBlock) (.slice Ao70 t506.length co70) t506 1 t524 t525 w _ ?side1 ?side2 A67.out).mono ?_); (case side1 => repeat (first | (with_reducible first | exact HB.out | apply below_alloc | apply pw_below_drewN | apply below_drew1 | refine below_set ?_ GE481.out) | exact HB.out)); (case side2 => exact Kd.R_tight rfl HO_14.out); rintro e w71 ⟨rfl, hy0, hb, hkp⟩; refine ⟨_, rfl, ?_⟩; have n0_ := Aside0.mk (Kd.R_mono (ok' := fun k_ => some k_ ≠ (.slice Ao70 t506.length co70 : Value).ownBlock) (Kd.R_keptB (HO_10.out) hkp (fun k_ hk_ hs_ => (hk_) hs_)) (fun k_ hk_ => hk_.1)); have n1_ := Aside0.mk (Kd.R_reok rfl hy0 (fun k_ e_ => HO_14.out.1 k_ e_)); have n2_ := Aside0.mk (blk_kept (pk BK481) hkp (fun hs_ => (fun e_ => (Kd.R_ne HO_14.out BK481.out (by decide)) e_) hs_)); have n3_ := Aside0.mk (hb); clear HO_10; clear HO_14; clear BK481; clear HB; have HO_10 := n0_; have HO_14 := n1_; have BK481 := n2_; have HB := n3_; clear n0_ n1_ n2_ n3_; (try clear hb); (try clear hkp); (try clear hy0)) | ((with_reducible refine gate_callee (f := 16) rfl ?_); refine goesL_ (some 98) rfl rfl Try.func16 (by kernel_rfl) rfl #[.slice Ao70 t525.length co70, .int .i64 1] rfl (by (try simp only [List.map_toArray, List.map_cons, List.map_nil]); first | done | (rw [show t525.length = t506.length from (Kd.R_reads' HO_14.out).1.symm] <;> rfl) | rfl | (simp only [List.length_drop, List.length_take]; rfl)) ?_; (with_reducible refine (laws_heldInt64S.calls kj49 _ _ t525 1 t526 _ ?side1 ?side2 A68.out).mono ?_); (case side1 => repeat (first | exact (Kd.R_reads' HO_14.out).2.2 | (with_reducible refine Kd.C_alloc ?_ _) | (with_reducible refine Kd.C_drewN ?_ _) | (with_reducible refine Kd.C_drew ?_))); (case side2 => rw [show t525.length = t506.length from (Kd.R_reads' HO_14.out).1.symm]; exact (Kd.R_reads' HO_14.out).2.1); rintro e w' ⟨rfl, ⟨nd, rfl⟩⟩; refine ⟨_, rfl, ?_⟩))
            go_ret
            exact ⟨by first | rfl | (simp [errW_none, errW_some] <;> rfl) | (simp [*, errW_none, errW_some] <;> rfl), pbs HB⟩
           ·rw [if_neg c69] at H
            have c69b0 : decide (t526 < 0) = false := decide_eq_false c69; clear c69
            by_cases c72 : t526 = t524
            ·rw [if_pos c72] at H
             have c72b0 : (t526 == t524) = true := beq_iff_eq.mpr c72; have c72b1 : (t526 != t524) = false := bne_eq_false_iff_eq.mpr c72; clear c72; replace H := Option.bind_eq_some_iff.mp H; obtain ⟨⟨t527, t528, t529⟩, A730, H⟩ := H; replace H : ((laws_toFile.f kj49 l1).bind fun t530 => ((laws_toSpotS.f kj49 l2).bind fun t533 => ((impl_LeadAll.f kj49 t527 t528 t529 t530 t533 a3).bind fun bt536 => ((laws_eqInt64S.f kj49 bt536.1 t493).bind fun t540 => (if t540 = true then (laws_FnExactLeadAll.j2 kj49 t525 t524 (bt536.2 != t496)) else (laws_FnExactLeadAll.j2 kj49 t525 t524 true)))))) = some r := H; have A73 := Aside0.mk A730; clear A730; obtain ⟨t530, A74, H⟩ := obn H; obtain ⟨t533, A75, H⟩ := obn H; replace H := Option.bind_eq_some_iff.mp H; obtain ⟨⟨t536, t539⟩, A760, H⟩ := H; replace H : ((laws_eqInt64S.f kj49 t536 t493).bind fun t540 => (if t540 = true then (laws_FnExactLeadAll.j2 kj49 t525 t524 (t539 != t496)) else (laws_FnExactLeadAll.j2 kj49 t525 t524 true))) = some r := H; have A76 := Aside0.mk A760; clear A760; have HC77 := Aside0.mk H; clear H; obtain ⟨Ao78, co78, eo78⟩ := Kd.R_slice HO_14.out; subst eo78
             go_upto_region 32 with (first | ((with_reducible refine gate_callee (f := 15) rfl ?_); refine gl (some 95) Try.func15 #[.slice Ao78 t506.length co78, .int .i64 1] ?_; (with_reducible refine (laws_markInt64S.calls kj49 (fun k_ => some k_ = (.slice Ao78 t506.length co78 : Value).ownBlock) (.slice Ao78 t506.length co78) t506 1 t524 t525 w _ ?side1 ?side2 A67.out).mono ?_); (case side1 => repeat (first | (with_reducible first | exact HB.out | apply below_alloc | apply pw_below_drewN | apply below_drew1 | refine below_set ?_ GE481.out) | exact HB.out)); (case side2 => exact Kd.R_tight rfl HO_14.out); rintro e w79 ⟨rfl, hy0, hb, hkp⟩; refine ⟨_, rfl, ?_⟩; have n0_ := Aside0.mk (Kd.R_mono (ok' := fun k_ => some k_ ≠ (.slice Ao78 t506.length co78 : Value).ownBlock) (Kd.R_keptB (HO_10.out) hkp (fun k_ hk_ hs_ => (hk_) hs_)) (fun k_ hk_ => hk_.1)); have n1_ := Aside0.mk (Kd.R_reok rfl hy0 (fun k_ e_ => HO_14.out.1 k_ e_)); have n2_ := Aside0.mk (blk_kept (pk BK481) hkp (fun hs_ => (fun e_ => (Kd.R_ne HO_14.out BK481.out (by decide)) e_) hs_)); have n3_ := Aside0.mk (hb); clear HO_10; clear HO_14; clear BK481; clear HB; have HO_10 := n0_; have HO_14 := n1_; have BK481 := n2_; have HB := n3_; clear n0_ n1_ n2_ n3_; (try clear hb); (try clear hkp); (try clear hy0)) | ((with_reducible refine gate_callee (f := 16) rfl ?_); refine goesL_ (some 98) rfl rfl Try.func16 (by kernel_rfl) rfl #[.slice Ao78 t525.length co78, .int .i64 1] rfl (by (try simp only [List.map_toArray, List.map_cons, List.map_nil]); first | done | (rw [show t525.length = t506.length from (Kd.R_reads' HO_14.out).1.symm] <;> rfl) | rfl | (simp only [List.length_drop, List.length_take]; rfl)) ?_; (with_reducible refine (laws_heldInt64S.calls kj49 _ _ t525 1 t526 _ ?side1 ?side2 A68.out).mono ?_); (case side1 => repeat (first | exact (Kd.R_reads' HO_14.out).2.2 | (with_reducible refine Kd.C_alloc ?_ _) | (with_reducible refine Kd.C_drewN ?_ _) | (with_reducible refine Kd.C_drew ?_))); (case side2 => rw [show t525.length = t506.length from (Kd.R_reads' HO_14.out).1.symm]; exact (Kd.R_reads' HO_14.out).2.1); rintro e w' ⟨rfl, ⟨nd, rfl⟩⟩; refine ⟨_, rfl, ?_⟩) | ((with_reducible refine gate_dst (N := 105) rfl ?_); refine wpList_run0 (v := .agg (mixA (Value.int .u16) [.int .i8 a0_0, .int .i8 a0_1] a0_2)) rfl (load_mix_run (P := Try.prog) 26 (.tmp 4) rfl gb481 rfl (show World.rangeAt _ gb481 0 ([.int .i8 a0_0, .int .i8 a0_1] ++ a0_2.l.map (Value.int .u16)) from mix_range (show (World.heap _)[gb481]? = some (.cells (mixA (Value.int .u16) [.int .i8 a0_0, .int .i8 a0_1] a0_2) 26 (0, 0)) from by (with_reducible repeat (first | refine blk_drewN ?_ _ | refine blk_drew ?_ | refine blk_alloc ?_ _)); exact BK481.out)) Try.underlying26 rfl (by kernel_rfl) rfl) ?_) | ((with_reducible refine gate_callee (f := 8) rfl ?_); refine gl (some 106) Try.func8 #[.agg (mixA (Value.int .u16) [.int .i8 a0_0, .int .i8 a0_1] a0_2)] ?_; (with_reducible refine (laws_toRoom.calls kj49 a0_0 a0_1 a0_2 t527 t528 t529 _ A73.out).mono ?_); rintro e w81 ⟨rfl, hb⟩; refine ⟨_, rfl, ?_⟩; replace HO_10 := krb HO_10 hb; replace HO_14 := krb HO_14 hb; replace BK481 := bkb BK481 hb; replace HB := bst HB hb; (try clear hb); (try clear hb2); (try clear hk); (try clear hi)) | ((with_reducible refine gate_callee (f := 9) rfl ?_); refine gl (some 108) Try.func9 #[.slice A1 l1.length c1] ?_; (with_reducible refine (laws_toFile.calls kj49 _ _ l1 t530 _ ?side1 ?side2 A74.out).mono ?_); (case side1 => repeat (first | exact (Kd.C_below HR1.out HB.out) | (with_reducible refine Kd.C_alloc ?_ _) | (with_reducible refine Kd.C_drewN ?_ _) | (with_reducible refine Kd.C_drew ?_))); (case side2 => exact HC1.out); rintro e w82 ⟨v531, rfl, ho0, hb⟩; refine ⟨_, rfl, ?_⟩; replace HO_10 := krb HO_10 hb; replace HO_14 := krb HO_14 hb; have HO532 := Aside0.mk (Kd.R_lower ho0 (below_size (by repeat (first | (with_reducible first | exact HB.out | apply below_alloc | apply pw_below_drewN | apply below_drew1 | refine below_set ?_ GE481.out) | exact HB.out)))); replace BK481 := bkb BK481 hb; replace HB := bst HB hb; (try clear hb); (try clear hb2); (try clear hk); (try clear hi); (try clear ho0)) | ((with_reducible refine gate_callee (f := 19) rfl ?_); refine gl (some 110) Try.func19 #[.slice A2 l2.length c2] ?_; (with_reducible refine (laws_toSpotS.calls kj49 _ _ l2 t533 _ ?side1 ?side2 A75.out).mono ?_); (case side1 => repeat (first | exact (Kd.C_below HR2.out HB.out) | (with_reducible refine Kd.C_alloc ?_ _) | (with_reducible refine Kd.C_drewN ?_ _) | (with_reducible refine Kd.C_drew ?_))); (case side2 => exact HC2.out); rintro e w83 ⟨v534, rfl, ho0, hb⟩; refine ⟨_, rfl, ?_⟩; have n0_ := krb HO_10 hb; have n1_ := krb HO_14 hb; have n2_ := Aside0.mk (Kd.R_elder' (by (with_reducible repeat (first | apply Kd.R_alloc | apply Kd.R_drewN | apply Kd.R_drew)); exact HO532.out) (Kd.R_base ho0) hb); have n3_ := Aside0.mk (Kd.R_lower (Kd.R_new' ho0 (Kd.R_lt (by (with_reducible repeat (first | apply Kd.R_alloc | apply Kd.R_drewN | apply Kd.R_drew)); exact HO532.out))) (below_size (by repeat (first | (with_reducible first | exact HB.out | apply below_alloc | apply pw_below_drewN | apply below_drew1 | refine below_set ?_ GE481.out) | exact HB.out)))); have n4_ := bkb BK481 hb; have n5_ := bst HB hb; clear HO_10; clear HO_14; clear HO532; clear BK481; clear HB; have HO_10 := n0_; have HO_14 := n1_; have HO532 := n2_; have HO535 := n3_; have BK481 := n4_; have HB := n5_; clear n0_ n1_ n2_ n3_ n4_ n5_; (try clear hb); (try clear hb2); (try clear hk); (try clear hi); (try clear ho0); obtain ⟨Ao84, co84, eo84⟩ := Kd.R_slice HO532.out; subst eo84; obtain ⟨Ao85, co85, eo85⟩ := Kd.R_slice HO535.out; subst eo85) | ((with_reducible refine gate_callee (f := 20) rfl ?_); refine gl (some 112) Try.func20 #[.agg (mixA (Value.int .u16) [.int .i8 t527, .int .i8 t528] t529), .slice Ao84 t530.length co84, .slice Ao85 t533.length co85, .int .i64 a3] ?_; (with_reducible refine (impl_LeadAll.calls kj49 t527 t528 t529 (fun k_ => some k_ = (.slice Ao84 t530.length co84 : Value).ownBlock) _ _ t530 _ _ t533 a3 t536 t539 _ ?side1 ?side2 ?side3 A76.out).mono ?_); (case side1 => exact Kd.R_V (Kd.R_tight rfl (Kd.R_types (Kd.R_apart' (Kd.R_apart' (HO532.out) (Kd.R_typed HO_10.out) (by decide)) (Kd.R_typed HO_14.out) (by decide)) BK481.out (by decide)))); (case side2 => repeat (first | exact (Kd.R_reads' HO535.out).2.2 | (with_reducible refine Kd.C_alloc ?_ _) | (with_reducible refine Kd.C_drewN ?_ _) | (with_reducible refine Kd.C_drew ?_))); (case side3 => exact (Kd.R_reads' HO535.out).2.1); rintro e w86 ⟨v537, rfl, ho0, hb⟩; refine ⟨_, rfl, ?_⟩; have n0_ := Aside0.mk (Kd.R_elder' (by (with_reducible repeat (first | apply Kd.R_alloc | apply Kd.R_drewN | apply Kd.R_drew)); exact HO_10.out) (Kd.R_base ho0) hb); have n1_ := Aside0.mk (Kd.R_elder' (by (with_reducible repeat (first | apply Kd.R_alloc | apply Kd.R_drewN | apply Kd.R_drew)); exact HO_14.out) (Kd.R_base ho0) hb); have n2_ := krb HO532 hb; have n3_ := krb HO535 hb; have n4_ := Aside0.mk (Kd.R_lower (Kd.R_new' (Kd.R_new' (Kd.R_mono (ok' := fun k_ => True) ho0 (fun _ hk_ => trivial)) (Kd.R_lt (by (with_reducible repeat (first | apply Kd.R_alloc | apply Kd.R_drewN | apply Kd.R_drew)); exact HO_10.out))) (Kd.R_lt (by (with_reducible repeat (first | apply Kd.R_alloc | apply Kd.R_drewN | apply Kd.R_drew)); exact HO_14.out))) (below_size (by repeat (first | (with_reducible first | exact HB.out | apply below_alloc | apply pw_below_drewN | apply below_drew1 | refine below_set ?_ GE481.out) | exact HB.out)))); have n5_ := bkb BK481 hb; have n6_ := bst HB hb; clear HO_10; clear HO_14; clear HO532; clear HO535; clear BK481; clear HB; have HO_10 := n0_; have HO_14 := n1_; have HO532 := n2_; have HO535 := n3_; have HO538 := n4_; have BK481 := n5_; have HB := n6_; clear n0_ n1_ n2_ n3_ n4_ n5_ n6_; (try clear hb); (try clear hb2); (try clear hk); (try clear hi); (try clear ho0)))
             (try simp only [Act.put, List.setIfInBounds_toArray, List.set_cons_zero, List.set_cons_succ])
             go_cut [123] (fun v123 wc => ∃ (kq : Nat) (x123_76 : Bool), v123 = .bool x123_76 ∧ Aside0 (laws_FnExactLeadAll.j2 kq t525 t524 x123_76 = some r) ∧ Aside0 (kq ≤ kj49) ∧ Aside0 (Kd.R (Kd.int .i64) 2 wc w.heap.size (fun _ => True) (.slice Ao78 t506.length co78) t525) ∧ Aside0 (wc.heap[gb481]? = some (.cells (mixA (Value.int .u16) [.int .i8 a0_0, .int .i8 a0_1] a0_2) 26 (0, 0))) ∧ Aside0 (Below w.heap.size w wc))
             case first =>
              have H := HC77.out; clear HC77; obtain ⟨t540, A87, H⟩ := obn H
              by_cases c88 : t540 = true
              ·subst c88
               have H1 : (laws_FnExactLeadAll.j2 kj49 t525 t524 (t539 != t496)) = some r := by rw [if_pos rfl] at H; exact H
               clear H; have H := H1; clear H1; have H' := Aside0.mk H; clear H; obtain ⟨Ao89, co89, eo89⟩ := Kd.R_slice HO538.out; subst eo89; obtain ⟨Ao90, co90, eo90⟩ := Kd.R_slice HO_10.out; subst eo90
               go_wp2_with (first | ((with_reducible refine gate_callee (f := 12) rfl ?_); refine gl (some 117) Try.func12 #[.slice Ao89 t536.length co89, .slice Ao90 t493.length co90] ?_; (with_reducible refine (laws_eqInt64S.calls kj49 _ _ t536 _ _ t493 true _ ?side1 ?side2 ?side3 ?side4 A87.out).mono ?_); (case side1 => repeat (first | exact (Kd.R_reads' HO538.out).2.2 | (with_reducible refine Kd.C_alloc ?_ _) | (with_reducible refine Kd.C_drewN ?_ _) | (with_reducible refine Kd.C_drew ?_))); (case side2 => exact (Kd.R_reads' HO538.out).2.1); (case side3 => repeat (first | exact (Kd.R_reads' HO_10.out).2.2 | (with_reducible refine Kd.C_alloc ?_ _) | (with_reducible refine Kd.C_drewN ?_ _) | (with_reducible refine Kd.C_drew ?_))); (case side4 => exact (Kd.R_reads' HO_10.out).2.1); rintro e w' ⟨rfl, ⟨nd, rfl⟩⟩; refine ⟨_, rfl, ?_⟩))
               go_meet
               case rel => exact ⟨_, ((t539 != t496)), (by first | rfl | (simp; done) | (simp [*]; done)), H', ⟨by have := HJ18.out; have := HJ49.out; first | omega | exact Nat.le_refl _⟩, ⟨by (with_reducible repeat (first | apply Kd.R_alloc | apply Kd.R_drewN | apply Kd.R_drew)); exact Kd.R_mono HO_14.out (fun _ hk => trivial)⟩, ⟨pk BK481⟩, ⟨pbs HB⟩⟩
              ·replace c88 := Bool.eq_false_iff.mpr c88
               subst c88
               have H1 : (laws_FnExactLeadAll.j2 kj49 t525 t524 true) = some r := by rw [if_neg (show ¬ (false = true) by decide)] at H; exact H
               clear H; have H := H1; clear H1; have H' := Aside0.mk H; clear H; obtain ⟨Ao91, co91, eo91⟩ := Kd.R_slice HO538.out; subst eo91; obtain ⟨Ao92, co92, eo92⟩ := Kd.R_slice HO_10.out; subst eo92
               go_wp2_with (first | ((with_reducible refine gate_callee (f := 12) rfl ?_); refine gl (some 117) Try.func12 #[.slice Ao91 t536.length co91, .slice Ao92 t493.length co92] ?_; (with_reducible refine (laws_eqInt64S.calls kj49 _ _ t536 _ _ t493 false _ ?side1 ?side2 ?side3 ?side4 A87.out).mono ?_); (case side1 => repeat (first | exact (Kd.R_reads' HO538.out).2.2 | (with_reducible refine Kd.C_alloc ?_ _) | (with_reducible refine Kd.C_drewN ?_ _) | (with_reducible refine Kd.C_drew ?_))); (case side2 => exact (Kd.R_reads' HO538.out).2.1); (case side3 => repeat (first | exact (Kd.R_reads' HO_10.out).2.2 | (with_reducible refine Kd.C_alloc ?_ _) | (with_reducible refine Kd.C_drewN ?_ _) | (with_reducible refine Kd.C_drew ?_))); (case side4 => exact (Kd.R_reads' HO_10.out).2.1); rintro e w' ⟨rfl, ⟨nd, rfl⟩⟩; refine ⟨_, rfl, ?_⟩))
               go_meet
               case rel => exact ⟨_, (true), (by first | rfl | (simp; done) | (simp [*]; done)), H', ⟨by have := HJ18.out; have := HJ49.out; first | omega | exact Nat.le_refl _⟩, ⟨by (with_reducible repeat (first | apply Kd.R_alloc | apply Kd.R_drewN | apply Kd.R_drew)); exact Kd.R_mono HO_14.out (fun _ hk => trivial)⟩, ⟨pk BK481⟩, ⟨pbs HB⟩⟩
             case rest =>
              clear HC77
              try clear c1
              try clear c2
              try clear p2
              try clear c3
              try clear c4
              try clear c5
              try clear c6
              try clear c6b0
              try clear c7
              try clear c8
              try clear c9
              try clear c9b0
              try clear c12
              try clear c13
              try clear c14
              try clear c15
              try clear c16
              try clear c17
              try clear c18
              try clear c19
              try clear c20
              try clear c21
              try clear c22
              try clear c36
              try clear c41
              try clear c44
              try clear c47
              try clear c59
              try clear c59b0
              try clear c61
              try clear c66
              try clear c69
              try clear c69b0
              try clear c72
              try clear c72b0
              try clear c72b1
              try clear c88
              try clear p2
              obtain ⟨kq, x123_76, rfl, HA, HJ76, HO_14, BK481, HB⟩ := hcut; have hl14_76 := (Kd.R_reads' HO_14.out).1; rw [hl14_76] at HO_14; (try simp only [hl14_76]); (try simp only [hl14_76] at BK481)
              cases kq with
              | zero => exact absurd HA.out (by simp [laws_FnExactLeadAll.j2])
              | succ kj76 =>
               have H := HA.out; clear HA; simp only [laws_FnExactLeadAll.j2] at H
               by_cases c93 : x123_76 = true
               ·subst c93
                have H1 : (some false) = some r := by rw [if_pos rfl] at H; exact H
                clear H; have H := H1; clear H1; obtain rfl := Option.some.inj H
                go_wp2
                go_ret
                exact ⟨by first | rfl | (simp [errW_none, errW_some] <;> rfl) | (simp [*, errW_none, errW_some] <;> rfl), pbs HB⟩
               ·replace c93 := Bool.eq_false_iff.mpr c93
                subst c93
                have H1 : ((laws_heldInt64S.f kj76 t525 1).bind fun t541 => (if t541 < 0 then (some false) else (if t541 = t524 then (some true) else (some false)))) = some r := by rw [if_neg (show ¬ (false = true) by decide)] at H; exact H
                clear H; have H := H1; clear H1; obtain ⟨t541, A94, H⟩ := obn H
                by_cases c95 : t541 < 0
                ·rw [if_pos c95] at H
                 have c95b0 : decide (t541 < 0) = true := decide_eq_true c95; clear c95; obtain rfl := Option.some.inj H
                 go_wp2_with (first | ((with_reducible refine gate_callee (f := 16) rfl ?_); refine gl (some 126) Try.func16 #[.slice Ao78 t525.length co78, .int .i64 1] ?_; (with_reducible refine (laws_heldInt64S.calls kj76 _ _ t525 1 t541 _ ?side1 ?side2 A94.out).mono ?_); (case side1 => repeat (first | exact (Kd.R_reads' HO_14.out).2.2 | (with_reducible refine Kd.C_alloc ?_ _) | (with_reducible refine Kd.C_drewN ?_ _) | (with_reducible refine Kd.C_drew ?_))); (case side2 => exact (Kd.R_reads' HO_14.out).2.1); rintro e w' ⟨rfl, ⟨nd, rfl⟩⟩; refine ⟨_, rfl, ?_⟩))
                 go_ret
                 exact ⟨by first | rfl | (simp [errW_none, errW_some] <;> rfl) | (simp [*, errW_none, errW_some] <;> rfl), pbs HB⟩
                ·rw [if_neg c95] at H
                 have c95b0 : decide (t541 < 0) = false := decide_eq_false c95; clear c95
                 by_cases c96 : t541 = t524
                 ·rw [if_pos c96] at H
                  have c96b0 : (t541 == t524) = true := beq_iff_eq.mpr c96; have c96b1 : (t541 != t524) = false := bne_eq_false_iff_eq.mpr c96; clear c96; obtain rfl := Option.some.inj H
                  go_wp2_with (first | ((with_reducible refine gate_callee (f := 16) rfl ?_); refine gl (some 126) Try.func16 #[.slice Ao78 t525.length co78, .int .i64 1] ?_; (with_reducible refine (laws_heldInt64S.calls kj76 _ _ t525 1 t541 _ ?side1 ?side2 A94.out).mono ?_); (case side1 => repeat (first | exact (Kd.R_reads' HO_14.out).2.2 | (with_reducible refine Kd.C_alloc ?_ _) | (with_reducible refine Kd.C_drewN ?_ _) | (with_reducible refine Kd.C_drew ?_))); (case side2 => exact (Kd.R_reads' HO_14.out).2.1); rintro e w' ⟨rfl, ⟨nd, rfl⟩⟩; refine ⟨_, rfl, ?_⟩))
                  go_ret
                  exact ⟨by first | rfl | (simp [errW_none, errW_some] <;> rfl) | (simp [*, errW_none, errW_some] <;> rfl), pbs HB⟩
                 ·rw [if_neg c96] at H
                  have c96b0 : (t541 == t524) = false := beq_eq_false_iff_ne.mpr c96; have c96b1 : (t541 != t524) = true := bne_iff_ne.mpr c96; obtain rfl := Option.some.inj H
                  go_wp2_with (first | ((with_reducible refine gate_callee (f := 16) rfl ?_); refine gl (some 126) Try.func16 #[.slice Ao78 t525.length co78, .int .i64 1] ?_; (with_reducible refine (laws_heldInt64S.calls kj76 _ _ t525 1 t541 _ ?side1 ?side2 A94.out).mono ?_); (case side1 => repeat (first | exact (Kd.R_reads' HO_14.out).2.2 | (with_reducible refine Kd.C_alloc ?_ _) | (with_reducible refine Kd.C_drewN ?_ _) | (with_reducible refine Kd.C_drew ?_))); (case side2 => exact (Kd.R_reads' HO_14.out).2.1); rintro e w' ⟨rfl, ⟨nd, rfl⟩⟩; refine ⟨_, rfl, ?_⟩))
                  go_ret
                  exact ⟨by first | rfl | (simp [errW_none, errW_some] <;> rfl) | (simp [*, errW_none, errW_some] <;> rfl), pbs HB⟩
            ·rw [if_neg c72] at H
             have c72b0 : (t526 == t524) = false := beq_eq_false_iff_ne.mpr c72; have c72b1 : (t526 != t524) = true := bne_iff_ne.mpr c72; obtain rfl := Option.some.inj H; obtain ⟨Ao97, co97, eo97⟩ := Kd.R_slice HO_14.out; subst eo97
             go_wp2_with (first | ((with_reducible refine gate_callee (f := 15) rfl ?_); refine gl (some 95) Try.func15 #[.slice Ao97 t506.length co97, .int .i64 1] ?_; (with_reducible refine (laws_markInt64S.calls kj49 (fun k_ => some k_ = (.slice Ao97 t506.length co97 : Value).ownBlock) (.slice Ao97 t506.length co97) t506 1 t524 t525 w _ ?side1 ?side2 A67.out).mono ?_); (case side1 => repeat (first | (with_reducible first | exact HB.out | apply below_alloc | apply pw_below_drewN | apply below_drew1 | refine below_set ?_ GE481.out) | exact HB.out)); (case side2 => exact Kd.R_tight rfl HO_14.out); rintro e w98 ⟨rfl, hy0, hb, hkp⟩; refine ⟨_, rfl, ?_⟩; have n0_ := Aside0.mk (Kd.R_mono (ok' := fun k_ => some k_ ≠ (.slice Ao97 t506.length co97 : Value).ownBlock) (Kd.R_keptB (HO_10.out) hkp (fun k_ hk_ hs_ => (hk_) hs_)) (fun k_ hk_ => hk_.1)); have n1_ := Aside0.mk (Kd.R_reok rfl hy0 (fun k_ e_ => HO_14.out.1 k_ e_)); have n2_ := Aside0.mk (blk_kept (pk BK481) hkp (fun hs_ => (fun e_ => (Kd.R_ne HO_14.out BK481.out (by decide)) e_) hs_)); have n3_ := Aside0.mk (hb); clear HO_10; clear HO_14; clear BK481; clear HB; have HO_10 := n0_; have HO_14 := n1_; have BK481 := n2_; have HB := n3_; clear n0_ n1_ n2_ n3_; (try clear hb); (try clear hkp); (try clear hy0)) | ((with_reducible refine gate_callee (f := 16) rfl ?_); refine goesL_ (some 98) rfl rfl Try.func16 (by kernel_rfl) rfl #[.slice Ao97 t525.length co97, .int .i64 1] rfl (by (try simp only [List.map_toArray, List.map_cons, List.map_nil]); first | done | (rw [show t525.length = t506.length from (Kd.R_reads' HO_14.out).1.symm] <;> rfl) | rfl | (simp only [List.length_drop, List.length_take]; rfl)) ?_; (with_reducible refine (laws_heldInt64S.calls kj49 _ _ t525 1 t526 _ ?side1 ?side2 A68.out).mono ?_); (case side1 => repeat (first | exact (Kd.R_reads' HO_14.out).2.2 | (with_reducible refine Kd.C_alloc ?_ _) | (with_reducible refine Kd.C_drewN ?_ _) | (with_reducible refine Kd.C_drew ?_))); (case side2 => rw [show t525.length = t506.length from (Kd.R_reads' HO_14.out).1.symm]; exact (Kd.R_reads' HO_14.out).2.1); rintro e w' ⟨rfl, ⟨nd, rfl⟩⟩; refine ⟨_, rfl, ?_⟩))
             go_ret
             exact ⟨by first | rfl | (simp [errW_none, errW_some] <;> rfl) | (simp [*, errW_none, errW_some] <;> rfl), pbs HB⟩
       ·replace c47 := Bool.eq_false_iff.mpr c47
        subst c47
        have H1 : (some false) = some r := by rw [if_neg (show ¬ (false = true) by decide)] at H; exact H
        clear H; have H := H1; clear H1; obtain rfl := Option.some.inj H
        go_wp2_with (first | ((with_reducible refine gate_callee (f := 9) rfl ?_); refine gl (some 66) Try.func9 #[.slice A1 l1.length c1] ?_; (with_reducible refine (laws_toFile.calls kj18 _ _ l1 t511 _ ?side1 ?side2 A42.out).mono ?_); (case side1 => repeat (first | exact (Kd.C_below HR1.out HB.out) | (with_reducible refine Kd.C_alloc ?_ _) | (with_reducible refine Kd.C_drewN ?_ _) | (with_reducible refine Kd.C_drew ?_))); (case side2 => exact HC1.out); rintro e w99 ⟨v512, rfl, ho0, hb⟩; refine ⟨_, rfl, ?_⟩; have n0_ := krb HO_10 hb; have n1_ := Aside0.mk (Kd.R_elder' (by (with_reducible repeat (first | apply Kd.R_alloc | apply Kd.R_drewN | apply Kd.R_drew)); exact HO_12.out) (Kd.R_base ho0) hb); have n2_ := Aside0.mk (Kd.R_elder' (by (with_reducible repeat (first | apply Kd.R_alloc | apply Kd.R_drewN | apply Kd.R_drew)); exact HO_13.out) (Kd.R_base ho0) hb); have n3_ := krb HO_14 hb; have n4_ := Aside0.mk (Kd.R_lower (Kd.R_new' (Kd.R_new' ho0 (Kd.R_lt (by (with_reducible repeat (first | apply Kd.R_alloc | apply Kd.R_drewN | apply Kd.R_drew)); exact HO_12.out))) (Kd.R_lt (by (with_reducible repeat (first | apply Kd.R_alloc | apply Kd.R_drewN | apply Kd.R_drew)); exact HO_13.out))) (below_size (by repeat (first | (with_reducible first | exact HB.out | apply below_alloc | apply pw_below_drewN | apply below_drew1 | refine below_set ?_ GE481.out) | exact HB.out)))); have n5_ := bkb BK481 hb; have n6_ := bst HB hb; clear HO_10; clear HO_12; clear HO_13; clear HO_14; clear BK481; clear HB; have HO_10 := n0_; have HO_12 := n1_; have HO_13 := n2_; have HO_14 := n3_; have HO513 := n4_; have BK481 := n5_; have HB := n6_; clear n0_ n1_ n2_ n3_ n4_ n5_ n6_; (try clear hb); (try clear hb2); (try clear hk); (try clear hi); (try clear ho0); obtain ⟨Ao100, co100, eo100⟩ := Kd.R_slice HO513.out; subst eo100) | ((with_reducible refine gate_callee (f := 13) rfl ?_); refine gl (some 67) Try.func13 #[.slice Ao32 t497.length co32, .slice Ao100 t511.length co100] ?_; (with_reducible refine (laws_eqFile.calls kj18 _ _ t497 _ _ t511 true _ ?side1 ?side2 ?side3 ?side4 A43.out).mono ?_); (case side1 => repeat (first | exact (Kd.R_reads' HO_12.out).2.2 | (with_reducible refine Kd.C_alloc ?_ _) | (with_reducible refine Kd.C_drewN ?_ _) | (with_reducible refine Kd.C_drew ?_))); (case side2 => exact (Kd.R_reads' HO_12.out).2.1); (case side3 => repeat (first | exact (Kd.R_reads' HO513.out).2.2 | (with_reducible refine Kd.C_alloc ?_ _) | (with_reducible refine Kd.C_drewN ?_ _) | (with_reducible refine Kd.C_drew ?_))); (case side4 => exact (Kd.R_reads' HO513.out).2.1); rintro e w101 ⟨rfl, hb⟩; refine ⟨_, rfl, ?_⟩; replace HO_10 := krb HO_10 hb; replace HO_12 := krb HO_12 hb; replace HO_13 := krb HO_13 hb; replace HO_14 := krb HO_14 hb; replace HO513 := krb HO513 hb; replace BK481 := bkb BK481 hb; replace HB := bst HB hb; (try clear hb); (try clear hb2); (try clear hk); (try clear hi)) | ((with_reducible refine gate_callee (f := 19) rfl ?_); refine gl (some 71) Try.func19 #[.slice A2 l2.length c2] ?_; (with_reducible refine (laws_toSpotS.calls kj18 _ _ l2 t515 _ ?side1 ?side2 A45.out).mono ?_); (case side1 => repeat (first | exact (Kd.C_below HR2.out HB.out) | (with_reducible refine Kd.C_alloc ?_ _) | (with_reducible refine Kd.C_drewN ?_ _) | (with_reducible refine Kd.C_drew ?_))); (case side2 => exact HC2.out); rintro e w102 ⟨v516, rfl, ho0, hb⟩; refine ⟨_, rfl, ?_⟩; have n0_ := krb HO_10 hb; have n1_ := Aside0.mk (Kd.R_elder' (by (with_reducible repeat (first | apply Kd.R_alloc | apply Kd.R_drewN | apply Kd.R_drew)); exact HO_12.out) (Kd.R_base ho0) hb); have n2_ := Aside0.mk (Kd.R_elder' (by (with_reducible repeat (first | apply Kd.R_alloc | apply Kd.R_drewN | apply Kd.R_drew)); exact HO_13.out) (Kd.R_base ho0) hb); have n3_ := krb HO_14 hb; have n4_ := Aside0.mk (Kd.R_elder' (by (with_reducible repeat (first | apply Kd.R_alloc | apply Kd.R_drewN | apply Kd.R_drew)); exact HO513.out) (Kd.R_base ho0) hb); have n5_ := Aside0.mk (Kd.R_lower (Kd.R_new' (Kd.R_new' (Kd.R_new' ho0 (Kd.R_lt (by (with_reducible repeat (first | apply Kd.R_alloc | apply Kd.R_drewN | apply Kd.R_drew)); exact HO_12.out))) (Kd.R_lt (by (with_reducible repeat (first | apply Kd.R_alloc | apply Kd.R_drewN | apply Kd.R_drew)); exact HO_13.out))) (Kd.R_lt (by (with_reducible repeat (first | apply Kd.R_alloc | apply Kd.R_drewN | apply Kd.R_drew)); exact HO513.out))) (below_size (by repeat (first | (with_reducible first | exact HB.out | apply below_alloc | apply pw_below_drewN | apply below_drew1 | refine below_set ?_ GE481.out) | exact HB.out)))); have n6_ := bkb BK481 hb; have n7_ := bst HB hb; clear HO_10; clear HO_12; clear HO_13; clear HO_14; clear HO513; clear BK481; clear HB; have HO_10 := n0_; have HO_12 := n1_; have HO_13 := n2_; have HO_14 := n3_; have HO513 := n4_; have HO517 := n5_; have BK481 := n6_; have HB := n7_; clear n0_ n1_ n2_ n3_ n4_ n5_ n6_ n7_; (try clear hb); (try clear hb2); (try clear hk); (try clear hi); (try clear ho0); obtain ⟨Ao103, co103, eo103⟩ := Kd.R_slice HO517.out; subst eo103) | ((with_reducible refine gate_callee (f := 21) rfl ?_); refine gl (some 72) Try.func21 #[.slice Ao33 t500.length co33, .slice Ao103 t515.length co103] ?_; (with_reducible refine (laws_eqSpotS.calls kj18 _ _ t500 _ _ t515 false _ ?side1 ?side2 ?side3 ?side4 A46.out).mono ?_); (case side1 => repeat (first | exact (Kd.R_reads' HO_13.out).2.2 | (with_reducible refine Kd.C_alloc ?_ _) | (with_reducible refine Kd.C_drewN ?_ _) | (with_reducible refine Kd.C_drew ?_))); (case side2 => exact (Kd.R_reads' HO_13.out).2.1); (case side3 => repeat (first | exact (Kd.R_reads' HO517.out).2.2 | (with_reducible refine Kd.C_alloc ?_ _) | (with_reducible refine Kd.C_drewN ?_ _) | (with_reducible refine Kd.C_drew ?_))); (case side4 => exact (Kd.R_reads' HO517.out).2.1); rintro e w104 ⟨rfl, hb⟩; refine ⟨_, rfl, ?_⟩; replace HO_10 := krb HO_10 hb; replace HO_12 := krb HO_12 hb; replace HO_13 := krb HO_13 hb; replace HO_14 := krb HO_14 hb; replace HO513 := krb HO513 hb; replace HO517 := krb HO517 hb; replace BK481 := bkb BK481 hb; replace HB := bst HB hb; (try clear hb); (try clear hb2); (try clear hk); (try clear hi)))
        go_ret
        exact ⟨by first | rfl | (simp [errW_none, errW_some] <;> rfl) | (simp [*, errW_none, errW_some] <;> rfl), pbs HB⟩
      ·replace c44 := Bool.eq_false_iff.mpr c44
       subst c44
       have H1 : (some false) = some r := by rw [if_neg (show ¬ (false = true) by decide)] at H; exact H
       clear H; have H := H1; clear H1; obtain rfl := Option.some.inj H
       go_wp2_with (first | ((with_reducible refine gate_callee (f := 9) rfl ?_); refine gl (some 66) Try.func9 #[.slice A1 l1.length c1] ?_; (with_reducible refine (laws_toFile.calls kj18 _ _ l1 t511 _ ?side1 ?side2 A42.out).mono ?_); (case side1 => repeat (first | exact (Kd.C_below HR1.out HB.out) | (with_reducible refine Kd.C_alloc ?_ _) | (with_reducible refine Kd.C_drewN ?_ _) | (with_reducible refine Kd.C_drew ?_))); (case side2 => exact HC1.out); rintro e w105 ⟨v512, rfl, ho0, hb⟩; refine ⟨_, rfl, ?_⟩; have n0_ := krb HO_10 hb; have n1_ := Aside0.mk (Kd.R_elder' (by (with_reducible repeat (first | apply Kd.R_alloc | apply Kd.R_drewN | apply Kd.R_drew)); exact HO_12.out) (Kd.R_base ho0) hb); have n2_ := Aside0.mk (Kd.R_elder' (by (with_reducible repeat (first | apply Kd.R_alloc | apply Kd.R_drewN | apply Kd.R_drew)); exact HO_13.out) (Kd.R_base ho0) hb); have n3_ := krb HO_14 hb; have n4_ := Aside0.mk (Kd.R_lower (Kd.R_new' (Kd.R_new' ho0 (Kd.R_lt (by (with_reducible repeat (first | apply Kd.R_alloc | apply Kd.R_drewN | apply Kd.R_drew)); exact HO_12.out))) (Kd.R_lt (by (with_reducible repeat (first | apply Kd.R_alloc | apply Kd.R_drewN | apply Kd.R_drew)); exact HO_13.out))) (below_size (by repeat (first | (with_reducible first | exact HB.out | apply below_alloc | apply pw_below_drewN | apply below_drew1 | refine below_set ?_ GE481.out) | exact HB.out)))); have n5_ := bkb BK481 hb; have n6_ := bst HB hb; clear HO_10; clear HO_12; clear HO_13; clear HO_14; clear BK481; clear HB; have HO_10 := n0_; have HO_12 := n1_; have HO_13 := n2_; have HO_14 := n3_; have HO513 := n4_; have BK481 := n5_; have HB := n6_; clear n0_ n1_ n2_ n3_ n4_ n5_ n6_; (try clear hb); (try clear hb2); (try clear hk); (try clear hi); (try clear ho0); obtain ⟨Ao106, co106, eo106⟩ := Kd.R_slice HO513.out; subst eo106) | ((with_reducible refine gate_callee (f := 13) rfl ?_); refine gl (some 67) Try.func13 #[.slice Ao32 t497.length co32, .slice Ao106 t511.length co106] ?_; (with_reducible refine (laws_eqFile.calls kj18 _ _ t497 _ _ t511 false _ ?side1 ?side2 ?side3 ?side4 A43.out).mono ?_); (case side1 => repeat (first | exact (Kd.R_reads' HO_12.out).2.2 | (with_reducible refine Kd.C_alloc ?_ _) | (with_reducible refine Kd.C_drewN ?_ _) | (with_reducible refine Kd.C_drew ?_))); (case side2 => exact (Kd.R_reads' HO_12.out).2.1); (case side3 => repeat (first | exact (Kd.R_reads' HO513.out).2.2 | (with_reducible refine Kd.C_alloc ?_ _) | (with_reducible refine Kd.C_drewN ?_ _) | (with_reducible refine Kd.C_drew ?_))); (case side4 => exact (Kd.R_reads' HO513.out).2.1); rintro e w107 ⟨rfl, hb⟩; refine ⟨_, rfl, ?_⟩; replace HO_10 := krb HO_10 hb; replace HO_12 := krb HO_12 hb; replace HO_13 := krb HO_13 hb; replace HO_14 := krb HO_14 hb; replace HO513 := krb HO513 hb; replace BK481 := bkb BK481 hb; replace HB := bst HB hb; (try clear hb); (try clear hb2); (try clear hk); (try clear hi)))
       go_ret
       exact ⟨by first | rfl | (simp [errW_none, errW_some] <;> rfl) | (simp [*, errW_none, errW_some] <;> rfl), pbs HB⟩
end Go.Proofs.Ytjpponjekcemjaa.PB
end
