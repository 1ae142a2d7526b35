/- The statement FnExactSeenAlong of this program: what its proof uses, part 15 of 18. The call returns true for all arguments. No condition of its own. -/
import Derived.Test.YtjogemppgdeomaaZFnExactSeenAlong13
section
namespace Go.Proofs.Ytjogemppgdeomaa.PB
open Go.RowKit Go.Proofs.YtjogemppgdeomaaW.PrintWords Go.Proofs.YtjogemppgdeomaaW.PrintLast Go.Proofs.YtjogemppgdeomaaW.PrintMore Go.Proofs.Ytjogemppgdeomaa.La
attribute [local go_sem] max2_int min2_int max_two min_two max_three min_three max_four min_four   -- for this text's walks alone
set_option linter.unusedVariables false
set_option linter.unusedSimpArgs false
def impl_Spot_69.f (l0 : List S55) : Option (List S55) := if l0.length < 70368744177664 then some l0 else none
set_option maxHeartbeats 4000000 in
set_option maxRecDepth 100000 in
theorem impl_Spot_69.calls (A0 : Option Addr) (c0 : Nat) (l0 : List S55) (r : List S55) (w : World) (hr0 : Kd.C k55 w A0 l0.length l0) (hc0 : l0.length ≤ c0) (h : impl_Spot_69.f l0 = some r) :
    Calls Try.prog 69 #[.slice A0 l0.length c0] w fun e w' => ∃ v0_ : Value, e = .returned (v0_) ∧ Kd.R k55 55 w' w.heap.size (fun _ => True) v0_ r ∧ Below w.heap.size w w' := by
  unfold impl_Spot_69.f at h
  by_cases hl : l0.length < 70368744177664
  case neg => rw [if_neg hl] at h; cases h
  rw [if_pos hl] at h; obtain rfl := Option.some.inj h; clear h; have hse : ∀ w : World, (binOp .eql 30 (.slice A0 l0.length c0) (.slice none 0 0)).run Try.prog w = .ok (.bool A0.isNone) w := fun w => Lib.run_eql_slice_nil w 30 55 A0 l0.length c0 0 0 Try.underlying30; have HR := Aside0.mk hr0; clear hr0
  cases A0 with
  | none =>
    have hl0 : l0 = [] := by
      cases l0 with
      | nil => rfl
      | cons x xs =>
        obtain ⟨ad, e, _⟩ := HR.out.2.2 (by simp); cases e
    subst hl0; clear HR; simp only [Option.isNone, List.length_nil] at hse
    go_enter Try.func69, Try.ntmps69
    go_wp2
    go_ret
    exact ⟨_, rfl, Kd.R_nil _ _ _ _ _, Below.refl _ _⟩
  | some ad =>
    simp only [Option.isNone] at hse; have HL := Aside0.mk hl; clear hl; have HB := Aside0.mk (Below.refl w.heap.size w)
    go_enter Try.func69, Try.ntmps69
    go_wp2_with (first | ((with_reducible refine gate_dst (N := 5) rfl ?_); refine Kd.R_lit k55 _ 55 ?hg (N := 5) ?hd (xs := ([] : List S55)) (inner := []) (ok := fun _ => True) (okp := fun _ => True) ?hr ?hp (fun _ hk => hk) trivial (Below.refl _ _) (Nat.le_refl _) (by simp) ?_; (case hd => rfl); (case hg => rfl); (case hr => first | (go_simp; done) | (go_simp; rfl)); (case hp => exact (Reps.none _ _)); intro v258 w3 ho4 hb hg_ hnew_; clear hg_ hnew_; have HO259 := Aside0.mk ho4; clear HB; have HB := Aside0.mk hb; clear hb ho4) | ((with_reducible refine gate_builtin (b := .append) (xs := #[.tmp 5, .tmp 6]) rfl ?_); at_builtin; refine Kd.R_append_rows k55 (w0 := w) w.heap.size rfl (.tmp 5) (.tmp 6) 30 55 (.agg #[.int .i8 0, .int .i8 0]) 2 rfl Try.underlying30 info55 rfl (by decide) (by omega) v258 [] l0 _ _ _ (fun _ => True) (fun _ => False) rfl rfl ?aO ?aR (fun _ _ h => h) (fun _ h => h.elim) ?aF ?aB ?aS ?aL ?_; (case aR => exact (Kd.C_below HR.out HB.out)); (case aB => exact HB.out); (case aF => exact (fun _ _ => trivial)); (case aO => exact HO259.out); (case aS => exact HB.out.size); (case aL => have := HL.out; simp; omega); intro v261 w5 ho hb hg hat; have HO262 := Aside0.mk ho; clear HB; clear HO259; have HB := Aside0.mk hb; clear ho hb hg hat))
    go_ret
    exact ⟨_, rfl, HO262.out, HB.out⟩
def impl_Spot_84.l0 : Nat → List (S55) → Int → Int → Option ((List (S55)))
 | 0, _, _, _ => none
 | k + 1, x0, x2, x3 => if x2 < x3 then (if 0 ≤ x3 then (if x3 < (x0.length : Int) then (if 0 ≤ x2 then (if x2 < (x0.length : Int) then (impl_Spot_84.l0 k ((x0.set (x2 : Int).toNat (⟨(rd_T55 x0 x3).f0, (rd_T55 x0 x3).f1⟩ : S55)).set (x3 : Int).toNat (⟨(rd_T55 x0 x2).f0, (rd_T55 x0 x2).f1⟩ : S55)) (wrap64 (x2 + 1)) (wrap64 (x3 - 1))) else (none)) else (none)) else (none)) else (none)) else (some x0)
def impl_Spot_84.f (k : Nat) (l0 : List (S55)) : Option ((List (S55))) := impl_Spot_84.l0 k l0 0 (wrap64 ((l0.length : Int) - 1))
theorem impl_Spot_84.mono_l : ∀ k, (∀ y0 y1 y2, LeO (impl_Spot_84.l0 k y0 y1 y2) (impl_Spot_84.l0 (k + 1) y0 y1 y2))
 | 0 => fun _ _ _ r h => by simp [impl_Spot_84.l0] at h
 | k + 1 => by
  have ih0 := impl_Spot_84.mono_l k
  ·intro y0 y1 y2
   unfold impl_Spot_84.l0
   repeat' first
   | (with_reducible exact ih0 _ _ _)
   | (with_reducible exact LeO.refl _)
   | (with_reducible exact LeO.none _)
   | (with_reducible refine LeO.ite ?_ ?_)
   | (with_reducible refine LeO.bind ?_ (fun _ => ?_))
   | exact ih0 _ _ _
   | exact LeO.none _
   | refine LeO.ite ?_ ?_
   | refine LeO.bind ?_ (fun _ => ?_)
theorem impl_Spot_84.mono : ∀ a0 k, LeO (impl_Spot_84.f k a0) (impl_Spot_84.f (k + 1) a0) := by
 intro a0 k
 have ih0 := impl_Spot_84.mono_l k
 unfold impl_Spot_84.f
 repeat' first
   | (with_reducible exact ih0 _ _ _)
   | (with_reducible exact LeO.refl _)
   | (with_reducible exact LeO.none _)
   | (with_reducible refine LeO.ite ?_ ?_)
   | (with_reducible refine LeO.bind ?_ (fun _ => ?_))
   | exact ih0 _ _ _
   | exact LeO.none _
   | refine LeO.ite ?_ ?_
   | refine LeO.bind ?_ (fun _ => ?_)
def impl_Spot_84.T3 : Bool × List (List Nat × List Nat) := (true, [([], []), ([], []), ([], []), ([], []), ([], []), ([], []), ([4, 5], [4, 5]), ([6], [6]), ([], []), ([], []), ([8, 9], [8, 9]), ([10], [10]), ([0, 1, 0, 1, 4, 5, 6, 7, 11], [0, 1]), ([12, 7, 0, 1, 4, 5, 6, 7, 11], [7, 12]), ([2, 3, 0, 1, 2, 3, 4, 5, 6, 7, 8, 9, 10, 11, 12, 13], [2, 3]), ([14, 11, 13, 0, 1, 2, 3, 4, 5, 6, 7, 8, 9, 10, 11, 12, 13], [11, 14])])
def impl_Spot_84.B3 : List Nat := [0, 0, 0, 0, 0, 0, 48, 112, 0, 0, 768, 1792, 4083, 8179, 16383, 32767]
theorem impl_Spot_84.tab3 : rtab .any (opsOf Try.f84 3) = impl_Spot_84.T3 := by kernel_rfl
theorem impl_Spot_84.bits3 : waitsOk impl_Spot_84.T3.2 impl_Spot_84.B3 = true := by kernel_rfl
set_option maxHeartbeats 8000000 in
set_option maxRecDepth 100000 in
theorem impl_Spot_84.calls (k : Nat) (P0_ : Nat → Prop) (u9000_ : Value) (l0 : List (S55)) (r : List (S55)) (w0 w : World) (hB : Below w0.heap.size w0 w) (ho0 : Kd.R k55 55 w w0.heap.size P0_ u9000_ l0) (h : impl_Spot_84.f k l0 = some r) :
  Calls Try.prog 84 #[u9000_] w fun e w' => e = .returned (.tuple #[]) ∧ Kd.R k55 55 w' w0.heap.size (fun k_ => (P0_ k_ ∨ w.heap.size ≤ k_)) u9000_ r ∧ Below w0.heap.size w0 w' ∧ Kept w w' (fun k_ => P0_ k_) := by
 have hu55 := Try.underlying55
 have HO0 := Aside0.mk (show Kd.R k55 55 w w0.heap.size (fun k_ => (P0_ k_ ∨ w.heap.size ≤ k_)) u9000_ l0 from Kd.R_mono ho0 (fun k_ hk => (.inl hk)))
 have HK := Aside0.mk (Kept.refl w (fun k_ => P0_ k_))
 have HW0 := Aside0.mk hB.size
 have HB := Aside0.mk hB
 clear hB
 have H : (impl_Spot_84.l0 k l0 0 (wrap64 ((l0.length : Int) - 1))) = some r := h
 clear h
 have H' := Aside0.mk H
 clear H
 obtain ⟨Ao2, co2, eo2⟩ := Kd.R_slice HO0.out
 subst eo2
 go_enter Try.func84, Try.ntmps84
 go_wp2
 go_loopg [2, 3] k (fun kq v2 v3 w' => ∃ (x0_1 : List (S55)) (x2_1 : Int) (x3_1 : Int), v2 = .int .i64 x2_1 ∧ v3 = .int .i64 x3_1 ∧ Aside0 (impl_Spot_84.l0 kq x0_1 x2_1 x3_1 = some r) ∧ Aside0 (kq ≤ k) ∧ Aside0 (Kd.R k55 55 w' w0.heap.size (fun k_ => (P0_ k_ ∨ w.heap.size ≤ k_)) (.slice Ao2 l0.length co2) x0_1) ∧ Aside0 (Kept w w' (fun k_ => P0_ k_)) ∧ Aside0 (Below w0.heap.size w0 w'))
 case atStart => exact ⟨(l0), (0), (wrap64 ((l0.length : Int) - 1)), (by first | rfl | (simp; done) | (simp [*]; done)), (by first | rfl | (simp; done) | (simp [*]; done)), H', ⟨Nat.le_refl _⟩, ⟨by (with_reducible repeat (first | apply Kd.R_alloc | apply Kd.R_drewN | apply Kd.R_drew)); exact HO0.out⟩, ⟨by repeat (first | (with_reducible first | exact HK.out | apply Kept.alloc | apply Kept.drewN | apply Kept.drew) | exact HK.out)⟩, ⟨pb HB⟩⟩
 case round =>
  clear H'
  try clear p2
  obtain ⟨x0_1, x2_1, x3_1, rfl, rfl, HA, HK1, HO_0, HK, HB⟩ := hrel; have hl0_1 := (Kd.R_reads' HO_0.out).1; rw [hl0_1] at HO_0; (try simp only [hl0_1])
  cases gk with
  | zero => exact absurd HA.out (by simp [impl_Spot_84.l0])
  | succ k1 =>
   have H := HA.out; clear HA; simp only [impl_Spot_84.l0] at H
   by_cases c3 : x2_1 < x3_1
   ·rw [if_pos c3] at H
    have c3b0 : decide (x2_1 < x3_1) = true := decide_eq_true c3; clear c3
    by_cases c4 : 0 ≤ x3_1
    ·rw [if_pos c4] at H
     have c4b0 : decide (0 ≤ x3_1) = true := decide_eq_true c4; clear c4
     by_cases c5 : x3_1 < (x0_1.length : Int)
     ·rw [if_pos c5] at H
      have c5b0 : decide (x3_1 < (x0_1.length : Int)) = true := decide_eq_true c5; clear c5
      by_cases c6 : 0 ≤ x2_1
      ·rw [if_pos c6] at H
       have c6b0 : decide (0 ≤ x2_1) = true := decide_eq_true c6; clear c6
       by_cases c7 : x2_1 < (x0_1.length : Int)
       ·rw [if_pos c7] at H
        have c7b0 : decide (x2_1 < (x0_1.length : Int)) = true := decide_eq_true c7; clear c7; obtain ⟨y285, hy285⟩ : ∃ y_ : List (S55), y_ = (x0_1.set (x2_1 : Int).toNat (⟨(rd_T55 x0_1 x3_1).f0, (rd_T55 x0_1 x3_1).f1⟩ : S55)) := ⟨_, rfl⟩
        replace H : (impl_Spot_84.l0 k1 (y285.set (x3_1 : Int).toNat (⟨(rd_T55 x0_1 x2_1).f0, (rd_T55 x0_1 x2_1).f1⟩ : S55)) (wrap64 (x2_1 + 1)) (wrap64 (x3_1 - 1))) = some r := by first | (rw [hy285]; with_reducible exact H) | (have H2_ := (Option.bind_some _ _).symm.trans H; rw [hy285]; with_reducible exact H2_) | (have H2_ := (Option.bind_some _ _).symm.trans H; with_reducible exact H2_) | with_reducible exact H | (rw [hy285]; exact H) | exact H
        have Ny285 := Aside0.mk hy285; clear hy285; obtain ⟨y286, hy286⟩ : ∃ y_ : List (S55), y_ = (y285.set (x3_1 : Int).toNat (⟨(rd_T55 x0_1 x2_1).f0, (rd_T55 x0_1 x2_1).f1⟩ : S55)) := ⟨_, rfl⟩
        replace H : (impl_Spot_84.l0 k1 y286 (wrap64 (x2_1 + 1)) (wrap64 (x3_1 - 1))) = some r := by first | (rw [hy286]; with_reducible exact H) | (have H2_ := (Option.bind_some _ _).symm.trans H; rw [hy286]; with_reducible exact H2_) | (have H2_ := (Option.bind_some _ _).symm.trans H; with_reducible exact H2_) | with_reducible exact H | (rw [hy286]; exact H) | exact H
        have Ny286 := Aside0.mk hy286; clear hy286; have H' := Aside0.mk H; clear H
        try go_wp2
        have n0_ := Aside0.mk (Kd.R_drew HO_0.out); have n1_ := Aside0.mk (Kept.drew HK.out); have n2_ := Aside0.mk (below_drew1 HB.out); clear HO_0; clear HK; clear HB; have HO_0 := n0_; have HK := n1_; have HB := n2_; clear n0_ n1_ n2_; have p283 : 0 ≤ (x3_1 : Int) := of_decide_eq_true (by first | (with_reducible assumption) | assumption); have q283 : x3_1 < (x0_1.length : Int) := of_decide_eq_true (by first | (with_reducible assumption) | assumption); obtain ⟨ad283, e283, hx283_0, hx283_1⟩ := at_T55 (Kd.R_reads' HO_0.out).2.2 x3_1 p283 q283; cases e283; replace p283 := eq_true p283; replace q283 := eq_true q283; have p284 : 0 ≤ (x2_1 : Int) := of_decide_eq_true (by first | (with_reducible assumption) | assumption); have q284 : x2_1 < (x0_1.length : Int) := of_decide_eq_true (by first | (with_reducible assumption) | assumption); obtain ⟨ad284, e284, hx284_0, hx284_1⟩ := at_T55 (Kd.R_reads' HO_0.out).2.2 x2_1 p284 q284; obtain rfl : ad283 = ad284 := (by injection e284); replace p284 := eq_true p284; replace q284 := eq_true q284; have p8 : 0 ≤ (x2_1 : Int) := of_decide_eq_true (by first | (with_reducible assumption) | assumption); have q8 : (x2_1 : Int) < ((x0_1.length : Int) : Int) := of_decide_eq_true (by first | (with_reducible assumption) | assumption); obtain ⟨go8, co8, eo8, gb8, gl8, cl8, HG8⟩ := Kd.R_form HO_0.out (by omega); (first | cases eo8 | (injection eo8 with ea_ en_ ec_; (first | subst ea_ | (injection ea_ with ea_; subst ea_)); subst ec_; clear en_)); have GB8 := Aside0.mk gb8; have GG8 := Aside0.mk HG8; clear gb8 gl8 HG8; have HMgo8 := Aside0.mk (show (P0_ go8 ∨ w.heap.size ≤ go8) from (HO_0.out.1 _ rfl)); (first | simp only [add_plain] at hx283_0 | skip); (first | simp only [add_plain] at hx283_1 | skip); (first | simp only [add_plain] at hx284_0 | skip); (first | simp only [add_plain] at hx284_1 | skip); obtain ⟨ce8, hcl8, hM8, hcc8, hfr8⟩ := Kd.R_elem HO_0.out z55 (x2_1 : Int) p8 q8; obtain rfl := k55_openM hM8; have hx8_0 : World.cell? _ ⟨go8, (x2_1 : Int).toNat * 2, none⟩ = some (.int .i8 ((rd_T55 x0_1 x2_1).f0)) := hcc8 0 _ rfl; have hx8_1 : World.cell? _ ⟨go8, (x2_1 : Int).toNat * 2 + 1, none⟩ = some (.int .i8 ((rd_T55 x0_1 x2_1).f1)) := hcc8 1 _ rfl; have hf8_0 : World.frozen? _ ⟨go8, (x2_1 : Int).toNat * 2, none⟩ = false := hfr8 0; have hf8_1 : World.frozen? _ ⟨go8, (x2_1 : Int).toNat * 2 + 1, none⟩ = false := hfr8 1; clear hcl8 hcc8 hfr8 hM8; replace p8 := eq_true p8; replace q8 := eq_true q8; obtain ⟨ce11, hcl11, hM11, hcc11, hfr11⟩ := Kd.R_elem HO_0.out z55 (x2_1 : Int) (of_decide_eq_true (by first | (with_reducible assumption) | assumption)) (by have h_ : (x2_1 : Int) < ((x0_1.length : Int) : Int) := of_decide_eq_true (by first | (with_reducible assumption) | assumption); first | exact h_ | (have e_ := (Kd.R_reads' HO_0.out).1; omega) | simpa using h_); obtain rfl := k55_openM hM11; have HP11 := (Kd.R_seg HO_0.out (x2_1 : Int) (of_decide_eq_true (by first | (with_reducible assumption) | assumption)) (by have h_ : (x2_1 : Int) < ((x0_1.length : Int) : Int) := of_decide_eq_true (by first | (with_reducible assumption) | assumption); first | exact h_ | (have e_ := (Kd.R_reads' HO_0.out).1; omega) | simpa using h_) (seg := [.int .i8 ((rd_T55 x0_1 x3_1).f0), .int .i8 ((rd_T55 x0_1 x3_1).f1)]) (j := 0) hcl11 hcc11 (show 2 ≤ 2 from by decide) (x' := (⟨(rd_T55 x0_1 x3_1).f0, (rd_T55 x0_1 x3_1).f1⟩ : S55)) (k55_mkM _ _ _ (⟨(rd_T55 x0_1 x3_1).f0, (rd_T55 x0_1 x3_1).f1⟩ : S55) ) (fun _ hk => hk)).1; rw [← Ny285.out] at HP11; have HQ11 := Aside0.mk HP11; clear hcl11 hcc11 hfr11 hM11 HP11; have p9 : 0 ≤ (x3_1 : Int) := of_decide_eq_true (by first | (with_reducible assumption) | assumption); have q9 : (x3_1 : Int) < ((x0_1.length : Int) : Int) := of_decide_eq_true (by first | (with_reducible assumption) | assumption); obtain ⟨ce9, hcl9, hM9, hcc9, hfr9⟩ := Kd.R_elem HQ11.out z55 (x3_1 : Int) p9 q9; obtain rfl := k55_openM hM9; have hx9_0 : World.cell? _ ⟨go8, (x3_1 : Int).toNat * 2, none⟩ = some (.int .i8 ((rd_T55 y285 x3_1).f0)) := hcc9 0 _ rfl
        have hx9_1 : World.cell? _ ⟨go8, (x3_1 : Int).toNat * 2 + 1, none⟩ = some (.int .i8 ((rd_T55 y285 x3_1).f1)) := hcc9 1 _ rfl; have hf9_0 : World.frozen? _ ⟨go8, (x3_1 : Int).toNat * 2, none⟩ = false := hfr9 0; have hf9_1 : World.frozen? _ ⟨go8, (x3_1 : Int).toNat * 2 + 1, none⟩ = false := hfr9 1; clear hcl9 hcc9 hfr9 hM9; replace p9 := eq_true p9; replace q9 := eq_true q9; obtain ⟨ce12, hcl12, hM12, hcc12, hfr12⟩ := Kd.R_elem HQ11.out z55 (x3_1 : Int) (of_decide_eq_true (by first | (with_reducible assumption) | assumption)) (by have h_ : (x3_1 : Int) < ((x0_1.length : Int) : Int) := of_decide_eq_true (by first | (with_reducible assumption) | assumption); first | exact h_ | (have e_ := (Kd.R_reads' HO_0.out).1; omega) | simpa using h_); obtain rfl := k55_openM hM12; have HP12 := (Kd.R_seg HQ11.out (x3_1 : Int) (of_decide_eq_true (by first | (with_reducible assumption) | assumption)) (by have h_ : (x3_1 : Int) < ((x0_1.length : Int) : Int) := of_decide_eq_true (by first | (with_reducible assumption) | assumption); first | exact h_ | (have e_ := (Kd.R_reads' HO_0.out).1; omega) | simpa using h_) (seg := [.int .i8 ((rd_T55 x0_1 x2_1).f0), .int .i8 ((rd_T55 x0_1 x2_1).f1)]) (j := 0) hcl12 hcc12 (show 2 ≤ 2 from by decide) (x' := (⟨(rd_T55 x0_1 x2_1).f0, (rd_T55 x0_1 x2_1).f1⟩ : S55)) (k55_mkM _ _ _ (⟨(rd_T55 x0_1 x2_1).f0, (rd_T55 x0_1 x2_1).f1⟩ : S55) ) (fun _ hk => hk)).1; rw [← Ny286.out] at HP12; have HQ12 := Aside0.mk HP12; clear hcl12 hcc12 hfr12 hM12 HP12
        refine start_ (n := 16) (S := fun w' => w'.cell? ⟨go8, ((x3_1).toNat * 2), none⟩ = some (.int .i8 ((rd_T55 x0_1 x3_1).f0)) ∧ w'.cell? ⟨go8, ((x3_1).toNat * 2) + 1, none⟩ = some (.int .i8 ((rd_T55 x0_1 x3_1).f1)) ∧ w'.cell? ⟨go8, ((x2_1).toNat * 2), none⟩ = some (.int .i8 ((rd_T55 x0_1 x2_1).f0)) ∧ w'.cell? ⟨go8, ((x2_1).toNat * 2) + 1, none⟩ = some (.int .i8 ((rd_T55 x0_1 x2_1).f1))) (ds := [13, 15]) #[false, false, false, false, false, false, false, false, false, false, false, false, false, false, false, false] (by kernel_rfl) rfl rfl ⟨hx283_0, hx283_1, hx284_0, hx284_1⟩ (fun hHeld => ?_); refine with_tabW impl_Spot_84.tab3 impl_Spot_84.bits3 (fun HT_ HW_ => ?_)
        generalize wr.drew = w10 at HO_0 HK HB GG8 HQ11 HQ12 hf8_0 hf8_1 hf9_0 hf9_1 hx283_0 hx283_1 hx284_0 hx284_1 hx8_0 hx8_1 hx9_0 hx9_1 hHeld ⊢; have hlt_ : x2_1 < x3_1 := of_decide_eq_true (by first | (with_reducible assumption) | assumption); have hge_ : 0 ≤ x2_1 := of_decide_eq_true (by first | (with_reducible assumption) | assumption); have hA_ : (x3_1.toNat * 2 = x2_1.toNat * 2) = False := eq_false (by omega); have hA2_ : (x3_1.toNat = x2_1.toNat) = False := eq_false (by omega); have hB_ : (x3_1.toNat * 2 = x2_1.toNat * 2 + 1) = False := eq_false (by omega); have hC_ : (x3_1.toNat * 2 + 1 = x2_1.toNat * 2) = False := eq_false (by omega); have hD_ : (x3_1.toNat * 2 + 1 = x2_1.toNat * 2 + 1) = False := eq_false (by omega); have hfz0_ : w10.frozen? ⟨go8, x3_1.toNat * 2, none⟩ = false := blk_frozen GG8.out _; have hfz1_ : w10.frozen? ⟨go8, x3_1.toNat * 2 + 1, none⟩ = false := blk_frozen GG8.out _; refine pure_ (i := 0) (N := some 14) (v := ?_) (a' := ?_) #[true, false, false, false, false, false, false, false, false, false, false, false, false, false, false, false] rfl rfl (any_of HT_.out (by kernel_rfl)) (fun _ _ _ h => h) (Or.inl ⟨by rfl, ?_⟩) ?_ ?_; rotate_left
        ·intro w'
         go_simp; with_reducible rfl
        rotate_left
        ·simp only [Act.put, List.setIfInBounds_toArray, List.set_cons_zero, List.set_cons_succ, i64_w, i32_w]
         rfl
        refine pure_ (i := 1) (N := some 15) (v := ?_) (a' := ?_) #[true, true, false, false, false, false, false, false, false, false, false, false, false, false, false, false] rfl rfl (any_of HT_.out (by kernel_rfl)) (fun _ _ _ h => h) (Or.inl ⟨by rfl, ?_⟩) ?_ ?_; rotate_left
        ·intro w'
         go_simp; with_reducible rfl
        rotate_left
        ·simp only [Act.put, List.setIfInBounds_toArray, List.set_cons_zero, List.set_cons_succ, i64_w, i32_w]
         rfl
        refine pure_ (i := 2) (N := some 16) (v := ?_) (a' := ?_) #[true, true, true, false, false, false, false, false, false, false, false, false, false, false, false, false] rfl rfl (any_of HT_.out (by kernel_rfl)) (fun _ _ _ h => h) (Or.inl ⟨by rfl, ?_⟩) ?_ ?_; rotate_left
        ·intro w'
         go_simp; with_reducible rfl
        rotate_left
        ·simp only [Act.put, List.setIfInBounds_toArray, List.set_cons_zero, List.set_cons_succ, i64_w, i32_w]
         rfl
        refine pure_ (i := 3) (N := some 17) (v := ?_) (a' := ?_) #[true, true, true, true, false, false, false, false, false, false, false, false, false, false, false, false] rfl rfl (any_of HT_.out (by kernel_rfl)) (fun _ _ _ h => h) (Or.inl ⟨by rfl, ?_⟩) ?_ ?_; rotate_left
        ·intro w'
         go_simp; with_reducible rfl
        rotate_left
        ·simp only [Act.put, List.setIfInBounds_toArray, List.set_cons_zero, List.set_cons_succ, i64_w, i32_w]
         rfl
        refine pure_ (i := 4) (N := some 18) (v := ?_) (a' := ?_) #[true, true, true, true, true, false, false, false, false, false, false, false, false, false, false, false] rfl rfl (any_of HT_.out (by kernel_rfl)) (fun _ _ _ h => h) (Or.inl ⟨by rfl, ?_⟩) ?_ ?_; rotate_left
        ·intro w'
         go_simp; with_reducible rfl
        rotate_left
        ·simp only [Act.put, List.setIfInBounds_toArray, List.set_cons_zero, List.set_cons_succ, i64_w, i32_w]
         rfl
        refine pure_ (i := 5) (N := some 19) (v := ?_) (a' := ?_) #[true, true, true, true, true, true, false, false, false, false, false, false, false, false, false, false] rfl rfl (any_of HT_.out (by kernel_rfl)) (fun _ _ _ h => h) (Or.inl ⟨by rfl, ?_⟩) ?_ ?_; rotate_left
        ·intro w'
         go_simp; with_reducible rfl
        rotate_left
        ·simp only [Act.put, List.setIfInBounds_toArray, List.set_cons_zero, List.set_cons_succ, i64_w, i32_w]
         rfl
        refine pure_ (i := 6) (N := some 20) (v := ?_) (a' := ?_) #[true, true, true, true, true, true, true, false, false, false, false, false, false, false, false, false] rfl rfl (any_of HT_.out (by kernel_rfl)) (fun _ _ _ h => h) (Or.inl ⟨by rfl, ?_⟩) ?_ ?_; rotate_left
        ·intro w'
         go_simp; with_reducible rfl
        rotate_left
        ·simp only [Act.put, List.setIfInBounds_toArray, List.set_cons_zero, List.set_cons_succ, i64_w, i32_w]
         rfl
        refine pure_ (i := 8) (N := some 22) (v := ?_) (a' := ?_) #[true, true, true, true, true, true, true, false, true, false, false, false, false, false, false, false] rfl rfl (any_of HT_.out (by kernel_rfl)) (fun _ _ _ h => h) (Or.inl ⟨by rfl, ?_⟩) ?_ ?_; rotate_left
        ·intro w'
         go_simp; with_reducible rfl
        rotate_left
        ·simp only [Act.put, List.setIfInBounds_toArray, List.set_cons_zero, List.set_cons_succ, i64_w, i32_w]
         rfl
        refine pure_ (i := 9) (N := some 23) (v := ?_) (a' := ?_) #[true, true, true, true, true, true, true, false, true, true, false, false, false, false, false, false] rfl rfl (any_of HT_.out (by kernel_rfl)) (fun _ _ _ h => h) (Or.inl ⟨by rfl, ?_⟩) ?_ ?_; rotate_left
        ·intro w'
         go_simp; with_reducible rfl
        rotate_left
        ·simp only [Act.put, List.setIfInBounds_toArray, List.set_cons_zero, List.set_cons_succ, i64_w, i32_w]
         rfl
        refine pure_ (i := 10) (N := some 24) (v := ?_) (a' := ?_) #[true, true, true, true, true, true, true, false, true, true, true, false, false, false, false, false] rfl rfl (any_of HT_.out (by kernel_rfl)) (fun _ _ _ h => h) (Or.inl ⟨by rfl, ?_⟩) ?_ ?_; rotate_left
        ·intro w'
         go_simp; with_reducible rfl
        rotate_left
        ·simp only [Act.put, List.setIfInBounds_toArray, List.set_cons_zero, List.set_cons_succ, i64_w, i32_w]
         rfl
        refine take_ (i := 7) (N := some 21) (v := ?_) (a' := ?_) #[true, true, true, true, true, true, true, true, true, true, true, false, false, false, false, false] rfl rfl (take_ofW HT_.out HW_.out (by kernel_rfl)) (fun _ _ _ h => h) (Or.inl ⟨by rfl, ?_⟩) hHeld ?_ ?_; rotate_left
        ·rintro w' ⟨s0, s1, s2, s3⟩
         go_simp; with_reducible rfl
        rotate_left
        ·simp only [Act.put, List.setIfInBounds_toArray, List.set_cons_zero, List.set_cons_succ, i64_w, i32_w]
         rfl
        refine take_ (i := 11) (N := some 25) (v := ?_) (a' := ?_) #[true, true, true, true, true, true, true, true, true, true, true, true, false, false, false, false] rfl rfl (take_ofW HT_.out HW_.out (by kernel_rfl)) (fun _ _ _ h => h) (Or.inl ⟨by rfl, ?_⟩) hHeld ?_ ?_; rotate_left
        ·rintro w' ⟨s0, s1, s2, s3⟩
         go_simp; with_reducible rfl
        rotate_left
        ·simp only [Act.put, List.setIfInBounds_toArray, List.set_cons_zero, List.set_cons_succ, i64_w, i32_w]
         rfl
        refine pure_ (i := 12) (N := some 26) (v := ?_) (a' := ?_) #[true, true, true, true, true, true, true, true, true, true, true, true, true, false, false, false] rfl rfl (any_of HT_.out (by kernel_rfl)) (fun _ _ _ h => h) (Or.inl ⟨by rfl, ?_⟩) ?_ ?_; rotate_left
        ·intro w'
         go_simp; with_reducible rfl
        rotate_left
        ·simp only [Act.put, List.setIfInBounds_toArray, List.set_cons_zero, List.set_cons_succ, i64_w, i32_w]
         rfl
        refine last_ (i := 13) (N := none) #[true, true, true, true, true, true, true, true, true, true, true, true, true, true, false, false] rfl rfl (one_of HT_.out (by kernel_rfl)) (by decide) (fun K hK => ?_); refine skip_ (w1 := ?_) (by rfl) rfl ?_ ?_; rotate_left
        ·go_simp
         rfl
        refine hK.out _ _ ?_; clear hK K; refine pure_ (i := 14) (N := some 27) (v := ?_) (a' := ?_) #[true, true, true, true, true, true, true, true, true, true, true, true, true, true, true, false] rfl rfl (any_of HT_.out (by kernel_rfl)) (fun _ _ _ h => h) (Or.inl ⟨by rfl, ?_⟩) ?_ ?_; rotate_left
        ·intro w'
         go_simp; with_reducible rfl
        rotate_left
        ·simp only [Act.put, List.setIfInBounds_toArray, List.set_cons_zero, List.set_cons_succ, i64_w, i32_w]
         rfl
        refine last_ (i := 15) (N := none) #[true, true, true, true, true, true, true, true, true, true, true, true, true, true, true, true] rfl rfl (one_of HT_.out (by kernel_rfl)) (by decide) (fun K hK => ?_); refine skip_ (w1 := ?_) (by rfl) rfl ?_ ?_; rotate_left
        ·go_simp
         rfl
        refine hK.out _ _ ?_; clear hK K; refine done_ (done_of HT_.out (by kernel_rfl)) ?_
        try go_wp2
        (try simp only [← hl0_1])
        go_roundg k1
        case measure => have := HK1.out; omega
        case rel => exact ⟨(y286), (wrap64 (x2_1 + 1)), (wrap64 (x3_1 - 1)), (by first | rfl | (simp; done) | (simp [*]; done)), (by first | rfl | (simp; done) | (simp [*]; done)), H', ⟨by have := HK1.out; omega⟩, ⟨by (try simp only [hl0_1]); (with_reducible repeat (first | apply Kd.R_alloc | apply Kd.R_drewN | apply Kd.R_drew)); exact HQ12.out⟩, ⟨by repeat (first | (with_reducible first | exact HK.out | apply Kept.alloc | apply Kept.drewN | apply Kept.drew | refine Kept.setCell ?_ HMgo8.out _ | refine Kept.setCell ?_ HMgo8.out _ | refine Kept.setCell ?_ HMgo8.out _ | refine Kept.setCell ?_ HMgo8.out _) | exact HK.out)⟩, ⟨pbs HB⟩⟩
       ·rw [if_neg c7] at H
        exact absurd H (by simp)
      ·rw [if_neg c6] at H
       exact absurd H (by simp)
     ·rw [if_neg c5] at H
      exact absurd H (by simp)
    ·rw [if_neg c4] at H
     exact absurd H (by simp)
   ·rw [if_neg c3] at H
    have c3b0 : decide (x2_1 < x3_1) = false := decide_eq_false c3; clear c3; obtain rfl := Option.some.inj H
    go_wp2
    first | go_end0 | ((try simp only [Exit.inBlock, Exit.then]); refine bodyPost_ret (results_none rfl _ _ _) rfl ?_)
    exact ⟨by first | rfl | (simp [errW_none, errW_some] <;> rfl) | (simp [*, errW_none, errW_some] <;> rfl), (by first | exact (by (with_reducible repeat (first | apply Kd.R_alloc | apply Kd.R_drewN | apply Kd.R_drew)); exact HO_0.out) | (simp only [hl0_1]; exact (by (with_reducible repeat (first | apply Kd.R_alloc | apply Kd.R_drewN | apply Kd.R_drew)); exact HO_0.out))), by repeat (first | (with_reducible first | exact HB.out | apply below_alloc | apply pw_below_drewN | apply below_drew1) | exact HB.out), by repeat (first | (with_reducible first | exact HK.out | apply Kept.alloc | apply Kept.drewN | apply Kept.drew) | exact HK.out)⟩
def impl_File_moved.f (k : Nat) (l0 : List S55) (a1 : Int) : Option (List S55) := if l0.length < 70368744177664 then (if a1 = 4 then impl_Spot_84.f k l0 else (if a1 < 4 then (if 1 ≤ l0.length then (impl_NextSpot.f (l0.getD 0 z55).f0 (l0.getD 0 z55).f1 a1).bind fun b => some ((⟨b.1, b.2⟩ : S55) :: l0.take (l0.length - 1)) else none) else some l0)) else none
theorem impl_File_moved.mono : ∀ a0 a1 k, LeO (impl_File_moved.f k a0 a1) (impl_File_moved.f (k + 1) a0 a1) := by
  intro a0 a1 k; unfold impl_File_moved.f; exact LeO.ite (LeO.ite (impl_Spot_84.mono _ _) (LeO.refl _)) (LeO.none _)
theorem impl_File_moved.raw {w : World} {base : Nat} {v : Value} {xs : List S55} (h : Kd.R k55 55 w base (fun _ => True) v xs) (hp : 1 ≤ xs.length) :
    ∃ (g cap : Nat) (u0 u1 : Value) (tl : List Value), v = .slice (some ⟨g, 0, none⟩) xs.length cap ∧ base ≤ g ∧ w.heap[g]? = some (.cells (u0 :: u1 :: tl).toArray 55 (0, 0)) ∧ xs.length ≤ cap ∧ cap ≤ maxLen ∧ (u0 :: u1 :: tl).length = cap * 2 := by
  obtain ⟨inner, hr⟩ := Kd.R_own h; obtain ⟨_, (⟨_, e⟩ | ⟨g, cap, cur, e, hg, hh, h1, h2, h3, _⟩)⟩ := hr
  · omega
  · have h4 : cur.toList.length = cap * 2 := by rw [Array.length_toList]; exact h3
    have hh2 : w.heap[g]? = some (.cells cur.toList.toArray 55 (0, 0)) := by simpa using hh
    generalize cur.toList = L at h4 hh2
    match L, h4, hh2 with
    | [], h4, _ => simp at h4; omega
    | [_], h4, _ => simp at h4; omega
    | u0 :: u1 :: tl, h4, hh2 => exact ⟨g, cap, u0, u1, tl, e, hg, hh2, h1, h2, h4⟩
theorem impl_File_moved.copy {P : Program} {w : World} {ops : Array Oper} {rest : List Oper} {o : Oper} {a : Act} {Q : Exit → Act → World → Prop} (hgd : o.guard = none) (d s : Operand) (dT sT : TypeId)
    (ho : o.op = .call { callee := .builtin .copy, args := #[d, s], argTypes := #[dT, sT] }) (elem : TypeId) (sz n : Nat) (hu : P.underlying dT = some (.slice elem)) (hsz : (P.info? elem).map (·.size) = some sz)
    (g off dLen dCap : Nat) (ad : Addr) (sLen sCap : Nat) (hd : a.eval d = .slice (some ⟨g, off, none⟩) dLen dCap) (hs : a.eval s = .slice (some ad) sLen sCap)
    (cur : List Value) (t : TypeId) (hg : w.heap[g]? = some (.cells cur.toArray t (0, 0))) (cs : List Value) (hn : n = Nat.min sLen dLen) (hc : cs.length = n * sz)
    (hsrc : ∀ j v, cs[j]? = some v → w.cell? (ad.add j) = some v) (hfit : off + cs.length ≤ cur.length) (h1 : ∀ v ∈ cs, v.oneCell' = true) (B : Nat) (w0 : World) (hb : Below B w0 w) (hBg : B ≤ g)
    (h : ∀ w', Hid (w'.heap[g]? = some (.cells (splice cur off cs).toArray t (0, 0))) → Below B w0 w' → wpList P ops Q rest (a.put o.dst (goInt n)) w') : wpList P ops Q (o :: rest) a w := by
  refine Go.Proofs.Ytjogemppgdeomaa.Cs.wpList_copy_ownS hgd d s dT sT ho elem sz n hu hsz g off dLen dCap ad sLen sCap hd hs cur.toArray t hg cs hn hc hsrc (by simpa using hfit) h1 ?_; exact h _ (show _ = _ by simpa [splice] using setRow_heap w g _ _ t _ hg) (below_setRow hb hBg _)
theorem impl_File_moved.cut {w : World} {g : Nat} {u0 u1 : Value} {tl cs : List Value} (h : w.heap[g]? = some (.cells (splice (u0 :: u1 :: tl) 2 cs).toArray 55 (0, 0))) : w.heap[g]? = some (.cells (u0 :: u1 :: (cs ++ tl.drop cs.length)).toArray 55 (0, 0)) := by
  have e : splice (u0 :: u1 :: tl) 2 cs = u0 :: u1 :: (cs ++ tl.drop cs.length) := by
    unfold splice; rw [Nat.add_comm 2 cs.length]; rfl
  rwa [e] at h
def impl_File_moved.cs (l : List S55) (n : Nat) : List Value := (List.range (n * 2)).map (fun j => if j % 2 = 0 then Value.int .i8 (l.getD (j / 2) z55).f0 else Value.int .i8 (l.getD (j / 2) z55).f1)
theorem impl_File_moved.cs_len (l : List S55) (n : Nat) : (impl_File_moved.cs l n).length = n * 2 := by simp [impl_File_moved.cs]
theorem impl_File_moved.cs_at (l : List S55) (n j : Nat) (h : j < n) : (impl_File_moved.cs l n)[j * 2]? = some (.int .i8 (l.getD j z55).f0) ∧ (impl_File_moved.cs l n)[j * 2 + 1]? = some (.int .i8 (l.getD j z55).f1) := by
  unfold impl_File_moved.cs
  constructor
  · rw [List.getElem?_map, List.getElem?_range (by omega), Option.map_some, if_pos (by omega), show j * 2 / 2 = j by omega]
  · rw [List.getElem?_map, List.getElem?_range (by omega), Option.map_some, if_neg (by omega), show (j * 2 + 1) / 2 = j by omega]
theorem impl_File_moved.one (l : List S55) (n : Nat) : ∀ v ∈ impl_File_moved.cs l n, v.oneCell' = true := by
  intro v hv; obtain ⟨j, _, rfl⟩ := List.mem_map.1 hv
  split <;> rfl
theorem impl_File_moved.src {w w1 : World} {ad : Addr} {l : List S55} {n : Nat} (h : Kd.C k55 w (some ad) l.length l) (hb : Below w.heap.size w w1) (hn : n ≤ l.length) : ∀ j v, (impl_File_moved.cs l n)[j]? = some v → w1.cell? (ad.add j) = some v := by
  intro j v hv; refine pw_cell_below hb ?_
  have hj : j < n * 2 := by
    have := (List.getElem?_eq_some_iff.1 hv).1
    rwa [impl_File_moved.cs_len] at this
  obtain ⟨ad2, c, e2, _, hK, hc0⟩ := Kd.C_get h z55 ((j / 2 : Nat) : Int) (by omega) (by omega)
  obtain rfl : ad = ad2 := by injection e2
  obtain rfl := k55_open hK; simp only [Int.toNat_natCast] at hc0; obtain ⟨a0, a1⟩ := impl_File_moved.cs_at l n (j / 2) (by omega)
  by_cases h2 : j % 2 = 0
  · have h3 : j = j / 2 * 2 := by omega
    rw [h3] at hv ⊢; rw [a0] at hv; exact (hc0 0 _ rfl).trans hv
  · have h3 : j = j / 2 * 2 + 1 := by omega
    rw [h3] at hv ⊢; rw [a1] at hv; exact (hc0 1 _ rfl).trans hv
theorem impl_File_moved.row {w : World} {base g cap : Nat} {l : List S55} {tl : List Value} {x y : Int} (hg : base ≤ g) (h2 : 1 ≤ l.length)
    (hh : w.heap[g]? = some (.cells (([.int .i8 x, .int .i8 y] : List Value) ++ (impl_File_moved.cs l (l.length - 1) ++ tl)).toArray 55 (0, 0))) (h1 : l.length ≤ cap) (hm : cap ≤ maxLen) (hl : (([.int .i8 x, .int .i8 y] : List Value) ++ (impl_File_moved.cs l (l.length - 1) ++ tl)).length = cap * 2) :
    Kd.R k55 55 w base (fun _ => True) (.slice (some ⟨g, 0, none⟩) l.length cap) ((⟨x, y⟩ : S55) :: l.take (l.length - 1)) := by
  have hlen : ((⟨x, y⟩ : S55) :: l.take (l.length - 1)).length = l.length := by
    rw [List.length_cons, List.length_take]
    omega
  have hcl := impl_File_moved.cs_len l (l.length - 1); refine ⟨fun _ _ => trivial, ([.int .i8 x, .int .i8 y] : List Value) ++ impl_File_moved.cs l (l.length - 1), ⟨?_, .inr ⟨g, cap, _, by rw [hlen], hg, hh, by rw [hlen]; exact h1, hm, by show _ = cap * 2; simpa using hl, ?_⟩⟩, ?_, ?_⟩
  · rw [hlen, List.length_append, hcl]
    show 2 + (l.length - 1) * 2 = l.length * 2
    omega
  · rw [hlen]
    show List.take (l.length * 2) _ = _
    rw [← List.append_assoc, List.take_left']; rw [List.length_append, hcl]
    show 2 + (l.length - 1) * 2 = l.length * 2
    omega
  · rw [hlen, List.length_append, hcl]
    show 2 + (l.length - 1) * 2 = l.length * 2
    omega
  · intro j p hj
    cases j with
    | zero =>
      obtain rfl : (⟨x, y⟩ : S55) = p := by simpa using hj
      exact k55_mkM _ _ _ _
    | succ j =>
      obtain ⟨hjl, hp⟩ := List.getElem?_eq_some_iff.1 hj; rw [hlen] at hjl
      have hp2 : l.getD j z55 = p := by
        rw [← hp, List.getElem_cons_succ, List.getElem_take, List.getD_eq_getElem?_getD, List.getElem?_eq_getElem (by omega), Option.getD_some]
      obtain ⟨a0, a1⟩ := impl_File_moved.cs_at l (l.length - 1) j (by omega)
      have e : ((([.int .i8 x, .int .i8 y] : List Value) ++ impl_File_moved.cs l (l.length - 1)).drop ((j + 1) * k55.sz)).take k55.sz = [.int .i8 p.f0, .int .i8 p.f1] := by
        show ((([.int .i8 x, .int .i8 y] : List Value) ++ impl_File_moved.cs l (l.length - 1)).drop ((j + 1) * 2)).take 2 = _
        rw [show (j + 1) * 2 = 2 + j * 2 by omega, ← List.drop_drop]
        show ((impl_File_moved.cs l (l.length - 1)).drop (j * 2)).take 2 = _
        obtain ⟨b0, b0e⟩ := List.getElem?_eq_some_iff.1 a0; obtain ⟨b1, b1e⟩ := List.getElem?_eq_some_iff.1 a1; rw [List.drop_eq_getElem_cons b0, List.drop_eq_getElem_cons b1, b0e, b1e, hp2]; rfl
      rw [e]; exact k55_mkM _ _ _ _
set_option maxHeartbeats 8000000 in
set_option maxRecDepth 100000 in
theorem impl_File_moved.calls (k : Nat) (A0 : Option Addr) (c0 : Nat) (l0 : List S55) (a1 : Int) (r : List S55) (w : World) (hr0 : Kd.C k55 w A0 l0.length l0) (hc0 : l0.length ≤ c0) (h : impl_File_moved.f k l0 a1 = some r) :
    Calls Try.prog 52 #[.slice A0 l0.length c0, .int .i64 a1] w fun e w' => ∃ v0_ : Value, e = .returned (v0_) ∧ Kd.R k55 55 w' w.heap.size (fun _ => True) v0_ r ∧ Below w.heap.size w w' := by
  unfold impl_File_moved.f at h
  by_cases hl : l0.length < 70368744177664
  case neg => rw [if_neg hl] at h; cases h
  rw [if_pos hl] at h
  have hclo : impl_Spot_69.f l0 = some l0 := by unfold impl_Spot_69.f; rw [if_pos hl]
  have A2 := Aside0.mk hclo; have HR := Aside0.mk hr0; have HC := Aside0.mk hc0; have HB := Aside0.mk (Below.refl w.heap.size w); have hu := Try.underlying55; clear hr0 hc0 hclo hl
  by_cases h4 : a1 = 4
  · rw [if_pos h4] at h
    subst h4; have A1 := Aside0.mk h; clear h
    go_enter Try.func52, Try.ntmps52
    go_wp2_with (first | ((with_reducible refine gate_callee (f := 69) rfl ?_); refine goesL_ (some 7) rfl rfl Try.func69 (by kernel_rfl) rfl #[.slice A0 l0.length c0] rfl (by (try simp only [List.map_toArray, List.map_cons, List.map_nil]); first | done | rfl) ?_; (with_reducible refine (impl_Spot_69.calls A0 c0 l0 l0 _ HR.out HC.out A2.out).mono ?_); rintro e w1 ⟨v, rfl, ho, hb⟩; refine ⟨_, rfl, ?_⟩; have HO := Aside0.mk ho; clear HB; have HB := Aside0.mk hb; clear ho hb) | ((with_reducible refine gate_callee (f := 84) rfl ?_); refine goesL_ (some 12) rfl rfl Try.func84 (by kernel_rfl) rfl #[v] rfl (by (try simp only [List.map_toArray, List.map_cons, List.map_nil]); first | done | rfl) ?_; (with_reducible refine (impl_Spot_84.calls k (fun _ => True) v l0 r w _ HB.out HO.out A1.out).mono ?_); rintro e w2 ⟨rfl, ho, hb, hk⟩; refine ⟨_, rfl, ?_⟩; clear HO HB; have HO := Aside0.mk (Kd.R_mono ho (fun _ _ => trivial)); have HB := Aside0.mk hb; clear ho hb hk))
    go_ret
    exact ⟨_, rfl, HO.out, HB.out⟩
  rw [if_neg h4] at h; have h4b : (a1 == 4) = false := beq_eq_false_iff_ne.mpr h4
  by_cases h3 : a1 < 4
  case neg =>
    rw [if_neg h3] at h; obtain rfl := Option.some.inj h; clear h; have h3b : decide (a1 < 4) = false := decide_eq_false h3
    go_enter Try.func52, Try.ntmps52
    go_wp2_with (first | ((with_reducible refine gate_callee (f := 69) rfl ?_); refine goesL_ (some 7) rfl rfl Try.func69 (by kernel_rfl) rfl #[.slice A0 l0.length c0] rfl (by (try simp only [List.map_toArray, List.map_cons, List.map_nil]); first | done | rfl) ?_; (with_reducible refine (impl_Spot_69.calls A0 c0 l0 l0 _ HR.out HC.out A2.out).mono ?_); rintro e w1 ⟨v, rfl, ho, hb⟩; refine ⟨_, rfl, ?_⟩; have HO := Aside0.mk ho; clear HB; have HB := Aside0.mk hb; clear ho hb))
    go_ret
    exact ⟨_, rfl, HO.out, HB.out⟩
  rw [if_pos h3] at h
  by_cases hl2 : 1 ≤ l0.length
  case neg => rw [if_neg hl2] at h; cases h
  rw [if_pos hl2] at h; obtain ⟨⟨x, y⟩, hN, hr⟩ := Option.bind_eq_some_iff.mp h; obtain rfl := Option.some.inj hr; clear h hr; have AN := Aside0.mk (show impl_NextSpot.f (rd_T55 l0 0).f0 (rd_T55 l0 0).f1 a1 = some (x, y) from hN); clear hN; obtain ⟨ad, rfl, _⟩ := HR.out.2.2 (by omega); have h3b : decide (a1 < 4) = true := decide_eq_true h3
  have s1 : (1 : Int) ≤ (l0.length : Int) := by omega
  have s1n : 1 ≤ l0.length := by omega
  have s0 : ((0 : Int) < (l0.length : Int)) = True := eq_true (by omega)
  have s0n : 0 < l0.length := by omega
  by_cases hl3 : 2 ≤ l0.length
  case neg =>
    go_enter Try.func52, Try.ntmps52
    go_wp2_with (first | ((with_reducible refine gate_callee (f := 69) rfl ?_); refine goesL_ (some 7) rfl rfl Try.func69 (by kernel_rfl) rfl #[.slice (some ad) l0.length c0] rfl (by (try simp only [List.map_toArray, List.map_cons, List.map_nil]); first | done | rfl) ?_; (with_reducible refine (impl_Spot_69.calls (some ad) c0 l0 l0 _ HR.out HC.out A2.out).mono ?_); rintro e w1 ⟨v, rfl, ho, hb⟩; refine ⟨_, rfl, ?_⟩; obtain ⟨g, cap, u0, u1, tl, rfl, hgb, hh, hc1, hc2, hc3⟩ := impl_File_moved.raw ho hl2; have hc1i : (1 : Int) ≤ (cap : Int) := (by omega); have hc1n : 1 ≤ cap := (by omega); have HG := Aside0.mk hh; have HL := Aside0.mk hc3; clear HB; have HB := Aside0.mk hb; clear ho hb hh hc3) | ((with_reducible refine gate_builtin (b := .copy) (xs := #[.tmp 17, .tmp 18]) rfl ?_); refine Go.Proofs.Ytjogemppgdeomaa.Cs.wpList_copy_zeroS rfl (.tmp 17) (.tmp 18) 30 30 rfl 55 2 Try.underlying30 (by kernel_rfl) _ _ _ ad l0.length c0 rfl rfl ((Nat.min_eq_right (by omega)).trans (by omega)) ?_; obtain ⟨ad2, e2, hx0, hx1⟩ := at_T55 (Kd.C_below HR.out HB.out) 0 (by omega) (by omega); obtain rfl : ad = ad2 := (by injection e2); have ez_ : ad.add (Int.toNat 0 * 2) = ad := (by cases ad; simp [Addr.add]); rw [ez_] at hx0 hx1) | ((with_reducible refine gate_callee (f := 81) rfl ?_); refine goesL_ (some 25) rfl rfl Try.func81 (by kernel_rfl) rfl #[.agg #[.int .i8 (rd_T55 l0 0).f0, .int .i8 (rd_T55 l0 0).f1], .int .i64 a1] rfl (by (try simp only [List.map_toArray, List.map_cons, List.map_nil]); first | done | rfl) ?_; (with_reducible refine (impl_NextSpot.calls (rd_T55 l0 0).f0 (rd_T55 l0 0).f1 a1 x y _ AN.out).mono ?_); rintro e w6 ⟨rfl, hb⟩; refine ⟨_, rfl, ?_⟩; have n0_ := Aside0.mk (blk_below HG.out hb); have n1_ := bst HB hb; clear HG; clear HB; have HG := n0_; have HB := n1_; clear n0_ n1_ hb; have hk0 : w6.cell? ⟨g, 0, none⟩ = some u0 := (blk_cell HG.out 0).trans rfl; have hk1 : w6.cell? ⟨g, 1, none⟩ = some u1 := (blk_cell HG.out 1).trans rfl; have hf0 := blk_frozen HG.out 0; have hf1 := blk_frozen HG.out 1))
    all_goals go_ret
    all_goals refine ⟨_, rfl, impl_File_moved.row hgb hl2 (tl := tl) ?_ (by omega) (by first | exact hc2 | decide) ?_, ?_⟩
    all_goals first
      | exact Below.setCell (Below.setCell HB.out (p := ⟨g, 0, none⟩) (by dsimp only; omega) _) (p := ⟨g, 1, none⟩) (by dsimp only; omega) _
      | (have h_ := blk_set (blk_set HG.out 0 (.int .i8 x)) 1 (.int .i8 y)
         have hz_ : impl_File_moved.cs l0 (l0.length - 1) = [] := by rw [show l0.length - 1 = 0 by omega]; rfl
         rw [hz_]
         simpa using h_)
      | (have := HL.out
         simp only [List.length_append, impl_File_moved.cs_len, List.length_cons, List.length_nil] at this ⊢
         omega)
  case pos =>
    go_enter Try.func52, Try.ntmps52
    go_wp2_with (first | ((with_reducible refine gate_callee (f := 69) rfl ?_); refine goesL_ (some 7) rfl rfl Try.func69 (by kernel_rfl) rfl #[.slice (some ad) l0.length c0] rfl (by (try simp only [List.map_toArray, List.map_cons, List.map_nil]); first | done | rfl) ?_; (with_reducible refine (impl_Spot_69.calls (some ad) c0 l0 l0 _ HR.out HC.out A2.out).mono ?_); rintro e w1 ⟨v, rfl, ho, hb⟩; refine ⟨_, rfl, ?_⟩; obtain ⟨g, cap, u0, u1, tl, rfl, hgb, hh, hc1, hc2, hc3⟩ := impl_File_moved.raw ho hl2; have hc1i : (1 : Int) ≤ (cap : Int) := (by omega); have hc1n : 1 ≤ cap := (by omega); have hc1e : ¬ cap = 1 := (by omega); have hc1f : ¬ 1 = cap := (by omega); have HG := Aside0.mk hh; have HL := Aside0.mk hc3; clear HB; have HB := Aside0.mk hb; clear ho hb hh hc3) | ((with_reducible refine gate_builtin (b := .copy) (xs := #[.tmp 17, .tmp 18]) rfl ?_); refine impl_File_moved.copy rfl (.tmp 17) (.tmp 18) 30 30 rfl 55 2 (l0.length - 1) Try.underlying30 (by kernel_rfl) g 2 (l0.length - 1) (cap - 1) ad l0.length c0 rfl rfl (u0 :: u1 :: tl) 55 HG.out (impl_File_moved.cs l0 (l0.length - 1)) ((Nat.min_eq_right (by omega)).symm) (impl_File_moved.cs_len _ _) (impl_File_moved.src HR.out HB.out (by omega)) (by have := HL.out; rw [impl_File_moved.cs_len]; omega) (impl_File_moved.one _ _) w.heap.size w HB.out hgb ?_; intro w5 hg5 hb5; have n0_ := Aside0.mk (impl_File_moved.cut hg5.out); have n1_ := Aside0.mk hb5; clear HG; clear HB; have HG := n0_; have HB := n1_; clear n0_ n1_; clear hg5 hb5; obtain ⟨ad2, e2, hx0, hx1⟩ := at_T55 (Kd.C_below HR.out HB.out) 0 (by omega) (by omega); obtain rfl : ad = ad2 := (by injection e2); have ez_ : ad.add (Int.toNat 0 * 2) = ad := (by cases ad; simp [Addr.add]); rw [ez_] at hx0 hx1) | ((with_reducible refine gate_callee (f := 81) rfl ?_); refine goesL_ (some 25) rfl rfl Try.func81 (by kernel_rfl) rfl #[.agg #[.int .i8 (rd_T55 l0 0).f0, .int .i8 (rd_T55 l0 0).f1], .int .i64 a1] rfl (by (try simp only [List.map_toArray, List.map_cons, List.map_nil]); first | done | rfl) ?_; (with_reducible refine (impl_NextSpot.calls (rd_T55 l0 0).f0 (rd_T55 l0 0).f1 a1 x y _ AN.out).mono ?_); rintro e w6 ⟨rfl, hb⟩; refine ⟨_, rfl, ?_⟩; have n0_ := Aside0.mk (blk_below HG.out hb); have n1_ := bst HB hb; clear HG; clear HB; have HG := n0_; have HB := n1_; clear n0_ n1_ hb; have hk0 : w6.cell? ⟨g, 0, none⟩ = some u0 := (blk_cell HG.out 0).trans rfl; have hk1 : w6.cell? ⟨g, 1, none⟩ = some u1 := (blk_cell HG.out 1).trans rfl; have hf0 := blk_frozen HG.out 0; have hf1 := blk_frozen HG.out 1))
    go_ret
    refine ⟨_, rfl, impl_File_moved.row hgb hl2 (tl := tl.drop (impl_File_moved.cs l0 (l0.length - 1)).length) ?_ hc1 hc2 ?_, ?_⟩
    · have h_ := blk_set (blk_set HG.out 0 (.int .i8 x)) 1 (.int .i8 y)
      simpa using h_
    · have := HL.out
      simp only [List.length_append, List.length_drop, impl_File_moved.cs_len, List.length_cons, List.length_nil] at this ⊢
      omega
    · exact Below.setCell (Below.setCell HB.out (p := ⟨g, 0, none⟩) (by dsimp only; omega) _) (p := ⟨g, 1, none⟩) (by dsimp only; omega) _
def impl_File_walk.l0 : Nat → List S55 → Int → List (List S55) → Int → Int → LA 10 → List Int → Option (List (List S55))
  | 0, _, _, _, _, _, _, _ => none
  | k + 1, f, i, o, s0, s1, W, ms => if i < (ms.length : Int) then (if 0 ≤ i then ((impl_File_can.f k f s0 s1 W (rd ms i)).bind fun b => (if b = true then ((impl_File_moved.f k f (rd ms i)).bind fun g => (if o.length < 5864062014805 then (impl_File_walk.l0 k g (wrap64 (i + 1)) (o ++ [g]) s0 s1 W ms) else none)) else (some o))) else none) else (some o)
def impl_File_walk.f (k : Nat) (l0 : List S55) (s0 : Int) (s1 : Int) (W : LA 10) (ms : List Int) : Option (List (List S55)) := impl_File_walk.l0 k l0 0 [] s0 s1 W ms
theorem impl_File_walk.mono_l : ∀ k, ∀ y0 y1 y2 y3 y4 y5 y6, LeO (impl_File_walk.l0 k y0 y1 y2 y3 y4 y5 y6) (impl_File_walk.l0 (k + 1) y0 y1 y2 y3 y4 y5 y6)
  | 0 => fun _ _ _ _ _ _ _ r h => by simp [impl_File_walk.l0] at h
  | k + 1 => by
    have ih0 := impl_File_walk.mono_l k; intro y0 y1 y2 y3 y4 y5 y6; unfold impl_File_walk.l0; exact LeO.ite (LeO.ite (LeO.bind (impl_File_can.mono _ _ _ _ _ _) (fun _ => LeO.ite (LeO.bind (impl_File_moved.mono _ _ _) (fun _ => LeO.ite (ih0 _ _ _ _ _ _ _) (LeO.none _))) (LeO.refl _))) (LeO.none _)) (LeO.refl _)
theorem impl_File_walk.mono : ∀ a0 a1 a2 a3 a4 k, LeO (impl_File_walk.f k a0 a1 a2 a3 a4) (impl_File_walk.f (k + 1) a0 a1 a2 a3 a4) := by
  intro a0 a1 a2 a3 a4 k; unfold impl_File_walk.f; exact impl_File_walk.mono_l k _ _ _ _ _ _ _
set_option maxHeartbeats 8000000 in
set_option maxRecDepth 100000 in
theorem impl_File_walk.calls (k : Nat) (A0 : Option Addr) (c0 : Nat) (l0 : List S55) (s0 : Int) (s1 : Int) (W : LA 10) (A2 : Option Addr) (c2 : Nat) (ms : List Int) (r : List (List S55)) (w : World) (hr0 : Kd.C k55 w A0 l0.length l0) (hc0 : l0.length ≤ c0) (hr2 : Kd.C (Kd.int .i64) w A2 ms.length ms) (hc2 : ms.length ≤ c2) (h : impl_File_walk.f k l0 s0 s1 W ms = some r) :
    Calls Try.prog 57 #[.slice A0 l0.length c0, .agg (mixA (Value.int .u16) [.int .i8 s0, .int .i8 s1] W), .slice A2 ms.length c2] w fun e w' => ∃ v0_ : Value, e = .returned (v0_) ∧ Kd.S (Kd.slice 55 k55) 30 w' w.heap.size (fun _ => True) v0_ r ∧ Below w.heap.size w w' := by
  have hu1 := Try.underlying33; have HR := Aside0.mk hr0; have HC := Aside0.mk hc0; have HR2 := Aside0.mk hr2; clear hr0 hc0 hr2; have HB := Aside0.mk (Below.refl w.heap.size w); have H' := Aside0.mk (show impl_File_walk.l0 k l0 0 [] s0 s1 W ms = some r from h); clear h
  go_enter Try.func57, Try.ntmps57
  go_wp2_with (first | ((with_reducible refine gate_dst (N := 4) rfl ?_); refine box_event ?hg (N := 4) ?hd (cs := (mixA (Value.int .u16) [.int .i8 s0, .int .i8 s1] W)) (t := 33) ?hr ?_; (case hd => rfl); (case hg => rfl); (case hr => first | (go_simp; done) | (go_simp; rfl)); intro gb4 hg wb hbox hb; have n0_ := bst HB hb; have n1_ := Aside0.mk (hbox); have n2_ := gwl HB hg; clear HB; have HB := n0_; have BK := n1_; have GE := n2_; clear n0_ n1_ n2_; clear hb hbox hg) | ((with_reducible refine gate_dst (N := 10) rfl ?_); refine Kd.S_lit (Kd.slice 55 k55) _ 30 ?hg (N := 10) ?hd (xs := ([] : List (List S55))) (inner := []) (ok := (fun _ => True)) (okp := (fun _ => True)) ?hr ?hp (fun _ hk => hk) trivial (Below.refl _ _) (Nat.le_refl _) (by simp) ?_; (case hd => rfl); (case hg => rfl); (case hr => first | (go_simp; done) | (go_simp; rfl)); (case hp => exact (Reps.none _ _)); intro vo wo ho hb hg_ hnew_; clear hg_ hnew_; have n1_ := Aside0.mk (Kd.S_lower ho (below_size (pbs HB))); have n2_ := bkb BK hb; clear BK; have BK := n2_; clear n2_; have n0_ := bst HB hb; clear HB; have HB := n0_; have HO := n1_; clear n0_ n1_; clear hb ho))
  go_loopg [0, 7, 13] k (fun kq v0 v7 v13 w' => ∃ (f : List S55) (i : Int) (o : List (List S55)) (A : Option Addr) (c : Nat), v0 = .slice A f.length c ∧ v13 = .int .i64 i ∧ Aside0 (impl_File_walk.l0 kq f i o s0 s1 W ms = some r) ∧ Aside0 (kq ≤ k) ∧ Aside0 (f.length ≤ c) ∧ Aside0 (Kd.F k55 w' (fun k_ => True ∧ some k_ ≠ v7.ownBlock) A f.length f) ∧ Aside0 (Kd.S (Kd.slice 55 k55) 30 w' w.heap.size (fun _ => True) v7 o) ∧ Aside0 (w'.heap[gb4]? = some (.cells (mixA (Value.int .u16) [.int .i8 s0, .int .i8 s1] W) 33 (0, 0))) ∧ Aside0 (Below w.heap.size w w'))
  case atStart => exact ⟨l0, 0, [], A0, c0, (by first | rfl | (simp; done) | (simp [*]; done)), (by first | rfl | (simp; done) | (simp [*]; done)), H', ⟨Nat.le_refl _⟩, HC, ⟨by (with_reducible repeat (first | apply Kd.F_alloc | apply Kd.F_drewN | apply Kd.F_drew)); exact Kd.F_mono (Kd.F_below (Kd.C_F (Kd.heap_iso _ (Kd.heap_pair (Kd.heap_int _) (Kd.heap_int _))) HR.out) HB.out) (fun k_ hk => ⟨trivial, fun e_ => absurd hk (by have := Kd.S_base HO.out k_ e_.symm; omega)⟩)⟩, ⟨by (with_reducible repeat (first | apply Kd.S_alloc | apply Kd.S_drewN | apply Kd.S_drew)); exact HO.out⟩, ⟨pk BK⟩, ⟨pbs HB⟩⟩
  case round =>
    clear H'; obtain ⟨f, i, o, A, c, rfl, rfl, HA, HK1, HC_, HF, HO, BK, HB⟩ := hrel; obtain ⟨Ao, co, eo⟩ := Kd.S_slice HO.out; subst eo
    cases gk with
    | zero => exact absurd HA.out (by simp [impl_File_walk.l0])
    | succ k1 =>
      have H := HA.out; clear HA; simp only [impl_File_walk.l0] at H
      by_cases c2_ : i < (ms.length : Int)
      · rw [if_pos c2_] at H
        have c2b0 : decide (i < (ms.length : Int)) = true := decide_eq_true c2_
        by_cases c3_ : 0 ≤ i
        · rw [if_pos c3_] at H
          obtain ⟨b, A4, H⟩ := Option.bind_eq_some_iff.mp H; have A5 := Aside0.mk A4; clear A4; obtain ⟨ad, e_, hx⟩ := Kd.at_int HR2.out i c3_ c2_; cases e_; have HX := Aside0.mk hx; clear hx; have hx := (HB.out.cell (World.block_lt_of_cell? w _ HX.out)).trans HX.out; have p_ := eq_true c3_; have q_ := eq_true c2_; clear c2_ c3_
          by_cases cb : b = true
          · subst cb
            replace H : ((impl_File_moved.f k1 f (rd ms i)).bind fun g => (if o.length < 5864062014805 then (impl_File_walk.l0 k1 g (wrap64 (i + 1)) (o ++ [g]) s0 s1 W ms) else none)) = some r := by rw [if_pos rfl] at H; exact H
            obtain ⟨g2, A6, H⟩ := Option.bind_eq_some_iff.mp H; have A7 := Aside0.mk A6; clear A6
            by_cases cl : o.length < 5864062014805
            · rw [if_pos cl] at H
              have LM := Aside0.mk cl; clear cl; obtain ⟨y, hy⟩ : ∃ y_ : List (List S55), y_ = o ++ [g2] := ⟨_, rfl⟩; rw [← hy] at H; have NY := Aside0.mk hy; clear hy; have H' := Aside0.mk H; clear H
              go_wp2_with (first | ((with_reducible refine gate_callee (f := 51) rfl ?_); refine goesL_ (some 20) rfl rfl Try.func51 (by kernel_rfl) rfl #[.slice A f.length c, .agg (mixA (Value.int .u16) [.int .i8 s0, .int .i8 s1] W), .int .i64 (rd ms i)] rfl (by (try simp only [List.map_toArray, List.map_cons, List.map_nil]); first | done | rfl) ?_; (with_reducible refine (impl_File_can.calls k1 A c f s0 s1 W (rd ms i) true _ ?sC ?sL A5.out).mono ?_); (case sC => exact Kd.F_now (by (with_reducible repeat (first | apply Kd.F_alloc | apply Kd.F_drewN | apply Kd.F_drew)); exact HF.out)); (case sL => exact HC_.out); rintro e w1 ⟨rfl, hb⟩; refine ⟨_, rfl, ?_⟩; have n0_ := Aside0.mk (Kd.F_below (by (with_reducible repeat (first | apply Kd.F_alloc | apply Kd.F_drewN | apply Kd.F_drew)); exact HF.out) hb); have n1_ := Aside0.mk (Kd.S_below (by (with_reducible repeat (first | apply Kd.S_alloc | apply Kd.S_drewN | apply Kd.S_drew)); exact HO.out) hb); have n2_ := bkb BK hb; have n3_ := bst HB hb; clear HF HO BK HB; have HF := n0_; have HO := n1_; have BK := n2_; have HB := n3_; clear n0_ n1_ n2_ n3_; clear hb hx; have hx := (HB.out.cell (World.block_lt_of_cell? w _ HX.out)).trans HX.out) | ((with_reducible refine gate_callee (f := 52) rfl ?_); refine goesL_ (some 25) rfl rfl Try.func52 (by kernel_rfl) rfl #[.slice A f.length c, .int .i64 (rd ms i)] rfl (by (try simp only [List.map_toArray, List.map_cons, List.map_nil]); first | done | rfl) ?_; (with_reducible refine (impl_File_moved.calls k1 A c f (rd ms i) g2 _ ?sC ?sL A7.out).mono ?_); (case sC => exact Kd.F_now (by (with_reducible repeat (first | apply Kd.F_alloc | apply Kd.F_drewN | apply Kd.F_drew)); exact HF.out)); (case sL => exact HC_.out); rintro e w2 ⟨vg, rfl, hog, hb⟩; refine ⟨_, rfl, ?_⟩; have n4_ := Aside0.mk (Kd.S_elder' (by (with_reducible repeat (first | apply Kd.S_alloc | apply Kd.S_drewN | apply Kd.S_drew)); exact HO.out) (fun k_ h_ => Kd.R_base hog k_ h_) hb); have n1_ := Aside0.mk (Kd.S_below (by (with_reducible repeat (first | apply Kd.S_alloc | apply Kd.S_drewN | apply Kd.S_drew)); exact HO.out) hb); have n2_ := bkb BK hb; have n0_ := Aside0.mk (Kd.R_lower hog (below_size (pbs HB))); have n3_ := bst HB hb; clear HO BK HB hog; have HO := n1_; have BK := n2_; have HB := n3_; have HG := n0_; have HOE := n4_; clear n0_ n1_ n2_ n3_ n4_; clear hb; obtain ⟨Ag, cg, eg⟩ := Kd.R_slice HG.out; subst eg; have HCg := Aside0.mk (Kd.R_reads' HG.out).2.1) | ((with_reducible refine gate_builtin (b := .append) (xs := #[.tmp 26, .tmp 28]) rfl ?_); at_builtin; refine Kd.S_append (Kd.slice 55 k55) (w0 := w) w.heap.size rfl (.tmp 26) (.tmp 28) 45 30 (.slice none 0 0) 24 rfl Try.underlying45 (by kernel_rfl) rfl (by decide) (by omega) (.slice Ao o.length co) o g2 [.slice Ag g2.length cg] (fun _ => True) (fun k_ => some k_ = (.slice Ag g2.length cg : Value).ownBlock) rfl rfl ?aP (fun k_ hk_ => (Kd.R_apart' (HG.out) (Kd.S_typed HO.out) (by decide)).1 k_ hk_.symm) ?aF ?aO ?aB ?aS ?aL ?_; (case aP => exact Kd.M_row (Kd.R_tight rfl HG.out)); (case aB => exact (pbs HB)); (case aF => exact (fun _ _ => trivial)); (case aO => exact (by (with_reducible repeat (first | apply Kd.S_alloc | apply Kd.S_drewN | apply Kd.S_drew)); exact Kd.S_mono HOE.out (fun k_ hk => ⟨trivial, fun e_ => hk.2 e_⟩))); (case aS => exact (below_size (pbs HB))); (case aL => have := LM.out; omega); intro v3 w3 ho hb hg hat; rw [← NY.out] at ho; have n0_ := Aside0.mk (Kd.F_after (Kd.R_F (by (with_reducible repeat (first | apply Kd.R_alloc | apply Kd.R_drewN | apply Kd.R_drew)); exact Kd.R_apart' HG.out (Kd.S_typed HO.out) (by decide))) hg hat); have n1_ := Aside0.mk (blk_grown (g := gb4) (o := .cells (mixA (Value.int .u16) [.int .i8 s0, .int .i8 s1] W) 33 (0, 0)) (pk BK) hg (Kd.S_ne HO.out BK.out (by decide))); have n2_ := Aside0.mk hb; have n3_ := Aside0.mk ho; clear HO HOE BK HB; have HFg := n0_; have BK := n1_; have HB := n2_; have HO := n3_; clear n0_ n1_ n2_ n3_; clear ho hb hg hat) | ((with_reducible refine gate_dst (N := 18) rfl ?_); refine wpList_run0 (v := .agg (mixA (Value.int .u16) [.int .i8 s0, .int .i8 s1] W)) rfl (load_mix_run (P := Try.prog) 33 (.tmp 4) rfl gb4 rfl (show World.rangeAt _ gb4 0 ([.int .i8 s0, .int .i8 s1] ++ W.l.map (Value.int .u16)) from mix_range (show (World.heap _)[gb4]? = some (.cells (mixA (Value.int .u16) [.int .i8 s0, .int .i8 s1] W) 33 (0, 0)) from pk BK)) Try.underlying33 rfl (by kernel_rfl) rfl) ?_))
              go_roundg k1
              case measure => have := HK1.out; omega
              case rel => exact ⟨g2, (wrap64 (i + 1)), y, Ag, cg, (by first | rfl | (simp; done) | (simp [*]; done)), (by first | rfl | (simp; done) | (simp [*]; done)), H', ⟨by have := HK1.out; omega⟩, HCg, ⟨by (with_reducible repeat (first | apply Kd.F_alloc | apply Kd.F_drewN | apply Kd.F_drew)); exact HFg.out⟩, ⟨by (with_reducible repeat (first | apply Kd.S_alloc | apply Kd.S_drewN | apply Kd.S_drew)); exact HO.out⟩, ⟨pk BK⟩, ⟨pbs HB⟩⟩
            · rw [if_neg cl] at H
              exact absurd H (by simp)
          · replace cb := Bool.eq_false_iff.mpr cb
            subst cb
            replace H : (some o) = some r := by rw [if_neg (show ¬ (false = true) by decide)] at H; exact H
            obtain rfl := Option.some.inj H
            go_wp2_with (first | ((with_reducible refine gate_callee (f := 51) rfl ?_); refine goesL_ (some 20) rfl rfl Try.func51 (by kernel_rfl) rfl #[.slice A f.length c, .agg (mixA (Value.int .u16) [.int .i8 s0, .int .i8 s1] W), .int .i64 (rd ms i)] rfl (by (try simp only [List.map_toArray, List.map_cons, List.map_nil]); first | done | rfl) ?_; (with_reducible refine (impl_File_can.calls k1 A c f s0 s1 W (rd ms i) false _ ?sC ?sL A5.out).mono ?_); (case sC => exact Kd.F_now (by (with_reducible repeat (first | apply Kd.F_alloc | apply Kd.F_drewN | apply Kd.F_drew)); exact HF.out)); (case sL => exact HC_.out); rintro e w1 ⟨rfl, hb⟩; refine ⟨_, rfl, ?_⟩; have n0_ := Aside0.mk (Kd.F_below (by (with_reducible repeat (first | apply Kd.F_alloc | apply Kd.F_drewN | apply Kd.F_drew)); exact HF.out) hb); have n1_ := Aside0.mk (Kd.S_below (by (with_reducible repeat (first | apply Kd.S_alloc | apply Kd.S_drewN | apply Kd.S_drew)); exact HO.out) hb); have n2_ := bkb BK hb; have n3_ := bst HB hb; clear HF HO BK HB; have HF := n0_; have HO := n1_; have BK := n2_; have HB := n3_; clear n0_ n1_ n2_ n3_; clear hb hx; have hx := (HB.out.cell (World.block_lt_of_cell? w _ HX.out)).trans HX.out) | ((with_reducible refine gate_dst (N := 18) rfl ?_); refine wpList_run0 (v := .agg (mixA (Value.int .u16) [.int .i8 s0, .int .i8 s1] W)) rfl (load_mix_run (P := Try.prog) 33 (.tmp 4) rfl gb4 rfl (show World.rangeAt _ gb4 0 ([.int .i8 s0, .int .i8 s1] ++ W.l.map (Value.int .u16)) from mix_range (show (World.heap _)[gb4]? = some (.cells (mixA (Value.int .u16) [.int .i8 s0, .int .i8 s1] W) 33 (0, 0)) from pk BK)) Try.underlying33 rfl (by kernel_rfl) rfl) ?_))
            go_ret
            exact ⟨_, by first | rfl | (simp; done) | (simp [*]; done), by (with_reducible repeat (first | apply Kd.S_alloc | apply Kd.S_drewN | apply Kd.S_drew)); exact HO.out, pbs HB⟩
        · rw [if_neg c3_] at H
          exact absurd H (by simp)
      · rw [if_neg c2_] at H
        obtain rfl := Option.some.inj H; have c2b0 : decide (i < (ms.length : Int)) = false := decide_eq_false c2_
        go_wp2
        go_ret
        exact ⟨_, by first | rfl | (simp; done) | (simp [*]; done), by (with_reducible repeat (first | apply Kd.S_alloc | apply Kd.S_drewN | apply Kd.S_drew)); exact HO.out, pbs HB⟩
end Go.Proofs.Ytjogemppgdeomaa.PB
end
section
namespace Go.Proofs.Ytjogemppgdeomaa.PB
open Go.RowKit Go.Proofs.YtjogemppgdeomaaW.PrintWords Go.Proofs.YtjogemppgdeomaaW.PrintLast Go.Proofs.YtjogemppgdeomaaW.PrintMore Go.Proofs.Ytjogemppgdeomaa.La
attribute [local go_sem] max2_int min2_int max_two min_two max_three min_three max_four min_four   -- for this text's walks alone
set_option linter.unusedVariables false
set_option linter.unusedSimpArgs false
def impl_WalkFile.f (k : Nat) (a0_0 : Int) (a0_1 : Int) (a0_2 : LA 10) (l1 : List (S55)) (l2 : List Int) : Option ((List (List (S55))) × Int) := (impl_walkCode.f k a0_0 a0_1 a0_2 l1 l2).bind fun t288 => (if t288 = 0 then ((impl_File_walk.f k l1 a0_0 a0_1 a0_2 l2).bind fun t289 => (if (t289.length : Int) < (l2.length : Int) then (some (([] : List (List (S55))), 4)) else (some (t289, 0)))) else (some (([] : List (List (S55))), t288)))
theorem impl_WalkFile.mono : ∀ a0 a1 a2 a3 a4 k, LeO (impl_WalkFile.f k a0 a1 a2 a3 a4) (impl_WalkFile.f (k + 1) a0 a1 a2 a3 a4) := by
 intro a0 a1 a2 a3 a4 k
 unfold impl_WalkFile.f
 repeat' first
   | (with_reducible exact impl_File_walk.mono _ _ _ _ _ _)
   | (with_reducible exact impl_walkCode.mono _ _ _ _ _ _)
   | (with_reducible exact LeO.refl _)
   | (with_reducible exact LeO.none _)
   | (with_reducible refine LeO.ite ?_ ?_)
   | (with_reducible refine LeO.bind ?_ (fun _ => ?_))
   | exact impl_File_walk.mono _ _ _ _ _ _
   | exact impl_walkCode.mono _ _ _ _ _ _
   | exact LeO.none _
   | refine LeO.ite ?_ ?_
   | refine LeO.bind ?_ (fun _ => ?_)
set_option maxHeartbeats 8000000 in
set_option maxRecDepth 100000 in
theorem impl_WalkFile.calls (k : Nat) (a0_0 : Int) (a0_1 : Int) (a0_2 : LA 10) (A1 : Option Addr) (c1 : Nat) (l1 : List (S55)) (A2 : Option Addr) (c2 : Nat) (l2 : List Int) (r1 : List (List (S55))) (r2 : Int) (w : World) (hr1 : Kd.C k55 w A1 l1.length l1) (hc1 : l1.length ≤ c1) (hr2 : Kd.C (Kd.int .i64) w A2 l2.length l2) (hc2 : l2.length ≤ c2) (h : impl_WalkFile.f k a0_0 a0_1 a0_2 l1 l2 = some (r1, r2)) :
  Calls Try.prog 23 #[.agg (mixA (Value.int .u16) [.int .i8 a0_0, .int .i8 a0_1] a0_2), .slice A1 l1.length c1, .slice A2 l2.length c2] w fun e w' => ∃ v0_ : Value, e = .returned (.tuple #[v0_, .int .i64 r2]) ∧ Kd.S (Kd.slice 55 k55) 30 w' w.heap.size (fun _ => True) v0_ r1 ∧ Below w.heap.size w w' := by
 have hu33 := Try.underlying33
 have HR1 := Aside0.mk hr1
 have HC1 := Aside0.mk hc1
 clear hr1 hc1
 have HR2 := Aside0.mk hr2
 have HC2 := Aside0.mk hc2
 clear hr2 hc2
 have HB := Aside0.mk (Below.refl w.heap.size w)
 have H : ((impl_walkCode.f k a0_0 a0_1 a0_2 l1 l2).bind fun t288 => (if t288 = 0 then ((impl_File_walk.f k l1 a0_0 a0_1 a0_2 l2).bind fun t289 => (if (t289.length : Int) < (l2.length : Int) then (some (([] : List (List (S55))), 4)) else (some (t289, 0)))) else (some (([] : List (List (S55))), t288)))) = some (r1, r2) := h
 clear h
 replace H := Option.bind_eq_some_iff.mp H
 obtain ⟨t288, A40, H⟩ := H
 replace H : (if t288 = 0 then ((impl_File_walk.f k l1 a0_0 a0_1 a0_2 l2).bind fun t289 => (if (t289.length : Int) < (l2.length : Int) then (some (([] : List (List (S55))), 4)) else (some (t289, 0)))) else (some (([] : List (List (S55))), t288))) = some (r1, r2) := H
 have A4 := Aside0.mk A40
 clear A40
 by_cases c5 : t288 = 0
 ·rw [if_pos c5] at H
  have c5b0 : (t288 == 0) = true := beq_iff_eq.mpr c5; have c5b1 : (t288 != 0) = false := bne_eq_false_iff_eq.mpr c5; clear c5; replace H := Option.bind_eq_some_iff.mp H; obtain ⟨t289, A60, H⟩ := H; replace H : (if (t289.length : Int) < (l2.length : Int) then (some (([] : List (List (S55))), 4)) else (some (t289, 0))) = some (r1, r2) := H; have A6 := Aside0.mk A60; clear A60
  by_cases c7 : (t289.length : Int) < (l2.length : Int)
  ·rw [if_pos c7] at H
   have c7b0 : decide ((t289.length : Int) < (l2.length : Int)) = true := decide_eq_true c7; have c7b1 : decide (t289.length < l2.length) = true := decide_eq_true (Int.ofNat_lt.mp c7); clear c7; simp only [Option.some.injEq, Prod.mk.injEq] at H; obtain ⟨rfl, rfl⟩ := H
   go_enter Try.func23, Try.ntmps23
   go_wp2_with (first | ((with_reducible refine gate_dst (N := 3) rfl ?_); refine box_event ?hg (N := 3) ?hd (cs := (mixA (Value.int .u16) [.int .i8 a0_0, .int .i8 a0_1] a0_2)) (t := 33) ?hr ?_; (case hd => rfl); (case hg => rfl); (case hr => first | (go_simp; done) | (go_simp; rfl)); intro gb287 hg w8 hbox hb; have n0_ := bst HB hb; have n1_ := Aside0.mk (hbox); have n2_ := gwl HB hg; have n3_ := gwl HB hg; clear HB; have HB := n0_; have BK287 := n1_; have GW287 := n2_; have GE287 := n3_; clear n0_ n1_ n2_ n3_; clear hb hbox hg) | ((with_reducible refine gate_dst (N := 10) rfl ?_); refine wpList_run0 (v := .agg (mixA (Value.int .u16) [.int .i8 a0_0, .int .i8 a0_1] a0_2)) rfl (load_mix_run (P := Try.prog) 33 (.tmp 3) rfl gb287 rfl (show World.rangeAt _ gb287 0 ([.int .i8 a0_0, .int .i8 a0_1] ++ a0_2.l.map (Value.int .u16)) from mix_range (show (World.heap _)[gb287]? = some (.cells (mixA (Value.int .u16) [.int .i8 a0_0, .int .i8 a0_1] a0_2) 33 (0, 0)) from by (with_reducible repeat (first | refine blk_drewN ?_ _ | refine blk_drew ?_ | refine blk_alloc ?_ _)); exact BK287.out)) Try.underlying33 rfl (by kernel_rfl) rfl) ?_) | ((with_reducible refine gate_callee (f := 56) rfl ?_); refine goesL_ (some 13) rfl rfl Try.func56 (by kernel_rfl) rfl #[.agg (mixA (Value.int .u16) [.int .i8 a0_0, .int .i8 a0_1] a0_2), .slice A1 l1.length c1, .slice A2 l2.length c2] rfl (by (try simp only [List.map_toArray, List.map_cons, List.map_nil]); first | done | rfl | (simp only [List.length_drop, List.length_take]; rfl)) ?_; (with_reducible refine (impl_walkCode.calls k a0_0 a0_1 a0_2 _ _ l1 _ _ l2 t288 _ ?side1 ?side2 ?side3 ?side4 A4.out).mono ?_); (case side1 => repeat (first | exact (Kd.C_below HR1.out HB.out) | (with_reducible refine Kd.C_alloc ?_ _) | (with_reducible refine Kd.C_drewN ?_ _) | (with_reducible refine Kd.C_drew ?_))); (case side2 => exact HC1.out); (case side3 => repeat (first | exact (Kd.C_below HR2.out HB.out) | (with_reducible refine Kd.C_alloc ?_ _) | (with_reducible refine Kd.C_drewN ?_ _) | (with_reducible refine Kd.C_drew ?_))); (case side4 => exact HC2.out); rintro e w10 ⟨rfl, hb⟩; refine ⟨_, rfl, ?_⟩; have n0_ := bkb BK287 hb; have n1_ := bst HB hb; clear BK287; clear HB; have BK287 := n0_; have HB := n1_; clear n0_ n1_; (try clear hb); (try clear hb2); (try clear hk); (try clear hi)) | ((with_reducible refine gate_dst (N := 18) rfl ?_); refine wpList_run0 (v := .agg (mixA (Value.int .u16) [.int .i8 a0_0, .int .i8 a0_1] a0_2)) rfl (load_mix_run (P := Try.prog) 33 (.tmp 3) rfl gb287 rfl (show World.rangeAt _ gb287 0 ([.int .i8 a0_0, .int .i8 a0_1] ++ a0_2.l.map (Value.int .u16)) from mix_range (show (World.heap _)[gb287]? = some (.cells (mixA (Value.int .u16) [.int .i8 a0_0, .int .i8 a0_1] a0_2) 33 (0, 0)) from by (with_reducible repeat (first | refine blk_drewN ?_ _ | refine blk_drew ?_ | refine blk_alloc ?_ _)); exact BK287.out)) Try.underlying33 rfl (by kernel_rfl) rfl) ?_) | ((with_reducible refine gate_callee (f := 57) rfl ?_); refine goesL_ (some 20) rfl rfl Try.func57 (by kernel_rfl) rfl #[.slice A1 l1.length c1, .agg (mixA (Value.int .u16) [.int .i8 a0_0, .int .i8 a0_1] a0_2), .slice A2 l2.length c2] rfl (by (try simp only [List.map_toArray, List.map_cons, List.map_nil]); first | done | rfl | (simp only [List.length_drop, List.length_take]; rfl)) ?_; (with_reducible refine (impl_File_walk.calls k _ _ l1 a0_0 a0_1 a0_2 _ _ l2 t289 _ ?side1 ?side2 ?side3 ?side4 A6.out).mono ?_); (case side1 => repeat (first | exact (Kd.C_below HR1.out HB.out) | (with_reducible refine Kd.C_alloc ?_ _) | (with_reducible refine Kd.C_drewN ?_ _) | (with_reducible refine Kd.C_drew ?_))); (case side2 => exact HC1.out); (case side3 => repeat (first | exact (Kd.C_below HR2.out HB.out) | (with_reducible refine Kd.C_alloc ?_ _) | (with_reducible refine Kd.C_drewN ?_ _) | (with_reducible refine Kd.C_drew ?_))); (case side4 => exact HC2.out); rintro e w12 ⟨v290, rfl, ho0, hb⟩; refine ⟨_, rfl, ?_⟩; have n0_ := Aside0.mk (Kd.S_lower ho0 (below_size (by repeat (first | (with_reducible first | exact HB.out | apply below_alloc | apply pw_below_drewN | apply below_drew1 | refine below_set ?_ GE287.out) | exact HB.out)))); have n1_ := bkb BK287 hb; have n2_ := bst HB hb; clear BK287; clear HB; have HO291 := n0_; have BK287 := n1_; have HB := n2_; clear n0_ n1_ n2_; (try clear hb); (try clear hb2); (try clear hk); (try clear hi); (try clear ho0); obtain ⟨Ao13, co13, eo13⟩ := Kd.S_slice HO291.out; subst eo13))
   go_ret2
   exact ⟨_, by first | rfl | (simp [errW_none, errW_some] <;> rfl) | (simp [*, errW_none, errW_some] <;> rfl), by first | exact Kd.S_nil _ _ _ _ _ | exact Kd.N_nil _ _ _ _ _ | exact Kd.V_nil _ _ _ _ _ | exact Kd.Q_nil _ _ _ _ _ | exact Kd.R_nil _ _ _ _ _, pbs HB⟩
  ·rw [if_neg c7] at H
   have c7b0 : decide ((t289.length : Int) < (l2.length : Int)) = false := decide_eq_false c7; have c7b1 : decide (t289.length < l2.length) = false := decide_eq_false (fun h => c7 (Int.ofNat_lt.mpr h)); clear c7; simp only [Option.some.injEq, Prod.mk.injEq] at H; obtain ⟨rfl, rfl⟩ := H
   go_enter Try.func23, Try.ntmps23
   go_wp2_with (first | ((with_reducible refine gate_dst (N := 3) rfl ?_); refine box_event ?hg (N := 3) ?hd (cs := (mixA (Value.int .u16) [.int .i8 a0_0, .int .i8 a0_1] a0_2)) (t := 33) ?hr ?_; (case hd => rfl); (case hg => rfl); (case hr => first | (go_simp; done) | (go_simp; rfl)); intro gb287 hg w14 hbox hb; have n0_ := bst HB hb; have n1_ := Aside0.mk (hbox); have n2_ := gwl HB hg; have n3_ := gwl HB hg; clear HB; have HB := n0_; have BK287 := n1_; have GW287 := n2_; have GE287 := n3_; clear n0_ n1_ n2_ n3_; clear hb hbox hg) | ((with_reducible refine gate_dst (N := 10) rfl ?_); refine wpList_run0 (v := .agg (mixA (Value.int .u16) [.int .i8 a0_0, .int .i8 a0_1] a0_2)) rfl (load_mix_run (P := Try.prog) 33 (.tmp 3) rfl gb287 rfl (show World.rangeAt _ gb287 0 ([.int .i8 a0_0, .int .i8 a0_1] ++ a0_2.l.map (Value.int .u16)) from mix_range (show (World.heap _)[gb287]? = some (.cells (mixA (Value.int .u16) [.int .i8 a0_0, .int .i8 a0_1] a0_2) 33 (0, 0)) from by (with_reducible repeat (first | refine blk_drewN ?_ _ | refine blk_drew ?_ | refine blk_alloc ?_ _)); exact BK287.out)) Try.underlying33 rfl (by kernel_rfl) rfl) ?_) | ((with_reducible refine gate_callee (f := 56) rfl ?_); refine goesL_ (some 13) rfl rfl Try.func56 (by kernel_rfl) rfl #[.agg (mixA (Value.int .u16) [.int .i8 a0_0, .int .i8 a0_1] a0_2), .slice A1 l1.length c1, .slice A2 l2.length c2] rfl (by (try simp only [List.map_toArray, List.map_cons, List.map_nil]); first | done | rfl | (simp only [List.length_drop, List.length_take]; rfl)) ?_; (with_reducible refine (impl_walkCode.calls k a0_0 a0_1 a0_2 _ _ l1 _ _ l2 t288 _ ?side1 ?side2 ?side3 ?side4 A4.out).mono ?_); (case side1 => repeat (first | exact (Kd.C_below HR1.out HB.out) | (with_reducible refine Kd.C_alloc ?_ _) | (with_reducible refine Kd.C_drewN ?_ _) | (with_reducible refine Kd.C_drew ?_))); (case side2 => exact HC1.out); (case side3 => repeat (first | exact (Kd.C_below HR2.out HB.out) | (with_reducible refine Kd.C_alloc ?_ _) | (with_reducible refine Kd.C_drewN ?_ _) | (with_reducible refine Kd.C_drew ?_))); (case side4 => exact HC2.out); rintro e w16 ⟨rfl, hb⟩; refine ⟨_, rfl, ?_⟩; have n0_ := bkb BK287 hb; have n1_ := bst HB hb; clear BK287; clear HB; have BK287 := n0_; have HB := n1_; clear n0_ n1_; (try clear hb); (try clear hb2); (try clear hk); (try clear hi)) | ((with_reducible refine gate_dst (N := 18) rfl ?_); refine wpList_run0 (v := .agg (mixA (Value.int .u16) [.int .i8 a0_0, .int .i8 a0_1] a0_2)) rfl (load_mix_run (P := Try.prog) 33 (.tmp 3) rfl gb287 rfl (show World.rangeAt _ gb287 0 ([.int .i8 a0_0, .int .i8 a0_1] ++ a0_2.l.map (Value.int .u16)) from mix_range (show (World.heap _)[gb287]? = some (.cells (mixA (Value.int .u16) [.int .i8 a0_0, .int .i8 a0_1] a0_2) 33 (0, 0)) from by (with_reducible repeat (first | refine blk_drewN ?_ _ | refine blk_drew ?_ | refine blk_alloc ?_ _)); exact BK287.out)) Try.underlying33 rfl (by kernel_rfl) rfl) ?_) | ((with_reducible refine gate_callee (f := 57) rfl ?_); refine goesL_ (some 20) rfl rfl Try.func57 (by kernel_rfl) rfl #[.slice A1 l1.length c1, .agg (mixA (Value.int .u16) [.int .i8 a0_0, .int .i8 a0_1] a0_2), .slice A2 l2.length c2] rfl (by (try simp only [List.map_toArray, List.map_cons, List.map_nil]); first | done | rfl | (simp only [List.length_drop, List.length_take]; rfl)) ?_; (with_reducible refine (impl_File_walk.calls k _ _ l1 a0_0 a0_1 a0_2 _ _ l2 t289 _ ?side1 ?side2 ?side3 ?side4 A6.out).mono ?_); (case side1 => repeat (first | exact (Kd.C_below HR1.out HB.out) | (with_reducible refine Kd.C_alloc ?_ _) | (with_reducible refine Kd.C_drewN ?_ _) | (with_reducible refine Kd.C_drew ?_))); (case side2 => exact HC1.out); (case side3 => repeat (first | exact (Kd.C_below HR2.out HB.out) | (with_reducible refine Kd.C_alloc ?_ _) | (with_reducible refine Kd.C_drewN ?_ _) | (with_reducible refine Kd.C_drew ?_))); (case side4 => exact HC2.out); rintro e w18 ⟨v290, rfl, ho0, hb⟩; refine ⟨_, rfl, ?_⟩; have n0_ := Aside0.mk (Kd.S_lower ho0 (below_size (by repeat (first | (with_reducible first | exact HB.out | apply below_alloc | apply pw_below_drewN | apply below_drew1 | refine below_set ?_ GE287.out) | exact HB.out)))); have n1_ := bkb BK287 hb; have n2_ := bst HB hb; clear BK287; clear HB; have HO291 := n0_; have BK287 := n1_; have HB := n2_; clear n0_ n1_ n2_; (try clear hb); (try clear hb2); (try clear hk); (try clear hi); (try clear ho0); obtain ⟨Ao19, co19, eo19⟩ := Kd.S_slice HO291.out; subst eo19))
   go_ret2
   exact ⟨_, by first | rfl | (simp [errW_none, errW_some] <;> rfl) | (simp [*, errW_none, errW_some] <;> rfl), by (with_reducible repeat (first | apply Kd.S_alloc | apply Kd.S_drewN | apply Kd.S_drew)); exact HO291.out, pbs HB⟩
 ·rw [if_neg c5] at H
  have c5b0 : (t288 == 0) = false := beq_eq_false_iff_ne.mpr c5; have c5b1 : (t288 != 0) = true := bne_iff_ne.mpr c5; simp only [Option.some.injEq, Prod.mk.injEq] at H; obtain ⟨rfl, rfl⟩ := H
  go_enter Try.func23, Try.ntmps23
  go_wp2_with (first | ((with_reducible refine gate_dst (N := 3) rfl ?_); refine box_event ?hg (N := 3) ?hd (cs := (mixA (Value.int .u16) [.int .i8 a0_0, .int .i8 a0_1] a0_2)) (t := 33) ?hr ?_; (case hd => rfl); (case hg => rfl); (case hr => first | (go_simp; done) | (go_simp; rfl)); intro gb287 hg w20 hbox hb; have n0_ := bst HB hb; have n1_ := Aside0.mk (hbox); have n2_ := gwl HB hg; have n3_ := gwl HB hg; clear HB; have HB := n0_; have BK287 := n1_; have GW287 := n2_; have GE287 := n3_; clear n0_ n1_ n2_ n3_; clear hb hbox hg) | ((with_reducible refine gate_dst (N := 10) rfl ?_); refine wpList_run0 (v := .agg (mixA (Value.int .u16) [.int .i8 a0_0, .int .i8 a0_1] a0_2)) rfl (load_mix_run (P := Try.prog) 33 (.tmp 3) rfl gb287 rfl (show World.rangeAt _ gb287 0 ([.int .i8 a0_0, .int .i8 a0_1] ++ a0_2.l.map (Value.int .u16)) from mix_range (show (World.heap _)[gb287]? = some (.cells (mixA (Value.int .u16) [.int .i8 a0_0, .int .i8 a0_1] a0_2) 33 (0, 0)) from by (with_reducible repeat (first | refine blk_drewN ?_ _ | refine blk_drew ?_ | refine blk_alloc ?_ _)); exact BK287.out)) Try.underlying33 rfl (by kernel_rfl) rfl) ?_) | ((with_reducible refine gate_callee (f := 56) rfl ?_); refine goesL_ (some 13) rfl rfl Try.func56 (by kernel_rfl) rfl #[.agg (mixA (Value.int .u16) [.int .i8 a0_0, .int .i8 a0_1] a0_2), .slice A1 l1.length c1, .slice A2 l2.length c2] rfl (by (try simp only [List.map_toArray, List.map_cons, List.map_nil]); first | done | rfl | (simp only [List.length_drop, List.length_take]; rfl)) ?_; (with_reducible refine (impl_walkCode.calls k a0_0 a0_1 a0_2 _ _ l1 _ _ l2 t288 _ ?side1 ?side2 ?side3 ?side4 A4.out).mono ?_); (case side1 => repeat (first | exact (Kd.C_below HR1.out HB.out) | (with_reducible refine Kd.C_alloc ?_ _) | (with_reducible refine Kd.C_drewN ?_ _) | (with_reducible refine Kd.C_drew ?_))); (case side2 => exact HC1.out); (case side3 => repeat (first | exact (Kd.C_below HR2.out HB.out) | (with_reducible refine Kd.C_alloc ?_ _) | (with_reducible refine Kd.C_drewN ?_ _) | (with_reducible refine Kd.C_drew ?_))); (case side4 => exact HC2.out); rintro e w22 ⟨rfl, hb⟩; refine ⟨_, rfl, ?_⟩; have n0_ := bkb BK287 hb; have n1_ := bst HB hb; clear BK287; clear HB; have BK287 := n0_; have HB := n1_; clear n0_ n1_; (try clear hb); (try clear hb2); (try clear hk); (try clear hi)))
  go_ret2
  exact ⟨_, by first | rfl | (simp [errW_none, errW_some] <;> rfl) | (simp [*, errW_none, errW_some] <;> rfl), by first | exact Kd.S_nil _ _ _ _ _ | exact Kd.N_nil _ _ _ _ _ | exact Kd.V_nil _ _ _ _ _ | exact Kd.Q_nil _ _ _ _ _ | exact Kd.R_nil _ _ _ _ _, pbs HB⟩
def laws_markInt64S.l0 : Nat → List Int → Int → Int → Option (Int × List Int)
 | 0, _, _, _ => none
 | k + 1, x0, x1, x5 => if x5 < (x0.length : Int) then (if 0 ≤ x5 then (laws_markInt64S.l0 k (x0.set (x5 : Int).toNat x1) (wrap64 (x1 + 1)) (wrap64 (x5 + 1))) else (none)) else (some (x1, x0))
def laws_markInt64S.f (k : Nat) (l0 : List Int) (a1 : Int) : Option (Int × List Int) := laws_markInt64S.l0 k l0 a1 0
theorem laws_markInt64S.mono_l : ∀ k, (∀ y0 y1 y2, LeO (laws_markInt64S.l0 k y0 y1 y2) (laws_markInt64S.l0 (k + 1) y0 y1 y2))
 | 0 => fun _ _ _ r h => by simp [laws_markInt64S.l0] at h
 | k + 1 => by
  have ih0 := laws_markInt64S.mono_l k
  ·intro y0 y1 y2
   unfold laws_markInt64S.l0
   repeat' first
   | (with_reducible exact ih0 _ _ _)
   | (with_reducible exact LeO.refl _)
   | (with_reducible exact LeO.none _)
   | (with_reducible refine LeO.ite ?_ ?_)
   | (with_reducible refine LeO.bind ?_ (fun _ => ?_))
   | exact ih0 _ _ _
   | exact LeO.none _
   | refine LeO.ite ?_ ?_
   | refine LeO.bind ?_ (fun _ => ?_)
theorem laws_markInt64S.mono : ∀ a0 a1 k, LeO (laws_markInt64S.f k a0 a1) (laws_markInt64S.f (k + 1) a0 a1) := by
 intro a0 a1 k
 have ih0 := laws_markInt64S.mono_l k
 unfold laws_markInt64S.f
 repeat' first
   | (with_reducible exact ih0 _ _ _)
   | (with_reducible exact LeO.refl _)
   | (with_reducible exact LeO.none _)
   | (with_reducible refine LeO.ite ?_ ?_)
   | (with_reducible refine LeO.bind ?_ (fun _ => ?_))
   | exact ih0 _ _ _
   | exact LeO.none _
   | refine LeO.ite ?_ ?_
   | refine LeO.bind ?_ (fun _ => ?_)
set_option maxHeartbeats 8000000 in
set_option maxRecDepth 100000 in
theorem laws_markInt64S.calls (k : Nat) (P0_ : Nat → Prop) (u9000_ : Value) (l0 : List Int) (a1 : Int) (r1 : Int) (r2 : List Int) (w0 w : World) (hB : Below w0.heap.size w0 w) (ho0 : Kd.R (Kd.int .i64) 2 w w0.heap.size P0_ u9000_ l0) (h : laws_markInt64S.f k l0 a1 = some (r1, r2)) :
  Calls Try.prog 25 #[u9000_, .int .i64 a1] w fun e w' => e = .returned (.int .i64 r1) ∧ Kd.R (Kd.int .i64) 2 w' w0.heap.size (fun k_ => (P0_ k_ ∨ w.heap.size ≤ k_)) u9000_ r2 ∧ Below w0.heap.size w0 w' ∧ Kept w w' (fun k_ => P0_ k_) := by
 have HO0 := Aside0.mk (show Kd.R (Kd.int .i64) 2 w w0.heap.size (fun k_ => (P0_ k_ ∨ w.heap.size ≤ k_)) u9000_ l0 from Kd.R_mono ho0 (fun k_ hk => (.inl hk)))
 have HK := Aside0.mk (Kept.refl w (fun k_ => P0_ k_))
 have HW0 := Aside0.mk hB.size
 have HB := Aside0.mk hB
 clear hB
 have H : (laws_markInt64S.l0 k l0 a1 0) = some (r1, r2) := h
 clear h
 have H' := Aside0.mk H
 clear H
 go_enter Try.func25, Try.ntmps25
 go_wp2
 go_loopg [1, 5] k (fun kq v1 v5 w' => ∃ (x0_1 : List Int) (x1_1 : Int) (x5_1 : Int), v1 = .int .i64 x1_1 ∧ v5 = .int .i64 x5_1 ∧ Aside0 (laws_markInt64S.l0 kq x0_1 x1_1 x5_1 = some (r1, r2)) ∧ Aside0 (kq ≤ k) ∧ Aside0 (Kd.R (Kd.int .i64) 2 w' w0.heap.size (fun k_ => (P0_ k_ ∨ w.heap.size ≤ k_)) u9000_ x0_1) ∧ Aside0 (Kept w w' (fun k_ => P0_ k_)) ∧ Aside0 (Below w0.heap.size w0 w'))
 case atStart => exact ⟨(l0), (a1), (0), (by first | rfl | (simp; done) | (simp [*]; done)), (by first | rfl | (simp; done) | (simp [*]; done)), H', ⟨Nat.le_refl _⟩, ⟨by (with_reducible repeat (first | apply Kd.R_alloc | apply Kd.R_drewN | apply Kd.R_drew)); exact HO0.out⟩, ⟨by repeat (first | (with_reducible first | exact HK.out | apply Kept.alloc | apply Kept.drewN | apply Kept.drew) | exact HK.out)⟩, ⟨pb HB⟩⟩
 case round =>
  clear H'
  try clear c2
  try clear p2
  obtain ⟨x0_1, x1_1, x5_1, rfl, rfl, HA, HK1, HO_0, HK, HB⟩ := hrel
  cases gk with
  | zero => exact absurd HA.out (by simp [laws_markInt64S.l0])
  | succ k1 =>
   have H := HA.out; clear HA; simp only [laws_markInt64S.l0] at H
   by_cases c3 : x5_1 < (x0_1.length : Int)
   ·rw [if_pos c3] at H
    have c3b0 : decide (x5_1 < (x0_1.length : Int)) = true := decide_eq_true c3; clear c3
    by_cases c4 : 0 ≤ x5_1
    ·rw [if_pos c4] at H
     have c4b0 : decide (0 ≤ x5_1) = true := decide_eq_true c4; clear c4; obtain ⟨y295, hy295⟩ : ∃ y_ : List Int, y_ = (x0_1.set (x5_1 : Int).toNat x1_1) := ⟨_, rfl⟩
     replace H : (laws_markInt64S.l0 k1 y295 (wrap64 (x1_1 + 1)) (wrap64 (x5_1 + 1))) = some (r1, r2) := by first | (rw [hy295]; with_reducible exact H) | (have H2_ := (Option.bind_some _ _).symm.trans H; rw [hy295]; with_reducible exact H2_) | (have H2_ := (Option.bind_some _ _).symm.trans H; with_reducible exact H2_) | with_reducible exact H | (rw [hy295]; exact H) | exact H
     have Ny295 := Aside0.mk hy295; clear hy295; have H' := Aside0.mk H; clear H; obtain ⟨Ao6, co6, eo6⟩ := Kd.R_slice HO_0.out; subst eo6; have p5 : 0 ≤ (x5_1 : Int) := of_decide_eq_true (by first | (with_reducible assumption) | assumption); have q5 : (x5_1 : Int) < ((x0_1.length : Int) : Int) := of_decide_eq_true (by first | (with_reducible assumption) | assumption); obtain ⟨go5, co5, eo5, gb5, gl5, cl5, HG5⟩ := Kd.R_form HO_0.out (by omega); (first | cases eo5 | (injection eo5 with ea_ en_ ec_; (first | subst ea_ | (injection ea_ with ea_; subst ea_)); subst ec_; clear en_)); have GB5 := Aside0.mk gb5; have GG5 := Aside0.mk HG5; clear gb5 gl5 HG5; have HMgo5 := Aside0.mk (show (P0_ go5 ∨ w.heap.size ≤ go5) from (HO_0.out.1 _ rfl)); obtain ⟨hx5_0, hf5_0⟩ := Kd.R_celln 0 HO_0.out (x5_1 : Int) p5 q5; replace p5 := eq_true p5; replace q5 := eq_true q5; have HP7 := Kd.R_putg HO_0.out (x5_1 : Int) x1_1
     go_wp2_with (first | ((with_reducible refine gate_store (t := 2) (p := 15) rfl ?_); refine store_event (t := 2) (p := 15) (v := ?vo_w8) (w1 := (wr.setCell ⟨go5, (x5_1 : Int).toNat, none⟩ (.int .i64 x1_1))) ?hg ?ho ?hn ?hr ?_; (case ho => rfl); (case hg => rfl); (case hn => rfl); (case hr => first | (go_simp; done) | (go_simp; rfl)); intro w8 hw; have hg : wr.grownBy w8 (some go5) := (by rw [hw]; exact HP7.2); have hp_ : Kd.R (Kd.int .i64) 2 w8 w0.heap.size (fun k_ => (P0_ k_ ∨ w.heap.size ≤ k_)) (.slice (some ⟨go5, 0, none⟩) x0_1.length co6) y295 := (by rw [hw, Ny295.out]; exact HP7.1); clear HP7; have n0_ := Aside0.mk (hp_); have n1_ := Aside0.mk ((by rw [hw]; exact below_set (HB.out) GB5.out : Below w0.heap.size w0 w8)); have n2_ := Aside0.mk (Kept.of_grown (S := (fun k_ => P0_ k_)) hg (by repeat (first | (with_reducible first | exact HK.out | apply Kept.alloc | apply Kept.drewN | apply Kept.drew) | exact HK.out)) (fun k_ e_ => (HO_0.out.1 k_ e_))); clear HO_0; clear HB; clear HK; have HO_0 := n0_; have HB := n1_; have HK := n2_; clear n0_ n1_ n2_; clear hg hw hp_))
     go_roundg k1
     case measure => have := HK1.out; omega
     case rel => exact ⟨(y295), (wrap64 (x1_1 + 1)), (wrap64 (x5_1 + 1)), (by first | rfl | (simp; done) | (simp [*]; done)), (by first | rfl | (simp; done) | (simp [*]; done)), H', ⟨by have := HK1.out; omega⟩, ⟨by (with_reducible repeat (first | apply Kd.R_alloc | apply Kd.R_drewN | apply Kd.R_drew)); exact HO_0.out⟩, ⟨by repeat (first | (with_reducible first | exact HK.out | apply Kept.alloc | apply Kept.drewN | apply Kept.drew) | exact HK.out)⟩, ⟨pb HB⟩⟩
    ·rw [if_neg c4] at H
     exact absurd H (by simp)
   ·rw [if_neg c3] at H
    have c3b0 : decide (x5_1 < (x0_1.length : Int)) = false := decide_eq_false c3; clear c3; simp only [Option.some.injEq, Prod.mk.injEq] at H; obtain ⟨rfl, rfl⟩ := H; obtain ⟨Ao9, co9, eo9⟩ := Kd.R_slice HO_0.out; subst eo9
    go_wp2
    go_ret
    exact ⟨by first | rfl | (simp [errW_none, errW_some] <;> rfl) | (simp [*, errW_none, errW_some] <;> rfl), by (with_reducible repeat (first | apply Kd.R_alloc | apply Kd.R_drewN | apply Kd.R_drew)); exact HO_0.out, by repeat (first | (with_reducible first | exact HB.out | apply below_alloc | apply pw_below_drewN | apply below_drew1) | exact HB.out), by repeat (first | (with_reducible first | exact HK.out | apply Kept.alloc | apply Kept.drewN | apply Kept.drew) | exact HK.out)⟩
end Go.Proofs.Ytjogemppgdeomaa.PB
end
section
namespace Go.Proofs.Ytjogemppgdeomaa.PB
open Go.RowKit Go.Proofs.YtjogemppgdeomaaW.PrintWords Go.Proofs.YtjogemppgdeomaaW.PrintLast Go.Proofs.YtjogemppgdeomaaW.PrintMore Go.Proofs.Ytjogemppgdeomaa.La
attribute [local go_sem] max2_int min2_int max_two min_two max_three min_three max_four min_four   -- for this text's walks alone
set_option linter.unusedVariables false
set_option linter.unusedSimpArgs false
def laws_eqSpotS.l0 : Nat → List (S55) → List (S55) → Int → Option (Bool)
 | 0, _, _, _ => none
 | k + 1, x0, x1, x5 => if x5 < (x0.length : Int) then (if 0 ≤ x5 then (if x5 < (x1.length : Int) then ((laws_eqSpot.f ((rd_T55 x0 x5).f0) ((rd_T55 x0 x5).f1) ((rd_T55 x1 x5).f0) ((rd_T55 x1 x5).f1)).bind fun t302 => (if t302 = true then (laws_eqSpotS.l0 k x0 x1 (wrap64 (x5 + 1))) else (some false))) else (none)) else (none)) else (some true)
def laws_eqSpotS.f (k : Nat) (l0 : List (S55)) (l1 : List (S55)) : Option (Bool) := if (l0.length : Int) = (l1.length : Int) then (laws_eqSpotS.l0 k l0 l1 0) else (some false)
theorem laws_eqSpotS.mono_l : ∀ k, (∀ y0 y1 y2, LeO (laws_eqSpotS.l0 k y0 y1 y2) (laws_eqSpotS.l0 (k + 1) y0 y1 y2))
 | 0 => fun _ _ _ r h => by simp [laws_eqSpotS.l0] at h
 | k + 1 => by
  have ih0 := laws_eqSpotS.mono_l k
  ·intro y0 y1 y2
   unfold laws_eqSpotS.l0
   repeat' first
   | (with_reducible exact ih0 _ _ _)
   | (with_reducible exact LeO.refl _)
   | (with_reducible exact LeO.none _)
   | (with_reducible refine LeO.ite ?_ ?_)
   | (with_reducible refine LeO.bind ?_ (fun _ => ?_))
   | exact ih0 _ _ _
   | exact LeO.none _
   | refine LeO.ite ?_ ?_
   | refine LeO.bind ?_ (fun _ => ?_)
theorem laws_eqSpotS.mono : ∀ a0 a1 k, LeO (laws_eqSpotS.f k a0 a1) (laws_eqSpotS.f (k + 1) a0 a1) := by
 intro a0 a1 k
 have ih0 := laws_eqSpotS.mono_l k
 unfold laws_eqSpotS.f
 repeat' first
   | (with_reducible exact ih0 _ _ _)
   | (with_reducible exact LeO.refl _)
   | (with_reducible exact LeO.none _)
   | (with_reducible refine LeO.ite ?_ ?_)
   | (with_reducible refine LeO.bind ?_ (fun _ => ?_))
   | exact ih0 _ _ _
   | exact LeO.none _
   | refine LeO.ite ?_ ?_
   | refine LeO.bind ?_ (fun _ => ?_)
def laws_eqSpotS.T6 : Bool × List (List Nat × List Nat) := (true, [([], []), ([], []), ([0, 1], [0, 1]), ([2], [2]), ([], []), ([], []), ([4, 5], [4, 5]), ([6], [6]), ([3, 7], [3, 7]), ([8], [8])])
def laws_eqSpotS.B6 : List Nat := [0, 0, 3, 7, 0, 0, 48, 112, 255, 511]
theorem laws_eqSpotS.tab6 : rtab .any (opsOf Try.f36 6) = laws_eqSpotS.T6 := by kernel_rfl
theorem laws_eqSpotS.bits6 : waitsOk laws_eqSpotS.T6.2 laws_eqSpotS.B6 = true := by kernel_rfl
set_option maxHeartbeats 8000000 in
set_option maxRecDepth 100000 in
theorem laws_eqSpotS.calls (k : Nat) (A0 : Option Addr) (c0 : Nat) (l0 : List (S55)) (A1 : Option Addr) (c1 : Nat) (l1 : List (S55)) (r : Bool) (w : World) (hr0 : Kd.C k55 w A0 l0.length l0) (hc0 : l0.length ≤ c0) (hr1 : Kd.C k55 w A1 l1.length l1) (hc1 : l1.length ≤ c1) (h : laws_eqSpotS.f k l0 l1 = some r) :
  Calls Try.prog 36 #[.slice A0 l0.length c0, .slice A1 l1.length c1] w fun e w' => e = .returned (.bool r) ∧ Below w.heap.size w w' := by
 have hu55 := Try.underlying55
 have HR0 := Aside0.mk hr0
 have HC0 := Aside0.mk hc0
 clear hr0 hc0
 have HR1 := Aside0.mk hr1
 have HC1 := Aside0.mk hc1
 clear hr1 hc1
 have HB := Aside0.mk (Below.refl w.heap.size w)
 have H : (if (l0.length : Int) = (l1.length : Int) then (laws_eqSpotS.l0 k l0 l1 0) else (some false)) = some r := h
 clear h
 by_cases c3 : (l0.length : Int) = (l1.length : Int)
 ·rw [if_pos c3] at H
  have c3b0 : ((l0.length : Int) == (l1.length : Int)) = true := beq_iff_eq.mpr c3; have c3b1 : ((l0.length : Int) != (l1.length : Int)) = false := bne_eq_false_iff_eq.mpr c3
  have c3b2 : (l0.length == l1.length) = true := by first | simpa using c3 | (simp at c3 ⊢; omega)
  clear c3; have H' := Aside0.mk H; clear H
  go_enter Try.func36, Try.ntmps36
  go_wp2
  go_loopg [5] k (fun kq v5 w' => ∃ (x5_1 : Int), v5 = .int .i64 x5_1 ∧ Aside0 (laws_eqSpotS.l0 kq l0 l1 x5_1 = some r) ∧ Aside0 (kq ≤ k) ∧ Aside0 (Below w.heap.size w w'))
  case atStart => exact ⟨(0), (by first | rfl | (simp; done) | (simp [*]; done)), H', ⟨Nat.le_refl _⟩, ⟨pb HB⟩⟩
  case round =>
   clear H'
   try clear c1
   try clear p2
   try clear c3
   try clear c3b0
   try clear c3b1
   try clear c3b2
   obtain ⟨x5_1, rfl, HA, HK1, HB⟩ := hrel
   cases gk with
   | zero => exact absurd HA.out (by simp [laws_eqSpotS.l0])
   | succ k1 =>
    have H := HA.out; clear HA; simp only [laws_eqSpotS.l0] at H
    by_cases c4 : x5_1 < (l0.length : Int)
    ·rw [if_pos c4] at H
     have c4b0 : decide (x5_1 < (l0.length : Int)) = true := decide_eq_true c4; clear c4
     by_cases c5 : 0 ≤ x5_1
     ·rw [if_pos c5] at H
      have c5b0 : decide (0 ≤ x5_1) = true := decide_eq_true c5; clear c5
      by_cases c6 : x5_1 < (l1.length : Int)
      ·rw [if_pos c6] at H
       have c6b0 : decide (x5_1 < (l1.length : Int)) = true := decide_eq_true c6; clear c6; replace H := Option.bind_eq_some_iff.mp H; obtain ⟨t302, A70, H⟩ := H; replace H : (if t302 = true then (laws_eqSpotS.l0 k1 l0 l1 (wrap64 (x5_1 + 1))) else (some false)) = some r := H; have A7 := Aside0.mk A70; clear A70
       by_cases c8 : t302 = true
       ·subst c8
        have H1 : (laws_eqSpotS.l0 k1 l0 l1 (wrap64 (x5_1 + 1))) = some r := by rw [if_pos rfl] at H; exact H
        clear H; have H := H1; clear H1; have H' := Aside0.mk H; clear H
        try go_wp2
        have n0_ := Aside0.mk (below_drew1 HB.out); clear HB; have HB := n0_; clear n0_; have p300 : 0 ≤ (x5_1 : Int) := of_decide_eq_true (by first | (with_reducible assumption) | assumption); have q300 : x5_1 < (l0.length : Int) := of_decide_eq_true (by first | (with_reducible assumption) | assumption); obtain ⟨ad300, e300, hx300_0, hx300_1⟩ := at_T55 HR0.out x5_1 p300 q300; have hw300_1 := hx300_1; have hw300_0 := hx300_0; cases e300
        try replace hx300_0 := (HB.out.cell (World.block_lt_of_cell? w _ hx300_0)).trans hx300_0
        try replace hx300_1 := (HB.out.cell (World.block_lt_of_cell? w _ hx300_1)).trans hx300_1
        replace p300 := eq_true p300; replace q300 := eq_true q300; have p301 : 0 ≤ (x5_1 : Int) := of_decide_eq_true (by first | (with_reducible assumption) | assumption); have q301 : x5_1 < (l1.length : Int) := of_decide_eq_true (by first | (with_reducible assumption) | assumption); obtain ⟨ad301, e301, hx301_0, hx301_1⟩ := at_T55 HR1.out x5_1 p301 q301; have hw301_1 := hx301_1; have hw301_0 := hx301_0; cases e301
        try replace hx301_0 := (HB.out.cell (World.block_lt_of_cell? w _ hx301_0)).trans hx301_0
        try replace hx301_1 := (HB.out.cell (World.block_lt_of_cell? w _ hx301_1)).trans hx301_1
        replace p301 := eq_true p301; replace q301 := eq_true q301
        refine start_ (n := 10) (S := fun w' => w'.cell? (ad300.add ((x5_1).toNat * 2)) = some (.int .i8 ((rd_T55 l0 x5_1).f0)) ∧ w'.cell? ⟨(ad300.add ((x5_1).toNat * 2)).block, (ad300.add ((x5_1).toNat * 2)).off + 1, none⟩ = some (.int .i8 ((rd_T55 l0 x5_1).f1)) ∧ w'.cell? (ad301.add ((x5_1).toNat * 2)) = some (.int .i8 ((rd_T55 l1 x5_1).f0)) ∧ w'.cell? ⟨(ad301.add ((x5_1).toNat * 2)).block, (ad301.add ((x5_1).toNat * 2)).off + 1, none⟩ = some (.int .i8 ((rd_T55 l1 x5_1).f1))) (ds := []) #[false, false, false, false, false, false, false, false, false, false] (by kernel_rfl) rfl rfl ⟨((HB.out.cell (World.block_lt_of_cell? w _ hw300_0)).trans hw300_0), ((HB.out.cell (World.block_lt_of_cell? w _ hw300_1)).trans hw300_1), ((HB.out.cell (World.block_lt_of_cell? w _ hw301_0)).trans hw301_0), ((HB.out.cell (World.block_lt_of_cell? w _ hw301_1)).trans hw301_1)⟩ (fun hHeld => ?_); refine with_tabW laws_eqSpotS.tab6 laws_eqSpotS.bits6 (fun HT_ HW_ => ?_)
        generalize wr.drew = w9 at HB hx300_0 hx300_1 hx301_0 hx301_1 hHeld ⊢; refine pure_ (i := 0) (N := some 17) (v := ?_) (a' := ?_) #[true, false, false, false, false, false, false, false, false, false] rfl rfl (any_of HT_.out (by kernel_rfl)) (fun _ _ _ h => h) (Or.inl ⟨by rfl, ?_⟩) ?_ ?_; rotate_left
        ·intro w'
         go_simp; with_reducible rfl
        rotate_left
        ·simp only [Act.put, List.setIfInBounds_toArray, List.set_cons_zero, List.set_cons_succ, i64_w, i32_w]
         rfl
        refine pure_ (i := 1) (N := some 18) (v := ?_) (a' := ?_) #[true, true, false, false, false, false, false, false, false, false] rfl rfl (any_of HT_.out (by kernel_rfl)) (fun _ _ _ h => h) (Or.inl ⟨by rfl, ?_⟩) ?_ ?_; rotate_left
        ·intro w'
         go_simp; with_reducible rfl
        rotate_left
        ·simp only [Act.put, List.setIfInBounds_toArray, List.set_cons_zero, List.set_cons_succ, i64_w, i32_w]
         rfl
        refine pure_ (i := 2) (N := some 19) (v := ?_) (a' := ?_) #[true, true, true, false, false, false, false, false, false, false] rfl rfl (any_of HT_.out (by kernel_rfl)) (fun _ _ _ h => h) (Or.inl ⟨by rfl, ?_⟩) ?_ ?_; rotate_left
        ·intro w'
         go_simp; with_reducible rfl
        rotate_left
        ·simp only [Act.put, List.setIfInBounds_toArray, List.set_cons_zero, List.set_cons_succ, i64_w, i32_w]
         rfl
        refine pure_ (i := 4) (N := some 21) (v := ?_) (a' := ?_) #[true, true, true, false, true, false, false, false, false, false] rfl rfl (any_of HT_.out (by kernel_rfl)) (fun _ _ _ h => h) (Or.inl ⟨by rfl, ?_⟩) ?_ ?_; rotate_left
        ·intro w'
         go_simp; with_reducible rfl
        rotate_left
        ·simp only [Act.put, List.setIfInBounds_toArray, List.set_cons_zero, List.set_cons_succ, i64_w, i32_w]
         rfl
        refine pure_ (i := 5) (N := some 22) (v := ?_) (a' := ?_) #[true, true, true, false, true, true, false, false, false, false] rfl rfl (any_of HT_.out (by kernel_rfl)) (fun _ _ _ h => h) (Or.inl ⟨by rfl, ?_⟩) ?_ ?_; rotate_left
        ·intro w'
         go_simp; with_reducible rfl
        rotate_left
        ·simp only [Act.put, List.setIfInBounds_toArray, List.set_cons_zero, List.set_cons_succ, i64_w, i32_w]
         rfl
        refine pure_ (i := 6) (N := some 23) (v := ?_) (a' := ?_) #[true, true, true, false, true, true, true, false, false, false] rfl rfl (any_of HT_.out (by kernel_rfl)) (fun _ _ _ h => h) (Or.inl ⟨by rfl, ?_⟩) ?_ ?_; rotate_left
        ·intro w'
         go_simp; with_reducible rfl
        rotate_left
        ·simp only [Act.put, List.setIfInBounds_toArray, List.set_cons_zero, List.set_cons_succ, i64_w, i32_w]
         rfl
        refine take_ (i := 3) (N := some 20) (v := ?_) (a' := ?_) #[true, true, true, true, true, true, true, false, false, false] rfl rfl (take_ofW HT_.out HW_.out (by kernel_rfl)) (fun _ _ _ h => h) (Or.inl ⟨by rfl, ?_⟩) hHeld ?_ ?_; rotate_left
        ·rintro w' ⟨s0, s1, s2, s3⟩
         go_simp; with_reducible rfl
        rotate_left
        ·simp only [Act.put, List.setIfInBounds_toArray, List.set_cons_zero, List.set_cons_succ, i64_w, i32_w]
         rfl
        refine take_ (i := 7) (N := some 24) (v := ?_) (a' := ?_) #[true, true, true, true, true, true, true, true, false, false] rfl rfl (take_ofW HT_.out HW_.out (by kernel_rfl)) (fun _ _ _ h => h) (Or.inl ⟨by rfl, ?_⟩) hHeld ?_ ?_; rotate_left
        ·rintro w' ⟨s0, s1, s2, s3⟩
         go_simp; with_reducible rfl
        rotate_left
        ·simp only [Act.put, List.setIfInBounds_toArray, List.set_cons_zero, List.set_cons_succ, i64_w, i32_w]
         rfl
        refine one_ (i := 8) (N := some 25) #[true, true, true, true, true, true, true, true, true, false] rfl rfl (one_of HT_.out (by kernel_rfl)) (by decide) (fun K hK => ?_); refine goes_ Try.func53 (by kernel_rfl) rfl #[.agg #[.int .i8 ((rd_T55 l0 x5_1).f0), .int .i8 ((rd_T55 l0 x5_1).f1)], .agg #[.int .i8 ((rd_T55 l1 x5_1).f0), .int .i8 ((rd_T55 l1 x5_1).f1)]] (by rfl) rfl rfl (by (try simp only [List.map_toArray, List.map_cons, List.map_nil]); first | done | rfl | (simp only [List.length_drop, List.length_take]; rfl)) ?_; with_reducible refine (laws_eqSpot.calls ((rd_T55 l0 x5_1).f0) ((rd_T55 l0 x5_1).f1) ((rd_T55 l1 x5_1).f0) ((rd_T55 l1 x5_1).f1) true _ A7.out).mono ?_
        rintro e w10 ⟨rfl, hb⟩
        refine ⟨_, rfl, ?_⟩; have n0_ := bst HB hb; clear HB; have HB := n0_; clear n0_; (try clear hb); (try clear hb2); (try clear hk); (try clear hi); refine hK.out _ _ ⟨((HB.out.cell (World.block_lt_of_cell? w _ hw300_0)).trans hw300_0), ((HB.out.cell (World.block_lt_of_cell? w _ hw300_1)).trans hw300_1), ((HB.out.cell (World.block_lt_of_cell? w _ hw301_0)).trans hw301_0), ((HB.out.cell (World.block_lt_of_cell? w _ hw301_1)).trans hw301_1)⟩ (fun hHeld => ?_); clear hK K; refine norm_ (a' := ?_) ?_ ?_; rotate_left
        ·show Act.put _ (some 25) _ = _
         simp only [Act.put, List.setIfInBounds_toArray, List.set_cons_zero, List.set_cons_succ, i64_w, i32_w]; rfl
        refine pure_ (i := 9) (N := some 26) (v := ?_) (a' := ?_) #[true, true, true, true, true, true, true, true, true, true] rfl rfl (any_of HT_.out (by kernel_rfl)) (fun _ _ _ h => h) (Or.inl ⟨by rfl, ?_⟩) ?_ ?_; rotate_left
        ·intro w'
         go_simp; with_reducible rfl
        rotate_left
        ·simp only [Act.put, List.setIfInBounds_toArray, List.set_cons_zero, List.set_cons_succ, i64_w, i32_w]
         rfl
        refine done_ (done_of HT_.out (by kernel_rfl)) ?_
        try go_wp2
        go_roundg k1
        case measure => have := HK1.out; omega
        case rel => exact ⟨(wrap64 (x5_1 + 1)), (by first | rfl | (simp; done) | (simp [*]; done)), H', ⟨by have := HK1.out; omega⟩, ⟨pb HB⟩⟩
       ·replace c8 := Bool.eq_false_iff.mpr c8
        subst c8
        have H1 : (some false) = some r := by rw [if_neg (show ¬ (false = true) by decide)] at H; exact H
        clear H; have H := H1; clear H1; obtain rfl := Option.some.inj H
        try go_wp2
        have n0_ := Aside0.mk (below_drew1 HB.out); clear HB; have HB := n0_; clear n0_; have p300 : 0 ≤ (x5_1 : Int) := of_decide_eq_true (by first | (with_reducible assumption) | assumption); have q300 : x5_1 < (l0.length : Int) := of_decide_eq_true (by first | (with_reducible assumption) | assumption); obtain ⟨ad300, e300, hx300_0, hx300_1⟩ := at_T55 HR0.out x5_1 p300 q300; have hw300_1 := hx300_1; have hw300_0 := hx300_0; cases e300
        try replace hx300_0 := (HB.out.cell (World.block_lt_of_cell? w _ hx300_0)).trans hx300_0
        try replace hx300_1 := (HB.out.cell (World.block_lt_of_cell? w _ hx300_1)).trans hx300_1
        replace p300 := eq_true p300; replace q300 := eq_true q300; have p301 : 0 ≤ (x5_1 : Int) := of_decide_eq_true (by first | (with_reducible assumption) | assumption); have q301 : x5_1 < (l1.length : Int) := of_decide_eq_true (by first | (with_reducible assumption) | assumption); obtain ⟨ad301, e301, hx301_0, hx301_1⟩ := at_T55 HR1.out x5_1 p301 q301; have hw301_1 := hx301_1; have hw301_0 := hx301_0; cases e301
        try replace hx301_0 := (HB.out.cell (World.block_lt_of_cell? w _ hx301_0)).trans hx301_0
        try replace hx301_1 := (HB.out.cell (World.block_lt_of_cell? w _ hx301_1)).trans hx301_1
        replace p301 := eq_true p301; replace q301 := eq_true q301
        refine start_ (n := 10) (S := fun w' => w'.cell? (ad300.add ((x5_1).toNat * 2)) = some (.int .i8 ((rd_T55 l0 x5_1).f0)) ∧ w'.cell? ⟨(ad300.add ((x5_1).toNat * 2)).block, (ad300.add ((x5_1).toNat * 2)).off + 1, none⟩ = some (.int .i8 ((rd_T55 l0 x5_1).f1)) ∧ w'.cell? (ad301.add ((x5_1).toNat * 2)) = some (.int .i8 ((rd_T55 l1 x5_1).f0)) ∧ w'.cell? ⟨(ad301.add ((x5_1).toNat * 2)).block, (ad301.add ((x5_1).toNat * 2)).off + 1, none⟩ = some (.int .i8 ((rd_T55 l1 x5_1).f1))) (ds := []) #[false, false, false, false, false, false, false, false, false, false] (by kernel_rfl) rfl rfl ⟨((HB.out.cell (World.block_lt_of_cell? w _ hw300_0)).trans hw300_0), ((HB.out.cell (World.block_lt_of_cell? w _ hw300_1)).trans hw300_1), ((HB.out.cell (World.block_lt_of_cell? w _ hw301_0)).trans hw301_0), ((HB.out.cell (World.block_lt_of_cell? w _ hw301_1)).trans hw301_1)⟩ (fun hHeld => ?_); refine with_tabW laws_eqSpotS.tab6 laws_eqSpotS.bits6 (fun HT_ HW_ => ?_)
        generalize wr.drew = w11 at HB hx300_0 hx300_1 hx301_0 hx301_1 hHeld ⊢; refine pure_ (i := 0) (N := some 17) (v := ?_) (a' := ?_) #[true, false, false, false, false, false, false, false, false, false] rfl rfl (any_of HT_.out (by kernel_rfl)) (fun _ _ _ h => h) (Or.inl ⟨by rfl, ?_⟩) ?_ ?_; rotate_left
        ·intro w'
         go_simp; with_reducible rfl
        rotate_left
        ·simp only [Act.put, List.setIfInBounds_toArray, List.set_cons_zero, List.set_cons_succ, i64_w, i32_w]
         rfl
        refine pure_ (i := 1) (N := some 18) (v := ?_) (a' := ?_) #[true, true, false, false, false, false, false, false, false, false] rfl rfl (any_of HT_.out (by kernel_rfl)) (fun _ _ _ h => h) (Or.inl ⟨by rfl, ?_⟩) ?_ ?_; rotate_left
        ·intro w'
         go_simp; with_reducible rfl
        rotate_left
        ·simp only [Act.put, List.setIfInBounds_toArray, List.set_cons_zero, List.set_cons_succ, i64_w, i32_w]
         rfl
        refine pure_ (i := 2) (N := some 19) (v := ?_) (a' := ?_) #[true, true, true, false, false, false, false, false, false, false] rfl rfl (any_of HT_.out (by kernel_rfl)) (fun _ _ _ h => h) (Or.inl ⟨by rfl, ?_⟩) ?_ ?_; rotate_left
        ·intro w'
         go_simp; with_reducible rfl
        rotate_left
        ·simp only [Act.put, List.setIfInBounds_toArray, List.set_cons_zero, List.set_cons_succ, i64_w, i32_w]
         rfl
        refine pure_ (i := 4) (N := some 21) (v := ?_) (a' := ?_) #[true, true, true, false, true, false, false, false, false, false] rfl rfl (any_of HT_.out (by kernel_rfl)) (fun _ _ _ h => h) (Or.inl ⟨by rfl, ?_⟩) ?_ ?_; rotate_left
        ·intro w'
         go_simp; with_reducible rfl
        rotate_left
        ·simp only [Act.put, List.setIfInBounds_toArray, List.set_cons_zero, List.set_cons_succ, i64_w, i32_w]
         rfl
        refine pure_ (i := 5) (N := some 22) (v := ?_) (a' := ?_) #[true, true, true, false, true, true, false, false, false, false] rfl rfl (any_of HT_.out (by kernel_rfl)) (fun _ _ _ h => h) (Or.inl ⟨by rfl, ?_⟩) ?_ ?_; rotate_left
        ·intro w'
         go_simp; with_reducible rfl
        rotate_left
        ·simp only [Act.put, List.setIfInBounds_toArray, List.set_cons_zero, List.set_cons_succ, i64_w, i32_w]
         rfl
        refine pure_ (i := 6) (N := some 23) (v := ?_) (a' := ?_) #[true, true, true, false, true, true, true, false, false, false] rfl rfl (any_of HT_.out (by kernel_rfl)) (fun _ _ _ h => h) (Or.inl ⟨by rfl, ?_⟩) ?_ ?_; rotate_left
        ·intro w'
         go_simp; with_reducible rfl
        rotate_left
        ·simp only [Act.put, List.setIfInBounds_toArray, List.set_cons_zero, List.set_cons_succ, i64_w, i32_w]
         rfl
        refine take_ (i := 3) (N := some 20) (v := ?_) (a' := ?_) #[true, true, true, true, true, true, true, false, false, false] rfl rfl (take_ofW HT_.out HW_.out (by kernel_rfl)) (fun _ _ _ h => h) (Or.inl ⟨by rfl, ?_⟩) hHeld ?_ ?_; rotate_left
        ·rintro w' ⟨s0, s1, s2, s3⟩
         go_simp; with_reducible rfl
        rotate_left
        ·simp only [Act.put, List.setIfInBounds_toArray, List.set_cons_zero, List.set_cons_succ, i64_w, i32_w]
         rfl
        refine take_ (i := 7) (N := some 24) (v := ?_) (a' := ?_) #[true, true, true, true, true, true, true, true, false, false] rfl rfl (take_ofW HT_.out HW_.out (by kernel_rfl)) (fun _ _ _ h => h) (Or.inl ⟨by rfl, ?_⟩) hHeld ?_ ?_; rotate_left
        ·rintro w' ⟨s0, s1, s2, s3⟩
         go_simp; with_reducible rfl
        rotate_left
        ·simp only [Act.put, List.setIfInBounds_toArray, List.set_cons_zero, List.set_cons_succ, i64_w, i32_w]
         rfl
        refine one_ (i := 8) (N := some 25) #[true, true, true, true, true, true, true, true, true, false] rfl rfl (one_of HT_.out (by kernel_rfl)) (by decide) (fun K hK => ?_); refine goes_ Try.func53 (by kernel_rfl) rfl #[.agg #[.int .i8 ((rd_T55 l0 x5_1).f0), .int .i8 ((rd_T55 l0 x5_1).f1)], .agg #[.int .i8 ((rd_T55 l1 x5_1).f0), .int .i8 ((rd_T55 l1 x5_1).f1)]] (by rfl) rfl rfl (by (try simp only [List.map_toArray, List.map_cons, List.map_nil]); first | done | rfl | (simp only [List.length_drop, List.length_take]; rfl)) ?_; with_reducible refine (laws_eqSpot.calls ((rd_T55 l0 x5_1).f0) ((rd_T55 l0 x5_1).f1) ((rd_T55 l1 x5_1).f0) ((rd_T55 l1 x5_1).f1) false _ A7.out).mono ?_
        rintro e w12 ⟨rfl, hb⟩
        refine ⟨_, rfl, ?_⟩; have n0_ := bst HB hb; clear HB; have HB := n0_; clear n0_; (try clear hb); (try clear hb2); (try clear hk); (try clear hi); refine hK.out _ _ ⟨((HB.out.cell (World.block_lt_of_cell? w _ hw300_0)).trans hw300_0), ((HB.out.cell (World.block_lt_of_cell? w _ hw300_1)).trans hw300_1), ((HB.out.cell (World.block_lt_of_cell? w _ hw301_0)).trans hw301_0), ((HB.out.cell (World.block_lt_of_cell? w _ hw301_1)).trans hw301_1)⟩ (fun hHeld => ?_); clear hK K; refine norm_ (a' := ?_) ?_ ?_; rotate_left
        ·show Act.put _ (some 25) _ = _
         simp only [Act.put, List.setIfInBounds_toArray, List.set_cons_zero, List.set_cons_succ, i64_w, i32_w]; rfl
        refine pure_ (i := 9) (N := some 26) (v := ?_) (a' := ?_) #[true, true, true, true, true, true, true, true, true, true] rfl rfl (any_of HT_.out (by kernel_rfl)) (fun _ _ _ h => h) (Or.inl ⟨by rfl, ?_⟩) ?_ ?_; rotate_left
        ·intro w'
         go_simp; with_reducible rfl
        rotate_left
        ·simp only [Act.put, List.setIfInBounds_toArray, List.set_cons_zero, List.set_cons_succ, i64_w, i32_w]
         rfl
        refine done_ (done_of HT_.out (by kernel_rfl)) ?_
        try go_wp2
        go_ret
        exact ⟨by first | rfl | (simp [errW_none, errW_some] <;> rfl) | (simp [*, errW_none, errW_some] <;> rfl), pb HB⟩
      ·rw [if_neg c6] at H
       exact absurd H (by simp)
     ·rw [if_neg c5] at H
      exact absurd H (by simp)
    ·rw [if_neg c4] at H
     have c4b0 : decide (x5_1 < (l0.length : Int)) = false := decide_eq_false c4; clear c4; obtain rfl := Option.some.inj H
     go_wp2
     go_ret
     exact ⟨by first | rfl | (simp [errW_none, errW_some] <;> rfl) | (simp [*, errW_none, errW_some] <;> rfl), pb HB⟩
 ·rw [if_neg c3] at H
  have c3b0 : ((l0.length : Int) == (l1.length : Int)) = false := beq_eq_false_iff_ne.mpr c3; have c3b1 : ((l0.length : Int) != (l1.length : Int)) = true := bne_iff_ne.mpr c3
  have c3b2 : (l0.length == l1.length) = false := by first | simpa using c3 | (simp at c3 ⊢; omega)
  obtain rfl := Option.some.inj H
  go_enter Try.func36, Try.ntmps36
  go_wp2
  go_ret
  exact ⟨by first | rfl | (simp [errW_none, errW_some] <;> rfl) | (simp [*, errW_none, errW_some] <;> rfl), pb HB⟩
def laws_markSpotS.l0 : Nat → List (S55) → Int → Int → Option (Int × (List (S55)))
 | 0, _, _, _ => none
 | k + 1, x0, x1, x5 => if x5 < (x0.length : Int) then (if 0 ≤ x5 then ((some (x0.set (x5 : Int).toNat (⟨IntKind.i8.wrap (x1), (rd_T55 x0 x5).f1⟩ : S55) : List (S55))).bind fun y303 => (laws_markSpotS.l0 k (y303.set (x5 : Int).toNat (⟨(rd_T55 y303 x5).f0, IntKind.i8.wrap (wrap64 (x1 + 1))⟩ : S55)) (wrap64 ((wrap64 (x1 + 1)) + 1)) (wrap64 (x5 + 1)))) else (none)) else (some (x1, x0))
def laws_markSpotS.f (k : Nat) (l0 : List (S55)) (a1 : Int) : Option (Int × (List (S55))) := laws_markSpotS.l0 k l0 a1 0
theorem laws_markSpotS.mono_l : ∀ k, (∀ y0 y1 y2, LeO (laws_markSpotS.l0 k y0 y1 y2) (laws_markSpotS.l0 (k + 1) y0 y1 y2))
 | 0 => fun _ _ _ r h => by simp [laws_markSpotS.l0] at h
 | k + 1 => by
  have ih0 := laws_markSpotS.mono_l k
  ·intro y0 y1 y2
   unfold laws_markSpotS.l0
   repeat' first
   | (with_reducible exact ih0 _ _ _)
   | (with_reducible exact LeO.refl _)
   | (with_reducible exact LeO.none _)
   | (with_reducible refine LeO.ite ?_ ?_)
   | (with_reducible refine LeO.bind ?_ (fun _ => ?_))
   | exact ih0 _ _ _
   | exact LeO.none _
   | refine LeO.ite ?_ ?_
   | refine LeO.bind ?_ (fun _ => ?_)
theorem laws_markSpotS.mono : ∀ a0 a1 k, LeO (laws_markSpotS.f k a0 a1) (laws_markSpotS.f (k + 1) a0 a1) := by
 intro a0 a1 k
 have ih0 := laws_markSpotS.mono_l k
 unfold laws_markSpotS.f
 repeat' first
   | (with_reducible exact ih0 _ _ _)
   | (with_reducible exact LeO.refl _)
   | (with_reducible exact LeO.none _)
   | (with_reducible refine LeO.ite ?_ ?_)
   | (with_reducible refine LeO.bind ?_ (fun _ => ?_))
   | exact ih0 _ _ _
   | exact LeO.none _
   | refine LeO.ite ?_ ?_
   | refine LeO.bind ?_ (fun _ => ?_)
set_option maxHeartbeats 8000000 in
set_option maxRecDepth 100000 in
theorem laws_markSpotS.calls (k : Nat) (P0_ : Nat → Prop) (u9000_ : Value) (l0 : List (S55)) (a1 : Int) (r1 : Int) (r2 : List (S55)) (w0 w : World) (hB : Below w0.heap.size w0 w) (ho0 : Kd.R k55 55 w w0.heap.size P0_ u9000_ l0) (h : laws_markSpotS.f k l0 a1 = some (r1, r2)) :
  Calls Try.prog 37 #[u9000_, .int .i64 a1] w fun e w' => e = .returned (.int .i64 r1) ∧ Kd.R k55 55 w' w0.heap.size (fun k_ => (P0_ k_ ∨ w.heap.size ≤ k_)) u9000_ r2 ∧ Below w0.heap.size w0 w' ∧ Kept w w' (fun k_ => P0_ k_) := by
 have HO0 := Aside0.mk (show Kd.R k55 55 w w0.heap.size (fun k_ => (P0_ k_ ∨ w.heap.size ≤ k_)) u9000_ l0 from Kd.R_mono ho0 (fun k_ hk => (.inl hk)))
 have HK := Aside0.mk (Kept.refl w (fun k_ => P0_ k_))
 have HW0 := Aside0.mk hB.size
 have HB := Aside0.mk hB
 clear hB
 have H : (laws_markSpotS.l0 k l0 a1 0) = some (r1, r2) := h
 clear h
 have H' := Aside0.mk H
 clear H
 go_enter Try.func37, Try.ntmps37
 go_wp2
 go_loopg [1, 5] k (fun kq v1 v5 w' => ∃ (x0_1 : List (S55)) (x1_1 : Int) (x5_1 : Int), v1 = .int .i64 x1_1 ∧ v5 = .int .i64 x5_1 ∧ Aside0 (laws_markSpotS.l0 kq x0_1 x1_1 x5_1 = some (r1, r2)) ∧ Aside0 (kq ≤ k) ∧ Aside0 (Kd.R k55 55 w' w0.heap.size (fun k_ => (P0_ k_ ∨ w.heap.size ≤ k_)) u9000_ x0_1) ∧ Aside0 (Kept w w' (fun k_ => P0_ k_)) ∧ Aside0 (Below w0.heap.size w0 w'))
 case atStart => exact ⟨(l0), (a1), (0), (by first | rfl | (simp; done) | (simp [*]; done)), (by first | rfl | (simp; done) | (simp [*]; done)), H', ⟨Nat.le_refl _⟩, ⟨by (with_reducible repeat (first | apply Kd.R_alloc | apply Kd.R_drewN | apply Kd.R_drew)); exact HO0.out⟩, ⟨by repeat (first | (with_reducible first | exact HK.out | apply Kept.alloc | apply Kept.drewN | apply Kept.drew) | exact HK.out)⟩, ⟨pb HB⟩⟩
 case round =>
  clear H'
  try clear p2
  obtain ⟨x0_1, x1_1, x5_1, rfl, rfl, HA, HK1, HO_0, HK, HB⟩ := hrel
  cases gk with
  | zero => exact absurd HA.out (by simp [laws_markSpotS.l0])
  | succ k1 =>
   have H := HA.out; clear HA; simp only [laws_markSpotS.l0] at H
   by_cases c3 : x5_1 < (x0_1.length : Int)
   ·rw [if_pos c3] at H
    have c3b0 : decide (x5_1 < (x0_1.length : Int)) = true := decide_eq_true c3; clear c3
    by_cases c4 : 0 ≤ x5_1
    ·rw [if_pos c4] at H
     have c4b0 : decide (0 ≤ x5_1) = true := decide_eq_true c4; clear c4; obtain ⟨y303, hy303⟩ : ∃ y_ : List (S55), y_ = (x0_1.set (x5_1 : Int).toNat (⟨IntKind.i8.wrap (x1_1), (rd_T55 x0_1 x5_1).f1⟩ : S55)) := ⟨_, rfl⟩
     replace H : (laws_markSpotS.l0 k1 (y303.set (x5_1 : Int).toNat (⟨(rd_T55 y303 x5_1).f0, IntKind.i8.wrap (wrap64 (x1_1 + 1))⟩ : S55)) (wrap64 ((wrap64 (x1_1 + 1)) + 1)) (wrap64 (x5_1 + 1))) = some (r1, r2) := by first | (rw [hy303]; with_reducible exact H) | (have H2_ := (Option.bind_some _ _).symm.trans H; rw [hy303]; with_reducible exact H2_) | (have H2_ := (Option.bind_some _ _).symm.trans H; with_reducible exact H2_) | with_reducible exact H | (rw [hy303]; exact H) | exact H
     have Ny303 := Aside0.mk hy303; clear hy303; obtain ⟨y304, hy304⟩ : ∃ y_ : List (S55), y_ = (y303.set (x5_1 : Int).toNat (⟨(rd_T55 y303 x5_1).f0, IntKind.i8.wrap (wrap64 (x1_1 + 1))⟩ : S55)) := ⟨_, rfl⟩
     replace H : (laws_markSpotS.l0 k1 y304 (wrap64 ((wrap64 (x1_1 + 1)) + 1)) (wrap64 (x5_1 + 1))) = some (r1, r2) := by first | (rw [hy304]; with_reducible exact H) | (have H2_ := (Option.bind_some _ _).symm.trans H; rw [hy304]; with_reducible exact H2_) | (have H2_ := (Option.bind_some _ _).symm.trans H; with_reducible exact H2_) | with_reducible exact H | (rw [hy304]; exact H) | exact H
     have Ny304 := Aside0.mk hy304; clear hy304; have H' := Aside0.mk H; clear H; obtain ⟨Ao7, co7, eo7⟩ := Kd.R_slice HO_0.out; subst eo7; have p5 : 0 ≤ (x5_1 : Int) := of_decide_eq_true (by first | (with_reducible assumption) | assumption); have q5 : (x5_1 : Int) < ((x0_1.length : Int) : Int) := of_decide_eq_true (by first | (with_reducible assumption) | assumption); obtain ⟨go5, co5, eo5, gb5, gl5, cl5, HG5⟩ := Kd.R_form HO_0.out (by omega); (first | cases eo5 | (injection eo5 with ea_ en_ ec_; (first | subst ea_ | (injection ea_ with ea_; subst ea_)); subst ec_; clear en_)); have GB5 := Aside0.mk gb5; have GG5 := Aside0.mk HG5; clear gb5 gl5 HG5; have HMgo5 := Aside0.mk (show (P0_ go5 ∨ w.heap.size ≤ go5) from (HO_0.out.1 _ rfl)); obtain ⟨ce5, hcl5, hM5, hcc5, hfr5⟩ := Kd.R_elem HO_0.out z55 (x5_1 : Int) p5 q5; obtain rfl := k55_openM hM5; have hx5_0 : wr.cell? ⟨go5, (x5_1 : Int).toNat * 2, none⟩ = some (.int .i8 ((rd_T55 x0_1 x5_1).f0)) := hcc5 0 _ rfl; have hx5_1 : wr.cell? ⟨go5, (x5_1 : Int).toNat * 2 + 1, none⟩ = some (.int .i8 ((rd_T55 x0_1 x5_1).f1)) := hcc5 1 _ rfl; have hf5_0 : wr.frozen? ⟨go5, (x5_1 : Int).toNat * 2, none⟩ = false := hfr5 0; have hf5_1 : wr.frozen? ⟨go5, (x5_1 : Int).toNat * 2 + 1, none⟩ = false := hfr5 1; clear hcl5 hcc5 hfr5 hM5; replace p5 := eq_true p5; replace q5 := eq_true q5; have HX8 := Aside0.mk (show Kd.R k55 55 wr w0.heap.size (fun k_ => (P0_ k_ ∨ w.heap.size ≤ k_)) (.slice (some ⟨go5, 0, none⟩) x0_1.length co7) x0_1 from (by (with_reducible repeat (first | apply Kd.R_alloc | apply Kd.R_drewN | apply Kd.R_drew)); exact HO_0.out)); obtain ⟨ce8, hcl8, hM8, hcc8, hfr8⟩ := Kd.R_elem HX8.out z55 (x5_1 : Int) (of_decide_eq_true (by first | (with_reducible assumption) | assumption)) (by have h_ : (x5_1 : Int) < ((x0_1.length : Int) : Int) := of_decide_eq_true (by first | (with_reducible assumption) | assumption); first | exact h_ | (have e_ := (Kd.R_reads' HO_0.out).1; omega) | simpa using h_); obtain rfl := k55_openM hM8; have HP8 := Kd.R_seg HX8.out (x5_1 : Int) (of_decide_eq_true (by first | (with_reducible assumption) | assumption)) (by have h_ : (x5_1 : Int) < ((x0_1.length : Int) : Int) := of_decide_eq_true (by first | (with_reducible assumption) | assumption); first | exact h_ | (have e_ := (Kd.R_reads' HO_0.out).1; omega) | simpa using h_) (seg := [.int .i8 (IntKind.i8.wrap (x1_1))]) (j := 0) hcl8 hcc8 (show 1 ≤ 2 from by decide) (x' := (⟨IntKind.i8.wrap (x1_1), (rd_T55 x0_1 x5_1).f1⟩ : S55)) (k55_mkM _ _ _ (⟨IntKind.i8.wrap (x1_1), (rd_T55 x0_1 x5_1).f1⟩ : S55) ) (fun _ hk => hk); have hx8_0 := hcc8 0 _ rfl; (try simp only [show (k55).sz = 2 from rfl, Nat.mul_one, Nat.add_zero] at hx8_0); have hf8_0 := hfr8 0; (try simp only [show (k55).sz = 2 from rfl, Nat.mul_one, Nat.add_zero] at hf8_0); clear hcl8 hcc8 hfr8 hM8
     go_wp2_with (first | ((with_reducible refine gate_store (t := 22) (p := 17) rfl ?_); refine store_event (t := 22) (p := 17) (v := ?vo_w9) (w1 := (wr.setCell ⟨go5, (x5_1 : Int).toNat * 2, none⟩ (.int .i8 (IntKind.i8.wrap (x1_1))))) ?hg ?ho ?hn ?hr ?_; (case ho => rfl); (case hg => rfl); (case hn => rfl); (case hr => first | (go_simp; done) | (go_simp; rfl)); intro w9 hw; have hg : wr.grownBy w9 (some go5) := (by rw [hw]; exact HP8.2); have hp_ : Kd.R k55 55 w9 w0.heap.size (fun k_ => (P0_ k_ ∨ w.heap.size ≤ k_)) (.slice (some ⟨go5, 0, none⟩) x0_1.length co7) y303 := (by rw [hw, Ny303.out]; exact HP8.1); clear HP8; have n0_ := Aside0.mk (hp_); have n1_ := Aside0.mk ((by rw [hw]; exact below_set (HB.out) GB5.out : Below w0.heap.size w0 w9)); have n2_ := Aside0.mk (Kept.of_grown (S := (fun k_ => P0_ k_)) hg (by repeat (first | (with_reducible first | exact HK.out | apply Kept.alloc | apply Kept.drewN | apply Kept.drew) | exact HK.out)) (fun k_ e_ => (HO_0.out.1 k_ e_))); clear HO_0; clear HB; clear HK; have HO_0 := n0_; have HB := n1_; have HK := n2_; clear n0_ n1_ n2_; clear hg hw hp_; have p6 : 0 ≤ (x5_1 : Int) := of_decide_eq_true (by first | (with_reducible assumption) | assumption); have q6 : (x5_1 : Int) < ((x0_1.length : Int) : Int) := of_decide_eq_true (by first | (with_reducible assumption) | assumption); obtain ⟨ce6, hcl6, hM6, hcc6, hfr6⟩ := Kd.R_elem HO_0.out z55 (x5_1 : Int) p6 q6; obtain rfl := k55_openM hM6; have hx6_0 : w9.cell? ⟨go5, (x5_1 : Int).toNat * 2, none⟩ = some (.int .i8 ((rd_T55 y303 x5_1).f0)) := hcc6 0 _ rfl; have hx6_1 : w9.cell? ⟨go5, (x5_1 : Int).toNat * 2 + 1, none⟩ = some (.int .i8 ((rd_T55 y303 x5_1).f1)) := hcc6 1 _ rfl; have hf6_0 : w9.frozen? ⟨go5, (x5_1 : Int).toNat * 2, none⟩ = false := hfr6 0; have hf6_1 : w9.frozen? ⟨go5, (x5_1 : Int).toNat * 2 + 1, none⟩ = false := hfr6 1; clear hcl6 hcc6 hfr6 hM6; replace p6 := eq_true p6; replace q6 := eq_true q6; have HX10 := Aside0.mk (show Kd.R k55 55 w9 w0.heap.size (fun k_ => (P0_ k_ ∨ w.heap.size ≤ k_)) (.slice (some ⟨go5, 0, none⟩) x0_1.length co7) y303 from (by (with_reducible repeat (first | apply Kd.R_alloc | apply Kd.R_drewN | apply Kd.R_drew)); exact HO_0.out)); obtain ⟨ce10, hcl10, hM10, hcc10, hfr10⟩ := Kd.R_elem HX10.out z55 (x5_1 : Int) (of_decide_eq_true (by first | (with_reducible assumption) | assumption)) (by have h_ : (x5_1 : Int) < ((x0_1.length : Int) : Int) := of_decide_eq_true (by first | (with_reducible assumption) | assumption); first | exact h_ | (have e_ := (Kd.R_reads' HO_0.out).1; omega) | simpa using h_); obtain rfl := k55_openM hM10; have HP10 := Kd.R_seg HX10.out (x5_1 : Int) (of_decide_eq_true (by first | (with_reducible assumption) | assumption)) (by have h_ : (x5_1 : Int) < ((x0_1.length : Int) : Int) := of_decide_eq_true (by first | (with_reducible assumption) | assumption); first | exact h_ | (have e_ := (Kd.R_reads' HO_0.out).1; omega) | simpa using h_) (seg := [.int .i8 (IntKind.i8.wrap (wrap64 (x1_1 + 1)))]) (j := 1) hcl10 hcc10 (show 2 ≤ 2 from by decide) (x' := (⟨(rd_T55 y303 x5_1).f0, IntKind.i8.wrap (wrap64 (x1_1 + 1))⟩ : S55)) (k55_mkM _ _ _ (⟨(rd_T55 y303 x5_1).f0, IntKind.i8.wrap (wrap64 (x1_1 + 1))⟩ : S55) ) (fun _ hk => hk); have hx10_1 := hcc10 1 _ rfl; (try simp only [show (k55).sz = 2 from rfl, Nat.mul_one, Nat.add_zero] at hx10_1); have hf10_1 := hfr10 1; (try simp only [show (k55).sz = 2 from rfl, Nat.mul_one, Nat.add_zero] at hf10_1); clear hcl10 hcc10 hfr10 hM10) | ((with_reducible refine gate_store (t := 22) (p := 25) rfl ?_); refine store_event (t := 22) (p := 25) (v := ?vo_w11) (w1 := (w9.setCell ⟨go5, (x5_1 : Int).toNat * 2 + 1, none⟩ (.int .i8 (IntKind.i8.wrap (wrap64 (x1_1 + 1)))))) ?hg ?ho ?hn ?hr ?_; (case ho => rfl); (case hg => rfl); (case hn => rfl); (case hr => first | (go_simp; done) | (go_simp; rfl)); intro w11 hw; have hg : w9.grownBy w11 (some go5) := (by rw [hw]; exact HP10.2); have hp_ : Kd.R k55 55 w11 w0.heap.size (fun k_ => (P0_ k_ ∨ w.heap.size ≤ k_)) (.slice (some ⟨go5, 0, none⟩) x0_1.length co7) y304 := (by rw [hw, Ny304.out]; exact HP10.1); clear HP10; have n0_ := Aside0.mk (hp_); have n1_ := Aside0.mk ((by rw [hw]; exact below_set (HB.out) GB5.out : Below w0.heap.size w0 w11)); have n2_ := Aside0.mk (Kept.of_grown (S := (fun k_ => P0_ k_)) hg (by repeat (first | (with_reducible first | exact HK.out | apply Kept.alloc | apply Kept.drewN | apply Kept.drew) | exact HK.out)) (fun k_ e_ => (HO_0.out.1 k_ e_))); clear HO_0; clear HB; clear HK; have HO_0 := n0_; have HB := n1_; have HK := n2_; clear n0_ n1_ n2_; clear hg hw hp_))
     go_roundg k1
     case measure => have := HK1.out; omega
     case rel => exact ⟨(y304), (wrap64 ((wrap64 (x1_1 + 1)) + 1)), (wrap64 (x5_1 + 1)), (by first | rfl | (simp; done) | (simp [*]; done)), (by first | rfl | (simp; done) | (simp [*]; done)), H', ⟨by have := HK1.out; omega⟩, ⟨by (with_reducible repeat (first | apply Kd.R_alloc | apply Kd.R_drewN | apply Kd.R_drew)); exact HO_0.out⟩, ⟨by repeat (first | (with_reducible first | exact HK.out | apply Kept.alloc | apply Kept.drewN | apply Kept.drew) | exact HK.out)⟩, ⟨pb HB⟩⟩
    ·rw [if_neg c4] at H
     exact absurd H (by simp)
   ·rw [if_neg c3] at H
    have c3b0 : decide (x5_1 < (x0_1.length : Int)) = false := decide_eq_false c3; clear c3; simp only [Option.some.injEq, Prod.mk.injEq] at H; obtain ⟨rfl, rfl⟩ := H; obtain ⟨Ao12, co12, eo12⟩ := Kd.R_slice HO_0.out; subst eo12
    go_wp2
    go_ret
    exact ⟨by first | rfl | (simp [errW_none, errW_some] <;> rfl) | (simp [*, errW_none, errW_some] <;> rfl), by (with_reducible repeat (first | apply Kd.R_alloc | apply Kd.R_drewN | apply Kd.R_drew)); exact HO_0.out, by repeat (first | (with_reducible first | exact HB.out | apply below_alloc | apply pw_below_drewN | apply below_drew1) | exact HB.out), by repeat (first | (with_reducible first | exact HK.out | apply Kept.alloc | apply Kept.drewN | apply Kept.drew) | exact HK.out)⟩
mutual
def spec_l01All.l0 : Nat → List (S55) → Int → Int → Int → LA 10 → Option ((List (S55)))
 | 0, _, _, _, _, _ => none
 | k + 1, x3, x4, x1000, x1001, x1002 => if x4 < x1001 then (spec_l01All.l1 k x3 x4 0 x1000 x1001 x1002) else (some x3)
def spec_l01All.l1 : Nat → List (S55) → Int → Int → Int → Int → LA 10 → Option ((List (S55)))
 | 0, _, _, _, _, _, _ => none
 | k + 1, x3, x4, x5, x1000, x1001, x1002 => if x5 < x1000 then ((spec_l01Free.f x1000 x1001 x1002 x5 x4).bind fun t308 => (if t308 = true then (if x3.length < 70368744177664 then (spec_l01All.l1 k (x3 ++ [(⟨x5, x4⟩ : S55)]) x4 (IntKind.i8.wrap (x5 + 1)) x1000 x1001 x1002) else (none)) else (spec_l01All.l1 k x3 x4 (IntKind.i8.wrap (x5 + 1)) x1000 x1001 x1002))) else (spec_l01All.l0 k x3 (IntKind.i8.wrap (x4 + 1)) x1000 x1001 x1002)
end
def spec_l01All.f (k : Nat) (s0_0 : Int) (s0_1 : Int) (s0_2 : LA 10) : Option ((List (S55))) := spec_l01All.l0 k (([] : List (S55))) 0 s0_0 s0_1 s0_2
theorem spec_l01All.mono_l : ∀ k, (∀ y0 y1 y2 y3 y4, LeO (spec_l01All.l0 k y0 y1 y2 y3 y4) (spec_l01All.l0 (k + 1) y0 y1 y2 y3 y4)) ∧ (∀ y0 y1 y2 y3 y4 y5, LeO (spec_l01All.l1 k y0 y1 y2 y3 y4 y5) (spec_l01All.l1 (k + 1) y0 y1 y2 y3 y4 y5))
 | 0 => ⟨fun _ _ _ _ _ r h => by simp [spec_l01All.l0] at h, fun _ _ _ _ _ _ r h => by simp [spec_l01All.l1] at h⟩
 | k + 1 => by
  obtain ⟨ih0, ih1⟩ := spec_l01All.mono_l k; refine ⟨?_, ?_⟩
  ·intro y0 y1 y2 y3 y4
   unfold spec_l01All.l0
   repeat' first
   | (with_reducible exact ih0 _ _ _ _ _)
   | (with_reducible exact ih1 _ _ _ _ _ _)
   | (with_reducible exact LeO.refl _)
   | (with_reducible exact LeO.none _)
   | (with_reducible refine LeO.ite ?_ ?_)
   | (with_reducible refine LeO.bind ?_ (fun _ => ?_))
   | exact ih0 _ _ _ _ _
   | exact ih1 _ _ _ _ _ _
   | exact LeO.none _
   | refine LeO.ite ?_ ?_
   | refine LeO.bind ?_ (fun _ => ?_)
  ·intro y0 y1 y2 y3 y4 y5
   unfold spec_l01All.l1
   repeat' first
   | (with_reducible exact ih0 _ _ _ _ _)
   | (with_reducible exact ih1 _ _ _ _ _ _)
   | (with_reducible exact LeO.refl _)
   | (with_reducible exact LeO.none _)
   | (with_reducible refine LeO.ite ?_ ?_)
   | (with_reducible refine LeO.bind ?_ (fun _ => ?_))
   | exact ih0 _ _ _ _ _
   | exact ih1 _ _ _ _ _ _
   | exact LeO.none _
   | refine LeO.ite ?_ ?_
   | refine LeO.bind ?_ (fun _ => ?_)
theorem spec_l01All.mono : ∀ a0 a1 a2 k, LeO (spec_l01All.f k a0 a1 a2) (spec_l01All.f (k + 1) a0 a1 a2) := by
 intro a0 a1 a2 k
 obtain ⟨ih0, ih1⟩ := spec_l01All.mono_l k
 unfold spec_l01All.f
 repeat' first
   | (with_reducible exact ih0 _ _ _ _ _)
   | (with_reducible exact ih1 _ _ _ _ _ _)
   | (with_reducible exact LeO.refl _)
   | (with_reducible exact LeO.none _)
   | (with_reducible refine LeO.ite ?_ ?_)
   | (with_reducible refine LeO.bind ?_ (fun _ => ?_))
   | exact ih0 _ _ _ _ _
   | exact ih1 _ _ _ _ _ _
   | exact LeO.none _
   | refine LeO.ite ?_ ?_
   | refine LeO.bind ?_ (fun _ => ?_)
set_option maxHeartbeats 8000000 in
set_option maxRecDepth 100000 in
theorem spec_l01All.calls (k : Nat) (g0 : Nat) (s0_0 : Int) (s0_1 : Int) (s0_2 : LA 10) (r : List (S55)) (w : World) (hb0 : w.heap[g0]? = some (.cells (mixA (Value.int .u16) [.int .i8 s0_0, .int .i8 s0_1] s0_2) 33 (0, 0))) (h : spec_l01All.f k s0_0 s0_1 s0_2 = some r) :
  Calls Try.prog 67 #[.pointer (some ⟨g0, 0, none⟩)] w fun e w' => ∃ v0_ : Value, e = .returned (v0_) ∧ Kd.R k55 55 w' w.heap.size (fun _ => True) v0_ r ∧ Below w.heap.size w w' := by
 have hu55 := Try.underlying55
 have BK0 := Aside0.mk hb0
 clear hb0
 have HB := Aside0.mk (Below.refl w.heap.size w)
 have H : (spec_l01All.l0 k (([] : List (S55))) 0 s0_0 s0_1 s0_2) = some r := h
 clear h
 obtain ⟨y305, hy305⟩ : ∃ y_ : List (S55), y_ = (([] : List (S55))) := ⟨_, rfl⟩
 replace H : (spec_l01All.l0 k y305 0 s0_0 s0_1 s0_2) = some r := by first | (rw [hy305]; with_reducible exact H) | (have H2_ := (Option.bind_some _ _).symm.trans H; rw [hy305]; with_reducible exact H2_) | (have H2_ := (Option.bind_some _ _).symm.trans H; with_reducible exact H2_) | with_reducible exact H | (rw [hy305]; exact H) | exact H
 have Ny305 := Aside0.mk hy305
 clear hy305
 have H' := Aside0.mk H
 clear H
 go_enter Try.func67, Try.ntmps67
 go_wp2_with (first | ((with_reducible refine gate_dst (N := 6) rfl ?_); refine Kd.R_lit k55 _ 55 ?hg (N := 6) ?hd (xs := ([] : List (S55))) (inner := []) (ok := fun _ => True) (okp := fun _ => True) ?hr ?hp (fun _ hk => hk) trivial (Below.refl _ _) (Nat.le_refl _) (by simp) ?_; (case hd => rfl); (case hg => rfl); (case hr => first | (go_simp; done) | (go_simp; rfl)); (case hp => exact (Reps.none _ _)); intro v306 w2 ho3 hb hg_ hnew_; clear hg_ hnew_; (first | rw [← Ny305.out] at ho3 | (simp only [Int.reduceToNat] at ho3; rw [← Ny305.out] at ho3)); have n0_ := Aside0.mk (Kd.R_lower ho3 (below_size (by repeat (first | (with_reducible first | exact HB.out | apply below_alloc | apply pw_below_drewN | apply below_drew1 | refine below_set ?_ GE0.out) | exact HB.out)))); have n1_ := bkb BK0 hb; have n2_ := bst HB hb; clear BK0; clear HB; have HO307 := n0_; have BK0 := n1_; have HB := n2_; clear n0_ n1_ n2_; clear hb ho3))
 go_loopg [3, 4] k (fun kq v3 v4 w' => ∃ (x3_1 : List (S55)) (x4_1 : Int), v4 = .int .i8 x4_1 ∧ Aside0 (spec_l01All.l0 kq x3_1 x4_1 s0_0 s0_1 s0_2 = some r) ∧ Aside0 (kq ≤ k) ∧ Aside0 (Kd.R k55 55 w' w.heap.size (fun _ => True) v3 x3_1) ∧ Aside0 (w'.heap[g0]? = some (.cells (mixA (Value.int .u16) [.int .i8 s0_0, .int .i8 s0_1] s0_2) 33 (0, 0))) ∧ Aside0 (Below w.heap.size w w'))
 case atStart => exact ⟨(y305), (0), (by first | rfl | (simp; done) | (simp [*]; done)), H', ⟨Nat.le_refl _⟩, ⟨by (with_reducible repeat (first | apply Kd.R_alloc | apply Kd.R_drewN | apply Kd.R_drew)); exact HO307.out⟩, ⟨pk BK0⟩, ⟨pbs HB⟩⟩
 case round =>
  clear H'
  try clear p2
  obtain ⟨x3_1, x4_1, rfl, HA, HK1, HO_3, BK0, HB⟩ := hrel
  cases gk with
  | zero => exact absurd HA.out (by simp [spec_l01All.l0])
  | succ k1 =>
   have H := HA.out; clear HA; simp only [spec_l01All.l0] at H
   by_cases c4 : x4_1 < s0_1
   ·rw [if_pos c4] at H
    have c4b0 : decide (x4_1 < s0_1) = true := decide_eq_true c4; clear c4; have H' := Aside0.mk H; clear H; have hcz5_0 : wr.cell? ⟨g0, 0, none⟩ = some (.int .i8 s0_0) := mix_cell0 BK0.out 0; have hcz5_1 : wr.cell? ⟨g0, 1, none⟩ = some (.int .i8 s0_1) := mix_cell0 BK0.out 1; have hfz5_0 := blk_frozen BK0.out 0; have hfz5_1 := blk_frozen BK0.out 1
    go_wp2
    go_loopg [3, 5] k1 (fun kq v3 v5 w' => ∃ (x3_2 : List (S55)) (x5_2 : Int), v5 = .int .i8 x5_2 ∧ Aside0 (spec_l01All.l1 kq x3_2 x4_1 x5_2 s0_0 s0_1 s0_2 = some r) ∧ Aside0 (kq ≤ k1) ∧ Aside0 (Kd.R k55 55 w' w.heap.size (fun _ => True) v3 x3_2) ∧ Aside0 (w'.heap[g0]? = some (.cells (mixA (Value.int .u16) [.int .i8 s0_0, .int .i8 s0_1] s0_2) 33 (0, 0))) ∧ Aside0 (Below w.heap.size w w'))
    case atStart => exact ⟨(x3_1), (0), (by first | rfl | (simp; done) | (simp [*]; done)), H', ⟨Nat.le_refl _⟩, ⟨by (with_reducible repeat (first | apply Kd.R_alloc | apply Kd.R_drewN | apply Kd.R_drew)); exact HO_3.out⟩, ⟨pk BK0⟩, ⟨pbs HB⟩⟩
    case round =>
     clear H'
     try clear p2
     try clear c4
     try clear c4b0
     try clear hcz5_0
     try clear hcz5_1
     try clear hfz5_0
     try clear hfz5_1
     try clear p2
     obtain ⟨x3_2, x5_2, rfl, HA, HK2, HO_3, BK0, HB⟩ := hrel
     cases gk with
     | zero => exact absurd HA.out (by simp [spec_l01All.l1])
     | succ k2 =>
      have H := HA.out; clear HA; simp only [spec_l01All.l1] at H
      by_cases c6 : x5_2 < s0_0
      ·rw [if_pos c6] at H
       have c6b0 : decide (x5_2 < s0_0) = true := decide_eq_true c6; clear c6; replace H := Option.bind_eq_some_iff.mp H; obtain ⟨t308, A70, H⟩ := H; replace H : (if t308 = true then (if x3_2.length < 70368744177664 then (spec_l01All.l1 k2 (x3_2 ++ [(⟨x5_2, x4_1⟩ : S55)]) x4_1 (IntKind.i8.wrap (x5_2 + 1)) s0_0 s0_1 s0_2) else (none)) else (spec_l01All.l1 k2 x3_2 x4_1 (IntKind.i8.wrap (x5_2 + 1)) s0_0 s0_1 s0_2)) = some r := H; have A7 := Aside0.mk A70; clear A70
       by_cases c8 : t308 = true
       ·subst c8
        have H1 : (if x3_2.length < 70368744177664 then (spec_l01All.l1 k2 (x3_2 ++ [(⟨x5_2, x4_1⟩ : S55)]) x4_1 (IntKind.i8.wrap (x5_2 + 1)) s0_0 s0_1 s0_2) else (none)) = some r := by rw [if_pos rfl] at H; exact H
        clear H; have H := H1; clear H1
        by_cases c9 : x3_2.length < 70368744177664
        ·rw [if_pos c9] at H
         have LMc9 := Aside0.mk c9; clear c9; obtain ⟨y309, hy309⟩ : ∃ y_ : List (S55), y_ = (x3_2 ++ [(⟨x5_2, x4_1⟩ : S55)]) := ⟨_, rfl⟩
         replace H : (spec_l01All.l1 k2 y309 x4_1 (IntKind.i8.wrap (x5_2 + 1)) s0_0 s0_1 s0_2) = some r := by first | (rw [hy309]; with_reducible exact H) | (have H2_ := (Option.bind_some _ _).symm.trans H; rw [hy309]; with_reducible exact H2_) | (have H2_ := (Option.bind_some _ _).symm.trans H; with_reducible exact H2_) | with_reducible exact H | (rw [hy309]; exact H) | exact H
         have Ny309 := Aside0.mk hy309; clear hy309; have H' := Aside0.mk H; clear H; have hcz10_0 : wr.cell? ⟨g0, 0, none⟩ = some (.int .i8 s0_0) := mix_cell0 BK0.out 0; have hcz10_1 : wr.cell? ⟨g0, 1, none⟩ = some (.int .i8 s0_1) := mix_cell0 BK0.out 1; have hfz10_0 := blk_frozen BK0.out 0; have hfz10_1 := blk_frozen BK0.out 1
         go_wp2_with (first | ((with_reducible refine gate_callee (f := 62) rfl ?_); refine goesL_ (some 27) rfl rfl Try.func62 (by kernel_rfl) rfl #[.pointer (some ⟨g0, 0, none⟩), .agg #[.int .i8 x5_2, .int .i8 x4_1]] rfl (by (try simp only [List.map_toArray, List.map_cons, List.map_nil]); first | done | rfl | (simp only [List.length_drop, List.length_take]; rfl)) ?_; (with_reducible refine (spec_l01Free.calls g0 s0_0 s0_1 s0_2 x5_2 x4_1 true _ ?side1 A7.out).mono ?_); (case side1 => exact (pk BK0)); rintro e w11 ⟨rfl, hb⟩; refine ⟨_, rfl, ?_⟩; have n0_ := krb HO_3 hb; have n1_ := bkb BK0 hb; have n2_ := bst HB hb; clear HO_3; clear BK0; clear HB; have HO_3 := n0_; have BK0 := n1_; have HB := n2_; clear n0_ n1_ n2_; (try clear hb); (try clear hb2); (try clear hk); (try clear hi)) | ((with_reducible refine gate_builtin (b := .append) (xs := #[.tmp 28, .tmp 32]) rfl ?_); at_builtin; refine Kd.R_append k55 (w0 := w) w.heap.size rfl (.tmp 28) (.tmp 32) 29 55 (.agg #[(.int .i8 0), (.int .i8 0)]) 2 rfl Try.underlying29 info55 rfl (by decide) (by omega) u3 x3_2 (⟨x5_2, x4_1⟩ : S55) [.int .i8 x5_2, .int .i8 x4_1] (fun _ => True) (fun _ => False) rfl rfl ?aP (fun _ hk => hk.elim) ?aF ?aO ?aB ?aS ?aL ?_; (case aP => exact k55_mkM _ _ _ (⟨x5_2, x4_1⟩ : S55)); (case aB => exact (pbs HB)); (case aF => exact (fun _ _ => trivial)); (case aO => exact (by (with_reducible repeat (first | apply Kd.R_alloc | apply Kd.R_drewN | apply Kd.R_drew)); exact HO_3.out)); (case aS => exact (below_size (by repeat (first | (with_reducible first | exact HB.out | apply below_alloc | apply pw_below_drewN | apply below_drew1 | refine below_set ?_ GE0.out) | exact HB.out)))); (case aL => have := LMc9.out; omega); intro v310 w12 ho hb hg hat; rw [← Ny309.out] at ho; have n0_ := Aside0.mk (blk_grown (g := g0) (o := .cells (mixA (Value.int .u16) [.int .i8 s0_0, .int .i8 s0_1] s0_2) 33 (0, 0)) (pk BK0) hg (Kd.R_ne HO_3.out BK0.out (by decide))); have n1_ := Aside0.mk (hb); have n2_ := Aside0.mk (ho); clear BK0; clear HB; clear HO_3; have BK0 := n0_; have HB := n1_; have HO311 := n2_; clear n0_ n1_ n2_; clear ho hb hg hat))
         go_roundg k2
         case measure => have := HK1.out; have := HK2.out; omega
         case rel => exact ⟨(y309), (IntKind.i8.wrap (x5_2 + 1)), (by first | rfl | (simp; done) | (simp [*]; done)), H', ⟨by have := HK1.out; have := HK2.out; omega⟩, ⟨by (with_reducible repeat (first | apply Kd.R_alloc | apply Kd.R_drewN | apply Kd.R_drew)); exact HO311.out⟩, ⟨pk BK0⟩, ⟨pbs HB⟩⟩
        ·rw [if_neg c9] at H
         exact absurd H (by simp)
       ·replace c8 := Bool.eq_false_iff.mpr c8
        subst c8
        have H1 : (spec_l01All.l1 k2 x3_2 x4_1 (IntKind.i8.wrap (x5_2 + 1)) s0_0 s0_1 s0_2) = some r := by rw [if_neg (show ¬ (false = true) by decide)] at H; exact H
        clear H; have H := H1; clear H1; have H' := Aside0.mk H; clear H; have hcz13_0 : wr.cell? ⟨g0, 0, none⟩ = some (.int .i8 s0_0) := mix_cell0 BK0.out 0; have hcz13_1 : wr.cell? ⟨g0, 1, none⟩ = some (.int .i8 s0_1) := mix_cell0 BK0.out 1; have hfz13_0 := blk_frozen BK0.out 0; have hfz13_1 := blk_frozen BK0.out 1
        go_wp2_with (first | ((with_reducible refine gate_callee (f := 62) rfl ?_); refine goesL_ (some 27) rfl rfl Try.func62 (by kernel_rfl) rfl #[.pointer (some ⟨g0, 0, none⟩), .agg #[.int .i8 x5_2, .int .i8 x4_1]] rfl (by (try simp only [List.map_toArray, List.map_cons, List.map_nil]); first | done | rfl | (simp only [List.length_drop, List.length_take]; rfl)) ?_; (with_reducible refine (spec_l01Free.calls g0 s0_0 s0_1 s0_2 x5_2 x4_1 false _ ?side1 A7.out).mono ?_); (case side1 => exact (pk BK0)); rintro e w14 ⟨rfl, hb⟩; refine ⟨_, rfl, ?_⟩; have n0_ := krb HO_3 hb; have n1_ := bkb BK0 hb; have n2_ := bst HB hb; clear HO_3; clear BK0; clear HB; have HO_3 := n0_; have BK0 := n1_; have HB := n2_; clear n0_ n1_ n2_; (try clear hb); (try clear hb2); (try clear hk); (try clear hi)))
        go_roundg k2
        case measure => have := HK1.out; have := HK2.out; omega
        case rel => exact ⟨(x3_2), (IntKind.i8.wrap (x5_2 + 1)), (by first | rfl | (simp; done) | (simp [*]; done)), H', ⟨by have := HK1.out; have := HK2.out; omega⟩, ⟨by (with_reducible repeat (first | apply Kd.R_alloc | apply Kd.R_drewN | apply Kd.R_drew)); exact HO_3.out⟩, ⟨pk BK0⟩, ⟨pbs HB⟩⟩
      ·rw [if_neg c6] at H
       have c6b0 : decide (x5_2 < s0_0) = false := decide_eq_false c6; clear c6; have H' := Aside0.mk H; clear H; have hcz15_0 : wr.cell? ⟨g0, 0, none⟩ = some (.int .i8 s0_0) := mix_cell0 BK0.out 0; have hcz15_1 : wr.cell? ⟨g0, 1, none⟩ = some (.int .i8 s0_1) := mix_cell0 BK0.out 1; have hfz15_0 := blk_frozen BK0.out 0; have hfz15_1 := blk_frozen BK0.out 1
       go_wp2
       go_roundg k2
       case measure => have := HK1.out; have := HK2.out; omega
       case rel => exact ⟨(x3_2), (IntKind.i8.wrap (x4_1 + 1)), (by first | rfl | (simp; done) | (simp [*]; done)), H', ⟨by have := HK1.out; have := HK2.out; omega⟩, ⟨by (with_reducible repeat (first | apply Kd.R_alloc | apply Kd.R_drewN | apply Kd.R_drew)); exact HO_3.out⟩, ⟨pk BK0⟩, ⟨pbs HB⟩⟩
   ·rw [if_neg c4] at H
    have c4b0 : decide (x4_1 < s0_1) = false := decide_eq_false c4; clear c4; obtain rfl := Option.some.inj H; have hcz16_0 : wr.cell? ⟨g0, 0, none⟩ = some (.int .i8 s0_0) := mix_cell0 BK0.out 0; have hcz16_1 : wr.cell? ⟨g0, 1, none⟩ = some (.int .i8 s0_1) := mix_cell0 BK0.out 1; have hfz16_0 := blk_frozen BK0.out 0; have hfz16_1 := blk_frozen BK0.out 1
    go_wp2
    go_ret
    exact ⟨_, by first | rfl | (simp [errW_none, errW_some] <;> rfl) | (simp [*, errW_none, errW_some] <;> rfl), by (with_reducible repeat (first | apply Kd.R_alloc | apply Kd.R_drewN | apply Kd.R_drew)); exact HO_3.out, pbs HB⟩
end Go.Proofs.Ytjogemppgdeomaa.PB
end
section
namespace Go.Proofs.Ytjogemppgdeomaa.PB
open Go.RowKit Go.Proofs.YtjogemppgdeomaaW.PrintWords Go.Proofs.YtjogemppgdeomaaW.PrintLast Go.Proofs.YtjogemppgdeomaaW.PrintMore Go.Proofs.Ytjogemppgdeomaa.La
attribute [local go_sem] max2_int min2_int max_two min_two max_three min_three max_four min_four   -- for this text's walks alone
set_option linter.unusedVariables false
set_option linter.unusedSimpArgs false
attribute [local go_sem high] eqA55
def spec_l01To.l0 : Nat → Int → Int → Int → Int → Int → Option (Int)
 | 0, _, _, _, _, _ => none
 | k + 1, x5, x144000, x144001, x145000, x145001 => if x5 < 4 then ((spec_l01Next.f x144000 x144001 x5).bind fun bt145 => (if (bt145.1 == x145000 && (bt145.2 == x145001)) = true then (some x5) else (spec_l01To.l0 k (wrap64 (x5 + 1)) x144000 x144001 x145000 x145001))) else (some (-1))
def spec_l01To.f (k : Nat) (a0_0 : Int) (a0_1 : Int) (a1_0 : Int) (a1_1 : Int) : Option (Int) := spec_l01To.l0 k 0 a0_0 a0_1 a1_0 a1_1
theorem spec_l01To.mono_l : ∀ k, (∀ y0 y1 y2 y3 y4, LeO (spec_l01To.l0 k y0 y1 y2 y3 y4) (spec_l01To.l0 (k + 1) y0 y1 y2 y3 y4))
 | 0 => fun _ _ _ _ _ r h => by simp [spec_l01To.l0] at h
 | k + 1 => by
  have ih0 := spec_l01To.mono_l k
  ·intro y0 y1 y2 y3 y4
   unfold spec_l01To.l0
   repeat' first
   | (with_reducible exact ih0 _ _ _ _ _)
   | (with_reducible exact LeO.refl _)
   | (with_reducible exact LeO.none _)
   | (with_reducible refine LeO.ite ?_ ?_)
   | (with_reducible refine LeO.bind ?_ (fun _ => ?_))
   | exact ih0 _ _ _ _ _
   | exact LeO.none _
   | refine LeO.ite ?_ ?_
   | refine LeO.bind ?_ (fun _ => ?_)
theorem spec_l01To.mono : ∀ a0 a1 a2 a3 k, LeO (spec_l01To.f k a0 a1 a2 a3) (spec_l01To.f (k + 1) a0 a1 a2 a3) := by
 intro a0 a1 a2 a3 k
 have ih0 := spec_l01To.mono_l k
 unfold spec_l01To.f
 repeat' first
   | (with_reducible exact ih0 _ _ _ _ _)
   | (with_reducible exact LeO.refl _)
   | (with_reducible exact LeO.none _)
   | (with_reducible refine LeO.ite ?_ ?_)
   | (with_reducible refine LeO.bind ?_ (fun _ => ?_))
   | exact ih0 _ _ _ _ _
   | exact LeO.none _
   | refine LeO.ite ?_ ?_
   | refine LeO.bind ?_ (fun _ => ?_)
set_option maxHeartbeats 8000000 in
set_option maxRecDepth 100000 in
theorem spec_l01To.calls (k : Nat) (a0_0 : Int) (a0_1 : Int) (a1_0 : Int) (a1_1 : Int) (r : Int) (w : World) (h : spec_l01To.f k a0_0 a0_1 a1_0 a1_1 = some r) :
  Calls Try.prog 116 #[.agg #[.int .i8 a0_0, .int .i8 a0_1], .agg #[.int .i8 a1_0, .int .i8 a1_1]] w fun e w' => e = .returned (.int .i64 r) ∧ Below w.heap.size w w' := by
 have hu55 := Try.underlying55
 have HB := Aside0.mk (Below.refl w.heap.size w)
 have H : (spec_l01To.l0 k 0 a0_0 a0_1 a1_0 a1_1) = some r := h
 clear h
 have H' := Aside0.mk H
 clear H
 go_enter Try.func116, Try.ntmps116
 go_wp2_with (first | ((with_reducible refine gate_dst (N := 2) rfl ?_); refine box_event ?hg (N := 2) ?hd (cs := #[.int .i8 a0_0, .int .i8 a0_1]) (t := 55) ?hr ?_; (case hd => rfl); (case hg => rfl); (case hr => first | (go_simp; done) | (go_simp; rfl)); intro gb143 hg w3 hbox hb; have n0_ := bst HB hb; have n1_ := Aside0.mk (hbox); have n2_ := gwl HB hg; have n3_ := gwl HB hg; clear HB; have HB := n0_; have BK143 := n1_; have GW143 := n2_; have GE143 := n3_; clear n0_ n1_ n2_ n3_; clear hb hbox hg) | ((with_reducible refine gate_dst (N := 3) rfl ?_); refine box_event ?hg (N := 3) ?hd (cs := #[.int .i8 a1_0, .int .i8 a1_1]) (t := 55) ?hr ?_; (case hd => rfl); (case hg => rfl); (case hr => first | (go_simp; done) | (go_simp; rfl)); intro gb144 hg w4 hbox hb; have n0_ := bkb BK143 hb; have n1_ := bst HB hb; have n2_ := Aside0.mk (hbox); have n3_ := gwl HB hg; have n4_ := gwl HB hg; have n5_ := nbl BK143 hg; have n6_ := nbg BK143 hg; clear BK143; clear HB; have BK143 := n0_; have HB := n1_; have BK144 := n2_; have GW144 := n3_; have GE144 := n4_; have NB143_144 := n5_; have NB144_143 := n6_; clear n0_ n1_ n2_ n3_ n4_ n5_ n6_; clear hb hbox hg))
 go_loopg [5] k (fun kq v5 w' => ∃ (x5_1 : Int), v5 = .int .i64 x5_1 ∧ Aside0 (spec_l01To.l0 kq x5_1 a0_0 a0_1 a1_0 a1_1 = some r) ∧ Aside0 (kq ≤ k) ∧ Aside0 (w'.heap[gb143]? = some (.cells #[.int .i8 a0_0, .int .i8 a0_1] 55 (0, 0))) ∧ Aside0 (w'.heap[gb144]? = some (.cells #[.int .i8 a1_0, .int .i8 a1_1] 55 (0, 0))) ∧ Aside0 (Below w.heap.size w w'))
 case atStart => exact ⟨(0), (by first | rfl | (simp; done) | (simp [*]; done)), H', ⟨Nat.le_refl _⟩, ⟨pk BK143⟩, ⟨pk BK144⟩, ⟨pbs HB⟩⟩
 case round =>
  clear H'
  try clear c1
  try clear p2
  obtain ⟨x5_1, rfl, HA, HK1, BK143, BK144, HB⟩ := hrel
  cases gk with
  | zero => exact absurd HA.out (by simp [spec_l01To.l0])
  | succ k1 =>
   have H := HA.out; clear HA; simp only [spec_l01To.l0] at H
   by_cases c5 : x5_1 < 4
   ·rw [if_pos c5] at H
    have c5b0 : decide (x5_1 < 4) = true := decide_eq_true c5; clear c5; replace H := Option.bind_eq_some_iff.mp H; obtain ⟨⟨t145, t146⟩, A60, H⟩ := H; replace H : (if (t145 == a1_0 && (t146 == a1_1)) = true then (some x5_1) else (spec_l01To.l0 k1 (wrap64 (x5_1 + 1)) a0_0 a0_1 a1_0 a1_1)) = some r := H; have A6 := Aside0.mk A60; clear A60
    by_cases c7 : (t145 == a1_0 && (t146 == a1_1)) = true
    ·rw [if_pos c7] at H
     have c7b0 : (t145 == a1_0 && (t146 == a1_1)) = true := c7; (try (have c7b1 : decide (t145 = a1_0 && (t146 == a1_1)) = true := by simpa using c7)); (try (have c7b2 : (t145 == a1_0 && (t146 == a1_1)) = true := by simpa using c7)); clear c7; obtain rfl := Option.some.inj H
     try go_wp2
     have n0_ := Aside0.mk (blk_drew BK143.out); have n1_ := Aside0.mk (blk_drew BK144.out); have n2_ := Aside0.mk (below_drew1 HB.out); clear BK143; clear BK144; clear HB; have BK143 := n0_; have BK144 := n1_; have HB := n2_; clear n0_ n1_ n2_; refine start_ (n := 5) (S := fun w' => w'.cell? ⟨gb143, 0, none⟩ = some (.int .i8 a0_0) ∧ w'.cell? ⟨gb143, 1, none⟩ = some (.int .i8 a0_1) ∧ w'.cell? ⟨gb144, 0, none⟩ = some (.int .i8 a1_0) ∧ w'.cell? ⟨gb144, 1, none⟩ = some (.int .i8 a1_1)) (ds := []) #[false, false, false, false, false] (by kernel_rfl) rfl rfl ⟨(blk_cell BK143.out 0).trans rfl, (blk_cell BK143.out 1).trans rfl, (blk_cell BK144.out 0).trans rfl, (blk_cell BK144.out 1).trans rfl⟩ (fun hHeld => ?_); generalize wr.drew = w8 at BK143 BK144 HB hHeld ⊢; refine pure_ (i := 1) (N := some 11) (v := ?_) (a' := ?_) #[false, true, false, false, false] rfl rfl (by kernel_rfl) (fun _ _ _ h => h) (Or.inl ⟨by rfl, ?_⟩) ?_ ?_; rotate_left
     ·intro w'
      go_simp; with_reducible rfl
     rotate_left
     ·simp only [Act.put, List.setIfInBounds_toArray, List.set_cons_zero, List.set_cons_succ, i64_w, i32_w]
      rfl
     refine take_ (i := 0) (N := some 10) (v := ?_) (a' := ?_) #[true, true, false, false, false] rfl rfl (by kernel_rfl) (fun _ _ _ h => h) (Or.inl ⟨by rfl, ?_⟩) hHeld ?_ ?_; rotate_left
     ·rintro w' ⟨s0, s1, s2, s3⟩
      go_simp; with_reducible rfl
     rotate_left
     ·simp only [Act.put, List.setIfInBounds_toArray, List.set_cons_zero, List.set_cons_succ, i64_w, i32_w]
      rfl
     refine take_ (i := 3) (N := some 13) (v := ?_) (a' := ?_) #[true, true, false, true, false] rfl rfl (by kernel_rfl) (fun _ _ _ h => h) (Or.inl ⟨by rfl, ?_⟩) hHeld ?_ ?_; rotate_left
     ·rintro w' ⟨s0, s1, s2, s3⟩
      go_simp; with_reducible rfl
     rotate_left
     ·simp only [Act.put, List.setIfInBounds_toArray, List.set_cons_zero, List.set_cons_succ, i64_w, i32_w]
      rfl
     refine one_ (i := 2) (N := some 12) #[true, true, true, true, false] rfl rfl (by kernel_rfl) (by decide) (fun K hK => ?_); refine goes_ Try.func78 (by kernel_rfl) rfl #[.agg #[.int .i8 a0_0, .int .i8 a0_1], .int .i64 x5_1] (by rfl) rfl rfl (by (try simp only [List.map_toArray, List.map_cons, List.map_nil]); first | done | rfl | (simp only [List.length_drop, List.length_take]; rfl)) ?_; with_reducible refine (spec_l01Next.calls a0_0 a0_1 x5_1 t145 t146 _ A6.out).mono ?_
     rintro e w9 ⟨rfl, hb⟩
     refine ⟨_, rfl, ?_⟩; have n0_ := bkb BK143 hb; have n1_ := bkb BK144 hb; have n2_ := bst HB hb; clear BK143; clear BK144; clear HB; have BK143 := n0_; have BK144 := n1_; have HB := n2_; clear n0_ n1_ n2_; (try clear hb); (try clear hb2); (try clear hk); (try clear hi); refine hK.out _ _ ⟨(blk_cell BK143.out 0).trans rfl, (blk_cell BK143.out 1).trans rfl, (blk_cell BK144.out 0).trans rfl, (blk_cell BK144.out 1).trans rfl⟩ (fun hHeld => ?_); clear hK K; refine norm_ (a' := ?_) ?_ ?_; rotate_left
     ·show Act.put _ (some 12) _ = _
      simp only [Act.put, List.setIfInBounds_toArray, List.set_cons_zero, List.set_cons_succ, i64_w, i32_w]; rfl
     refine pure_ (i := 4) (N := some 14) (v := ?_) (a' := ?_) #[true, true, true, true, true] rfl rfl (by kernel_rfl) (fun _ _ _ h => h) (Or.inl ⟨by rfl, ?_⟩) ?_ ?_; rotate_left
     ·intro w'
      go_simp; with_reducible rfl
     rotate_left
     ·simp only [Act.put, List.setIfInBounds_toArray, List.set_cons_zero, List.set_cons_succ, i64_w, i32_w]
      rfl
     refine done_ (by kernel_rfl) ?_
     try go_wp2
     go_ret
     exact ⟨by first | rfl | (simp [errW_none, errW_some] <;> rfl) | (simp [*, errW_none, errW_some] <;> rfl), pbs HB⟩
    ·rw [if_neg c7] at H
     have c7b0 : (t145 == a1_0 && (t146 == a1_1)) = false := by simpa using c7
     (try (have c7b1 : decide (t145 = a1_0 && (t146 == a1_1)) = false := by simpa using c7)); (try (have c7b2 : (t145 == a1_0 && (t146 == a1_1)) = false := by simpa using c7)); (try (have c7b3 : ¬ (t145 = a1_0 && (t146 == a1_1)) := by simpa using c7)); clear c7; have H' := Aside0.mk H; clear H
     try go_wp2
     have n0_ := Aside0.mk (blk_drew BK143.out); have n1_ := Aside0.mk (blk_drew BK144.out); have n2_ := Aside0.mk (below_drew1 HB.out); clear BK143; clear BK144; clear HB; have BK143 := n0_; have BK144 := n1_; have HB := n2_; clear n0_ n1_ n2_; refine start_ (n := 5) (S := fun w' => w'.cell? ⟨gb143, 0, none⟩ = some (.int .i8 a0_0) ∧ w'.cell? ⟨gb143, 1, none⟩ = some (.int .i8 a0_1) ∧ w'.cell? ⟨gb144, 0, none⟩ = some (.int .i8 a1_0) ∧ w'.cell? ⟨gb144, 1, none⟩ = some (.int .i8 a1_1)) (ds := []) #[false, false, false, false, false] (by kernel_rfl) rfl rfl ⟨(blk_cell BK143.out 0).trans rfl, (blk_cell BK143.out 1).trans rfl, (blk_cell BK144.out 0).trans rfl, (blk_cell BK144.out 1).trans rfl⟩ (fun hHeld => ?_); generalize wr.drew = w10 at BK143 BK144 HB hHeld ⊢; refine pure_ (i := 1) (N := some 11) (v := ?_) (a' := ?_) #[false, true, false, false, false] rfl rfl (by kernel_rfl) (fun _ _ _ h => h) (Or.inl ⟨by rfl, ?_⟩) ?_ ?_; rotate_left
     ·intro w'
      go_simp; with_reducible rfl
     rotate_left
     ·simp only [Act.put, List.setIfInBounds_toArray, List.set_cons_zero, List.set_cons_succ, i64_w, i32_w]
      rfl
     refine take_ (i := 0) (N := some 10) (v := ?_) (a' := ?_) #[true, true, false, false, false] rfl rfl (by kernel_rfl) (fun _ _ _ h => h) (Or.inl ⟨by rfl, ?_⟩) hHeld ?_ ?_; rotate_left
     ·rintro w' ⟨s0, s1, s2, s3⟩
      go_simp; with_reducible rfl
     rotate_left
     ·simp only [Act.put, List.setIfInBounds_toArray, List.set_cons_zero, List.set_cons_succ, i64_w, i32_w]
      rfl
     refine take_ (i := 3) (N := some 13) (v := ?_) (a' := ?_) #[true, true, false, true, false] rfl rfl (by kernel_rfl) (fun _ _ _ h => h) (Or.inl ⟨by rfl, ?_⟩) hHeld ?_ ?_; rotate_left
     ·rintro w' ⟨s0, s1, s2, s3⟩
      go_simp; with_reducible rfl
     rotate_left
     ·simp only [Act.put, List.setIfInBounds_toArray, List.set_cons_zero, List.set_cons_succ, i64_w, i32_w]
      rfl
     refine one_ (i := 2) (N := some 12) #[true, true, true, true, false] rfl rfl (by kernel_rfl) (by decide) (fun K hK => ?_); refine goes_ Try.func78 (by kernel_rfl) rfl #[.agg #[.int .i8 a0_0, .int .i8 a0_1], .int .i64 x5_1] (by rfl) rfl rfl (by (try simp only [List.map_toArray, List.map_cons, List.map_nil]); first | done | rfl | (simp only [List.length_drop, List.length_take]; rfl)) ?_; with_reducible refine (spec_l01Next.calls a0_0 a0_1 x5_1 t145 t146 _ A6.out).mono ?_
     rintro e w11 ⟨rfl, hb⟩
     refine ⟨_, rfl, ?_⟩; have n0_ := bkb BK143 hb; have n1_ := bkb BK144 hb; have n2_ := bst HB hb; clear BK143; clear BK144; clear HB; have BK143 := n0_; have BK144 := n1_; have HB := n2_; clear n0_ n1_ n2_; (try clear hb); (try clear hb2); (try clear hk); (try clear hi); refine hK.out _ _ ⟨(blk_cell BK143.out 0).trans rfl, (blk_cell BK143.out 1).trans rfl, (blk_cell BK144.out 0).trans rfl, (blk_cell BK144.out 1).trans rfl⟩ (fun hHeld => ?_); clear hK K; refine norm_ (a' := ?_) ?_ ?_; rotate_left
     ·show Act.put _ (some 12) _ = _
      simp only [Act.put, List.setIfInBounds_toArray, List.set_cons_zero, List.set_cons_succ, i64_w, i32_w]; rfl
     refine pure_ (i := 4) (N := some 14) (v := ?_) (a' := ?_) #[true, true, true, true, true] rfl rfl (by kernel_rfl) (fun _ _ _ h => h) (Or.inl ⟨by rfl, ?_⟩) ?_ ?_; rotate_left
     ·intro w'
      go_simp; with_reducible rfl
     rotate_left
     ·simp only [Act.put, List.setIfInBounds_toArray, List.set_cons_zero, List.set_cons_succ, i64_w, i32_w]
      rfl
     refine done_ (by kernel_rfl) ?_
     try go_wp2
     go_roundg k1
     case measure => have := HK1.out; omega
     case rel => exact ⟨(wrap64 (x5_1 + 1)), (by first | rfl | (simp; done) | (simp [*]; done)), H', ⟨by have := HK1.out; omega⟩, ⟨pk BK143⟩, ⟨pk BK144⟩, ⟨pbs HB⟩⟩
   ·rw [if_neg c5] at H
    have c5b0 : decide (x5_1 < 4) = false := decide_eq_false c5; clear c5; obtain rfl := Option.some.inj H
    go_wp2
    go_ret
    exact ⟨by first | rfl | (simp [errW_none, errW_some] <;> rfl) | (simp [*, errW_none, errW_some] <;> rfl), pbs HB⟩
end Go.Proofs.Ytjogemppgdeomaa.PB
end
