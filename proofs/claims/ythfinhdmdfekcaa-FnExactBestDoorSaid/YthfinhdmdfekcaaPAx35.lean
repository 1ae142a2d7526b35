/- Lean functions for Go functions, and proofs that Go comes to just their answers; written by a program of this session. -/
import Derived.Test.YthfinhdmdfekcaaPAx0
import Derived.Test.YthfinhdmdfekcaaPAx1
import Derived.Test.YthfinhdmdfekcaaPAx3
import Derived.Test.YthfinhdmdfekcaaPAx9
import Derived.Test.YthfinhdmdfekcaaPAx19
import Derived.Test.YthfinhdmdfekcaaPAx22
import Derived.Test.YthfinhdmdfekcaaPAx24
namespace Go.Proofs.Ythfinhdmdfekcaa.PA
open Go.RowKit Go.Proofs.YthfinhdmdfekcaaW.PrintWords Go.Proofs.YthfinhdmdfekcaaW.PrintLast Go.Proofs.YthfinhdmdfekcaaW.PrintMore
attribute [local go_sem] max2_int min2_int max_two min_two max_three min_three max_four min_four   -- for this text's walks alone
set_option linter.unusedVariables false
set_option linter.unusedSimpArgs false

/-! ### spec_l07Orders: function 82 -/
mutual
def spec_l07Orders.l0 : Nat → Int → List Int → List (List Int) → Int → Option ((List (List Int)))
  | 0, _, _, _, _ => none
  | k + 1, x0, x1, x5, x6 => if x6 < x0 then ((spec_l00Has.f k x1 x6).bind fun t554 => (if t554 = true then (spec_l07Orders.l0 k x0 x1 x5 (wrap64 (x6 + 1))) else ((spec_l00Own.f x1).bind fun t555 => (if t555.length < 17592186044416 then ((spec_l07Orders.f k x0 (t555 ++ [x6])).bind fun t561 => (if x5.length + t561.length < 5864062014805 then (spec_l07Orders.l0 k x0 x1 (x5 ++ t561) (wrap64 (x6 + 1))) else (none))) else (none))))) else (some x5)
def spec_l07Orders.f : Nat → Int → List Int → Option ((List (List Int)))
  | 0, _, _ => none
  | k + 1, a0, l1 => if (l1.length : Int) = a0 then ((spec_l00Own.f l1).bind fun t545 => (some (([t545] : List (List Int))))) else (spec_l07Orders.l0 k a0 l1 (([] : List (List Int))) 0)
end
theorem spec_l07Orders.mono_l : ∀ k, (∀ y0 y1, LeO (spec_l07Orders.f k y0 y1) (spec_l07Orders.f (k + 1) y0 y1)) ∧ (∀ y0 y1 y2 y3, LeO (spec_l07Orders.l0 k y0 y1 y2 y3) (spec_l07Orders.l0 (k + 1) y0 y1 y2 y3))
  | 0 => ⟨fun _ _ r h => by simp [spec_l07Orders.f] at h, fun _ _ _ _ r h => by simp [spec_l07Orders.l0] at h⟩
  | k + 1 => by
    obtain ⟨ih0, ih1⟩ := spec_l07Orders.mono_l k
    refine ⟨?_, ?_⟩
    · intro y0 y1
      unfold spec_l07Orders.f
      repeat' first
      | (with_reducible exact ih0 _ _)
      | (with_reducible exact ih1 _ _ _ _)
      | (with_reducible exact spec_l00Has.mono _ _ _)
      | (with_reducible exact LeO.refl _)
      | (with_reducible exact LeO.none _)
      | (with_reducible refine LeO.ite ?_ ?_)
      | (with_reducible refine LeO.bind ?_ (fun _ => ?_))
      | exact ih0 _ _
      | exact ih1 _ _ _ _
      | exact spec_l00Has.mono _ _ _
      | exact LeO.none _
      | refine LeO.ite ?_ ?_
      | refine LeO.bind ?_ (fun _ => ?_)
    · intro y0 y1 y2 y3
      unfold spec_l07Orders.l0
      repeat' first
      | (with_reducible exact ih0 _ _)
      | (with_reducible exact ih1 _ _ _ _)
      | (with_reducible exact spec_l00Has.mono _ _ _)
      | (with_reducible exact LeO.refl _)
      | (with_reducible exact LeO.none _)
      | (with_reducible refine LeO.ite ?_ ?_)
      | (with_reducible refine LeO.bind ?_ (fun _ => ?_))
      | exact ih0 _ _
      | exact ih1 _ _ _ _
      | exact spec_l00Has.mono _ _ _
      | exact LeO.none _
      | refine LeO.ite ?_ ?_
      | refine LeO.bind ?_ (fun _ => ?_)
theorem spec_l07Orders.mono : ∀ a0 a1 k, LeO (spec_l07Orders.f k a0 a1) (spec_l07Orders.f (k + 1) a0 a1) := by
  intro a0 a1 k
  obtain ⟨ih0, ih1⟩ := spec_l07Orders.mono_l k
  exact ih0 a0 a1
set_option maxHeartbeats 8000000 in
set_option maxRecDepth 100000 in
theorem spec_l07Orders.calls (k : Nat) : ∀ (a0 : Int) (A1 : Option Addr) (c1 : Nat) (l1 : List Int) (r : List (List Int)) (w : World) (hr1 : Kd.C (Kd.int .i64) w A1 l1.length l1) (hc1 : l1.length ≤ c1) (h : spec_l07Orders.f k a0 l1 = some r),
    Calls Try.prog 82 #[.int .i64 a0, .slice A1 l1.length c1] w fun e w' => ∃ v0_ : Value, e = .returned (v0_) ∧ Kd.N (Kd.slice 2 (Kd.int .i64)) 22 w' w.heap.size (fun k_ => (w.heap.size ≤ k_)) v0_ r ∧ Below w.heap.size w w' := by
  induction k using Nat.strongRecOn with
  | _ k ih =>
  intro a0 A1 c1 l1 r w hr1 hc1 h
  cases k with
  | zero => exact absurd h (by simp [spec_l07Orders.f])
  | succ k =>
  simp only [spec_l07Orders.f] at h
  have HR1 := Aside0.mk hr1
  have HC1 := Aside0.mk hc1
  clear hr1 hc1
  have HB := Aside0.mk (Below.refl w.heap.size w)
  have H : (if (l1.length : Int) = a0 then ((spec_l00Own.f l1).bind fun t545 => (some (([t545] : List (List Int))))) else (spec_l07Orders.l0 k a0 l1 (([] : List (List Int))) 0)) = some r := h
  clear h
  by_cases c3 : (l1.length : Int) = a0
  · rw [if_pos c3] at H
    have c3b0 : ((l1.length : Int) == a0) = true := beq_iff_eq.mpr c3
    have c3b1 : ((l1.length : Int) != a0) = false := bne_eq_false_iff_eq.mpr c3
    clear c3
    replace H := Option.bind_eq_some_iff.mp H
    obtain ⟨t545, A40, H⟩ := H
    replace H : (some (([t545] : List (List Int)))) = some r := H
    have A4 := Aside0.mk A40
    clear A40
    obtain ⟨y548, hy548⟩ : ∃ y_ : List (List Int), y_ = (([t545] : List (List Int))) := ⟨_, rfl⟩
    replace H : (some y548) = some r := by first | (rw [hy548]; with_reducible exact H) | (have H2_ := (Option.bind_some _ _).symm.trans H; rw [hy548]; with_reducible exact H2_) | (have H2_ := (Option.bind_some _ _).symm.trans H; with_reducible exact H2_) | with_reducible exact H | (rw [hy548]; exact H) | exact H
    have Ny548 := Aside0.mk hy548
    clear hy548
    obtain rfl := Option.some.inj H
    go_enter Try.func82, Try.ntmps82
    go_wp2_with (first | ((with_reducible refine gate_callee (f := 93) rfl ?_); refine goesL_ (some 12) rfl rfl Try.func93 (by kernel_rfl) rfl #[.slice A1 l1.length c1] rfl (by (try simp only [List.map_toArray, List.map_cons, List.map_nil]); first | done | rfl | (simp only [List.length_drop, List.length_take]; rfl)) ?_; (with_reducible refine (spec_l00Own.calls _ _ l1 t545 _ ?side1 ?side2 A4.out).mono ?_); (case side1 => repeat (first | exact HR1.out | (with_reducible refine Kd.C_alloc ?_ _) | (with_reducible refine Kd.C_drewN ?_ _) | (with_reducible refine Kd.C_drew ?_))); (case side2 => exact HC1.out); rintro e w5 ⟨v546, rfl, ho0, hb⟩; refine ⟨_, rfl, ?_⟩; have n0_ := Aside0.mk (Kd.R_lower (Kd.R_newM (M := fun k_ => (w.heap.size ≤ k_)) ho0 (below_size (by repeat (first | (with_reducible first | exact HB.out | apply below_alloc | apply pw_below_drewN | apply below_drew1) | exact HB.out))) (fun k_ h_ => h_)) (below_size (by repeat (first | (with_reducible first | exact HB.out | apply below_alloc | apply pw_below_drewN | apply below_drew1) | exact HB.out)))); have n1_ := Aside0.mk (below_step (by repeat (first | (with_reducible first | exact HB.out | apply below_alloc | apply pw_below_drewN | apply below_drew1) | exact HB.out)) hb); clear HB; have HO547 := n0_; have HB := n1_; clear n0_ n1_; (try clear hb); (try clear hb2); (try clear hk); (try clear hi); (try clear ho0); obtain ⟨Ao6, co6, eo6⟩ := Kd.R_slice HO547.out; subst eo6) | ((with_reducible refine gate_dst (N := 13) rfl ?_); refine Kd.N_lit (Kd.slice 2 (Kd.int .i64)) _ 22 ?hg (N' := 13) ?hd (xs := ([t545] : List (List Int))) (inner := [.slice Ao6 t545.length co6]) (ok := (fun k_ => (w.heap.size ≤ k_))) (okp := (fun k_ => (w.heap.size ≤ k_))) ?hr ?hp (fun _ hk => hk) ((show ∀ k_, w5.heap.size ≤ k_ → (fun k_ => (w.heap.size ≤ k_)) k_ from fun k_ hk => (Nat.le_trans (below_size (by repeat (first | (with_reducible first | exact HB.out | apply below_alloc | apply pw_below_drewN | apply below_drew1) | exact HB.out))) hk)) _ (Nat.le_refl _)) (Below.refl _ _) (Nat.le_refl _) (by simp) ?_; (case hd => rfl); (case hg => rfl); (case hr => first | (go_simp; done) | (go_simp; rfl)); (case hp => exact (Reps.one (show Kd.FK (Kd.slice 2 (Kd.int .i64)) _ _ t545 [.slice Ao6 t545.length co6] from (Kd.FK_slice_mk (Kd.R_reads' (Kd.R_mono (ok' := (fun k_ => (w.heap.size ≤ k_))) (HO547.out) (fun k_ hk => hk.1))).2.1 (Kd.R_F (Kd.R_mono (ok' := (fun k_ => (w.heap.size ≤ k_))) (HO547.out) (fun k_ hk => hk.1))))) (Reps.none _ _))); intro v549 w7 ho8 hb hg_ hnew_; clear hg_ hnew_; (first | rw [← Ny548.out] at ho8 | (simp only [Int.reduceToNat] at ho8; rw [← Ny548.out] at ho8)); have n0_ := Aside0.mk (Kd.N_lower ho8 (below_size (by repeat (first | (with_reducible first | exact HB.out | apply below_alloc | apply pw_below_drewN | apply below_drew1) | exact HB.out)))); have n1_ := Aside0.mk (below_step (by repeat (first | (with_reducible first | exact HB.out | apply below_alloc | apply pw_below_drewN | apply below_drew1) | exact HB.out)) hb); clear HB; clear HO547; have HO550 := n0_; have HB := n1_; clear n0_ n1_; clear hb ho8))
    go_ret
    exact ⟨_, by first | rfl | (simp [errW_none, errW_some] <;> rfl) | (simp [*, errW_none, errW_some] <;> rfl), by (with_reducible repeat (first | apply Kd.N_alloc | apply Kd.N_drewN | apply Kd.N_drew)); exact HO550.out, by repeat (first | (with_reducible first | exact HB.out | apply below_alloc | apply pw_below_drewN | apply below_drew1) | exact HB.out)⟩
  · rw [if_neg c3] at H
    have c3b0 : ((l1.length : Int) == a0) = false := beq_eq_false_iff_ne.mpr c3
    have c3b1 : ((l1.length : Int) != a0) = true := bne_iff_ne.mpr c3
    obtain ⟨y551, hy551⟩ : ∃ y_ : List (List Int), y_ = (([] : List (List Int))) := ⟨_, rfl⟩
    replace H : (spec_l07Orders.l0 k a0 l1 y551 0) = some r := by first | (rw [hy551]; with_reducible exact H) | (have H2_ := (Option.bind_some _ _).symm.trans H; rw [hy551]; with_reducible exact H2_) | (have H2_ := (Option.bind_some _ _).symm.trans H; with_reducible exact H2_) | with_reducible exact H | (rw [hy551]; exact H) | exact H
    have Ny551 := Aside0.mk hy551
    clear hy551
    have H' := Aside0.mk H
    clear H
    go_enter Try.func82, Try.ntmps82
    go_wp2_with (first | ((with_reducible refine gate_dst (N := 14) rfl ?_); refine Kd.N_lit (Kd.slice 2 (Kd.int .i64)) _ 22 ?hg (N' := 14) ?hd (xs := ([] : List (List Int))) (inner := []) (ok := (fun k_ => (w.heap.size ≤ k_))) (okp := (fun k_ => (w.heap.size ≤ k_))) ?hr ?hp (fun _ hk => hk) ((show ∀ k_, w.heap.size ≤ k_ → (fun k_ => (w.heap.size ≤ k_)) k_ from fun k_ hk => (Nat.le_trans (below_size (by repeat (first | (with_reducible first | exact HB.out | apply below_alloc | apply pw_below_drewN | apply below_drew1) | exact HB.out))) hk)) _ (Nat.le_refl _)) (Below.refl _ _) (Nat.le_refl _) (by simp) ?_; (case hd => rfl); (case hg => rfl); (case hr => first | (go_simp; done) | (go_simp; rfl)); (case hp => exact (Reps.none _ _)); intro v552 w9 ho10 hb hg_ hnew_; clear hg_ hnew_; (first | rw [← Ny551.out] at ho10 | (simp only [Int.reduceToNat] at ho10; rw [← Ny551.out] at ho10)); have n0_ := Aside0.mk (Kd.N_lower ho10 (below_size (by repeat (first | (with_reducible first | exact HB.out | apply below_alloc | apply pw_below_drewN | apply below_drew1) | exact HB.out)))); have n1_ := Aside0.mk (below_step (by repeat (first | (with_reducible first | exact HB.out | apply below_alloc | apply pw_below_drewN | apply below_drew1) | exact HB.out)) hb); clear HB; have HO553 := n0_; have HB := n1_; clear n0_ n1_; clear hb ho10))
    go_loopg [5, 6] k (fun kq v5 v6 w' => ∃ (x5_1 : List (List Int)) (x6_1 : Int), v6 = .int .i64 x6_1 ∧ Aside0 (spec_l07Orders.l0 kq a0 l1 x5_1 x6_1 = some r) ∧ Aside0 (kq ≤ k) ∧ Aside0 (Kd.N (Kd.slice 2 (Kd.int .i64)) 22 w' w.heap.size (fun k_ => (w.heap.size ≤ k_)) v5 x5_1) ∧ Aside0 (Below w.heap.size w w'))
    case atStart => exact ⟨(y551), (0), (by first | rfl | (simp; done) | (simp [*]; done)), H', ⟨Nat.le_refl _⟩, ⟨by (with_reducible repeat (first | apply Kd.N_alloc | apply Kd.N_drewN | apply Kd.N_drew)); exact HO553.out⟩, ⟨by repeat (first | (with_reducible first | exact HB.out | apply below_alloc | apply pw_below_drewN | apply below_drew1) | exact HB.out)⟩⟩
    case round =>
      clear H'
      try clear c1
      try clear p2
      try clear c3
      try clear c3b0
      try clear c3b1
      try clear c8
      try clear c9
      obtain ⟨x5_1, x6_1, rfl, HA, HK1, HO_5, HB⟩ := hrel
      cases gk with
      | zero => exact absurd HA.out (by simp [spec_l07Orders.l0])
      | succ k1 =>
        have H := HA.out
        clear HA
        simp only [spec_l07Orders.l0] at H
        by_cases c11 : x6_1 < a0
        · rw [if_pos c11] at H
          have c11b0 : decide (x6_1 < a0) = true := decide_eq_true c11
          clear c11
          replace H := Option.bind_eq_some_iff.mp H
          obtain ⟨t554, A120, H⟩ := H
          replace H : (if t554 = true then (spec_l07Orders.l0 k1 a0 l1 x5_1 (wrap64 (x6_1 + 1))) else ((spec_l00Own.f l1).bind fun t555 => (if t555.length < 17592186044416 then ((spec_l07Orders.f k1 a0 (t555 ++ [x6_1])).bind fun t561 => (if x5_1.length + t561.length < 5864062014805 then (spec_l07Orders.l0 k1 a0 l1 (x5_1 ++ t561) (wrap64 (x6_1 + 1))) else (none))) else (none)))) = some r := H
          have A12 := Aside0.mk A120
          clear A120
          by_cases c13 : t554 = true
          · subst c13
            have H1 : (spec_l07Orders.l0 k1 a0 l1 x5_1 (wrap64 (x6_1 + 1))) = some r := by rw [if_pos rfl] at H; exact H
            clear H
            have H := H1
            clear H1
            have H' := Aside0.mk H
            clear H
            go_wp2_with (first | ((with_reducible refine gate_callee (f := 100) rfl ?_); refine goesL_ (some 22) rfl rfl Try.func100 (by kernel_rfl) rfl #[.slice A1 l1.length c1, .int .i64 x6_1] rfl (by (try simp only [List.map_toArray, List.map_cons, List.map_nil]); first | done | rfl | (simp only [List.length_drop, List.length_take]; rfl)) ?_; (with_reducible refine (spec_l00Has.calls k1 _ _ l1 x6_1 true _ ?side1 ?side2 A12.out).mono ?_); (case side1 => repeat (first | exact (Kd.C_below HR1.out HB.out) | (with_reducible refine Kd.C_alloc ?_ _) | (with_reducible refine Kd.C_drewN ?_ _) | (with_reducible refine Kd.C_drew ?_))); (case side2 => exact HC1.out); rintro e w' ⟨rfl, ⟨nd, rfl⟩⟩; refine ⟨_, rfl, ?_⟩))
            go_roundg k1
            case measure => have := HK1.out; omega
            case rel => exact ⟨(x5_1), (wrap64 (x6_1 + 1)), (by first | rfl | (simp; done) | (simp [*]; done)), H', ⟨by have := HK1.out; omega⟩, ⟨by (with_reducible repeat (first | apply Kd.N_alloc | apply Kd.N_drewN | apply Kd.N_drew)); exact HO_5.out⟩, ⟨by repeat (first | (with_reducible first | exact HB.out | apply below_alloc | apply pw_below_drewN | apply below_drew1) | exact HB.out)⟩⟩
          · replace c13 := Bool.eq_false_iff.mpr c13
            subst c13
            have H1 : ((spec_l00Own.f l1).bind fun t555 => (if t555.length < 17592186044416 then ((spec_l07Orders.f k1 a0 (t555 ++ [x6_1])).bind fun t561 => (if x5_1.length + t561.length < 5864062014805 then (spec_l07Orders.l0 k1 a0 l1 (x5_1 ++ t561) (wrap64 (x6_1 + 1))) else (none))) else (none))) = some r := by rw [if_neg (show ¬ (false = true) by decide)] at H; exact H
            clear H
            have H := H1
            clear H1
            replace H := Option.bind_eq_some_iff.mp H
            obtain ⟨t555, A140, H⟩ := H
            replace H : (if t555.length < 17592186044416 then ((spec_l07Orders.f k1 a0 (t555 ++ [x6_1])).bind fun t561 => (if x5_1.length + t561.length < 5864062014805 then (spec_l07Orders.l0 k1 a0 l1 (x5_1 ++ t561) (wrap64 (x6_1 + 1))) else (none))) else (none)) = some r := H
            have A14 := Aside0.mk A140
            clear A140
            by_cases c15 : t555.length < 17592186044416
            · rw [if_pos c15] at H
              have LMc15 := Aside0.mk c15
              clear c15
              obtain ⟨y558, hy558⟩ : ∃ y_ : List Int, y_ = (t555 ++ [x6_1]) := ⟨_, rfl⟩
              replace H : ((spec_l07Orders.f k1 a0 y558).bind fun t561 => (if x5_1.length + t561.length < 5864062014805 then (spec_l07Orders.l0 k1 a0 l1 (x5_1 ++ t561) (wrap64 (x6_1 + 1))) else (none))) = some r := by first | (rw [hy558]; with_reducible exact H) | (have H2_ := (Option.bind_some _ _).symm.trans H; rw [hy558]; with_reducible exact H2_) | (have H2_ := (Option.bind_some _ _).symm.trans H; with_reducible exact H2_) | with_reducible exact H | (rw [hy558]; exact H) | exact H
              have Ny558 := Aside0.mk hy558
              clear hy558
              replace H := Option.bind_eq_some_iff.mp H
              obtain ⟨t561, A160, H⟩ := H
              replace H : (if x5_1.length + t561.length < 5864062014805 then (spec_l07Orders.l0 k1 a0 l1 (x5_1 ++ t561) (wrap64 (x6_1 + 1))) else (none)) = some r := H
              have A16 := Aside0.mk A160
              clear A160
              by_cases c17 : x5_1.length + t561.length < 5864062014805
              · rw [if_pos c17] at H
                have LMc17 := Aside0.mk c17
                clear c17
                obtain ⟨y564, hy564⟩ : ∃ y_ : List (List Int), y_ = (x5_1 ++ t561) := ⟨_, rfl⟩
                replace H : (spec_l07Orders.l0 k1 a0 l1 y564 (wrap64 (x6_1 + 1))) = some r := by first | (rw [hy564]; with_reducible exact H) | (have H2_ := (Option.bind_some _ _).symm.trans H; rw [hy564]; with_reducible exact H2_) | (have H2_ := (Option.bind_some _ _).symm.trans H; with_reducible exact H2_) | with_reducible exact H | (rw [hy564]; exact H) | exact H
                have Ny564 := Aside0.mk hy564
                clear hy564
                have H' := Aside0.mk H
                clear H
                go_wp2_with (first | ((with_reducible refine gate_callee (f := 100) rfl ?_); refine goesL_ (some 22) rfl rfl Try.func100 (by kernel_rfl) rfl #[.slice A1 l1.length c1, .int .i64 x6_1] rfl (by (try simp only [List.map_toArray, List.map_cons, List.map_nil]); first | done | rfl | (simp only [List.length_drop, List.length_take]; rfl)) ?_; (with_reducible refine (spec_l00Has.calls k1 _ _ l1 x6_1 false _ ?side1 ?side2 A12.out).mono ?_); (case side1 => repeat (first | exact (Kd.C_below HR1.out HB.out) | (with_reducible refine Kd.C_alloc ?_ _) | (with_reducible refine Kd.C_drewN ?_ _) | (with_reducible refine Kd.C_drew ?_))); (case side2 => exact HC1.out); rintro e w' ⟨rfl, ⟨nd, rfl⟩⟩; refine ⟨_, rfl, ?_⟩) | ((with_reducible refine gate_callee (f := 93) rfl ?_); refine goesL_ (some 27) rfl rfl Try.func93 (by kernel_rfl) rfl #[.slice A1 l1.length c1] rfl (by (try simp only [List.map_toArray, List.map_cons, List.map_nil]); first | done | rfl | (simp only [List.length_drop, List.length_take]; rfl)) ?_; (with_reducible refine (spec_l00Own.calls _ _ l1 t555 _ ?side1 ?side2 A14.out).mono ?_); (case side1 => repeat (first | exact (Kd.C_below HR1.out (by repeat (first | (with_reducible first | exact HB.out | apply below_alloc | apply pw_below_drewN | apply below_drew1) | exact HB.out))) | (with_reducible refine Kd.C_alloc ?_ _) | (with_reducible refine Kd.C_drewN ?_ _) | (with_reducible refine Kd.C_drew ?_))); (case side2 => exact HC1.out); rintro e w18 ⟨v556, rfl, ho0, hb⟩; refine ⟨_, rfl, ?_⟩; have n0_ := Aside0.mk (Kd.N_elder' (by (with_reducible repeat (first | apply Kd.N_alloc | apply Kd.N_drewN | apply Kd.N_drew)); exact HO_5.out) (Kd.R_base ho0) hb); have n1_ := Aside0.mk (Kd.R_lower (Kd.R_newM (M := fun k_ => (w.heap.size ≤ k_)) ho0 (below_size (by repeat (first | (with_reducible first | exact HB.out | apply below_alloc | apply pw_below_drewN | apply below_drew1) | exact HB.out))) (fun k_ h_ => h_)) (below_size (by repeat (first | (with_reducible first | exact HB.out | apply below_alloc | apply pw_below_drewN | apply below_drew1) | exact HB.out)))); have n2_ := Aside0.mk (below_step (by repeat (first | (with_reducible first | exact HB.out | apply below_alloc | apply pw_below_drewN | apply below_drew1) | exact HB.out)) hb); clear HO_5; clear HB; have HO_5 := n0_; have HO557 := n1_; have HB := n2_; clear n0_ n1_ n2_; (try clear hb); (try clear hb2); (try clear hk); (try clear hi); (try clear ho0)) | ((with_reducible refine gate_builtin (b := .append) (xs := #[.tmp 27, .tmp 29]) rfl ?_); at_builtin; refine Kd.R_append (Kd.int .i64) (w0 := w) w.heap.size rfl (.tmp 27) (.tmp 29) 22 2 (.int .i64 0) 8 rfl Try.underlying22 info2 rfl (by decide) (by omega) v556 t555 x6_1 [.int .i64 x6_1] (fun k_ => (w.heap.size ≤ k_)) (fun _ => False) rfl rfl ?aP (fun _ hk => hk.elim) ?aF ?aO ?aB ?aS ?aL ?_; (case aP => exact rfl); (case aB => exact (by repeat (first | (with_reducible first | exact HB.out | apply below_alloc | apply pw_below_drewN | apply below_drew1) | exact HB.out))); (case aF => exact (fun k_ hk => (Nat.le_trans (below_size (by repeat (first | (with_reducible first | exact HB.out | apply below_alloc | apply pw_below_drewN | apply below_drew1) | exact HB.out))) hk))); (case aO => exact (by (with_reducible repeat (first | apply Kd.R_alloc | apply Kd.R_drewN | apply Kd.R_drew)); exact Kd.R_mono HO557.out (fun _ hk => hk.1))); (case aS => exact (below_size (by repeat (first | (with_reducible first | exact HB.out | apply below_alloc | apply pw_below_drewN | apply below_drew1) | exact HB.out)))); (case aL => have := LMc15.out; omega); intro v559 w19 ho hb hg hat; rw [← Ny558.out] at ho; have n0_ := Aside0.mk (Kd.N_afterv (ok := (fun k_ => (w.heap.size ≤ k_))) (by (with_reducible repeat (first | apply Kd.N_alloc | apply Kd.N_drewN | apply Kd.N_drew)); exact HO_5.out) hg hat); have n1_ := Aside0.mk (hb); have n2_ := Aside0.mk (ho); clear HO_5; clear HB; clear HO557; have HO_5 := n0_; have HB := n1_; have HO560 := n2_; clear n0_ n1_ n2_; clear ho hb hg hat; obtain ⟨Ao20, co20, eo20⟩ := Kd.R_slice HO560.out; subst eo20) | ((with_reducible refine gate_callee (f := 82) rfl ?_); refine goesL_ (some 31) rfl rfl Try.func82 (by kernel_rfl) rfl #[.int .i64 a0, .slice Ao20 y558.length co20] rfl (by (try simp only [List.map_toArray, List.map_cons, List.map_nil]); first | done | rfl | (simp only [List.length_drop, List.length_take]; rfl)) ?_; (with_reducible refine (ih k1 (by have := HK1.out; omega) a0 _ _ y558 t561 _ ?side1 ?side2 A16.out).mono ?_); (case side1 => repeat (first | exact (Kd.R_reads' HO560.out).2.2 | (with_reducible refine Kd.C_alloc ?_ _) | (with_reducible refine Kd.C_drewN ?_ _) | (with_reducible refine Kd.C_drew ?_))); (case side2 => exact (Kd.R_reads' HO560.out).2.1); rintro e w21 ⟨v562, rfl, ho0, hb⟩; refine ⟨_, rfl, ?_⟩; have n0_ := Aside0.mk (Kd.N_elder' (by (with_reducible repeat (first | apply Kd.N_alloc | apply Kd.N_drewN | apply Kd.N_drew)); exact HO_5.out) (Kd.N_base ho0) hb); have n1_ := Aside0.mk (Kd.R_below (by (with_reducible repeat (first | apply Kd.R_alloc | apply Kd.R_drewN | apply Kd.R_drew)); exact HO560.out) hb); have n2_ := Aside0.mk (Kd.N_lower (Kd.N_mono (ok' := fun k_ => (w.heap.size ≤ k_) ∧ some k_ ≠ (u5 : Value).ownBlock ∧ some k_ ≠ (.slice Ao20 y558.length co20 : Value).ownBlock) ho0 (fun k_ hk_ => ⟨(Nat.le_trans (below_size (by repeat (first | (with_reducible first | exact HB.out | apply below_alloc | apply pw_below_drewN | apply below_drew1) | exact HB.out))) hk_), (Kd.fresh' (Kd.N_lt (by (with_reducible repeat (first | apply Kd.N_alloc | apply Kd.N_drewN | apply Kd.N_drew)); exact HO_5.out)) k_ hk_), (Kd.fresh' (Kd.R_lt (by (with_reducible repeat (first | apply Kd.R_alloc | apply Kd.R_drewN | apply Kd.R_drew)); exact HO560.out)) k_ hk_)⟩)) (below_size (by repeat (first | (with_reducible first | exact HB.out | apply below_alloc | apply pw_below_drewN | apply below_drew1) | exact HB.out)))); have n3_ := Aside0.mk (below_step (by repeat (first | (with_reducible first | exact HB.out | apply below_alloc | apply pw_below_drewN | apply below_drew1) | exact HB.out)) hb); clear HO_5; clear HO560; clear HB; have HO_5 := n0_; have HO560 := n1_; have HO563 := n2_; have HB := n3_; clear n0_ n1_ n2_ n3_; (try clear hb); (try clear hb2); (try clear hk); (try clear hi); (try clear ho0); obtain ⟨Ao23, co23, eo23⟩ := Kd.N_slice HO563.out; subst eo23) | ((with_reducible refine gate_builtin (b := .append) (xs := #[.tmp 24, .tmp 31]) rfl ?_); at_builtin; refine Kd.N_append_rows (Kd.slice 2 (Kd.int .i64)) (w0 := w) w.heap.size rfl (.tmp 24) (.tmp 31) 84 22 (.slice none 0 0) 24 rfl Try.underlying84 info22 rfl (by decide) (by omega) u5 x5_1 t561 _ _ _ (fun k_ => (w.heap.size ≤ k_) ∧ some k_ ≠ (.slice Ao20 y558.length co20 : Value).ownBlock) (fun k_ => ((fun k_ => (w.heap.size ≤ k_) ∧ some k_ ≠ (.slice Ao20 y558.length co20 : Value).ownBlock)) k_ ∧ some k_ ≠ (u5 : Value).ownBlock) rfl rfl ?aO ?aR (fun _ hk => hk) ?aF ?aB ?aS ?aL ?_; (case aR => exact (by skip; exact Kd.N_F (Kd.N_mono (ok' := (fun k_ => ((fun k_ => (w.heap.size ≤ k_) ∧ some k_ ≠ (.slice Ao20 y558.length co20 : Value).ownBlock)) k_ ∧ some k_ ≠ (u5 : Value).ownBlock)) (HO563.out) (fun k_ hk => ⟨⟨hk.1, hk.2.2⟩, hk.2.1⟩)))); (case aB => exact (by repeat (first | (with_reducible first | exact HB.out | apply below_alloc | apply pw_below_drewN | apply below_drew1) | exact HB.out))); (case aF => exact (fun k_ hk => ⟨(Nat.le_trans (below_size (by repeat (first | (with_reducible first | exact HB.out | apply below_alloc | apply pw_below_drewN | apply below_drew1) | exact HB.out))) hk), Kd.fresh' (Kd.R_lt (by (with_reducible repeat (first | apply Kd.R_alloc | apply Kd.R_drewN | apply Kd.R_drew)); exact HO560.out)) k_ hk⟩)); (case aO => exact (by (with_reducible repeat (first | apply Kd.N_alloc | apply Kd.N_drewN | apply Kd.N_drew)); exact Kd.N_mono HO_5.out (fun _ hk => ⟨hk.1.1, hk.1.2⟩))); (case aS => exact (below_size (by repeat (first | (with_reducible first | exact HB.out | apply below_alloc | apply pw_below_drewN | apply below_drew1) | exact HB.out)))); (case aL => have := LMc17.out; omega); intro v565 w22 ho hb hg hat; rw [← Ny564.out] at ho; have n0_ := Aside0.mk (Kd.R_over' (by (with_reducible repeat (first | apply Kd.R_alloc | apply Kd.R_drewN | apply Kd.R_drew)); exact HO560.out) (Kd.N_typed (by (with_reducible repeat (first | apply Kd.N_alloc | apply Kd.N_drewN | apply Kd.N_drew)); exact HO_5.out)) (by decide) hg); have n1_ := Aside0.mk (Kd.N_afterv (ok := (fun k_ => (w.heap.size ≤ k_) ∧ some k_ ≠ (.slice Ao20 y558.length co20 : Value).ownBlock)) (by (with_reducible repeat (first | apply Kd.N_alloc | apply Kd.N_drewN | apply Kd.N_drew)); exact Kd.N_mono HO563.out (fun _ hk => ⟨⟨hk.1, hk.2.2⟩, hk.2.1⟩)) hg hat); have n2_ := Aside0.mk (hb); have n3_ := Aside0.mk (ho); clear HO560; clear HO563; clear HB; clear HO_5; have HO560 := n0_; have HO563 := n1_; have HB := n2_; have HO566 := n3_; clear n0_ n1_ n2_ n3_; clear ho hb hg hat))
                go_roundg k1
                case measure => have := HK1.out; omega
                case rel => exact ⟨(y564), (wrap64 (x6_1 + 1)), (by first | rfl | (simp; done) | (simp [*]; done)), H', ⟨by have := HK1.out; omega⟩, ⟨by (with_reducible repeat (first | apply Kd.N_alloc | apply Kd.N_drewN | apply Kd.N_drew)); exact Kd.N_mono HO566.out (fun _ hk => hk.1)⟩, ⟨by repeat (first | (with_reducible first | exact HB.out | apply below_alloc | apply pw_below_drewN | apply below_drew1) | exact HB.out)⟩⟩
              · rw [if_neg c17] at H
                exact absurd H (by simp)
            · rw [if_neg c15] at H
              exact absurd H (by simp)
        · rw [if_neg c11] at H
          have c11b0 : decide (x6_1 < a0) = false := decide_eq_false c11
          clear c11
          obtain rfl := Option.some.inj H
          go_wp2
          go_ret
          exact ⟨_, by first | rfl | (simp [errW_none, errW_some] <;> rfl) | (simp [*, errW_none, errW_some] <;> rfl), by (with_reducible repeat (first | apply Kd.N_alloc | apply Kd.N_drewN | apply Kd.N_drew)); exact HO_5.out, by repeat (first | (with_reducible first | exact HB.out | apply below_alloc | apply pw_below_drewN | apply below_drew1) | exact HB.out)⟩

/-! ### spec_BestDoor: function 44 -/
def spec_BestDoor.l0 : Nat → List (S67) → List (List Int) → List Int → Int → Int → Option (List Int × Int × Int)
  | 0, _, _, _, _, _ => none
  | k + 1, x0, x5, x6, x7, x8 => if x8 < (x5.length : Int) then (if 0 ≤ x8 then ((spec_l07Waiting.f k x0 (rd_L1 x5 x8)).bind fun t580 => (if t580 < x7 then (spec_BestDoor.l0 k x0 x5 (rd_L1 x5 x8) t580 (wrap64 (x8 + 1))) else (spec_BestDoor.l0 k x0 x5 x6 x7 (wrap64 (x8 + 1))))) else (none)) else (some (x6, x7, 0))
def spec_BestDoor.f (k : Nat) (l0 : List (S67)) : Option (List Int × Int × Int) := (spec_l07Parties.f k l0).bind fun t567 => (if t567 = true then ((spec_l07Orders.f k (l0.length : Int) (([] : List Int))).bind fun t574 => (if 0 < (t574.length : Int) then ((spec_l07Waiting.f k l0 (rd_L1 t574 0)).bind fun t578 => (spec_BestDoor.l0 k l0 t574 (rd_L1 t574 0) t578 1)) else (none))) else (some ((([] : List Int)), 0, 1)))
theorem spec_BestDoor.mono_l : ∀ k, (∀ y0 y1 y2 y3 y4, LeO (spec_BestDoor.l0 k y0 y1 y2 y3 y4) (spec_BestDoor.l0 (k + 1) y0 y1 y2 y3 y4))
  | 0 => fun _ _ _ _ _ r h => by simp [spec_BestDoor.l0] at h
  | k + 1 => by
    have ih0 := spec_BestDoor.mono_l k
    · intro y0 y1 y2 y3 y4
      unfold spec_BestDoor.l0
      repeat' first
      | (with_reducible exact ih0 _ _ _ _ _)
      | (with_reducible exact spec_l07Orders.mono _ _ _)
      | (with_reducible exact spec_l07Parties.mono _ _)
      | (with_reducible exact spec_l07Waiting.mono _ _ _)
      | (with_reducible exact LeO.refl _)
      | (with_reducible exact LeO.none _)
      | (with_reducible refine LeO.ite ?_ ?_)
      | (with_reducible refine LeO.bind ?_ (fun _ => ?_))
      | exact ih0 _ _ _ _ _
      | exact spec_l07Orders.mono _ _ _
      | exact spec_l07Parties.mono _ _
      | exact spec_l07Waiting.mono _ _ _
      | exact LeO.none _
      | refine LeO.ite ?_ ?_
      | refine LeO.bind ?_ (fun _ => ?_)
theorem spec_BestDoor.mono : ∀ a0 k, LeO (spec_BestDoor.f k a0) (spec_BestDoor.f (k + 1) a0) := by
  intro a0 k
  have ih0 := spec_BestDoor.mono_l k
  unfold spec_BestDoor.f
  repeat' first
      | (with_reducible exact ih0 _ _ _ _ _)
      | (with_reducible exact spec_l07Orders.mono _ _ _)
      | (with_reducible exact spec_l07Parties.mono _ _)
      | (with_reducible exact spec_l07Waiting.mono _ _ _)
      | (with_reducible exact LeO.refl _)
      | (with_reducible exact LeO.none _)
      | (with_reducible refine LeO.ite ?_ ?_)
      | (with_reducible refine LeO.bind ?_ (fun _ => ?_))
      | exact ih0 _ _ _ _ _
      | exact spec_l07Orders.mono _ _ _
      | exact spec_l07Parties.mono _ _
      | exact spec_l07Waiting.mono _ _ _
      | exact LeO.none _
      | refine LeO.ite ?_ ?_
      | refine LeO.bind ?_ (fun _ => ?_)
set_option maxHeartbeats 8000000 in
set_option maxRecDepth 100000 in
theorem spec_BestDoor.calls (k : Nat) (A0 : Option Addr) (c0 : Nat) (l0 : List (S67)) (r1 : List Int) (r2 : Int) (r3 : Int) (w : World) (hr0 : Kd.C k67 w A0 l0.length l0) (hc0 : l0.length ≤ c0) (h : spec_BestDoor.f k l0 = some (r1, r2, r3)) :
    Calls Try.prog 44 #[.slice A0 l0.length c0] w fun e w' => ∃ v0_ : Value, e = .returned (.tuple #[v0_, .int .i64 r2, .int .i64 r3]) ∧ Kd.V (Kd.int .i64) 2 w' w.heap.size (fun k_ => (w.heap.size ≤ k_)) v0_ r1 ∧ Below w.heap.size w w' := by
  have HR0 := Aside0.mk hr0
  have HC0 := Aside0.mk hc0
  clear hr0 hc0
  have HB := Aside0.mk (Below.refl w.heap.size w)
  have H : ((spec_l07Parties.f k l0).bind fun t567 => (if t567 = true then ((spec_l07Orders.f k (l0.length : Int) (([] : List Int))).bind fun t574 => (if 0 < (t574.length : Int) then ((spec_l07Waiting.f k l0 (rd_L1 t574 0)).bind fun t578 => (spec_BestDoor.l0 k l0 t574 (rd_L1 t574 0) t578 1)) else (none))) else (some ((([] : List Int)), 0, 1)))) = some (r1, r2, r3) := h
  clear h
  replace H := Option.bind_eq_some_iff.mp H
  obtain ⟨t567, A20, H⟩ := H
  replace H : (if t567 = true then ((spec_l07Orders.f k (l0.length : Int) (([] : List Int))).bind fun t574 => (if 0 < (t574.length : Int) then ((spec_l07Waiting.f k l0 (rd_L1 t574 0)).bind fun t578 => (spec_BestDoor.l0 k l0 t574 (rd_L1 t574 0) t578 1)) else (none))) else (some ((([] : List Int)), 0, 1))) = some (r1, r2, r3) := H
  have A2 := Aside0.mk A20
  clear A20
  by_cases c3 : t567 = true
  · subst c3
    have H1 : ((spec_l07Orders.f k (l0.length : Int) (([] : List Int))).bind fun t574 => (if 0 < (t574.length : Int) then ((spec_l07Waiting.f k l0 (rd_L1 t574 0)).bind fun t578 => (spec_BestDoor.l0 k l0 t574 (rd_L1 t574 0) t578 1)) else (none))) = some (r1, r2, r3) := by rw [if_pos rfl] at H; exact H
    clear H
    have H := H1
    clear H1
    obtain ⟨y571, hy571⟩ : ∃ y_ : List Int, y_ = (([] : List Int)) := ⟨_, rfl⟩
    replace H : ((spec_l07Orders.f k (l0.length : Int) y571).bind fun t574 => (if 0 < (t574.length : Int) then ((spec_l07Waiting.f k l0 (rd_L1 t574 0)).bind fun t578 => (spec_BestDoor.l0 k l0 t574 (rd_L1 t574 0) t578 1)) else (none))) = some (r1, r2, r3) := by first | (rw [hy571]; with_reducible exact H) | (have H2_ := (Option.bind_some _ _).symm.trans H; rw [hy571]; with_reducible exact H2_) | (have H2_ := (Option.bind_some _ _).symm.trans H; with_reducible exact H2_) | with_reducible exact H | (rw [hy571]; exact H) | exact H
    have Ny571 := Aside0.mk hy571
    clear hy571
    replace H := Option.bind_eq_some_iff.mp H
    obtain ⟨t574, A40, H⟩ := H
    replace H : (if 0 < (t574.length : Int) then ((spec_l07Waiting.f k l0 (rd_L1 t574 0)).bind fun t578 => (spec_BestDoor.l0 k l0 t574 (rd_L1 t574 0) t578 1)) else (none)) = some (r1, r2, r3) := H
    have A4 := Aside0.mk A40
    clear A40
    by_cases c5 : 0 < (t574.length : Int)
    · rw [if_pos c5] at H
      have c5b0 : decide (0 < (t574.length : Int)) = true := decide_eq_true c5
      have c5b1 : decide (0 < t574.length) = true := decide_eq_true (by omega)
      clear c5
      replace H := Option.bind_eq_some_iff.mp H
      obtain ⟨t578, A60, H⟩ := H
      replace H : (spec_BestDoor.l0 k l0 t574 (rd_L1 t574 0) t578 1) = some (r1, r2, r3) := H
      have A6 := Aside0.mk A60
      clear A60
      have H' := Aside0.mk H
      clear H
      go_enter Try.func44, Try.ntmps44
      go_wp2_with (first | ((with_reducible refine gate_callee (f := 56) rfl ?_); refine goesL_ (some 11) rfl rfl Try.func56 (by kernel_rfl) rfl #[.slice A0 l0.length c0] rfl (by (try simp only [List.map_toArray, List.map_cons, List.map_nil]); first | done | rfl | (simp only [List.length_drop, List.length_take]; rfl)) ?_; (with_reducible refine (spec_l07Parties.calls k _ _ l0 true _ ?side1 ?side2 A2.out).mono ?_); (case side1 => repeat (first | exact HR0.out | (with_reducible refine Kd.C_alloc ?_ _) | (with_reducible refine Kd.C_drewN ?_ _) | (with_reducible refine Kd.C_drew ?_))); (case side2 => exact HC0.out); rintro e w' ⟨rfl, ⟨nd, rfl⟩⟩; refine ⟨_, rfl, ?_⟩) | ((with_reducible refine gate_dst (N := 16) rfl ?_); refine Kd.R_lit (Kd.int .i64) _ 2 ?hg (N := 16) ?hd (xs := ([] : List Int)) (inner := []) (ok := fun _ => True) (okp := fun _ => True) ?hr ?hp (fun _ hk => hk) trivial (Below.refl _ _) (Nat.le_refl _) (by simp) ?_; (case hd => rfl); (case hg => rfl); (case hr => first | (go_simp; done) | (go_simp; rfl)); (case hp => exact (Reps.none _ _)); intro v572 w7 ho8 hb hg_ hnew_; clear hg_ hnew_; (first | rw [← Ny571.out] at ho8 | (simp only [Int.reduceToNat] at ho8; rw [← Ny571.out] at ho8)); have n0_ := Aside0.mk (Kd.R_lower (Kd.R_newM (M := fun k_ => (w.heap.size ≤ k_)) ho8 (below_size (by repeat (first | (with_reducible first | exact HB.out | apply below_alloc | apply pw_below_drewN | apply below_drew1) | exact HB.out))) (fun k_ h_ => h_)) (below_size (by repeat (first | (with_reducible first | exact HB.out | apply below_alloc | apply pw_below_drewN | apply below_drew1) | exact HB.out)))); have n1_ := Aside0.mk (below_step (by repeat (first | (with_reducible first | exact HB.out | apply below_alloc | apply pw_below_drewN | apply below_drew1) | exact HB.out)) hb); clear HB; have HO573 := n0_; have HB := n1_; clear n0_ n1_; clear hb ho8; obtain ⟨Ao9, co9, eo9⟩ := Kd.R_slice HO573.out; subst eo9) | ((with_reducible refine gate_callee (f := 82) rfl ?_); refine goesL_ (some 17) rfl rfl Try.func82 (by kernel_rfl) rfl #[.int .i64 (l0.length : Int), .slice Ao9 y571.length co9] rfl (by (try simp only [List.map_toArray, List.map_cons, List.map_nil]); first | done | rfl | (simp only [List.length_drop, List.length_take]; rfl)) ?_; (with_reducible refine (spec_l07Orders.calls k (l0.length : Int) _ _ y571 t574 _ ?side1 ?side2 A4.out).mono ?_); (case side1 => repeat (first | exact (Kd.R_reads' HO573.out).2.2 | (with_reducible refine Kd.C_alloc ?_ _) | (with_reducible refine Kd.C_drewN ?_ _) | (with_reducible refine Kd.C_drew ?_))); (case side2 => exact (Kd.R_reads' HO573.out).2.1); rintro e w10 ⟨v575, rfl, ho0, hb⟩; refine ⟨_, rfl, ?_⟩; have n0_ := Aside0.mk (Kd.R_below (by (with_reducible repeat (first | apply Kd.R_alloc | apply Kd.R_drewN | apply Kd.R_drew)); exact HO573.out) hb); have n1_ := Aside0.mk (Kd.N_lower (Kd.N_mono (ok' := fun k_ => (w.heap.size ≤ k_) ∧ some k_ ≠ (.slice Ao9 y571.length co9 : Value).ownBlock) ho0 (fun k_ hk_ => ⟨(Nat.le_trans (below_size (by repeat (first | (with_reducible first | exact HB.out | apply below_alloc | apply pw_below_drewN | apply below_drew1) | exact HB.out))) hk_), (Kd.fresh' (Kd.R_lt (by (with_reducible repeat (first | apply Kd.R_alloc | apply Kd.R_drewN | apply Kd.R_drew)); exact HO573.out)) k_ hk_)⟩)) (below_size (by repeat (first | (with_reducible first | exact HB.out | apply below_alloc | apply pw_below_drewN | apply below_drew1) | exact HB.out)))); have n2_ := Aside0.mk (below_step (by repeat (first | (with_reducible first | exact HB.out | apply below_alloc | apply pw_below_drewN | apply below_drew1) | exact HB.out)) hb); clear HO573; clear HB; have HO573 := n0_; have HO576 := n1_; have HB := n2_; clear n0_ n1_ n2_; (try clear hb); (try clear hb2); (try clear hk); (try clear hi); (try clear ho0); obtain ⟨Ao11, co11, eo11⟩ := Kd.N_slice HO576.out; subst eo11; have p577 : 0 ≤ (0 : Int) := (by omega); have q577 : 0 < (t574.length : Int) := of_decide_eq_true (by first | (with_reducible assumption) | assumption); obtain ⟨ad577, A577_0, c577_0, e577, hx577_0, hl577_0, hi577_0⟩ := at_L1 (Kd.N_reads' HO576.out).2.2 0 p577 q577; cases e577; obtain ⟨ce577, hce577, hMe577, hcc577⟩ := Kd.N_get HO576.out [] 0 p577 (by first | exact q577 | exact of_decide_eq_true (by first | (with_reducible assumption) | assumption) | (have e_ := (Kd.N_reads' HO576.out).1; omega)); obtain ⟨ua577_0, uc577_0, rfl, ul577_0, ge577_0⟩ := Kd.FK_slice_open hMe577; have hv577_0 := hcc577 0 _ rfl; rw [Nat.add_zero, show ((Kd.slice 2 (Kd.int .i64))).sz = 1 from rfl, Nat.mul_one] at hv577_0; replace hv577_0 := Option.some.inj (hv577_0.symm.trans hx577_0); injection hv577_0 with hva_ hvn_ hvc_; rw [hva_] at ge577_0; rw [hvc_] at ul577_0; have HL577_0 := Aside0.mk (show Kd.V (Kd.int .i64) 2 _ w.heap.size _ _ (rd_L1 t574 0) from Kd.V_mk ul577_0 ge577_0); clear hva_ hvn_ hvc_ ge577_0 ul577_0; clear hcc577 hce577; have qi577 : (0 < t574.length) = True := eq_true (by omega); (try rw [show ((0 : Int)).toNat = 0 from rfl] at hx577_0); (try rw [Addr.add_zero'] at hx577_0); have HR577_0 := Aside0.mk hi577_0; have HC577_0 := Aside0.mk hl577_0; clear hi577_0 hl577_0; replace p577 := eq_true p577; replace q577 := eq_true q577) | ((with_reducible refine gate_callee (f := 74) rfl ?_); refine goesL_ (some 23) rfl rfl Try.func74 (by kernel_rfl) rfl #[.slice A0 l0.length c0, .slice A577_0 (rd_L1 t574 0).length c577_0] rfl (by (try simp only [List.map_toArray, List.map_cons, List.map_nil]); first | done | rfl | (simp only [List.length_drop, List.length_take]; rfl)) ?_; (with_reducible refine (spec_l07Waiting.calls k _ _ l0 _ _ (rd_L1 t574 0) t578 _ ?side1 ?side2 ?side3 ?side4 A6.out).mono ?_); (case side1 => repeat (first | exact (Kd.C_below HR0.out HB.out) | (with_reducible refine Kd.C_alloc ?_ _) | (with_reducible refine Kd.C_drewN ?_ _) | (with_reducible refine Kd.C_drew ?_))); (case side2 => exact HC0.out); (case side3 => repeat (first | exact (by repeat (first | (with_reducible exact HR577_0.out) | (with_reducible refine Kd.C_alloc ?_ _) | (with_reducible refine Kd.C_drewN ?_ _) | (with_reducible refine Kd.C_drew ?_) | exact HR577_0.out)) | (with_reducible refine Kd.C_alloc ?_ _) | (with_reducible refine Kd.C_drewN ?_ _) | (with_reducible refine Kd.C_drew ?_))); (case side4 => exact HC577_0.out); rintro e w12 ⟨rfl, hb⟩; refine ⟨_, rfl, ?_⟩; have n0_ := Aside0.mk (Kd.R_below (by (with_reducible repeat (first | apply Kd.R_alloc | apply Kd.R_drewN | apply Kd.R_drew)); exact HO573.out) hb); have n1_ := Aside0.mk (Kd.N_below (by (with_reducible repeat (first | apply Kd.N_alloc | apply Kd.N_drewN | apply Kd.N_drew)); exact HO576.out) hb); have n2_ := Aside0.mk (Kd.V_below (by (with_reducible repeat (first | apply Kd.V_alloc | apply Kd.V_drewN | apply Kd.V_drew)); exact HL577_0.out) hb); have n3_ := Aside0.mk (Kd.C_below (by repeat (first | (with_reducible exact HR577_0.out) | (with_reducible refine Kd.C_alloc ?_ _) | (with_reducible refine Kd.C_drewN ?_ _) | (with_reducible refine Kd.C_drew ?_) | exact HR577_0.out)) hb); have n4_ := Aside0.mk (below_step (by repeat (first | (with_reducible first | exact HB.out | apply below_alloc | apply pw_below_drewN | apply below_drew1) | exact HB.out)) hb); clear HO573; clear HO576; clear HL577_0; clear HR577_0; clear HB; have HO573 := n0_; have HO576 := n1_; have HL577_0 := n2_; have HR577_0 := n3_; have HB := n4_; clear n0_ n1_ n2_ n3_ n4_; (try clear hb); (try clear hb2); (try clear hk); (try clear hi)))
      go_loopg [6, 7, 8] k (fun kq v6 v7 v8 w' => ∃ (x6_1 : List Int) (x7_1 : Int) (x8_1 : Int), v7 = .int .i64 x7_1 ∧ v8 = .int .i64 x8_1 ∧ Aside0 (spec_BestDoor.l0 kq l0 t574 x6_1 x7_1 x8_1 = some (r1, r2, r3)) ∧ Aside0 (kq ≤ k) ∧ Aside0 (Kd.N (Kd.slice 2 (Kd.int .i64)) 22 w' w.heap.size (fun k_ => (w.heap.size ≤ k_)) (.slice (some ad577) t574.length co11) t574) ∧ Aside0 (Kd.V (Kd.int .i64) 2 w' w.heap.size (fun k_ => (w.heap.size ≤ k_) ∧ some k_ ≠ ((.slice (some ad577) t574.length co11) : Value).ownBlock) v6 x6_1) ∧ Aside0 (Kd.C (Kd.int .i64) w' A577_0 (rd_L1 t574 0).length (rd_L1 t574 0)) ∧ Aside0 (Below w.heap.size w w'))
      case atStart => exact ⟨(rd_L1 t574 0), (t578), (1), (by first | rfl | (simp; done) | (simp [*]; done)), (by first | rfl | (simp; done) | (simp [*]; done)), H', ⟨Nat.le_refl _⟩, ⟨by (with_reducible repeat (first | apply Kd.N_alloc | apply Kd.N_drewN | apply Kd.N_drew)); exact Kd.N_mono HO576.out (fun _ hk => hk.1)⟩, ⟨by (with_reducible repeat (first | apply Kd.V_alloc | apply Kd.V_drewN | apply Kd.V_drew)); exact Kd.V_mono HL577_0.out (fun _ hk => ⟨hk.1.1, hk.2⟩)⟩, ⟨by repeat (first | (with_reducible exact HR577_0.out) | (with_reducible refine Kd.C_alloc ?_ _) | (with_reducible refine Kd.C_drewN ?_ _) | (with_reducible refine Kd.C_drew ?_) | exact HR577_0.out)⟩, ⟨by repeat (first | (with_reducible first | exact HB.out | apply below_alloc | apply pw_below_drewN | apply below_drew1) | exact HB.out)⟩⟩
      case round =>
        clear H'
        try clear p2
        try clear c3
        try clear c4
        try clear c5
        try clear c5b0
        try clear c5b1
        try clear p5
        try clear q5
        try clear hx5
        try clear qi5
        try clear c7
        try clear c8
        try clear hx577_0
        try clear p577
        try clear q577
        obtain ⟨x6_1, x7_1, x8_1, rfl, rfl, HA, HK1, HO_5, HO_6, HR577_0, HB⟩ := hrel
        cases gk with
        | zero => exact absurd HA.out (by simp [spec_BestDoor.l0])
        | succ k1 =>
          have H := HA.out
          clear HA
          simp only [spec_BestDoor.l0] at H
          by_cases c13 : x8_1 < (t574.length : Int)
          · rw [if_pos c13] at H
            have c13b0 : decide (x8_1 < (t574.length : Int)) = true := decide_eq_true c13
            clear c13
            by_cases c14 : 0 ≤ x8_1
            · rw [if_pos c14] at H
              have c14b0 : decide (0 ≤ x8_1) = true := decide_eq_true c14
              clear c14
              replace H := Option.bind_eq_some_iff.mp H
              obtain ⟨t580, A150, H⟩ := H
              replace H : (if t580 < x7_1 then (spec_BestDoor.l0 k1 l0 t574 (rd_L1 t574 x8_1) t580 (wrap64 (x8_1 + 1))) else (spec_BestDoor.l0 k1 l0 t574 x6_1 x7_1 (wrap64 (x8_1 + 1)))) = some (r1, r2, r3) := H
              have A15 := Aside0.mk A150
              clear A150
              by_cases c16 : t580 < x7_1
              · rw [if_pos c16] at H
                have c16b0 : decide (t580 < x7_1) = true := decide_eq_true c16
                clear c16
                have H' := Aside0.mk H
                clear H
                have p579 : 0 ≤ (x8_1 : Int) := of_decide_eq_true (by first | (with_reducible assumption) | assumption)
                have q579 : x8_1 < (t574.length : Int) := of_decide_eq_true (by first | (with_reducible assumption) | assumption)
                obtain ⟨ad579, A579_0, c579_0, e579, hx579_0, hl579_0, hi579_0⟩ := at_L1 (Kd.N_reads' HO_5.out).2.2 x8_1 p579 q579
                obtain rfl : ad577 = ad579 := (by injection e579)
                obtain ⟨ce579, hce579, hMe579, hcc579⟩ := Kd.N_get HO_5.out [] x8_1 p579 (by first | exact q579 | exact of_decide_eq_true (by first | (with_reducible assumption) | assumption) | (have e_ := (Kd.N_reads' HO_5.out).1; omega))
                obtain ⟨ua579_0, uc579_0, rfl, ul579_0, ge579_0⟩ := Kd.FK_slice_open hMe579
                have hv579_0 := hcc579 0 _ rfl
                rw [Nat.add_zero, show ((Kd.slice 2 (Kd.int .i64))).sz = 1 from rfl, Nat.mul_one] at hv579_0
                replace hv579_0 := Option.some.inj (hv579_0.symm.trans hx579_0)
                injection hv579_0 with hva_ hvn_ hvc_
                rw [hva_] at ge579_0
                rw [hvc_] at ul579_0
                have HL579_0 := Aside0.mk (show Kd.V (Kd.int .i64) 2 _ w.heap.size _ _ (rd_L1 t574 x8_1) from Kd.V_mk ul579_0 ge579_0)
                clear hva_ hvn_ hvc_ ge579_0 ul579_0
                clear hcc579 hce579
                have HR579_0 := Aside0.mk hi579_0
                have HC579_0 := Aside0.mk hl579_0
                clear hi579_0 hl579_0
                replace p579 := eq_true p579
                replace q579 := eq_true q579
                go_wp2_with (first | ((with_reducible refine gate_callee (f := 74) rfl ?_); refine goesL_ (some 35) rfl rfl Try.func74 (by kernel_rfl) rfl #[.slice A0 l0.length c0, .slice A579_0 (rd_L1 t574 x8_1).length c579_0] rfl (by (try simp only [List.map_toArray, List.map_cons, List.map_nil]); first | done | rfl | (simp only [List.length_drop, List.length_take]; rfl)) ?_; (with_reducible refine (spec_l07Waiting.calls k1 _ _ l0 _ _ (rd_L1 t574 x8_1) t580 _ ?side1 ?side2 ?side3 ?side4 A15.out).mono ?_); (case side1 => repeat (first | exact (Kd.C_below HR0.out HB.out) | (with_reducible refine Kd.C_alloc ?_ _) | (with_reducible refine Kd.C_drewN ?_ _) | (with_reducible refine Kd.C_drew ?_))); (case side2 => exact HC0.out); (case side3 => repeat (first | exact (by repeat (first | (with_reducible exact HR579_0.out) | (with_reducible refine Kd.C_alloc ?_ _) | (with_reducible refine Kd.C_drewN ?_ _) | (with_reducible refine Kd.C_drew ?_) | exact HR579_0.out)) | (with_reducible refine Kd.C_alloc ?_ _) | (with_reducible refine Kd.C_drewN ?_ _) | (with_reducible refine Kd.C_drew ?_))); (case side4 => exact HC579_0.out); rintro e w17 ⟨rfl, hb⟩; refine ⟨_, rfl, ?_⟩; have n0_ := Aside0.mk (Kd.N_below (by (with_reducible repeat (first | apply Kd.N_alloc | apply Kd.N_drewN | apply Kd.N_drew)); exact HO_5.out) hb); have n1_ := Aside0.mk (Kd.V_below (by (with_reducible repeat (first | apply Kd.V_alloc | apply Kd.V_drewN | apply Kd.V_drew)); exact HO_6.out) hb); have n2_ := Aside0.mk (Kd.V_below (by (with_reducible repeat (first | apply Kd.V_alloc | apply Kd.V_drewN | apply Kd.V_drew)); exact HL579_0.out) hb); have n3_ := Aside0.mk (Kd.C_below (by repeat (first | (with_reducible exact HR577_0.out) | (with_reducible refine Kd.C_alloc ?_ _) | (with_reducible refine Kd.C_drewN ?_ _) | (with_reducible refine Kd.C_drew ?_) | exact HR577_0.out)) hb); have n4_ := Aside0.mk (Kd.C_below (by repeat (first | (with_reducible exact HR579_0.out) | (with_reducible refine Kd.C_alloc ?_ _) | (with_reducible refine Kd.C_drewN ?_ _) | (with_reducible refine Kd.C_drew ?_) | exact HR579_0.out)) hb); have n5_ := Aside0.mk (below_step (by repeat (first | (with_reducible first | exact HB.out | apply below_alloc | apply pw_below_drewN | apply below_drew1) | exact HB.out)) hb); clear HO_5; clear HO_6; clear HL579_0; clear HR577_0; clear HR579_0; clear HB; have HO_5 := n0_; have HO_6 := n1_; have HL579_0 := n2_; have HR577_0 := n3_; have HR579_0 := n4_; have HB := n5_; clear n0_ n1_ n2_ n3_ n4_ n5_; (try clear hb); (try clear hb2); (try clear hk); (try clear hi); have p581 : 0 ≤ (x8_1 : Int) := of_decide_eq_true (by first | (with_reducible assumption) | assumption); have q581 : x8_1 < (t574.length : Int) := of_decide_eq_true (by first | (with_reducible assumption) | assumption); obtain ⟨ad581, A581_0, c581_0, e581, hx581_0, hl581_0, hi581_0⟩ := at_L1 (Kd.N_reads' HO_5.out).2.2 x8_1 p581 q581; obtain rfl : ad577 = ad581 := (by injection e581); obtain ⟨ce581, hce581, hMe581, hcc581⟩ := Kd.N_get HO_5.out [] x8_1 p581 (by first | exact q581 | exact of_decide_eq_true (by first | (with_reducible assumption) | assumption) | (have e_ := (Kd.N_reads' HO_5.out).1; omega)); obtain ⟨ua581_0, uc581_0, rfl, ul581_0, ge581_0⟩ := Kd.FK_slice_open hMe581; have hv581_0 := hcc581 0 _ rfl; rw [Nat.add_zero, show ((Kd.slice 2 (Kd.int .i64))).sz = 1 from rfl, Nat.mul_one] at hv581_0; replace hv581_0 := Option.some.inj (hv581_0.symm.trans hx581_0); injection hv581_0 with hva_ hvn_ hvc_; rw [hva_] at ge581_0; rw [hvc_] at ul581_0; have HL581_0 := Aside0.mk (show Kd.V (Kd.int .i64) 2 _ w.heap.size _ _ (rd_L1 t574 x8_1) from Kd.V_mk ul581_0 ge581_0); clear hva_ hvn_ hvc_ ge581_0 ul581_0; clear hcc581 hce581; have HR581_0 := Aside0.mk hi581_0; have HC581_0 := Aside0.mk hl581_0; clear hi581_0 hl581_0; replace p581 := eq_true p581; replace q581 := eq_true q581))
                go_roundg k1
                case measure => have := HK1.out; omega
                case rel => exact ⟨(rd_L1 t574 x8_1), (t580), (wrap64 (x8_1 + 1)), (by first | rfl | (simp; done) | (simp [*]; done)), (by first | rfl | (simp; done) | (simp [*]; done)), H', ⟨by have := HK1.out; omega⟩, ⟨by (with_reducible repeat (first | apply Kd.N_alloc | apply Kd.N_drewN | apply Kd.N_drew)); exact HO_5.out⟩, ⟨by (with_reducible repeat (first | apply Kd.V_alloc | apply Kd.V_drewN | apply Kd.V_drew)); exact HL581_0.out⟩, ⟨by repeat (first | (with_reducible exact HR577_0.out) | (with_reducible refine Kd.C_alloc ?_ _) | (with_reducible refine Kd.C_drewN ?_ _) | (with_reducible refine Kd.C_drew ?_) | exact HR577_0.out)⟩, ⟨by repeat (first | (with_reducible first | exact HB.out | apply below_alloc | apply pw_below_drewN | apply below_drew1) | exact HB.out)⟩⟩
              · rw [if_neg c16] at H
                have c16b0 : decide (t580 < x7_1) = false := decide_eq_false c16
                clear c16
                have H' := Aside0.mk H
                clear H
                have p579 : 0 ≤ (x8_1 : Int) := of_decide_eq_true (by first | (with_reducible assumption) | assumption)
                have q579 : x8_1 < (t574.length : Int) := of_decide_eq_true (by first | (with_reducible assumption) | assumption)
                obtain ⟨ad579, A579_0, c579_0, e579, hx579_0, hl579_0, hi579_0⟩ := at_L1 (Kd.N_reads' HO_5.out).2.2 x8_1 p579 q579
                obtain rfl : ad577 = ad579 := (by injection e579)
                obtain ⟨ce579, hce579, hMe579, hcc579⟩ := Kd.N_get HO_5.out [] x8_1 p579 (by first | exact q579 | exact of_decide_eq_true (by first | (with_reducible assumption) | assumption) | (have e_ := (Kd.N_reads' HO_5.out).1; omega))
                obtain ⟨ua579_0, uc579_0, rfl, ul579_0, ge579_0⟩ := Kd.FK_slice_open hMe579
                have hv579_0 := hcc579 0 _ rfl
                rw [Nat.add_zero, show ((Kd.slice 2 (Kd.int .i64))).sz = 1 from rfl, Nat.mul_one] at hv579_0
                replace hv579_0 := Option.some.inj (hv579_0.symm.trans hx579_0)
                injection hv579_0 with hva_ hvn_ hvc_
                rw [hva_] at ge579_0
                rw [hvc_] at ul579_0
                have HL579_0 := Aside0.mk (show Kd.V (Kd.int .i64) 2 _ w.heap.size _ _ (rd_L1 t574 x8_1) from Kd.V_mk ul579_0 ge579_0)
                clear hva_ hvn_ hvc_ ge579_0 ul579_0
                clear hcc579 hce579
                have HR579_0 := Aside0.mk hi579_0
                have HC579_0 := Aside0.mk hl579_0
                clear hi579_0 hl579_0
                replace p579 := eq_true p579
                replace q579 := eq_true q579
                go_wp2_with (first | ((with_reducible refine gate_callee (f := 74) rfl ?_); refine goesL_ (some 35) rfl rfl Try.func74 (by kernel_rfl) rfl #[.slice A0 l0.length c0, .slice A579_0 (rd_L1 t574 x8_1).length c579_0] rfl (by (try simp only [List.map_toArray, List.map_cons, List.map_nil]); first | done | rfl | (simp only [List.length_drop, List.length_take]; rfl)) ?_; (with_reducible refine (spec_l07Waiting.calls k1 _ _ l0 _ _ (rd_L1 t574 x8_1) t580 _ ?side1 ?side2 ?side3 ?side4 A15.out).mono ?_); (case side1 => repeat (first | exact (Kd.C_below HR0.out HB.out) | (with_reducible refine Kd.C_alloc ?_ _) | (with_reducible refine Kd.C_drewN ?_ _) | (with_reducible refine Kd.C_drew ?_))); (case side2 => exact HC0.out); (case side3 => repeat (first | exact (by repeat (first | (with_reducible exact HR579_0.out) | (with_reducible refine Kd.C_alloc ?_ _) | (with_reducible refine Kd.C_drewN ?_ _) | (with_reducible refine Kd.C_drew ?_) | exact HR579_0.out)) | (with_reducible refine Kd.C_alloc ?_ _) | (with_reducible refine Kd.C_drewN ?_ _) | (with_reducible refine Kd.C_drew ?_))); (case side4 => exact HC579_0.out); rintro e w18 ⟨rfl, hb⟩; refine ⟨_, rfl, ?_⟩; have n0_ := Aside0.mk (Kd.N_below (by (with_reducible repeat (first | apply Kd.N_alloc | apply Kd.N_drewN | apply Kd.N_drew)); exact HO_5.out) hb); have n1_ := Aside0.mk (Kd.V_below (by (with_reducible repeat (first | apply Kd.V_alloc | apply Kd.V_drewN | apply Kd.V_drew)); exact HO_6.out) hb); have n2_ := Aside0.mk (Kd.V_below (by (with_reducible repeat (first | apply Kd.V_alloc | apply Kd.V_drewN | apply Kd.V_drew)); exact HL579_0.out) hb); have n3_ := Aside0.mk (Kd.C_below (by repeat (first | (with_reducible exact HR577_0.out) | (with_reducible refine Kd.C_alloc ?_ _) | (with_reducible refine Kd.C_drewN ?_ _) | (with_reducible refine Kd.C_drew ?_) | exact HR577_0.out)) hb); have n4_ := Aside0.mk (Kd.C_below (by repeat (first | (with_reducible exact HR579_0.out) | (with_reducible refine Kd.C_alloc ?_ _) | (with_reducible refine Kd.C_drewN ?_ _) | (with_reducible refine Kd.C_drew ?_) | exact HR579_0.out)) hb); have n5_ := Aside0.mk (below_step (by repeat (first | (with_reducible first | exact HB.out | apply below_alloc | apply pw_below_drewN | apply below_drew1) | exact HB.out)) hb); clear HO_5; clear HO_6; clear HL579_0; clear HR577_0; clear HR579_0; clear HB; have HO_5 := n0_; have HO_6 := n1_; have HL579_0 := n2_; have HR577_0 := n3_; have HR579_0 := n4_; have HB := n5_; clear n0_ n1_ n2_ n3_ n4_ n5_; (try clear hb); (try clear hb2); (try clear hk); (try clear hi)))
                go_roundg k1
                case measure => have := HK1.out; omega
                case rel => exact ⟨(x6_1), (x7_1), (wrap64 (x8_1 + 1)), (by first | rfl | (simp; done) | (simp [*]; done)), (by first | rfl | (simp; done) | (simp [*]; done)), H', ⟨by have := HK1.out; omega⟩, ⟨by (with_reducible repeat (first | apply Kd.N_alloc | apply Kd.N_drewN | apply Kd.N_drew)); exact HO_5.out⟩, ⟨by (with_reducible repeat (first | apply Kd.V_alloc | apply Kd.V_drewN | apply Kd.V_drew)); exact HO_6.out⟩, ⟨by repeat (first | (with_reducible exact HR577_0.out) | (with_reducible refine Kd.C_alloc ?_ _) | (with_reducible refine Kd.C_drewN ?_ _) | (with_reducible refine Kd.C_drew ?_) | exact HR577_0.out)⟩, ⟨by repeat (first | (with_reducible first | exact HB.out | apply below_alloc | apply pw_below_drewN | apply below_drew1) | exact HB.out)⟩⟩
            · rw [if_neg c14] at H
              exact absurd H (by simp)
          · rw [if_neg c13] at H
            have c13b0 : decide (x8_1 < (t574.length : Int)) = false := decide_eq_false c13
            clear c13
            simp only [Option.some.injEq, Prod.mk.injEq] at H
            obtain ⟨rfl, rfl, rfl⟩ := H
            go_wp2
            go_ret3
            exact ⟨_, by first | rfl | (simp [errW_none, errW_some] <;> rfl) | (simp [*, errW_none, errW_some] <;> rfl), by (with_reducible repeat (first | apply Kd.V_alloc | apply Kd.V_drewN | apply Kd.V_drew)); exact Kd.V_mono HO_6.out (fun _ hk => hk.1), by repeat (first | (with_reducible first | exact HB.out | apply below_alloc | apply pw_below_drewN | apply below_drew1) | exact HB.out)⟩
    · rw [if_neg c5] at H
      exact absurd H (by simp)
  · replace c3 := Bool.eq_false_iff.mpr c3
    subst c3
    have H1 : (some ((([] : List Int)), 0, 1)) = some (r1, r2, r3) := by rw [if_neg (show ¬ (false = true) by decide)] at H; exact H
    clear H
    have H := H1
    clear H1
    obtain ⟨y568, hy568⟩ : ∃ y_ : List Int, y_ = (([] : List Int)) := ⟨_, rfl⟩
    replace H : (some (y568, 0, 1)) = some (r1, r2, r3) := by first | (rw [hy568]; with_reducible exact H) | (have H2_ := (Option.bind_some _ _).symm.trans H; rw [hy568]; with_reducible exact H2_) | (have H2_ := (Option.bind_some _ _).symm.trans H; with_reducible exact H2_) | with_reducible exact H | (rw [hy568]; exact H) | exact H
    have Ny568 := Aside0.mk hy568
    clear hy568
    simp only [Option.some.injEq, Prod.mk.injEq] at H
    obtain ⟨rfl, rfl, rfl⟩ := H
    go_enter Try.func44, Try.ntmps44
    go_wp2_with (first | ((with_reducible refine gate_callee (f := 56) rfl ?_); refine goesL_ (some 11) rfl rfl Try.func56 (by kernel_rfl) rfl #[.slice A0 l0.length c0] rfl (by (try simp only [List.map_toArray, List.map_cons, List.map_nil]); first | done | rfl | (simp only [List.length_drop, List.length_take]; rfl)) ?_; (with_reducible refine (spec_l07Parties.calls k _ _ l0 false _ ?side1 ?side2 A2.out).mono ?_); (case side1 => repeat (first | exact HR0.out | (with_reducible refine Kd.C_alloc ?_ _) | (with_reducible refine Kd.C_drewN ?_ _) | (with_reducible refine Kd.C_drew ?_))); (case side2 => exact HC0.out); rintro e w' ⟨rfl, ⟨nd, rfl⟩⟩; refine ⟨_, rfl, ?_⟩) | ((with_reducible refine gate_dst (N := 13) rfl ?_); refine Kd.R_lit (Kd.int .i64) _ 2 ?hg (N := 13) ?hd (xs := ([] : List Int)) (inner := []) (ok := fun _ => True) (okp := fun _ => True) ?hr ?hp (fun _ hk => hk) trivial (Below.refl _ _) (Nat.le_refl _) (by simp) ?_; (case hd => rfl); (case hg => rfl); (case hr => first | (go_simp; done) | (go_simp; rfl)); (case hp => exact (Reps.none _ _)); intro v569 w19 ho20 hb hg_ hnew_; clear hg_ hnew_; (first | rw [← Ny568.out] at ho20 | (simp only [Int.reduceToNat] at ho20; rw [← Ny568.out] at ho20)); have n0_ := Aside0.mk (Kd.R_lower (Kd.R_newM (M := fun k_ => (w.heap.size ≤ k_)) ho20 (below_size (by repeat (first | (with_reducible first | exact HB.out | apply below_alloc | apply pw_below_drewN | apply below_drew1) | exact HB.out))) (fun k_ h_ => h_)) (below_size (by repeat (first | (with_reducible first | exact HB.out | apply below_alloc | apply pw_below_drewN | apply below_drew1) | exact HB.out)))); have n1_ := Aside0.mk (below_step (by repeat (first | (with_reducible first | exact HB.out | apply below_alloc | apply pw_below_drewN | apply below_drew1) | exact HB.out)) hb); clear HB; have HO570 := n0_; have HB := n1_; clear n0_ n1_; clear hb ho20))
    go_ret3
    exact ⟨_, by first | rfl | (simp [errW_none, errW_some] <;> rfl) | (simp [*, errW_none, errW_some] <;> rfl), Kd.R_V (by (with_reducible repeat (first | apply Kd.R_alloc | apply Kd.R_drewN | apply Kd.R_drew)); exact Kd.R_mono HO570.out (fun _ hk => hk.1)), by repeat (first | (with_reducible first | exact HB.out | apply below_alloc | apply pw_below_drewN | apply below_drew1) | exact HB.out)⟩

/-! ### ext impl_orders: function 83 -/

theorem contains_k (l : List Int) (x : Int) (hl : l.length ≤ 1000000) : ∃ k, slices_Contains_int64_int64.f k l x = some (decide (x ∈ l)) := by
  have key : ∀ (m i : Nat), i + m = l.length → (∀ j, j < i → l.getD j 0 ≠ x) → ∃ k r, slices_Index_int64_int64.l0 k l x (l.length : Int) (i : Int) = some r ∧ decide (r ≥ 0) = decide (x ∈ l) := by
    intro m
    induction m with
    | zero =>
      intro i hi hn
      refine ⟨1, -1, ?_, ?_⟩
      · simp only [slices_Index_int64_int64.l0]
        rw [if_neg (by omega)]
      · have : x ∉ l := by
          intro hx
          obtain ⟨j, hj, rfl⟩ := List.mem_iff_getElem.1 hx
          exact hn j (by omega) (by simp [List.getD_eq_getElem?_getD, List.getElem?_eq_getElem hj])
        simp [this]
    | succ m ih =>
      intro i hi hn
      by_cases hx : l.getD i 0 = x
      · refine ⟨1, i, ?_, ?_⟩
        · simp only [slices_Index_int64_int64.l0]
          rw [if_pos (by omega), if_pos (by omega), if_pos (by omega), if_pos (by simp [rd, ← hx])]
        · have hil : i < l.length := by omega
          have : x ∈ l := by
            rw [← hx]
            simp [List.getD_eq_getElem?_getD, List.getElem?_eq_getElem hil]
          simp [this]
      · obtain ⟨k, r, hk, hr⟩ := ih (i + 1) (by omega) (fun j hj => by
          rcases Nat.lt_succ_iff_lt_or_eq.1 hj with h | h
          · exact hn j h
          · subst h; exact hx)
        refine ⟨k + 1, r, ?_, hr⟩
        simp only [slices_Index_int64_int64.l0]
        have hw : wrap64 ((i : Int) + 1) = ((i + 1 : Nat) : Int) := by unfold wrap64; omega
        rw [if_pos (by omega), if_pos (by omega), if_pos (by omega), if_neg (by simp only [rd, Int.toNat_natCast]; exact fun h => hx h.symm), hw]
        exact hk
  obtain ⟨k, r, hk, hr⟩ := key l.length 0 (by omega) (fun j hj => absurd hj (by omega))
  refine ⟨k, ?_⟩
  unfold slices_Contains_int64_int64.f slices_Index_int64_int64.f
  have hk' : slices_Index_int64_int64.l0 k l x (l.length : Int) 0 = some r := hk
  rw [hk', Option.bind_some, hr]
theorem contains_any (A : Option Addr) (c : Nat) (l : List Int) (x : Int) (W : World) (hl : l.length ≤ 1000000) (hc : l.length ≤ c) (hr : Kd.C (Kd.int .i64) W A l.length l) :
    Calls Try.prog 102 #[.slice A l.length c, .int .i64 x] W fun e w' => e = .returned (.bool (decide (x ∈ l))) ∧ Drawn0 W w' := by
  obtain ⟨k, hk⟩ := contains_k l x hl
  exact slices_Contains_int64_int64.calls k A c l x _ W hr hc hk

def ordersM {σ : Type} (n : Nat) (step : σ → List Int → Option σ) : Nat → List Int → σ → Option σ
  | 0, _, _ => none
  | fuel + 1, l, s => if l.length = n then step s l else (List.range n).foldlM (fun s (i : Nat) => if (i : Int) ∈ l then some s else ordersM n step fuel (l ++ [(i : Int)]) s) s

theorem isfn_orders : ∀ (args : Array Value) (W : World), Sem.run Try.prog (callFunc 101 args) W = .ok (.enter 101 args) W := fun _ _ => by kernel_rfl

section
variable {σ : Type} (Inv : σ → World → Prop) (step : σ → List Int → Option σ) (F : Nat) (caps : Array Value) (S : Nat → Prop) (B : Nat)
/-- What 'orders' asks of the function that it calls. -/
structure EachOk : Prop where
  fn : IsFn F
  stable : ∀ s W W', Inv s W → Below W.heap.size W W' → Inv s W'
  each : ∀ s s' W v l, Inv s W → Kd.R (Kd.int .i64) 2 W B (fun k => ¬ S k) v l → step s l = some s' →
    Calls Try.prog F (#[v] ++ caps) W fun e w' => e = .returned (.tuple #[]) ∧ Inv s' w' ∧ Kept W w' S ∧ Below B W w'

set_option maxHeartbeats 16000000 in
set_option maxRecDepth 100000 in
theorem choose_any (hE : EachOk Inv step F caps S B) (hS : ∀ k, S k → B ≤ k) (n : Nat) (hn : n ≤ 1000) (bn be bc : Nat) (hsn : ¬ S bn) (hse : ¬ S be) (hsc : ¬ S bc) :
    ∀ (fuel : Nat) (W : World) (v : Value) (l : List Int) (s s1 : σ), Inv s W → W.heap[bn]? = some (.cells #[.int .i64 n] 3 (0, 0)) → W.heap[be]? = some (.cells #[.func (.func F) #[] caps] 92 (0, 0)) →
      W.heap[bc]? = some (.cells #[.func (.func 101) #[] #[.pointer (some ⟨bn, 0, none⟩), .pointer (some ⟨be, 0, none⟩), .pointer (some ⟨bc, 0, none⟩)]] 92 (0, 0)) →
      B ≤ W.heap.size → (∀ k, S k → k < W.heap.size) → l.length ≤ n → Kd.R (Kd.int .i64) 2 W B (fun k => ¬ S k) v l → ordersM n step fuel l s = some s1 →
      Calls Try.prog 101 #[v, .pointer (some ⟨bn, 0, none⟩), .pointer (some ⟨be, 0, none⟩), .pointer (some ⟨bc, 0, none⟩)] W fun e w' => e = .returned (.tuple #[]) ∧ Inv s1 w' ∧ Kept W w' S ∧ Below B W w' := by
  intro fuel
  induction fuel with
  | zero => intro W v l s s1 _ _ _ _ _ _ _ _ h; simp [ordersM] at h
  | succ fuel ih =>
    intro W v l s s1 hi hbn hbe hbc hbw hB hl hr h
    have HBW := Aside0.mk hbw
    clear hbw
    obtain ⟨A, c, rfl, hlc, hc⟩ := Kd.R_reads hr
    have IH := Aside0.mk ih
    have HE := Aside0.mk hE
    have HS := Aside0.mk hS
    have HI := Aside0.mk hi
    have HN := Aside0.mk hbn
    have HBE := Aside0.mk hbe
    have HBC := Aside0.mk hbc
    have HR := Aside0.mk hr
    have HC := Aside0.mk hc
    have HB := Aside0.mk hB
    have HF := Aside0.mk isfn_orders
    have hcn := blk_cell hbn 0
    have hce := blk_cell hbe 0
    have hcc := blk_cell hbc 0
    have hcf := hE.fn
    unfold IsFn at hcf
    clear ih hE hS hi hbn hbe hbc hr hc hB
    by_cases hln : l.length = n
    · simp only [ordersM, if_pos hln] at h
      have H := Aside0.mk h
      have heq : ((l.length : Int) == (n : Int)) = true := by simp [hln]
      clear h hln
      go_enter Try.func101, Try.ntmps101
      go_wp2_with fail
      with_reducible refine (HE.out.each s s1 _ _ l HI.out HR.out H.out).mono ?_
      rintro e w' ⟨rfl, hpost⟩
      have HP := Aside0.mk hpost
      clear hpost
      go_wp2
      exact bodyPost_ret (results_none rfl _ _ _) rfl ⟨rfl, HP.out⟩
    · simp only [ordersM, if_neg hln] at h
      have H := Aside0.mk h
      have heq : ((l.length : Int) == (n : Int)) = false := by simp; omega
      have hlt : l.length < n := by omega
      clear h hln
      go_enter Try.func101, Try.ntmps101
      go_wp2_with fail
      go_loopw [14] (fun i wr => ∃ (k : Nat) (sk : σ), k ≤ n ∧ i = .int .i64 k ∧ Aside0 (Inv sk wr) ∧ Aside0 (Kept W wr S) ∧ Aside0 (Below B W wr) ∧ Aside0 ((List.range' k (n - k)).foldlM (fun s (i : Nat) => if (i : Int) ∈ l then some s else ordersM n step fuel (l ++ [(i : Int)]) s) sk = some s1)) (fun i _ => n - (intOf i).toNat)
      case atStart => exact ⟨0, s, by omega, rfl, HI, ⟨Kept.refl _ _⟩, ⟨Below.refl _ _⟩, ⟨by rw [← List.range_eq_range']; exact H.out⟩⟩
      case round =>
        obtain ⟨k, sk, hk, rfl, HI2, HK, HB2, HM⟩ := hrel
        have hbn2 := blk_kept HN.out HK.out hsn
        have hbe2 := blk_kept HBE.out HK.out hse
        have hbc2 := blk_kept HBC.out HK.out hsc
        have HN2 := Aside0.mk hbn2
        have HBE2 := Aside0.mk hbe2
        have HBC2 := Aside0.mk hbc2
        have hcn2 := blk_cell hbn2 0
        have hce2 := blk_cell hbe2 0
        have hcc2 := blk_cell hbc2 0
        have HR2 := Aside0.mk (Kd.R_kept HR.out HK.out (fun k h => h))
        have HC2 := Aside0.mk ((Kd.R_reads' HR2.out).2.2)
        clear hbn2 hbe2 hbc2 hcn hce hcc
        by_cases hlt2 : k < n
        · have hM := HM.out
          rw [show n - k = (n - (k + 1)) + 1 by omega, List.range'_succ] at hM
          obtain ⟨s2, hs2, hM2⟩ := foldlM_cons_some hM
          have HM2 := Aside0.mk hM2
          have HS2 := Aside0.mk hs2
          clear hM hs2 hM2
          cases hin : decide ((k : Int) ∈ l) with
          | true =>
            have HIN := Aside0.mk hin
            clear hin
            go_wp2_with fail
            with_reducible refine (contains_any A c l (k : Int) _ (by omega) hlc HC2.out).mono ?_
            rw [HIN.out]
            rintro e w' ⟨rfl, ⟨nd, rfl⟩⟩
            go_wp2
            go_roundw
            case rel =>
              have e2 : sk = s2 := by
                have := HS2.out
                rw [if_pos (of_decide_eq_true HIN.out)] at this
                exact Option.some.inj this
              subst e2
              exact ⟨k + 1, sk, by omega, by go_num, ⟨HE.out.stable _ _ _ HI2.out (pw_below_drewN (Below.refl _ _) _)⟩, ⟨HK.out.drewN _⟩, ⟨pw_below_drewN HB2.out _⟩, HM2⟩
            case measure => simp [intOf]; omega
          | false =>
            have hS3 := HS2.out
            rw [if_neg (of_decide_eq_false hin)] at hS3
            have HS3 := Aside0.mk hS3
            clear hS3
            have HIN := Aside0.mk hin
            clear hin
            go_wp2_with fail
            with_reducible refine (contains_any A c l (k : Int) _ (by omega) hlc HC2.out).mono ?_
            rw [HIN.out]
            rintro e w' ⟨rfl, hd⟩
            have HD := Aside0.mk hd.below
            clear hd
            have hbc3 := (blk_kept HBC2.out (Kept.of_below HD.out S) hsc)
            have HN3 := Aside0.mk (blk_kept HN2.out (Kept.of_below HD.out S) hsn)
            have HBE3 := Aside0.mk (blk_kept HBE2.out (Kept.of_below HD.out S) hse)
            have HBC3 := Aside0.mk hbc3
            have hcc3 : w'.cell? ⟨bc, 0, none⟩ = some (.func (.func 101) #[] #[.pointer (some ⟨bn, 0, none⟩), .pointer (some ⟨be, 0, none⟩), .pointer (some ⟨bc, 0, none⟩)]) := blk_cell hbc3 0
            have hltc : bc < w'.heap.size := blk_lt hbc3
            have HC3 := Aside0.mk (Kd.C_below HC2.out HD.out)
            have HC4 := Aside0.mk (show Kd.C (Kd.int .i64) w'.drew A l.length l from HC3.out)
            have HI3 := Aside0.mk (HE.out.stable _ _ _ HI2.out HD.out)
            have HK3 := Aside0.mk (HK.out.below HD.out)
            have HSZ := Aside0.mk (Nat.le_trans HK.out.1 HD.out.size)
            clear hbc3 hcn2 hce2 hcc2
            go_wp2_with fail
            have hfar : ∀ w2 : World, Below w'.heap.size w' w2 → w2.cell? ⟨bc, 0, none⟩ = some (.func (.func 101) #[] #[.pointer (some ⟨bn, 0, none⟩), .pointer (some ⟨be, 0, none⟩), .pointer (some ⟨bc, 0, none⟩)]) := fun w2 hb => (hb.cell (p := ⟨bc, 0, none⟩) hltc).trans hcc3
            have HFAR := Aside0.mk hfar
            clear hfar
            have HC5 := Aside0.mk (show Kd.C (Kd.int .i64) (w'.alloc (.cells #[.int .i64 (k : Int)] 2)).drew A l.length l from Kd.C_alloc HC3.out _)
            go_region_held3 (fun w2 => w2.cell? ⟨bc, 0, none⟩ = some (.func (.func 101) #[] #[.pointer (some ⟨bn, 0, none⟩), .pointer (some ⟨be, 0, none⟩), .pointer (some ⟨bc, 0, none⟩)]))
              (first | assumption | exact hcc3 | exact HFAR.out _ HB1.out | exact HFAR.out _ (below_alloc HB1.out _) | exact HFAR.out _ (below_drew (below_alloc (Below.refl _ w') _)) | exact HFAR.out _ HBF.out | exact HFAR.out _ HB4.out)
              (first
                | (go_at_call 95; (with_reducible refine (clone64 A c l w'.drew (by omega) HC4.out).mono ?_); rintro e w1 ⟨v1, rfl, ho1, hb1⟩; have HO1 := Aside0.mk (show Kd.R (Kd.int .i64) 2 w1 w'.heap.size (fun _ => True) v1 l from ho1); have HB1 : Aside0 (Below w'.heap.size w' w1) := ⟨below_then (w := w') (w1 := w'.drew) (below_drew (Below.refl _ w')) (Nat.le_refl _) hb1⟩; clear ho1 hb1)
                | (go_at_call 95; (with_reducible refine (clone64 A c l (w'.alloc (.cells #[.int .i64 (k : Int)] 2)).drew (by omega) HC5.out).mono ?_); rintro e w1 ⟨v1, rfl, ho1, hb1⟩; have HBF : Aside0 (Below w'.heap.size w' w1) := ⟨below_then (w := w') (w1 := (w'.alloc (.cells #[.int .i64 (k : Int)] 2)).drew) (below_drew (below_alloc (Below.refl _ w') _)) (by simp) hb1⟩; have HOF : Aside0 (Kd.R (Kd.int .i64) 2 w1 w'.heap.size (fun _ => True) v1 l) := ⟨Kd.R_lower ho1 (by simp)⟩; have HRF : Aside0 (Kd.C (Kd.int .i64) w1 (some ⟨w'.heap.size, 0, none⟩) 1 [(k : Int)]) := ⟨one_read ((hb1.block w'.heap.size (by simp)).trans (heap_alloc_new w' _))⟩; clear ho1 hb1)
                | (refine Kd.R_append_step (Kd.int .i64) (w0 := w') w'.heap.size (by rfl) _ _ 22 2 (.int .i64 0) 8 (by rfl) Try.underlying22 info2 rfl (by decide) (by omega) v1 l (k : Int) [.int .i64 (k : Int)] (fun _ => True) (fun _ => False) (by rfl) (by rfl) (by exact rfl) (fun _ h => h.elim) (fun _ _ => trivial) HO1.out HB1.out HB1.out.size (by omega) ?_; intro v4 w4 ho4 hb4 hg4 hat4; have HO4 : Aside0 (Kd.R (Kd.int .i64) 2 w4 w'.heap.size (fun _ => True) v4 (l ++ [(k : Int)])) := ⟨ho4⟩; have HB4 : Aside0 (Below w'.heap.size w' w4) := ⟨hb4⟩; clear ho4 hb4 hg4 hat4; have HI4 := Aside0.mk (HE.out.stable _ _ _ HI3.out HB4.out); have HN4 := Aside0.mk (blk_kept HN3.out (Kept.of_below HB4.out S) hsn); have HBE4 := Aside0.mk (blk_kept HBE3.out (Kept.of_below HB4.out S) hse); have HBC4 := Aside0.mk (blk_kept HBC3.out (Kept.of_below HB4.out S) hsc); have HS4 := Aside0.mk (fun q (hq : S q) => Nat.lt_of_lt_of_le (HB.out q hq) (Nat.le_trans HSZ.out HB4.out.size)); have HL4 := Aside0.mk (show (l ++ [(k : Int)]).length ≤ n by simp; omega); have HBW4 := Aside0.mk (Nat.le_trans (Nat.le_trans HBW.out HSZ.out) HB4.out.size); have HO5 := Aside0.mk (Kd.R_lower (base' := B) (Kd.R_mono (ok' := fun q => ¬ S q) (Kd.R_bound HO4.out) (fun q hq hs => by have h1 := HB.out q hs; have h2 := HSZ.out; have h3 := hq.2.1; omega)) (Nat.le_trans HBW.out HSZ.out)))
                | (refine Kd.R_append_rows_step (Kd.int .i64) (w0 := w') w'.heap.size (by rfl) _ _ 22 2 (.int .i64 0) 8 (by rfl) Try.underlying22 info2 rfl (by decide) (by omega) v1 l [(k : Int)] _ _ _ (fun _ => True) (fun _ => False) (by rfl) (by rfl) HOF.out HRF.out (fun _ _ h => h) (fun _ h => h.elim) (fun _ _ => trivial) HBF.out HBF.out.size (by omega) ?_; intro v4 w4 ho4 hb4 hg4 hat4; have HO4 : Aside0 (Kd.R (Kd.int .i64) 2 w4 w'.heap.size (fun _ => True) v4 (l ++ [(k : Int)])) := ⟨ho4⟩; have HB4 : Aside0 (Below w'.heap.size w' w4) := ⟨hb4⟩; clear ho4 hb4 hg4 hat4; have HI4 := Aside0.mk (HE.out.stable _ _ _ HI3.out HB4.out); have HN4 := Aside0.mk (blk_kept HN3.out (Kept.of_below HB4.out S) hsn); have HBE4 := Aside0.mk (blk_kept HBE3.out (Kept.of_below HB4.out S) hse); have HBC4 := Aside0.mk (blk_kept HBC3.out (Kept.of_below HB4.out S) hsc); have HS4 := Aside0.mk (fun q (hq : S q) => Nat.lt_of_lt_of_le (HB.out q hq) (Nat.le_trans HSZ.out HB4.out.size)); have HL4 := Aside0.mk (show (l ++ [(k : Int)]).length ≤ n by simp; omega); have HBW4 := Aside0.mk (Nat.le_trans (Nat.le_trans HBW.out HSZ.out) HB4.out.size); have HO5 := Aside0.mk (Kd.R_lower (base' := B) (Kd.R_mono (ok' := fun q => ¬ S q) (Kd.R_bound HO4.out) (fun q hq hs => by have h1 := HB.out q hs; have h2 := HSZ.out; have h3 := hq.2.1; omega)) (Nat.le_trans HBW.out HSZ.out)))
                | (go_at_call 101; (with_reducible refine (IH.out _ v4 (l ++ [(k : Int)]) sk s2 HI4.out HN4.out HBE4.out HBC4.out HBW4.out HS4.out HL4.out HO5.out HS3.out).mono ?_); rintro e w5 ⟨rfl, hi5, hk5, hb5⟩; have HI5 := Aside0.mk hi5; have HK5 := Aside0.mk hk5; have HB5 := Aside0.mk hb5; have hcc5 : w5.cell? ⟨bc, 0, none⟩ = some (.func (.func 101) #[] #[.pointer (some ⟨bn, 0, none⟩), .pointer (some ⟨be, 0, none⟩), .pointer (some ⟨bc, 0, none⟩)]) := blk_cell (blk_kept HBC4.out hk5 hsc) 0; clear hi5 hk5 hb5))
            all_goals
              go_wp2
              go_roundw
              case rel => exact ⟨k + 1, s2, by omega, by go_num, HI5, ⟨(HK3.out.below HB4.out).then_ HK5.out (fun _ h => .inl h)⟩, ⟨(below_then (below_then HB2.out (Nat.le_trans HBW.out HK.out.1) HD.out) (Nat.le_trans HBW.out HSZ.out) HB4.out).trans HB5.out⟩, HM2⟩
              case measure => simp [intOf]; omega
        · have hge : ¬ (k : Int) < n := by omega
          have hM := HM.out
          rw [show n - k = 0 by omega, List.range'_zero, List.foldlM_nil] at hM
          obtain rfl := Option.some.inj hM
          clear hM
          go_wp2
          go_end0
          exact ⟨rfl, HI2.out, HK.out, HB2.out⟩

set_option maxHeartbeats 4000000 in
set_option maxRecDepth 100000 in
theorem orders_any (hE : EachOk Inv step F caps S B) (hS : ∀ k, S k → B ≤ k) (n : Nat) (hn : n ≤ 1000) (fuel : Nat) (W : World) (s s1 : σ) (hi : Inv s W) (hB : B ≤ W.heap.size) (hlt : ∀ k, S k → k < W.heap.size) (h : ordersM n step fuel [] s = some s1) :
    Calls Try.prog 83 #[.int .i64 n, .func (.func F) #[] caps] W fun e w' => e = .returned (.tuple #[]) ∧ Inv s1 w' ∧ Kept W w' S ∧ Below B W w' := by
  have HE := Aside0.mk hE
  have HS := Aside0.mk hS
  have HI := Aside0.mk hi
  have HB := Aside0.mk hB
  have HLT := Aside0.mk hlt
  have H := Aside0.mk h
  have hmf : ∀ (fn : Fn) (first cap : Array Value) (w : World), (Instr.makeFunc fn first cap).run Try.prog w = .ok (.func fn first cap) w := fun _ _ _ _ => rfl
  clear hE hS hi hB hlt h
  go_enter Try.func83, Try.ntmps83
  go_wp2_with fail
  have hbel := below_alloc (below_alloc (below_alloc (Below.refl W.heap.size W) (.cells #[.int .i64 n] 3)) (.cells #[.func (.func F) #[] caps] 92)) (.cells #[.func (.func 101) #[] #[.pointer (some ⟨W.heap.size, 0, none⟩), .pointer (some ⟨W.heap.size + 1, 0, none⟩), .pointer (some ⟨W.heap.size + 1 + 1, 0, none⟩)]] 92)
  have hb1 : ((W.alloc (.cells #[.int .i64 n] 3)).alloc (.cells #[.func (.func F) #[] caps] 92)).heap[W.heap.size]? = some (.cells #[.int .i64 n] 3 (0, 0)) := (blk_alloc (blk_new W _) _)
  with_reducible refine (choose_any Inv step F caps S B HE.out HS.out n hn W.heap.size (W.heap.size + 1) (W.heap.size + 1 + 1) (fun h => absurd (HLT.out _ h) (Nat.lt_irrefl _)) (fun h => by have := HLT.out _ h; omega) (fun h => by have := HLT.out _ h; omega) fuel _ _ [] s s1 (HE.out.stable _ _ _ HI.out hbel) (blk_alloc hb1 _) (blk_alloc (blk_new2 _ _ (by simp)) _) (blk_new2 _ _ (by simp)) (Nat.le_trans HB.out hbel.size) (fun q hq => Nat.lt_of_lt_of_le (HLT.out q hq) hbel.size) (by simp) (Kd.R_nil _ _ _ _ _) H.out).mono ?_
  rintro e w' ⟨rfl, hi', hk', hb'⟩
  have HP := Aside0.mk (And.intro hi' (And.intro ((Kept.of_below hbel S).then_ hk' (fun _ h => .inl h)) ((hbel.mono HB.out).trans hb')))
  clear hi' hk' hb' hbel hb1
  go_wp2
  go_end0
  exact ⟨rfl, HP.out⟩
end

end Go.Proofs.Ythfinhdmdfekcaa.PA
