/- Lean functions for Go functions, and proofs that Go comes to just their answers; written by a program of this session. -/
import Derived.Test.YthfinhdmdfekcaaPAx0
import Derived.Test.YthfinhdmdfekcaaPAx1
import Derived.Test.YthfinhdmdfekcaaPAx3
import Derived.Test.YthfinhdmdfekcaaPAx15
import Derived.Test.YthfinhdmdfekcaaPAx20
import Derived.Test.YthfinhdmdfekcaaPAx26
import Derived.Test.YthfinhdmdfekcaaPAx40
namespace Go.Proofs.Ythfinhdmdfekcaa.PA
open Go.RowKit Go.Proofs.YthfinhdmdfekcaaW.PrintWords Go.Proofs.YthfinhdmdfekcaaW.PrintLast Go.Proofs.YthfinhdmdfekcaaW.PrintMore
attribute [local go_sem] max2_int min2_int max_two min_two max_three min_three max_four min_four   -- for this text's walks alone
set_option linter.unusedVariables false
set_option linter.unusedSimpArgs false

/-! ### spec_FastestLeaders: function 49 -/
def spec_FastestLeaders.l0 : Nat → List (S75) → List Int → List (List Int) → List Int → Int → Int → Option (List Int × Int × Int)
  | 0, _, _, _, _, _, _ => none
  | k + 1, x0, x1, x8, x9, x10, x11 => if x11 < (x8.length : Int) then (if 0 ≤ x11 then ((spec_l07Minutes.f k x0 x1 (rd_L1 x8 x11)).bind fun t703 => (if t703 < x10 then (spec_FastestLeaders.l0 k x0 x1 x8 (rd_L1 x8 x11) t703 (wrap64 (x11 + 1))) else (spec_FastestLeaders.l0 k x0 x1 x8 x9 x10 (wrap64 (x11 + 1))))) else (none)) else (some (x9, x10, 0))
def spec_FastestLeaders.f (k : Nat) (l0 : List (S75)) (l1 : List Int) : Option (List Int × Int × Int) := (spec_l07Led.f k l0 l1).bind fun t687 => (if t687 = 0 then ((spec_l07Plans.f k l0 l1 (([] : List Int))).bind fun t694 => (if (t694.length : Int) = 0 then (some ((([] : List Int)), 0, 6)) else (if 0 < (t694.length : Int) then ((spec_l07Minutes.f k l0 l1 (rd_L1 t694 0)).bind fun t701 => (spec_FastestLeaders.l0 k l0 l1 t694 (rd_L1 t694 0) t701 1)) else (none)))) else (some ((([] : List Int)), 0, t687)))
theorem spec_FastestLeaders.mono_l : ∀ k, (∀ y0 y1 y2 y3 y4 y5, LeO (spec_FastestLeaders.l0 k y0 y1 y2 y3 y4 y5) (spec_FastestLeaders.l0 (k + 1) y0 y1 y2 y3 y4 y5))
  | 0 => fun _ _ _ _ _ _ r h => by simp [spec_FastestLeaders.l0] at h
  | k + 1 => by
    have ih0 := spec_FastestLeaders.mono_l k
    · intro y0 y1 y2 y3 y4 y5
      unfold spec_FastestLeaders.l0
      repeat' first
      | (with_reducible exact ih0 _ _ _ _ _ _)
      | (with_reducible exact spec_l07Led.mono _ _ _)
      | (with_reducible exact spec_l07Minutes.mono _ _ _ _)
      | (with_reducible exact spec_l07Plans.mono _ _ _ _)
      | (with_reducible exact LeO.refl _)
      | (with_reducible exact LeO.none _)
      | (with_reducible refine LeO.ite ?_ ?_)
      | (with_reducible refine LeO.bind ?_ (fun _ => ?_))
      | exact ih0 _ _ _ _ _ _
      | exact spec_l07Led.mono _ _ _
      | exact spec_l07Minutes.mono _ _ _ _
      | exact spec_l07Plans.mono _ _ _ _
      | exact LeO.none _
      | refine LeO.ite ?_ ?_
      | refine LeO.bind ?_ (fun _ => ?_)
theorem spec_FastestLeaders.mono : ∀ a0 a1 k, LeO (spec_FastestLeaders.f k a0 a1) (spec_FastestLeaders.f (k + 1) a0 a1) := by
  intro a0 a1 k
  have ih0 := spec_FastestLeaders.mono_l k
  unfold spec_FastestLeaders.f
  repeat' first
      | (with_reducible exact ih0 _ _ _ _ _ _)
      | (with_reducible exact spec_l07Led.mono _ _ _)
      | (with_reducible exact spec_l07Minutes.mono _ _ _ _)
      | (with_reducible exact spec_l07Plans.mono _ _ _ _)
      | (with_reducible exact LeO.refl _)
      | (with_reducible exact LeO.none _)
      | (with_reducible refine LeO.ite ?_ ?_)
      | (with_reducible refine LeO.bind ?_ (fun _ => ?_))
      | exact ih0 _ _ _ _ _ _
      | exact spec_l07Led.mono _ _ _
      | exact spec_l07Minutes.mono _ _ _ _
      | exact spec_l07Plans.mono _ _ _ _
      | exact LeO.none _
      | refine LeO.ite ?_ ?_
      | refine LeO.bind ?_ (fun _ => ?_)
set_option maxHeartbeats 8000000 in
set_option maxRecDepth 100000 in
theorem spec_FastestLeaders.calls (k : Nat) (A0 : Option Addr) (c0 : Nat) (l0 : List (S75)) (A1 : Option Addr) (c1 : Nat) (l1 : List Int) (r1 : List Int) (r2 : Int) (r3 : Int) (w : World) (hr0 : Kd.C k75 w A0 l0.length l0) (hc0 : l0.length ≤ c0) (hr1 : Kd.C (Kd.int .i64) w A1 l1.length l1) (hc1 : l1.length ≤ c1) (h : spec_FastestLeaders.f k l0 l1 = some (r1, r2, r3)) :
    Calls Try.prog 49 #[.slice A0 l0.length c0, .slice A1 l1.length c1] w fun e w' => ∃ v0_ : Value, e = .returned (.tuple #[v0_, .int .i64 r2, .int .i64 r3]) ∧ Kd.V (Kd.int .i64) 2 w' w.heap.size (fun k_ => (w.heap.size ≤ k_)) v0_ r1 ∧ Below w.heap.size w w' := by
  have HR0 := Aside0.mk hr0
  have HC0 := Aside0.mk hc0
  clear hr0 hc0
  have HR1 := Aside0.mk hr1
  have HC1 := Aside0.mk hc1
  clear hr1 hc1
  have HB := Aside0.mk (Below.refl w.heap.size w)
  have H : ((spec_l07Led.f k l0 l1).bind fun t687 => (if t687 = 0 then ((spec_l07Plans.f k l0 l1 (([] : List Int))).bind fun t694 => (if (t694.length : Int) = 0 then (some ((([] : List Int)), 0, 6)) else (if 0 < (t694.length : Int) then ((spec_l07Minutes.f k l0 l1 (rd_L1 t694 0)).bind fun t701 => (spec_FastestLeaders.l0 k l0 l1 t694 (rd_L1 t694 0) t701 1)) else (none)))) else (some ((([] : List Int)), 0, t687)))) = some (r1, r2, r3) := h
  clear h
  replace H := Option.bind_eq_some_iff.mp H
  obtain ⟨t687, A30, H⟩ := H
  replace H : (if t687 = 0 then ((spec_l07Plans.f k l0 l1 (([] : List Int))).bind fun t694 => (if (t694.length : Int) = 0 then (some ((([] : List Int)), 0, 6)) else (if 0 < (t694.length : Int) then ((spec_l07Minutes.f k l0 l1 (rd_L1 t694 0)).bind fun t701 => (spec_FastestLeaders.l0 k l0 l1 t694 (rd_L1 t694 0) t701 1)) else (none)))) else (some ((([] : List Int)), 0, t687))) = some (r1, r2, r3) := H
  have A3 := Aside0.mk A30
  clear A30
  by_cases c4 : t687 = 0
  · rw [if_pos c4] at H
    have c4b0 : (t687 == 0) = true := beq_iff_eq.mpr c4
    have c4b1 : (t687 != 0) = false := bne_eq_false_iff_eq.mpr c4
    clear c4
    obtain ⟨y691, hy691⟩ : ∃ y_ : List Int, y_ = (([] : List Int)) := ⟨_, rfl⟩
    replace H : ((spec_l07Plans.f k l0 l1 y691).bind fun t694 => (if (t694.length : Int) = 0 then (some ((([] : List Int)), 0, 6)) else (if 0 < (t694.length : Int) then ((spec_l07Minutes.f k l0 l1 (rd_L1 t694 0)).bind fun t701 => (spec_FastestLeaders.l0 k l0 l1 t694 (rd_L1 t694 0) t701 1)) else (none)))) = some (r1, r2, r3) := by first | (rw [hy691]; with_reducible exact H) | (have H2_ := (Option.bind_some _ _).symm.trans H; rw [hy691]; with_reducible exact H2_) | (have H2_ := (Option.bind_some _ _).symm.trans H; with_reducible exact H2_) | with_reducible exact H | (rw [hy691]; exact H) | exact H
    have Ny691 := Aside0.mk hy691
    clear hy691
    replace H := Option.bind_eq_some_iff.mp H
    obtain ⟨t694, A50, H⟩ := H
    replace H : (if (t694.length : Int) = 0 then (some ((([] : List Int)), 0, 6)) else (if 0 < (t694.length : Int) then ((spec_l07Minutes.f k l0 l1 (rd_L1 t694 0)).bind fun t701 => (spec_FastestLeaders.l0 k l0 l1 t694 (rd_L1 t694 0) t701 1)) else (none))) = some (r1, r2, r3) := H
    have A5 := Aside0.mk A50
    clear A50
    by_cases c6 : (t694.length : Int) = 0
    · rw [if_pos c6] at H
      have c6b0 : ((t694.length : Int) == 0) = true := beq_iff_eq.mpr c6
      have c6b1 : ((t694.length : Int) != 0) = false := bne_eq_false_iff_eq.mpr c6
      clear c6
      obtain ⟨y697, hy697⟩ : ∃ y_ : List Int, y_ = (([] : List Int)) := ⟨_, rfl⟩
      replace H : (some (y697, 0, 6)) = some (r1, r2, r3) := by first | (rw [hy697]; with_reducible exact H) | (have H2_ := (Option.bind_some _ _).symm.trans H; rw [hy697]; with_reducible exact H2_) | (have H2_ := (Option.bind_some _ _).symm.trans H; with_reducible exact H2_) | with_reducible exact H | (rw [hy697]; exact H) | exact H
      have Ny697 := Aside0.mk hy697
      clear hy697
      simp only [Option.some.injEq, Prod.mk.injEq] at H
      obtain ⟨rfl, rfl, rfl⟩ := H
      go_enter Try.func49, Try.ntmps49
      go_wp2_with (first | ((with_reducible refine gate_callee (f := 67) rfl ?_); refine goesL_ (some 15) rfl rfl Try.func67 (by kernel_rfl) rfl #[.slice A0 l0.length c0, .slice A1 l1.length c1] rfl (by (try simp only [List.map_toArray, List.map_cons, List.map_nil]); first | done | rfl | (simp only [List.length_drop, List.length_take]; rfl)) ?_; (with_reducible refine (spec_l07Led.calls k _ _ l0 _ _ l1 t687 _ ?side1 ?side2 ?side3 ?side4 A3.out).mono ?_); (case side1 => repeat (first | exact HR0.out | (with_reducible refine Kd.C_alloc ?_ _) | (with_reducible refine Kd.C_drewN ?_ _) | (with_reducible refine Kd.C_drew ?_))); (case side2 => exact HC0.out); (case side3 => repeat (first | exact HR1.out | (with_reducible refine Kd.C_alloc ?_ _) | (with_reducible refine Kd.C_drewN ?_ _) | (with_reducible refine Kd.C_drew ?_))); (case side4 => exact HC1.out); rintro e w7 ⟨rfl, hb⟩; refine ⟨_, rfl, ?_⟩; have n0_ := Aside0.mk (below_step (by repeat (first | (with_reducible first | exact HB.out | apply below_alloc | apply pw_below_drewN | apply below_drew1) | exact HB.out)) hb); clear HB; have HB := n0_; clear n0_; (try clear hb); (try clear hb2); (try clear hk); (try clear hi)) | ((with_reducible refine gate_dst (N := 22) rfl ?_); refine Kd.R_lit (Kd.int .i64) _ 2 ?hg (N := 22) ?hd (xs := ([] : List Int)) (inner := []) (ok := fun _ => True) (okp := fun _ => True) ?hr ?hp (fun _ hk => hk) trivial (Below.refl _ _) (Nat.le_refl _) (by simp) ?_; (case hd => rfl); (case hg => rfl); (case hr => first | (go_simp; done) | (go_simp; rfl)); (case hp => exact (Reps.none _ _)); intro v692 w8 ho9 hb hg_ hnew_; clear hg_ hnew_; (first | rw [← Ny691.out] at ho9 | (simp only [Int.reduceToNat] at ho9; rw [← Ny691.out] at ho9)); have n0_ := Aside0.mk (Kd.R_lower (Kd.R_newM (M := fun k_ => (w.heap.size ≤ k_)) ho9 (below_size (by repeat (first | (with_reducible first | exact HB.out | apply below_alloc | apply pw_below_drewN | apply below_drew1) | exact HB.out))) (fun k_ h_ => h_)) (below_size (by repeat (first | (with_reducible first | exact HB.out | apply below_alloc | apply pw_below_drewN | apply below_drew1) | exact HB.out)))); have n1_ := Aside0.mk (below_step (by repeat (first | (with_reducible first | exact HB.out | apply below_alloc | apply pw_below_drewN | apply below_drew1) | exact HB.out)) hb); clear HB; have HO693 := n0_; have HB := n1_; clear n0_ n1_; clear hb ho9; obtain ⟨Ao10, co10, eo10⟩ := Kd.R_slice HO693.out; subst eo10) | ((with_reducible refine gate_callee (f := 70) rfl ?_); refine goesL_ (some 23) rfl rfl Try.func70 (by kernel_rfl) rfl #[.slice A0 l0.length c0, .slice A1 l1.length c1, .slice Ao10 y691.length co10] rfl (by (try simp only [List.map_toArray, List.map_cons, List.map_nil]); first | done | rfl | (simp only [List.length_drop, List.length_take]; rfl)) ?_; (with_reducible refine (spec_l07Plans.calls k _ _ l0 _ _ l1 _ _ y691 t694 _ ?side1 ?side2 ?side3 ?side4 ?side5 ?side6 A5.out).mono ?_); (case side1 => repeat (first | exact (Kd.C_below HR0.out HB.out) | (with_reducible refine Kd.C_alloc ?_ _) | (with_reducible refine Kd.C_drewN ?_ _) | (with_reducible refine Kd.C_drew ?_))); (case side2 => exact HC0.out); (case side3 => repeat (first | exact (Kd.C_below HR1.out HB.out) | (with_reducible refine Kd.C_alloc ?_ _) | (with_reducible refine Kd.C_drewN ?_ _) | (with_reducible refine Kd.C_drew ?_))); (case side4 => exact HC1.out); (case side5 => repeat (first | exact (Kd.R_reads' HO693.out).2.2 | (with_reducible refine Kd.C_alloc ?_ _) | (with_reducible refine Kd.C_drewN ?_ _) | (with_reducible refine Kd.C_drew ?_))); (case side6 => exact (Kd.R_reads' HO693.out).2.1); rintro e w11 ⟨v695, rfl, ho0, hb⟩; refine ⟨_, rfl, ?_⟩; have n0_ := Aside0.mk (Kd.R_below (by (with_reducible repeat (first | apply Kd.R_alloc | apply Kd.R_drewN | apply Kd.R_drew)); exact HO693.out) hb); have n1_ := Aside0.mk (Kd.N_lower (Kd.N_mono (ok' := fun k_ => (w.heap.size ≤ k_) ∧ some k_ ≠ (.slice Ao10 y691.length co10 : Value).ownBlock) ho0 (fun k_ hk_ => ⟨(Nat.le_trans (below_size (by repeat (first | (with_reducible first | exact HB.out | apply below_alloc | apply pw_below_drewN | apply below_drew1) | exact HB.out))) hk_), (Kd.fresh' (Kd.R_lt (by (with_reducible repeat (first | apply Kd.R_alloc | apply Kd.R_drewN | apply Kd.R_drew)); exact HO693.out)) k_ hk_)⟩)) (below_size (by repeat (first | (with_reducible first | exact HB.out | apply below_alloc | apply pw_below_drewN | apply below_drew1) | exact HB.out)))); have n2_ := Aside0.mk (below_step (by repeat (first | (with_reducible first | exact HB.out | apply below_alloc | apply pw_below_drewN | apply below_drew1) | exact HB.out)) hb); clear HO693; clear HB; have HO693 := n0_; have HO696 := n1_; have HB := n2_; clear n0_ n1_ n2_; (try clear hb); (try clear hb2); (try clear hk); (try clear hi); (try clear ho0); obtain ⟨Ao12, co12, eo12⟩ := Kd.N_slice HO696.out; subst eo12) | ((with_reducible refine gate_dst (N := 27) rfl ?_); refine Kd.R_lit (Kd.int .i64) _ 2 ?hg (N := 27) ?hd (xs := ([] : List Int)) (inner := []) (ok := fun _ => True) (okp := fun _ => True) ?hr ?hp (fun _ hk => hk) trivial (Below.refl _ _) (Nat.le_refl _) (by simp) ?_; (case hd => rfl); (case hg => rfl); (case hr => first | (go_simp; done) | (go_simp; rfl)); (case hp => exact (Reps.none _ _)); intro v698 w13 ho14 hb hg_ hnew_; clear hg_ hnew_; (first | rw [← Ny697.out] at ho14 | (simp only [Int.reduceToNat] at ho14; rw [← Ny697.out] at ho14)); have n0_ := Aside0.mk (Kd.R_elder' (by (with_reducible repeat (first | apply Kd.R_alloc | apply Kd.R_drewN | apply Kd.R_drew)); exact HO693.out) (Kd.R_base ho14) hb); have n1_ := Aside0.mk (Kd.N_elder' (by (with_reducible repeat (first | apply Kd.N_alloc | apply Kd.N_drewN | apply Kd.N_drew)); exact HO696.out) (Kd.R_base ho14) hb); have n2_ := Aside0.mk (Kd.R_lower (Kd.R_new' (Kd.R_newM (M := fun k_ => (w.heap.size ≤ k_)) ho14 (below_size (by repeat (first | (with_reducible first | exact HB.out | apply below_alloc | apply pw_below_drewN | apply below_drew1) | exact HB.out))) (fun k_ h_ => h_)) (Kd.R_lt (by (with_reducible repeat (first | apply Kd.R_alloc | apply Kd.R_drewN | apply Kd.R_drew)); exact HO693.out))) (below_size (by repeat (first | (with_reducible first | exact HB.out | apply below_alloc | apply pw_below_drewN | apply below_drew1) | exact HB.out)))); have n3_ := Aside0.mk (below_step (by repeat (first | (with_reducible first | exact HB.out | apply below_alloc | apply pw_below_drewN | apply below_drew1) | exact HB.out)) hb); clear HO693; clear HO696; clear HB; have HO693 := n0_; have HO696 := n1_; have HO699 := n2_; have HB := n3_; clear n0_ n1_ n2_ n3_; clear hb ho14))
      go_ret3
      exact ⟨_, by first | rfl | (simp [errW_none, errW_some] <;> rfl) | (simp [*, errW_none, errW_some] <;> rfl), Kd.R_V (by (with_reducible repeat (first | apply Kd.R_alloc | apply Kd.R_drewN | apply Kd.R_drew)); exact Kd.R_mono HO699.out (fun _ hk => hk.1.1)), by repeat (first | (with_reducible first | exact HB.out | apply below_alloc | apply pw_below_drewN | apply below_drew1) | exact HB.out)⟩
    · rw [if_neg c6] at H
      have c6b0 : ((t694.length : Int) == 0) = false := beq_eq_false_iff_ne.mpr c6
      have c6b1 : ((t694.length : Int) != 0) = true := bne_iff_ne.mpr c6
      have c6b2 : ¬ (t694 = []) := fun h_ => c6 (by rw [h_]; rfl)
      by_cases c15 : 0 < (t694.length : Int)
      · rw [if_pos c15] at H
        have c15b0 : decide (0 < (t694.length : Int)) = true := decide_eq_true c15
        have c15b1 : decide (0 < t694.length) = true := decide_eq_true (by omega)
        clear c15
        replace H := Option.bind_eq_some_iff.mp H
        obtain ⟨t701, A160, H⟩ := H
        replace H : (spec_FastestLeaders.l0 k l0 l1 t694 (rd_L1 t694 0) t701 1) = some (r1, r2, r3) := H
        have A16 := Aside0.mk A160
        clear A160
        have H' := Aside0.mk H
        clear H
        go_enter Try.func49, Try.ntmps49
        go_wp2_with (first | ((with_reducible refine gate_callee (f := 67) rfl ?_); refine goesL_ (some 15) rfl rfl Try.func67 (by kernel_rfl) rfl #[.slice A0 l0.length c0, .slice A1 l1.length c1] rfl (by (try simp only [List.map_toArray, List.map_cons, List.map_nil]); first | done | rfl | (simp only [List.length_drop, List.length_take]; rfl)) ?_; (with_reducible refine (spec_l07Led.calls k _ _ l0 _ _ l1 t687 _ ?side1 ?side2 ?side3 ?side4 A3.out).mono ?_); (case side1 => repeat (first | exact HR0.out | (with_reducible refine Kd.C_alloc ?_ _) | (with_reducible refine Kd.C_drewN ?_ _) | (with_reducible refine Kd.C_drew ?_))); (case side2 => exact HC0.out); (case side3 => repeat (first | exact HR1.out | (with_reducible refine Kd.C_alloc ?_ _) | (with_reducible refine Kd.C_drewN ?_ _) | (with_reducible refine Kd.C_drew ?_))); (case side4 => exact HC1.out); rintro e w17 ⟨rfl, hb⟩; refine ⟨_, rfl, ?_⟩; have n0_ := Aside0.mk (below_step (by repeat (first | (with_reducible first | exact HB.out | apply below_alloc | apply pw_below_drewN | apply below_drew1) | exact HB.out)) hb); clear HB; have HB := n0_; clear n0_; (try clear hb); (try clear hb2); (try clear hk); (try clear hi)) | ((with_reducible refine gate_dst (N := 22) rfl ?_); refine Kd.R_lit (Kd.int .i64) _ 2 ?hg (N := 22) ?hd (xs := ([] : List Int)) (inner := []) (ok := fun _ => True) (okp := fun _ => True) ?hr ?hp (fun _ hk => hk) trivial (Below.refl _ _) (Nat.le_refl _) (by simp) ?_; (case hd => rfl); (case hg => rfl); (case hr => first | (go_simp; done) | (go_simp; rfl)); (case hp => exact (Reps.none _ _)); intro v692 w18 ho19 hb hg_ hnew_; clear hg_ hnew_; (first | rw [← Ny691.out] at ho19 | (simp only [Int.reduceToNat] at ho19; rw [← Ny691.out] at ho19)); have n0_ := Aside0.mk (Kd.R_lower (Kd.R_newM (M := fun k_ => (w.heap.size ≤ k_)) ho19 (below_size (by repeat (first | (with_reducible first | exact HB.out | apply below_alloc | apply pw_below_drewN | apply below_drew1) | exact HB.out))) (fun k_ h_ => h_)) (below_size (by repeat (first | (with_reducible first | exact HB.out | apply below_alloc | apply pw_below_drewN | apply below_drew1) | exact HB.out)))); have n1_ := Aside0.mk (below_step (by repeat (first | (with_reducible first | exact HB.out | apply below_alloc | apply pw_below_drewN | apply below_drew1) | exact HB.out)) hb); clear HB; have HO693 := n0_; have HB := n1_; clear n0_ n1_; clear hb ho19; obtain ⟨Ao20, co20, eo20⟩ := Kd.R_slice HO693.out; subst eo20) | ((with_reducible refine gate_callee (f := 70) rfl ?_); refine goesL_ (some 23) rfl rfl Try.func70 (by kernel_rfl) rfl #[.slice A0 l0.length c0, .slice A1 l1.length c1, .slice Ao20 y691.length co20] rfl (by (try simp only [List.map_toArray, List.map_cons, List.map_nil]); first | done | rfl | (simp only [List.length_drop, List.length_take]; rfl)) ?_; (with_reducible refine (spec_l07Plans.calls k _ _ l0 _ _ l1 _ _ y691 t694 _ ?side1 ?side2 ?side3 ?side4 ?side5 ?side6 A5.out).mono ?_); (case side1 => repeat (first | exact (Kd.C_below HR0.out HB.out) | (with_reducible refine Kd.C_alloc ?_ _) | (with_reducible refine Kd.C_drewN ?_ _) | (with_reducible refine Kd.C_drew ?_))); (case side2 => exact HC0.out); (case side3 => repeat (first | exact (Kd.C_below HR1.out HB.out) | (with_reducible refine Kd.C_alloc ?_ _) | (with_reducible refine Kd.C_drewN ?_ _) | (with_reducible refine Kd.C_drew ?_))); (case side4 => exact HC1.out); (case side5 => repeat (first | exact (Kd.R_reads' HO693.out).2.2 | (with_reducible refine Kd.C_alloc ?_ _) | (with_reducible refine Kd.C_drewN ?_ _) | (with_reducible refine Kd.C_drew ?_))); (case side6 => exact (Kd.R_reads' HO693.out).2.1); rintro e w21 ⟨v695, rfl, ho0, hb⟩; refine ⟨_, rfl, ?_⟩; have n0_ := Aside0.mk (Kd.R_below (by (with_reducible repeat (first | apply Kd.R_alloc | apply Kd.R_drewN | apply Kd.R_drew)); exact HO693.out) hb); have n1_ := Aside0.mk (Kd.N_lower (Kd.N_mono (ok' := fun k_ => (w.heap.size ≤ k_) ∧ some k_ ≠ (.slice Ao20 y691.length co20 : Value).ownBlock) ho0 (fun k_ hk_ => ⟨(Nat.le_trans (below_size (by repeat (first | (with_reducible first | exact HB.out | apply below_alloc | apply pw_below_drewN | apply below_drew1) | exact HB.out))) hk_), (Kd.fresh' (Kd.R_lt (by (with_reducible repeat (first | apply Kd.R_alloc | apply Kd.R_drewN | apply Kd.R_drew)); exact HO693.out)) k_ hk_)⟩)) (below_size (by repeat (first | (with_reducible first | exact HB.out | apply below_alloc | apply pw_below_drewN | apply below_drew1) | exact HB.out)))); have n2_ := Aside0.mk (below_step (by repeat (first | (with_reducible first | exact HB.out | apply below_alloc | apply pw_below_drewN | apply below_drew1) | exact HB.out)) hb); clear HO693; clear HB; have HO693 := n0_; have HO696 := n1_; have HB := n2_; clear n0_ n1_ n2_; (try clear hb); (try clear hb2); (try clear hk); (try clear hi); (try clear ho0); obtain ⟨Ao22, co22, eo22⟩ := Kd.N_slice HO696.out; subst eo22; have p700 : 0 ≤ (0 : Int) := (by omega); have q700 : 0 < (t694.length : Int) := of_decide_eq_true (by first | (with_reducible assumption) | assumption); obtain ⟨ad700, A700_0, c700_0, e700, hx700_0, hl700_0, hi700_0⟩ := at_L1 (Kd.N_reads' HO696.out).2.2 0 p700 q700; cases e700; obtain ⟨ce700, hce700, hMe700, hcc700⟩ := Kd.N_get HO696.out [] 0 p700 (by first | exact q700 | exact of_decide_eq_true (by first | (with_reducible assumption) | assumption) | (have e_ := (Kd.N_reads' HO696.out).1; omega)); obtain ⟨ua700_0, uc700_0, rfl, ul700_0, ge700_0⟩ := Kd.FK_slice_open hMe700; have hv700_0 := hcc700 0 _ rfl; rw [Nat.add_zero, show ((Kd.slice 2 (Kd.int .i64))).sz = 1 from rfl, Nat.mul_one] at hv700_0; replace hv700_0 := Option.some.inj (hv700_0.symm.trans hx700_0); injection hv700_0 with hva_ hvn_ hvc_; rw [hva_] at ge700_0; rw [hvc_] at ul700_0; have HL700_0 := Aside0.mk (show Kd.V (Kd.int .i64) 2 _ w.heap.size _ _ (rd_L1 t694 0) from Kd.V_mk ul700_0 ge700_0); clear hva_ hvn_ hvc_ ge700_0 ul700_0; clear hcc700 hce700; have qi700 : (0 < t694.length) = True := eq_true (by omega); (try rw [show ((0 : Int)).toNat = 0 from rfl] at hx700_0); (try rw [Addr.add_zero'] at hx700_0); have HR700_0 := Aside0.mk hi700_0; have HC700_0 := Aside0.mk hl700_0; clear hi700_0 hl700_0; replace p700 := eq_true p700; replace q700 := eq_true q700) | ((with_reducible refine gate_callee (f := 78) rfl ?_); refine goesL_ (some 34) rfl rfl Try.func78 (by kernel_rfl) rfl #[.slice A0 l0.length c0, .slice A1 l1.length c1, .slice A700_0 (rd_L1 t694 0).length c700_0] rfl (by (try simp only [List.map_toArray, List.map_cons, List.map_nil]); first | done | rfl | (simp only [List.length_drop, List.length_take]; rfl)) ?_; (with_reducible refine (spec_l07Minutes.calls k _ _ l0 _ _ l1 _ _ (rd_L1 t694 0) t701 _ ?side1 ?side2 ?side3 ?side4 ?side5 ?side6 A16.out).mono ?_); (case side1 => repeat (first | exact (Kd.C_below HR0.out HB.out) | (with_reducible refine Kd.C_alloc ?_ _) | (with_reducible refine Kd.C_drewN ?_ _) | (with_reducible refine Kd.C_drew ?_))); (case side2 => exact HC0.out); (case side3 => repeat (first | exact (Kd.C_below HR1.out HB.out) | (with_reducible refine Kd.C_alloc ?_ _) | (with_reducible refine Kd.C_drewN ?_ _) | (with_reducible refine Kd.C_drew ?_))); (case side4 => exact HC1.out); (case side5 => repeat (first | exact (by repeat (first | (with_reducible exact HR700_0.out) | (with_reducible refine Kd.C_alloc ?_ _) | (with_reducible refine Kd.C_drewN ?_ _) | (with_reducible refine Kd.C_drew ?_) | exact HR700_0.out)) | (with_reducible refine Kd.C_alloc ?_ _) | (with_reducible refine Kd.C_drewN ?_ _) | (with_reducible refine Kd.C_drew ?_))); (case side6 => exact HC700_0.out); rintro e w' ⟨rfl, ⟨nd, rfl⟩⟩; refine ⟨_, rfl, ?_⟩))
        go_loopg [9, 10, 11] k (fun kq v9 v10 v11 w' => ∃ (x9_1 : List Int) (x10_1 : Int) (x11_1 : Int), v10 = .int .i64 x10_1 ∧ v11 = .int .i64 x11_1 ∧ Aside0 (spec_FastestLeaders.l0 kq l0 l1 t694 x9_1 x10_1 x11_1 = some (r1, r2, r3)) ∧ Aside0 (kq ≤ k) ∧ Aside0 (Kd.N (Kd.slice 2 (Kd.int .i64)) 22 w' w.heap.size (fun k_ => (w.heap.size ≤ k_)) (.slice (some ad700) t694.length co22) t694) ∧ Aside0 (Kd.V (Kd.int .i64) 2 w' w.heap.size (fun k_ => (w.heap.size ≤ k_) ∧ some k_ ≠ ((.slice (some ad700) t694.length co22) : Value).ownBlock) v9 x9_1) ∧ Aside0 (Kd.C (Kd.int .i64) w' A700_0 (rd_L1 t694 0).length (rd_L1 t694 0)) ∧ Aside0 (Below w.heap.size w w'))
        case atStart => exact ⟨(rd_L1 t694 0), (t701), (1), (by first | rfl | (simp; done) | (simp [*]; done)), (by first | rfl | (simp; done) | (simp [*]; done)), H', ⟨Nat.le_refl _⟩, ⟨by (with_reducible repeat (first | apply Kd.N_alloc | apply Kd.N_drewN | apply Kd.N_drew)); exact Kd.N_mono HO696.out (fun _ hk => hk.1)⟩, ⟨by (with_reducible repeat (first | apply Kd.V_alloc | apply Kd.V_drewN | apply Kd.V_drew)); exact Kd.V_mono HL700_0.out (fun _ hk => ⟨hk.1.1, hk.2⟩)⟩, ⟨by repeat (first | (with_reducible exact HR700_0.out) | (with_reducible refine Kd.C_alloc ?_ _) | (with_reducible refine Kd.C_drewN ?_ _) | (with_reducible refine Kd.C_drew ?_) | exact HR700_0.out)⟩, ⟨by repeat (first | (with_reducible first | exact HB.out | apply below_alloc | apply pw_below_drewN | apply below_drew1) | exact HB.out)⟩⟩
        case round =>
          clear H'
          try clear c1
          try clear p2
          try clear c4
          try clear c4b0
          try clear c4b1
          try clear c6
          try clear c6b0
          try clear c6b1
          try clear c6b2
          try clear c7
          try clear p7
          try clear q7
          try clear hx7
          try clear qi7
          try clear c15
          try clear c15b0
          try clear c15b1
          try clear hx700_0
          try clear p700
          try clear q700
          obtain ⟨x9_1, x10_1, x11_1, rfl, rfl, HA, HK1, HO_8, HO_9, HR700_0, HB⟩ := hrel
          cases gk with
          | zero => exact absurd HA.out (by simp [spec_FastestLeaders.l0])
          | succ k1 =>
            have H := HA.out
            clear HA
            simp only [spec_FastestLeaders.l0] at H
            by_cases c23 : x11_1 < (t694.length : Int)
            · rw [if_pos c23] at H
              have c23b0 : decide (x11_1 < (t694.length : Int)) = true := decide_eq_true c23
              clear c23
              by_cases c24 : 0 ≤ x11_1
              · rw [if_pos c24] at H
                have c24b0 : decide (0 ≤ x11_1) = true := decide_eq_true c24
                clear c24
                replace H := Option.bind_eq_some_iff.mp H
                obtain ⟨t703, A250, H⟩ := H
                replace H : (if t703 < x10_1 then (spec_FastestLeaders.l0 k1 l0 l1 t694 (rd_L1 t694 x11_1) t703 (wrap64 (x11_1 + 1))) else (spec_FastestLeaders.l0 k1 l0 l1 t694 x9_1 x10_1 (wrap64 (x11_1 + 1)))) = some (r1, r2, r3) := H
                have A25 := Aside0.mk A250
                clear A250
                by_cases c26 : t703 < x10_1
                · rw [if_pos c26] at H
                  have c26b0 : decide (t703 < x10_1) = true := decide_eq_true c26
                  clear c26
                  have H' := Aside0.mk H
                  clear H
                  have p702 : 0 ≤ (x11_1 : Int) := of_decide_eq_true (by first | (with_reducible assumption) | assumption)
                  have q702 : x11_1 < (t694.length : Int) := of_decide_eq_true (by first | (with_reducible assumption) | assumption)
                  obtain ⟨ad702, A702_0, c702_0, e702, hx702_0, hl702_0, hi702_0⟩ := at_L1 (Kd.N_reads' HO_8.out).2.2 x11_1 p702 q702
                  obtain rfl : ad700 = ad702 := (by injection e702)
                  obtain ⟨ce702, hce702, hMe702, hcc702⟩ := Kd.N_get HO_8.out [] x11_1 p702 (by first | exact q702 | exact of_decide_eq_true (by first | (with_reducible assumption) | assumption) | (have e_ := (Kd.N_reads' HO_8.out).1; omega))
                  obtain ⟨ua702_0, uc702_0, rfl, ul702_0, ge702_0⟩ := Kd.FK_slice_open hMe702
                  have hv702_0 := hcc702 0 _ rfl
                  rw [Nat.add_zero, show ((Kd.slice 2 (Kd.int .i64))).sz = 1 from rfl, Nat.mul_one] at hv702_0
                  replace hv702_0 := Option.some.inj (hv702_0.symm.trans hx702_0)
                  injection hv702_0 with hva_ hvn_ hvc_
                  rw [hva_] at ge702_0
                  rw [hvc_] at ul702_0
                  have HL702_0 := Aside0.mk (show Kd.V (Kd.int .i64) 2 _ w.heap.size _ _ (rd_L1 t694 x11_1) from Kd.V_mk ul702_0 ge702_0)
                  clear hva_ hvn_ hvc_ ge702_0 ul702_0
                  clear hcc702 hce702
                  have HR702_0 := Aside0.mk hi702_0
                  have HC702_0 := Aside0.mk hl702_0
                  clear hi702_0 hl702_0
                  replace p702 := eq_true p702
                  replace q702 := eq_true q702
                  go_wp2_with (first | ((with_reducible refine gate_callee (f := 78) rfl ?_); refine goesL_ (some 47) rfl rfl Try.func78 (by kernel_rfl) rfl #[.slice A0 l0.length c0, .slice A1 l1.length c1, .slice A702_0 (rd_L1 t694 x11_1).length c702_0] rfl (by (try simp only [List.map_toArray, List.map_cons, List.map_nil]); first | done | rfl | (simp only [List.length_drop, List.length_take]; rfl)) ?_; (with_reducible refine (spec_l07Minutes.calls k1 _ _ l0 _ _ l1 _ _ (rd_L1 t694 x11_1) t703 _ ?side1 ?side2 ?side3 ?side4 ?side5 ?side6 A25.out).mono ?_); (case side1 => repeat (first | exact (Kd.C_below HR0.out HB.out) | (with_reducible refine Kd.C_alloc ?_ _) | (with_reducible refine Kd.C_drewN ?_ _) | (with_reducible refine Kd.C_drew ?_))); (case side2 => exact HC0.out); (case side3 => repeat (first | exact (Kd.C_below HR1.out HB.out) | (with_reducible refine Kd.C_alloc ?_ _) | (with_reducible refine Kd.C_drewN ?_ _) | (with_reducible refine Kd.C_drew ?_))); (case side4 => exact HC1.out); (case side5 => repeat (first | exact (by repeat (first | (with_reducible exact HR702_0.out) | (with_reducible refine Kd.C_alloc ?_ _) | (with_reducible refine Kd.C_drewN ?_ _) | (with_reducible refine Kd.C_drew ?_) | exact HR702_0.out)) | (with_reducible refine Kd.C_alloc ?_ _) | (with_reducible refine Kd.C_drewN ?_ _) | (with_reducible refine Kd.C_drew ?_))); (case side6 => exact HC702_0.out); rintro e w' ⟨rfl, ⟨nd, rfl⟩⟩; refine ⟨_, rfl, ?_⟩; have p704 : 0 ≤ (x11_1 : Int) := of_decide_eq_true (by first | (with_reducible assumption) | assumption); have q704 : x11_1 < (t694.length : Int) := of_decide_eq_true (by first | (with_reducible assumption) | assumption); obtain ⟨ad704, A704_0, c704_0, e704, hx704_0, hl704_0, hi704_0⟩ := at_L1 (Kd.N_reads' HO_8.out).2.2 x11_1 p704 q704; obtain rfl : ad700 = ad704 := (by injection e704); obtain ⟨ce704, hce704, hMe704, hcc704⟩ := Kd.N_get HO_8.out [] x11_1 p704 (by first | exact q704 | exact of_decide_eq_true (by first | (with_reducible assumption) | assumption) | (have e_ := (Kd.N_reads' HO_8.out).1; omega)); obtain ⟨ua704_0, uc704_0, rfl, ul704_0, ge704_0⟩ := Kd.FK_slice_open hMe704; have hv704_0 := hcc704 0 _ rfl; rw [Nat.add_zero, show ((Kd.slice 2 (Kd.int .i64))).sz = 1 from rfl, Nat.mul_one] at hv704_0; replace hv704_0 := Option.some.inj (hv704_0.symm.trans hx704_0); injection hv704_0 with hva_ hvn_ hvc_; rw [hva_] at ge704_0; rw [hvc_] at ul704_0; have HL704_0 := Aside0.mk (show Kd.V (Kd.int .i64) 2 _ w.heap.size _ _ (rd_L1 t694 x11_1) from Kd.V_mk ul704_0 ge704_0); clear hva_ hvn_ hvc_ ge704_0 ul704_0; clear hcc704 hce704; have HR704_0 := Aside0.mk hi704_0; have HC704_0 := Aside0.mk hl704_0; clear hi704_0 hl704_0; replace p704 := eq_true p704; replace q704 := eq_true q704; have ea_ := Option.some.inj (hx702_0.symm.trans hx704_0); injection ea_ with ea_ en_ ec_; subst ea_; subst ec_; clear en_))
                  go_roundg k1
                  case measure => have := HK1.out; omega
                  case rel => exact ⟨(rd_L1 t694 x11_1), (t703), (wrap64 (x11_1 + 1)), (by first | rfl | (simp; done) | (simp [*]; done)), (by first | rfl | (simp; done) | (simp [*]; done)), H', ⟨by have := HK1.out; omega⟩, ⟨by (with_reducible repeat (first | apply Kd.N_alloc | apply Kd.N_drewN | apply Kd.N_drew)); exact HO_8.out⟩, ⟨by (with_reducible repeat (first | apply Kd.V_alloc | apply Kd.V_drewN | apply Kd.V_drew)); exact HL704_0.out⟩, ⟨by repeat (first | (with_reducible exact HR700_0.out) | (with_reducible refine Kd.C_alloc ?_ _) | (with_reducible refine Kd.C_drewN ?_ _) | (with_reducible refine Kd.C_drew ?_) | exact HR700_0.out)⟩, ⟨by repeat (first | (with_reducible first | exact HB.out | apply below_alloc | apply pw_below_drewN | apply below_drew1) | exact HB.out)⟩⟩
                · rw [if_neg c26] at H
                  have c26b0 : decide (t703 < x10_1) = false := decide_eq_false c26
                  clear c26
                  have H' := Aside0.mk H
                  clear H
                  have p702 : 0 ≤ (x11_1 : Int) := of_decide_eq_true (by first | (with_reducible assumption) | assumption)
                  have q702 : x11_1 < (t694.length : Int) := of_decide_eq_true (by first | (with_reducible assumption) | assumption)
                  obtain ⟨ad702, A702_0, c702_0, e702, hx702_0, hl702_0, hi702_0⟩ := at_L1 (Kd.N_reads' HO_8.out).2.2 x11_1 p702 q702
                  obtain rfl : ad700 = ad702 := (by injection e702)
                  obtain ⟨ce702, hce702, hMe702, hcc702⟩ := Kd.N_get HO_8.out [] x11_1 p702 (by first | exact q702 | exact of_decide_eq_true (by first | (with_reducible assumption) | assumption) | (have e_ := (Kd.N_reads' HO_8.out).1; omega))
                  obtain ⟨ua702_0, uc702_0, rfl, ul702_0, ge702_0⟩ := Kd.FK_slice_open hMe702
                  have hv702_0 := hcc702 0 _ rfl
                  rw [Nat.add_zero, show ((Kd.slice 2 (Kd.int .i64))).sz = 1 from rfl, Nat.mul_one] at hv702_0
                  replace hv702_0 := Option.some.inj (hv702_0.symm.trans hx702_0)
                  injection hv702_0 with hva_ hvn_ hvc_
                  rw [hva_] at ge702_0
                  rw [hvc_] at ul702_0
                  have HL702_0 := Aside0.mk (show Kd.V (Kd.int .i64) 2 _ w.heap.size _ _ (rd_L1 t694 x11_1) from Kd.V_mk ul702_0 ge702_0)
                  clear hva_ hvn_ hvc_ ge702_0 ul702_0
                  clear hcc702 hce702
                  have HR702_0 := Aside0.mk hi702_0
                  have HC702_0 := Aside0.mk hl702_0
                  clear hi702_0 hl702_0
                  replace p702 := eq_true p702
                  replace q702 := eq_true q702
                  go_wp2_with (first | ((with_reducible refine gate_callee (f := 78) rfl ?_); refine goesL_ (some 47) rfl rfl Try.func78 (by kernel_rfl) rfl #[.slice A0 l0.length c0, .slice A1 l1.length c1, .slice A702_0 (rd_L1 t694 x11_1).length c702_0] rfl (by (try simp only [List.map_toArray, List.map_cons, List.map_nil]); first | done | rfl | (simp only [List.length_drop, List.length_take]; rfl)) ?_; (with_reducible refine (spec_l07Minutes.calls k1 _ _ l0 _ _ l1 _ _ (rd_L1 t694 x11_1) t703 _ ?side1 ?side2 ?side3 ?side4 ?side5 ?side6 A25.out).mono ?_); (case side1 => repeat (first | exact (Kd.C_below HR0.out HB.out) | (with_reducible refine Kd.C_alloc ?_ _) | (with_reducible refine Kd.C_drewN ?_ _) | (with_reducible refine Kd.C_drew ?_))); (case side2 => exact HC0.out); (case side3 => repeat (first | exact (Kd.C_below HR1.out HB.out) | (with_reducible refine Kd.C_alloc ?_ _) | (with_reducible refine Kd.C_drewN ?_ _) | (with_reducible refine Kd.C_drew ?_))); (case side4 => exact HC1.out); (case side5 => repeat (first | exact (by repeat (first | (with_reducible exact HR702_0.out) | (with_reducible refine Kd.C_alloc ?_ _) | (with_reducible refine Kd.C_drewN ?_ _) | (with_reducible refine Kd.C_drew ?_) | exact HR702_0.out)) | (with_reducible refine Kd.C_alloc ?_ _) | (with_reducible refine Kd.C_drewN ?_ _) | (with_reducible refine Kd.C_drew ?_))); (case side6 => exact HC702_0.out); rintro e w' ⟨rfl, ⟨nd, rfl⟩⟩; refine ⟨_, rfl, ?_⟩))
                  go_roundg k1
                  case measure => have := HK1.out; omega
                  case rel => exact ⟨(x9_1), (x10_1), (wrap64 (x11_1 + 1)), (by first | rfl | (simp; done) | (simp [*]; done)), (by first | rfl | (simp; done) | (simp [*]; done)), H', ⟨by have := HK1.out; omega⟩, ⟨by (with_reducible repeat (first | apply Kd.N_alloc | apply Kd.N_drewN | apply Kd.N_drew)); exact HO_8.out⟩, ⟨by (with_reducible repeat (first | apply Kd.V_alloc | apply Kd.V_drewN | apply Kd.V_drew)); exact HO_9.out⟩, ⟨by repeat (first | (with_reducible exact HR700_0.out) | (with_reducible refine Kd.C_alloc ?_ _) | (with_reducible refine Kd.C_drewN ?_ _) | (with_reducible refine Kd.C_drew ?_) | exact HR700_0.out)⟩, ⟨by repeat (first | (with_reducible first | exact HB.out | apply below_alloc | apply pw_below_drewN | apply below_drew1) | exact HB.out)⟩⟩
              · rw [if_neg c24] at H
                exact absurd H (by simp)
            · rw [if_neg c23] at H
              have c23b0 : decide (x11_1 < (t694.length : Int)) = false := decide_eq_false c23
              clear c23
              simp only [Option.some.injEq, Prod.mk.injEq] at H
              obtain ⟨rfl, rfl, rfl⟩ := H
              go_wp2
              go_ret3
              exact ⟨_, by first | rfl | (simp [errW_none, errW_some] <;> rfl) | (simp [*, errW_none, errW_some] <;> rfl), by (with_reducible repeat (first | apply Kd.V_alloc | apply Kd.V_drewN | apply Kd.V_drew)); exact Kd.V_mono HO_9.out (fun _ hk => hk.1), by repeat (first | (with_reducible first | exact HB.out | apply below_alloc | apply pw_below_drewN | apply below_drew1) | exact HB.out)⟩
      · rw [if_neg c15] at H
        exact absurd H (by simp)
  · rw [if_neg c4] at H
    have c4b0 : (t687 == 0) = false := beq_eq_false_iff_ne.mpr c4
    have c4b1 : (t687 != 0) = true := bne_iff_ne.mpr c4
    obtain ⟨y688, hy688⟩ : ∃ y_ : List Int, y_ = (([] : List Int)) := ⟨_, rfl⟩
    replace H : (some (y688, 0, t687)) = some (r1, r2, r3) := by first | (rw [hy688]; with_reducible exact H) | (have H2_ := (Option.bind_some _ _).symm.trans H; rw [hy688]; with_reducible exact H2_) | (have H2_ := (Option.bind_some _ _).symm.trans H; with_reducible exact H2_) | with_reducible exact H | (rw [hy688]; exact H) | exact H
    have Ny688 := Aside0.mk hy688
    clear hy688
    simp only [Option.some.injEq, Prod.mk.injEq] at H
    obtain ⟨rfl, rfl, rfl⟩ := H
    go_enter Try.func49, Try.ntmps49
    go_wp2_with (first | ((with_reducible refine gate_callee (f := 67) rfl ?_); refine goesL_ (some 15) rfl rfl Try.func67 (by kernel_rfl) rfl #[.slice A0 l0.length c0, .slice A1 l1.length c1] rfl (by (try simp only [List.map_toArray, List.map_cons, List.map_nil]); first | done | rfl | (simp only [List.length_drop, List.length_take]; rfl)) ?_; (with_reducible refine (spec_l07Led.calls k _ _ l0 _ _ l1 t687 _ ?side1 ?side2 ?side3 ?side4 A3.out).mono ?_); (case side1 => repeat (first | exact HR0.out | (with_reducible refine Kd.C_alloc ?_ _) | (with_reducible refine Kd.C_drewN ?_ _) | (with_reducible refine Kd.C_drew ?_))); (case side2 => exact HC0.out); (case side3 => repeat (first | exact HR1.out | (with_reducible refine Kd.C_alloc ?_ _) | (with_reducible refine Kd.C_drewN ?_ _) | (with_reducible refine Kd.C_drew ?_))); (case side4 => exact HC1.out); rintro e w27 ⟨rfl, hb⟩; refine ⟨_, rfl, ?_⟩; have n0_ := Aside0.mk (below_step (by repeat (first | (with_reducible first | exact HB.out | apply below_alloc | apply pw_below_drewN | apply below_drew1) | exact HB.out)) hb); clear HB; have HB := n0_; clear n0_; (try clear hb); (try clear hb2); (try clear hk); (try clear hi)) | ((with_reducible refine gate_dst (N := 18) rfl ?_); refine Kd.R_lit (Kd.int .i64) _ 2 ?hg (N := 18) ?hd (xs := ([] : List Int)) (inner := []) (ok := fun _ => True) (okp := fun _ => True) ?hr ?hp (fun _ hk => hk) trivial (Below.refl _ _) (Nat.le_refl _) (by simp) ?_; (case hd => rfl); (case hg => rfl); (case hr => first | (go_simp; done) | (go_simp; rfl)); (case hp => exact (Reps.none _ _)); intro v689 w28 ho29 hb hg_ hnew_; clear hg_ hnew_; (first | rw [← Ny688.out] at ho29 | (simp only [Int.reduceToNat] at ho29; rw [← Ny688.out] at ho29)); have n0_ := Aside0.mk (Kd.R_lower (Kd.R_newM (M := fun k_ => (w.heap.size ≤ k_)) ho29 (below_size (by repeat (first | (with_reducible first | exact HB.out | apply below_alloc | apply pw_below_drewN | apply below_drew1) | exact HB.out))) (fun k_ h_ => h_)) (below_size (by repeat (first | (with_reducible first | exact HB.out | apply below_alloc | apply pw_below_drewN | apply below_drew1) | exact HB.out)))); have n1_ := Aside0.mk (below_step (by repeat (first | (with_reducible first | exact HB.out | apply below_alloc | apply pw_below_drewN | apply below_drew1) | exact HB.out)) hb); clear HB; have HO690 := n0_; have HB := n1_; clear n0_ n1_; clear hb ho29))
    go_ret3
    exact ⟨_, by first | rfl | (simp [errW_none, errW_some] <;> rfl) | (simp [*, errW_none, errW_some] <;> rfl), Kd.R_V (by (with_reducible repeat (first | apply Kd.R_alloc | apply Kd.R_drewN | apply Kd.R_drew)); exact Kd.R_mono HO690.out (fun _ hk => hk.1)), by repeat (first | (with_reducible first | exact HB.out | apply below_alloc | apply pw_below_drewN | apply below_drew1) | exact HB.out)⟩

/-! ### ext impl_FastestLeaders: function 50 -/

theorem isfn_fast : IsFn 87 := fun _ _ => by kernel_rfl
def impl_FastestLeaders.f (k : Nat) (l0 : List S75) (l1 : List Int) : Option (List Int × Int × Int) := leastM k (fun plan => impl_minutes.f k l0 l1 plan) l0 l1
theorem impl_FastestLeaders.mono : ∀ a0 a1 k, LeO (impl_FastestLeaders.f k a0 a1) (impl_FastestLeaders.f (k + 1) a0 a1) := fun a0 a1 k => leastM_le k (fun p => impl_minutes.mono _ _ _ k) a0 a1
set_option maxHeartbeats 8000000 in
set_option maxRecDepth 100000 in
theorem fast_tells (k : Nat) (A0 : Option Addr) (c0 : Nat) (l0 : List S75) (A1 : Option Addr) (c1 : Nat) (l1 : List Int) (t0 t1 : Nat) (A : Option Addr) (c : Nat) (l : List Int) (m : Int) (W : World) (h0 : W.heap[t0]? = some (.cells #[.slice A0 l0.length c0] 36 (0, 0))) (h1 : W.heap[t1]? = some (.cells #[.slice A1 l1.length c1] 22 (0, 0)))
    (hr0 : Kd.C k75 W A0 l0.length l0) (hc0 : l0.length ≤ c0) (hr1 : Kd.C (Kd.int .i64) W A1 l1.length l1) (hc1 : l1.length ≤ c1) (hr : Kd.C (Kd.int .i64) W A l.length l) (hc : l.length ≤ c) (h : impl_minutes.f k l0 l1 l = some m) :
    Calls Try.prog 87 (#[.slice A l.length c] ++ #[.pointer (some ⟨t0, 0, none⟩), .pointer (some ⟨t1, 0, none⟩)]) W fun e w' => e = .returned (.int .i64 m) ∧ Below W.heap.size W w' := by
  have hx0 := blk_cell h0 0
  have hx1 := blk_cell h1 0
  have HQ := Aside0.mk (impl_minutes.calls k A0 c0 l0 A1 c1 l1 A c l m W hr0 hc0 hr1 hc1 hr hc h)
  clear h0 h1 hr0 hc0 hr1 hc1 hr hc h
  show Calls Try.prog 87 #[.slice A l.length c, .pointer (some ⟨t0, 0, none⟩), .pointer (some ⟨t1, 0, none⟩)] W _
  go_enter Try.func87, Try.ntmps87
  go_wp2_with fail
  with_reducible refine HQ.out.mono ?_
  rintro e w1 ⟨rfl, hb⟩
  have HB := Aside0.mk hb
  clear hb
  go_wp2
  go_ret
  exact ⟨rfl, by first | exact HB.out | exact HB.out.below⟩
set_option maxHeartbeats 8000000 in
set_option maxRecDepth 100000 in
theorem impl_FastestLeaders.calls (k : Nat) (A0 : Option Addr) (c0 : Nat) (l0 : List S75) (A1 : Option Addr) (c1 : Nat) (l1 : List Int) (r1 : List Int) (r2 : Int) (r3 : Int) (w : World) (hr0 : Kd.C k75 w A0 l0.length l0) (hc0 : l0.length ≤ c0) (hr1 : Kd.C (Kd.int .i64) w A1 l1.length l1) (hc1 : l1.length ≤ c1) (h : impl_FastestLeaders.f k l0 l1 = some (r1, r2, r3)) :
    Calls Try.prog 50 #[.slice A0 l0.length c0, .slice A1 l1.length c1] w fun e w' => ∃ v0_ : Value, e = .returned (.tuple #[v0_, .int .i64 r2, .int .i64 r3]) ∧ Kd.R (Kd.int .i64) 2 w' w.heap.size (fun _ => True) v0_ r1 ∧ Below w.heap.size w w' := by
  have hmf : ∀ (fn : Fn) (first cap : Array Value) (w : World), (Instr.makeFunc fn first cap).run Try.prog w = .ok (.func fn first cap) w := fun _ _ _ _ => rfl
  have hbel := below_alloc (below_alloc (Below.refl w.heap.size w) (.cells #[.slice A0 l0.length c0] 36)) (.cells #[.slice A1 l1.length c1] 22)
  have b0 := blk_alloc (blk_new w (.cells #[.slice A0 l0.length c0] 36)) (.cells #[.slice A1 l1.length c1] 22)
  have b1 := blk_new2 (w.alloc (.cells #[.slice A0 l0.length c0] 36)) (.cells #[.slice A1 l1.length c1] 22) (g := w.heap.size + 1) (by simp)
  have HQ := Aside0.mk (leastPlan_any k (fun plan => impl_minutes.f k l0 l1 plan) 87 #[.pointer (some ⟨w.heap.size, 0, none⟩), .pointer (some ⟨w.heap.size + 1, 0, none⟩)] A0 c0 l0 A1 c1 l1 r1 r2 r3 ((w.alloc (.cells #[.slice A0 l0.length c0] 36)).alloc (.cells #[.slice A1 l1.length c1] 22))
    { fn := isfn_fast, tells := fun W A c l m hb hr hc hm => fast_tells k A0 c0 l0 A1 c1 l1 w.heap.size (w.heap.size + 1) A c l m W ((hb.block _ (blk_lt b0)).trans b0) ((hb.block _ (blk_lt b1)).trans b1) (Kd.C_below (Kd.C_below hr0 hbel) hb) hc0 (Kd.C_below (Kd.C_below hr1 hbel) hb) hc1 hr hc hm } (Kd.C_below hr0 hbel) hc0 (Kd.C_below hr1 hbel) hc1 h)
  have HBL := Aside0.mk hbel
  clear hr0 hc0 hr1 hc1 h b0 b1 hbel
  go_enter Try.func50, Try.ntmps50
  go_wp2_with fail
  with_reducible refine HQ.out.mono ?_
  rintro e w1 ⟨v, rfl, ho, hb⟩
  have HO := Aside0.mk (Kd.R_lower ho HBL.out.size)
  have HB := Aside0.mk (below_then HBL.out HBL.out.size hb)
  clear ho hb
  go_wp2
  go_ret3
  exact ⟨_, rfl, HO.out, HB.out⟩

end Go.Proofs.Ythfinhdmdfekcaa.PA
