/- Lean functions for Go functions, and proofs that Go comes to just their answers; written by a program of this session. -/
import Derived.Test.YtdedijjbdkoekaaPAx0
import Derived.Test.YtdedijjbdkoekaaPAx2
import Derived.Test.YtdedijjbdkoekaaPAx4
import Derived.Test.YtdedijjbdkoekaaPAx5
import Derived.Test.YtdedijjbdkoekaaPAx9
import Derived.Test.YtdedijjbdkoekaaPAx10
namespace Go.Proofs.Ytdedijjbdkoekaa.PA
open Go.RowKit Go.Proofs.YtdedijjbdkoekaaW.PrintWords Go.Proofs.YtdedijjbdkoekaaW.PrintLast Go.Proofs.YtdedijjbdkoekaaW.PrintMore
attribute [local go_sem] max2_int min2_int max_two min_two max_three min_three max_four min_four   -- for this text's walks alone
set_option linter.unusedVariables false
set_option linter.unusedSimpArgs false

/-! ### spec_l01All: function 71 -/
mutual
def spec_l01All.l0 : Nat → List (S33) → Int → Int → Int → Int → Int → Int → Int → Int → Int → Int → Int → Int → Int → Option ((List (S33)))
  | 0, _, _, _, _, _, _, _, _, _, _, _, _, _, _ => none
  | k + 1, x3, x4, x1000, x1001, x1002, x1003, x1004, x1005, x1006, x1007, x1008, x1009, x1010, x1011 => if x4 < x1001 then (spec_l01All.l1 k x3 x4 0 x1000 x1001 x1002 x1003 x1004 x1005 x1006 x1007 x1008 x1009 x1010 x1011) else (some x3)
def spec_l01All.l1 : Nat → List (S33) → Int → Int → Int → Int → Int → Int → Int → Int → Int → Int → Int → Int → Int → Int → Option ((List (S33)))
  | 0, _, _, _, _, _, _, _, _, _, _, _, _, _, _, _ => none
  | k + 1, x3, x4, x5, x1000, x1001, x1002, x1003, x1004, x1005, x1006, x1007, x1008, x1009, x1010, x1011 => if x5 < x1000 then ((spec_l01Free.f x1000 x1001 x1002 x1003 x1004 x1005 x1006 x1007 x1008 x1009 x1010 x1011 x5 x4).bind fun t111 => (if t111 = true then (if x3.length < 70368744177664 then (spec_l01All.l1 k (x3 ++ [(⟨x5, x4⟩ : S33)]) x4 (IntKind.i8.wrap (x5 + 1)) x1000 x1001 x1002 x1003 x1004 x1005 x1006 x1007 x1008 x1009 x1010 x1011) else (none)) else (spec_l01All.l1 k x3 x4 (IntKind.i8.wrap (x5 + 1)) x1000 x1001 x1002 x1003 x1004 x1005 x1006 x1007 x1008 x1009 x1010 x1011))) else (spec_l01All.l0 k x3 (IntKind.i8.wrap (x4 + 1)) x1000 x1001 x1002 x1003 x1004 x1005 x1006 x1007 x1008 x1009 x1010 x1011)
end
def spec_l01All.f (k : Nat) (s0_0 : Int) (s0_1 : Int) (s0_2 : Int) (s0_3 : Int) (s0_4 : Int) (s0_5 : Int) (s0_6 : Int) (s0_7 : Int) (s0_8 : Int) (s0_9 : Int) (s0_10 : Int) (s0_11 : Int) : Option ((List (S33))) := spec_l01All.l0 k (([] : List (S33))) 0 s0_0 s0_1 s0_2 s0_3 s0_4 s0_5 s0_6 s0_7 s0_8 s0_9 s0_10 s0_11
theorem spec_l01All.mono_l : ∀ k, (∀ y0 y1 y2 y3 y4 y5 y6 y7 y8 y9 y10 y11 y12 y13, LeO (spec_l01All.l0 k y0 y1 y2 y3 y4 y5 y6 y7 y8 y9 y10 y11 y12 y13) (spec_l01All.l0 (k + 1) y0 y1 y2 y3 y4 y5 y6 y7 y8 y9 y10 y11 y12 y13)) ∧ (∀ y0 y1 y2 y3 y4 y5 y6 y7 y8 y9 y10 y11 y12 y13 y14, LeO (spec_l01All.l1 k y0 y1 y2 y3 y4 y5 y6 y7 y8 y9 y10 y11 y12 y13 y14) (spec_l01All.l1 (k + 1) y0 y1 y2 y3 y4 y5 y6 y7 y8 y9 y10 y11 y12 y13 y14))
  | 0 => ⟨fun _ _ _ _ _ _ _ _ _ _ _ _ _ _ r h => by simp [spec_l01All.l0] at h, fun _ _ _ _ _ _ _ _ _ _ _ _ _ _ _ r h => by simp [spec_l01All.l1] at h⟩
  | k + 1 => by
    obtain ⟨ih0, ih1⟩ := spec_l01All.mono_l k
    refine ⟨?_, ?_⟩
    · intro y0 y1 y2 y3 y4 y5 y6 y7 y8 y9 y10 y11 y12 y13
      unfold spec_l01All.l0
      repeat' first
      | (with_reducible exact ih0 _ _ _ _ _ _ _ _ _ _ _ _ _ _)
      | (with_reducible exact ih1 _ _ _ _ _ _ _ _ _ _ _ _ _ _ _)
      | (with_reducible exact LeO.refl _)
      | (with_reducible exact LeO.none _)
      | (with_reducible refine LeO.ite ?_ ?_)
      | (with_reducible refine LeO.bind ?_ (fun _ => ?_))
      | exact ih0 _ _ _ _ _ _ _ _ _ _ _ _ _ _
      | exact ih1 _ _ _ _ _ _ _ _ _ _ _ _ _ _ _
      | exact LeO.none _
      | refine LeO.ite ?_ ?_
      | refine LeO.bind ?_ (fun _ => ?_)
    · intro y0 y1 y2 y3 y4 y5 y6 y7 y8 y9 y10 y11 y12 y13 y14
      unfold spec_l01All.l1
      repeat' first
      | (with_reducible exact ih0 _ _ _ _ _ _ _ _ _ _ _ _ _ _)
      | (with_reducible exact ih1 _ _ _ _ _ _ _ _ _ _ _ _ _ _ _)
      | (with_reducible exact LeO.refl _)
      | (with_reducible exact LeO.none _)
      | (with_reducible refine LeO.ite ?_ ?_)
      | (with_reducible refine LeO.bind ?_ (fun _ => ?_))
      | exact ih0 _ _ _ _ _ _ _ _ _ _ _ _ _ _
      | exact ih1 _ _ _ _ _ _ _ _ _ _ _ _ _ _ _
      | exact LeO.none _
      | refine LeO.ite ?_ ?_
      | refine LeO.bind ?_ (fun _ => ?_)
theorem spec_l01All.mono : ∀ a0 a1 a2 a3 a4 a5 a6 a7 a8 a9 a10 a11 k, LeO (spec_l01All.f k a0 a1 a2 a3 a4 a5 a6 a7 a8 a9 a10 a11) (spec_l01All.f (k + 1) a0 a1 a2 a3 a4 a5 a6 a7 a8 a9 a10 a11) := by
  intro a0 a1 a2 a3 a4 a5 a6 a7 a8 a9 a10 a11 k
  obtain ⟨ih0, ih1⟩ := spec_l01All.mono_l k
  unfold spec_l01All.f
  repeat' first
      | (with_reducible exact ih0 _ _ _ _ _ _ _ _ _ _ _ _ _ _)
      | (with_reducible exact ih1 _ _ _ _ _ _ _ _ _ _ _ _ _ _ _)
      | (with_reducible exact LeO.refl _)
      | (with_reducible exact LeO.none _)
      | (with_reducible refine LeO.ite ?_ ?_)
      | (with_reducible refine LeO.bind ?_ (fun _ => ?_))
      | exact ih0 _ _ _ _ _ _ _ _ _ _ _ _ _ _
      | exact ih1 _ _ _ _ _ _ _ _ _ _ _ _ _ _ _
      | exact LeO.none _
      | refine LeO.ite ?_ ?_
      | refine LeO.bind ?_ (fun _ => ?_)
set_option maxHeartbeats 8000000 in
set_option maxRecDepth 100000 in
theorem spec_l01All.calls (k : Nat) (g0 : Nat) (s0_0 : Int) (s0_1 : Int) (s0_2 : Int) (s0_3 : Int) (s0_4 : Int) (s0_5 : Int) (s0_6 : Int) (s0_7 : Int) (s0_8 : Int) (s0_9 : Int) (s0_10 : Int) (s0_11 : Int) (r : List (S33)) (w : World) (hb0 : w.heap[g0]? = some (.cells #[.int .i8 s0_0, .int .i8 s0_1, .int .u16 s0_2, .int .u16 s0_3, .int .u16 s0_4, .int .u16 s0_5, .int .u16 s0_6, .int .u16 s0_7, .int .u16 s0_8, .int .u16 s0_9, .int .u16 s0_10, .int .u16 s0_11] 39 (0, 0))) (h : spec_l01All.f k s0_0 s0_1 s0_2 s0_3 s0_4 s0_5 s0_6 s0_7 s0_8 s0_9 s0_10 s0_11 = some r) :
    Calls Try.prog 71 #[.pointer (some ⟨g0, 0, none⟩)] w fun e w' => ∃ v0_ : Value, e = .returned (v0_) ∧ Kd.R k33 33 w' w.heap.size (fun _ => True) v0_ r ∧ Below w.heap.size w w' := by
  have hu33 := Try.underlying33
  have BK0 := Aside0.mk hb0
  clear hb0
  have HB := Aside0.mk (Below.refl w.heap.size w)
  have H : (spec_l01All.l0 k (([] : List (S33))) 0 s0_0 s0_1 s0_2 s0_3 s0_4 s0_5 s0_6 s0_7 s0_8 s0_9 s0_10 s0_11) = some r := h
  clear h
  obtain ⟨y108, hy108⟩ : ∃ y_ : List (S33), y_ = (([] : List (S33))) := ⟨_, rfl⟩
  replace H : (spec_l01All.l0 k y108 0 s0_0 s0_1 s0_2 s0_3 s0_4 s0_5 s0_6 s0_7 s0_8 s0_9 s0_10 s0_11) = some r := by first | (rw [hy108]; with_reducible exact H) | (have H2_ := (Option.bind_some _ _).symm.trans H; rw [hy108]; with_reducible exact H2_) | (have H2_ := (Option.bind_some _ _).symm.trans H; with_reducible exact H2_) | with_reducible exact H | (rw [hy108]; exact H) | exact H
  have Ny108 := Aside0.mk hy108
  clear hy108
  have H' := Aside0.mk H
  clear H
  go_enter Try.func71, Try.ntmps71
  go_wp2_with (first | ((with_reducible refine gate_dst (N := 6) rfl ?_); refine Kd.R_lit k33 _ 33 ?hg (N := 6) ?hd (xs := ([] : List (S33))) (inner := []) (ok := fun _ => True) (okp := fun _ => True) ?hr ?hp (fun _ hk => hk) trivial (Below.refl _ _) (Nat.le_refl _) (by simp) ?_; (case hd => rfl); (case hg => rfl); (case hr => first | (go_simp; done) | (go_simp; rfl)); (case hp => exact (Reps.none _ _)); intro v109 w2 ho3 hb hg_ hnew_; clear hg_ hnew_; (first | rw [← Ny108.out] at ho3 | (simp only [Int.reduceToNat] at ho3; rw [← Ny108.out] at ho3)); have n0_ := Aside0.mk (Kd.R_lower ho3 (below_size (by repeat (first | (with_reducible first | exact HB.out | apply below_alloc | apply pw_below_drewN | apply below_drew1 | refine below_set ?_ GE0.out) | exact HB.out)))); have n1_ := Aside0.mk (blk_below (g := g0) (o := .cells #[.int .i8 s0_0, .int .i8 s0_1, .int .u16 s0_2, .int .u16 s0_3, .int .u16 s0_4, .int .u16 s0_5, .int .u16 s0_6, .int .u16 s0_7, .int .u16 s0_8, .int .u16 s0_9, .int .u16 s0_10, .int .u16 s0_11] 39 (0, 0)) (by (with_reducible repeat (first | refine blk_drewN ?_ _ | refine blk_drew ?_ | refine blk_alloc ?_ _)); exact BK0.out) hb); have n2_ := Aside0.mk (below_step (by repeat (first | (with_reducible first | exact HB.out | apply below_alloc | apply pw_below_drewN | apply below_drew1 | refine below_set ?_ GE0.out) | exact HB.out)) hb); clear BK0; clear HB; have HO110 := n0_; have BK0 := n1_; have HB := n2_; clear n0_ n1_ n2_; clear hb ho3))
  go_loopg [3, 4] k (fun kq v3 v4 w' => ∃ (x3_1 : List (S33)) (x4_1 : Int), v4 = .int .i8 x4_1 ∧ Aside0 (spec_l01All.l0 kq x3_1 x4_1 s0_0 s0_1 s0_2 s0_3 s0_4 s0_5 s0_6 s0_7 s0_8 s0_9 s0_10 s0_11 = some r) ∧ Aside0 (kq ≤ k) ∧ Aside0 (Kd.R k33 33 w' w.heap.size (fun _ => True) v3 x3_1) ∧ Aside0 (w'.heap[g0]? = some (.cells #[.int .i8 s0_0, .int .i8 s0_1, .int .u16 s0_2, .int .u16 s0_3, .int .u16 s0_4, .int .u16 s0_5, .int .u16 s0_6, .int .u16 s0_7, .int .u16 s0_8, .int .u16 s0_9, .int .u16 s0_10, .int .u16 s0_11] 39 (0, 0))) ∧ Aside0 (Below w.heap.size w w'))
  case atStart => exact ⟨(y108), (0), (by first | rfl | (simp; done) | (simp [*]; done)), H', ⟨Nat.le_refl _⟩, ⟨by (with_reducible repeat (first | apply Kd.R_alloc | apply Kd.R_drewN | apply Kd.R_drew)); exact HO110.out⟩, ⟨by (with_reducible repeat (first | refine blk_drewN ?_ _ | refine blk_drew ?_ | refine blk_alloc ?_ _)); exact BK0.out⟩, ⟨by repeat (first | (with_reducible first | exact HB.out | apply below_alloc | apply pw_below_drewN | apply below_drew1 | refine below_set ?_ GE0.out) | exact HB.out)⟩⟩
  case round =>
    clear H'
    try clear p2
    obtain ⟨x3_1, x4_1, rfl, HA, HK1, HO_3, BK0, HB⟩ := hrel
    cases gk with
    | zero => exact absurd HA.out (by simp [spec_l01All.l0])
    | succ k1 =>
      have H := HA.out
      clear HA
      simp only [spec_l01All.l0] at H
      by_cases c4 : x4_1 < s0_1
      · rw [if_pos c4] at H
        have c4b0 : decide (x4_1 < s0_1) = true := decide_eq_true c4
        clear c4
        have H' := Aside0.mk H
        clear H
        have hcz5_0 : wr.cell? ⟨g0, 0, none⟩ = some (.int .i8 s0_0) := bc_ BK0.out 0
        have hcz5_1 : wr.cell? ⟨g0, 1, none⟩ = some (.int .i8 s0_1) := bc_ BK0.out 1
        have hcz5_2 : wr.cell? ⟨g0, 2, none⟩ = some (.int .u16 s0_2) := bc_ BK0.out 2
        have hcz5_3 : wr.cell? ⟨g0, 3, none⟩ = some (.int .u16 s0_3) := bc_ BK0.out 3
        have hcz5_4 : wr.cell? ⟨g0, 4, none⟩ = some (.int .u16 s0_4) := bc_ BK0.out 4
        have hcz5_5 : wr.cell? ⟨g0, 5, none⟩ = some (.int .u16 s0_5) := bc_ BK0.out 5
        have hcz5_6 : wr.cell? ⟨g0, 6, none⟩ = some (.int .u16 s0_6) := bc_ BK0.out 6
        have hcz5_7 : wr.cell? ⟨g0, 7, none⟩ = some (.int .u16 s0_7) := bc_ BK0.out 7
        have hcz5_8 : wr.cell? ⟨g0, 8, none⟩ = some (.int .u16 s0_8) := bc_ BK0.out 8
        have hcz5_9 : wr.cell? ⟨g0, 9, none⟩ = some (.int .u16 s0_9) := bc_ BK0.out 9
        have hcz5_10 : wr.cell? ⟨g0, 10, none⟩ = some (.int .u16 s0_10) := bc_ BK0.out 10
        have hcz5_11 : wr.cell? ⟨g0, 11, none⟩ = some (.int .u16 s0_11) := bc_ BK0.out 11
        have hfz5_0 := blk_frozen BK0.out 0
        have hfz5_1 := blk_frozen BK0.out 1
        have hfz5_2 := blk_frozen BK0.out 2
        have hfz5_3 := blk_frozen BK0.out 3
        have hfz5_4 := blk_frozen BK0.out 4
        have hfz5_5 := blk_frozen BK0.out 5
        have hfz5_6 := blk_frozen BK0.out 6
        have hfz5_7 := blk_frozen BK0.out 7
        have hfz5_8 := blk_frozen BK0.out 8
        have hfz5_9 := blk_frozen BK0.out 9
        have hfz5_10 := blk_frozen BK0.out 10
        have hfz5_11 := blk_frozen BK0.out 11
        go_wp2
        go_loopg [3, 5] k1 (fun kq v3 v5 w' => ∃ (x3_2 : List (S33)) (x5_2 : Int), v5 = .int .i8 x5_2 ∧ Aside0 (spec_l01All.l1 kq x3_2 x4_1 x5_2 s0_0 s0_1 s0_2 s0_3 s0_4 s0_5 s0_6 s0_7 s0_8 s0_9 s0_10 s0_11 = some r) ∧ Aside0 (kq ≤ k1) ∧ Aside0 (Kd.R k33 33 w' w.heap.size (fun _ => True) v3 x3_2) ∧ Aside0 (w'.heap[g0]? = some (.cells #[.int .i8 s0_0, .int .i8 s0_1, .int .u16 s0_2, .int .u16 s0_3, .int .u16 s0_4, .int .u16 s0_5, .int .u16 s0_6, .int .u16 s0_7, .int .u16 s0_8, .int .u16 s0_9, .int .u16 s0_10, .int .u16 s0_11] 39 (0, 0))) ∧ Aside0 (Below w.heap.size w w'))
        case atStart => exact ⟨(x3_1), (0), (by first | rfl | (simp; done) | (simp [*]; done)), H', ⟨Nat.le_refl _⟩, ⟨by (with_reducible repeat (first | apply Kd.R_alloc | apply Kd.R_drewN | apply Kd.R_drew)); exact HO_3.out⟩, ⟨by (with_reducible repeat (first | refine blk_drewN ?_ _ | refine blk_drew ?_ | refine blk_alloc ?_ _)); exact BK0.out⟩, ⟨by repeat (first | (with_reducible first | exact HB.out | apply below_alloc | apply pw_below_drewN | apply below_drew1 | refine below_set ?_ GE0.out) | exact HB.out)⟩⟩
        case round =>
          clear H'
          try clear p2
          try clear c4
          try clear c4b0
          try clear hcz5_0
          try clear hcz5_1
          try clear hcz5_10
          try clear hcz5_11
          try clear hcz5_2
          try clear hcz5_3
          try clear hcz5_4
          try clear hcz5_5
          try clear hcz5_6
          try clear hcz5_7
          try clear hcz5_8
          try clear hcz5_9
          try clear hfz5_0
          try clear hfz5_1
          try clear hfz5_10
          try clear hfz5_11
          try clear hfz5_2
          try clear hfz5_3
          try clear hfz5_4
          try clear hfz5_5
          try clear hfz5_6
          try clear hfz5_7
          try clear hfz5_8
          try clear hfz5_9
          try clear p2
          obtain ⟨x3_2, x5_2, rfl, HA, HK2, HO_3, BK0, HB⟩ := hrel
          cases gk with
          | zero => exact absurd HA.out (by simp [spec_l01All.l1])
          | succ k2 =>
            have H := HA.out
            clear HA
            simp only [spec_l01All.l1] at H
            by_cases c6 : x5_2 < s0_0
            · rw [if_pos c6] at H
              have c6b0 : decide (x5_2 < s0_0) = true := decide_eq_true c6
              clear c6
              replace H := Option.bind_eq_some_iff.mp H
              obtain ⟨t111, A70, H⟩ := H
              replace H : (if t111 = true then (if x3_2.length < 70368744177664 then (spec_l01All.l1 k2 (x3_2 ++ [(⟨x5_2, x4_1⟩ : S33)]) x4_1 (IntKind.i8.wrap (x5_2 + 1)) s0_0 s0_1 s0_2 s0_3 s0_4 s0_5 s0_6 s0_7 s0_8 s0_9 s0_10 s0_11) else (none)) else (spec_l01All.l1 k2 x3_2 x4_1 (IntKind.i8.wrap (x5_2 + 1)) s0_0 s0_1 s0_2 s0_3 s0_4 s0_5 s0_6 s0_7 s0_8 s0_9 s0_10 s0_11)) = some r := H
              have A7 := Aside0.mk A70
              clear A70
              by_cases c8 : t111 = true
              · subst c8
                have H1 : (if x3_2.length < 70368744177664 then (spec_l01All.l1 k2 (x3_2 ++ [(⟨x5_2, x4_1⟩ : S33)]) x4_1 (IntKind.i8.wrap (x5_2 + 1)) s0_0 s0_1 s0_2 s0_3 s0_4 s0_5 s0_6 s0_7 s0_8 s0_9 s0_10 s0_11) else (none)) = some r := by rw [if_pos rfl] at H; exact H
                clear H
                have H := H1
                clear H1
                by_cases c9 : x3_2.length < 70368744177664
                · rw [if_pos c9] at H
                  have LMc9 := Aside0.mk c9
                  clear c9
                  obtain ⟨y112, hy112⟩ : ∃ y_ : List (S33), y_ = (x3_2 ++ [(⟨x5_2, x4_1⟩ : S33)]) := ⟨_, rfl⟩
                  replace H : (spec_l01All.l1 k2 y112 x4_1 (IntKind.i8.wrap (x5_2 + 1)) s0_0 s0_1 s0_2 s0_3 s0_4 s0_5 s0_6 s0_7 s0_8 s0_9 s0_10 s0_11) = some r := by first | (rw [hy112]; with_reducible exact H) | (have H2_ := (Option.bind_some _ _).symm.trans H; rw [hy112]; with_reducible exact H2_) | (have H2_ := (Option.bind_some _ _).symm.trans H; with_reducible exact H2_) | with_reducible exact H | (rw [hy112]; exact H) | exact H
                  have Ny112 := Aside0.mk hy112
                  clear hy112
                  have H' := Aside0.mk H
                  clear H
                  have hcz10_0 : wr.cell? ⟨g0, 0, none⟩ = some (.int .i8 s0_0) := bc_ BK0.out 0
                  have hcz10_1 : wr.cell? ⟨g0, 1, none⟩ = some (.int .i8 s0_1) := bc_ BK0.out 1
                  have hcz10_2 : wr.cell? ⟨g0, 2, none⟩ = some (.int .u16 s0_2) := bc_ BK0.out 2
                  have hcz10_3 : wr.cell? ⟨g0, 3, none⟩ = some (.int .u16 s0_3) := bc_ BK0.out 3
                  have hcz10_4 : wr.cell? ⟨g0, 4, none⟩ = some (.int .u16 s0_4) := bc_ BK0.out 4
                  have hcz10_5 : wr.cell? ⟨g0, 5, none⟩ = some (.int .u16 s0_5) := bc_ BK0.out 5
                  have hcz10_6 : wr.cell? ⟨g0, 6, none⟩ = some (.int .u16 s0_6) := bc_ BK0.out 6
                  have hcz10_7 : wr.cell? ⟨g0, 7, none⟩ = some (.int .u16 s0_7) := bc_ BK0.out 7
                  have hcz10_8 : wr.cell? ⟨g0, 8, none⟩ = some (.int .u16 s0_8) := bc_ BK0.out 8
                  have hcz10_9 : wr.cell? ⟨g0, 9, none⟩ = some (.int .u16 s0_9) := bc_ BK0.out 9
                  have hcz10_10 : wr.cell? ⟨g0, 10, none⟩ = some (.int .u16 s0_10) := bc_ BK0.out 10
                  have hcz10_11 : wr.cell? ⟨g0, 11, none⟩ = some (.int .u16 s0_11) := bc_ BK0.out 11
                  have hfz10_0 := blk_frozen BK0.out 0
                  have hfz10_1 := blk_frozen BK0.out 1
                  have hfz10_2 := blk_frozen BK0.out 2
                  have hfz10_3 := blk_frozen BK0.out 3
                  have hfz10_4 := blk_frozen BK0.out 4
                  have hfz10_5 := blk_frozen BK0.out 5
                  have hfz10_6 := blk_frozen BK0.out 6
                  have hfz10_7 := blk_frozen BK0.out 7
                  have hfz10_8 := blk_frozen BK0.out 8
                  have hfz10_9 := blk_frozen BK0.out 9
                  have hfz10_10 := blk_frozen BK0.out 10
                  have hfz10_11 := blk_frozen BK0.out 11
                  go_wp2_with (first | ((with_reducible refine gate_callee (f := 74) rfl ?_); refine goesL_ (some 27) rfl rfl Try.func74 (by kernel_rfl) rfl #[.pointer (some ⟨g0, 0, none⟩), .agg #[.int .i8 x5_2, .int .i8 x4_1]] rfl (by (try simp only [List.map_toArray, List.map_cons, List.map_nil]); first | done | rfl | (simp only [List.length_drop, List.length_take]; rfl)) ?_; (with_reducible refine (spec_l01Free.calls g0 s0_0 s0_1 s0_2 s0_3 s0_4 s0_5 s0_6 s0_7 s0_8 s0_9 s0_10 s0_11 x5_2 x4_1 true _ ?side1 A7.out).mono ?_); (case side1 => exact (by (with_reducible repeat (first | refine blk_drewN ?_ _ | refine blk_drew ?_ | refine blk_alloc ?_ _)); exact BK0.out)); rintro e w11 ⟨rfl, hb⟩; refine ⟨_, rfl, ?_⟩; have n0_ := Aside0.mk (Kd.R_below (by (with_reducible repeat (first | apply Kd.R_alloc | apply Kd.R_drewN | apply Kd.R_drew)); exact HO_3.out) hb); have n1_ := Aside0.mk (blk_below (g := g0) (o := .cells #[.int .i8 s0_0, .int .i8 s0_1, .int .u16 s0_2, .int .u16 s0_3, .int .u16 s0_4, .int .u16 s0_5, .int .u16 s0_6, .int .u16 s0_7, .int .u16 s0_8, .int .u16 s0_9, .int .u16 s0_10, .int .u16 s0_11] 39 (0, 0)) (by (with_reducible repeat (first | refine blk_drewN ?_ _ | refine blk_drew ?_ | refine blk_alloc ?_ _)); exact BK0.out) hb); have n2_ := Aside0.mk (below_step (by repeat (first | (with_reducible first | exact HB.out | apply below_alloc | apply pw_below_drewN | apply below_drew1 | refine below_set ?_ GE0.out) | exact HB.out)) hb); clear HO_3; clear BK0; clear HB; have HO_3 := n0_; have BK0 := n1_; have HB := n2_; clear n0_ n1_ n2_; (try clear hb); (try clear hb2); (try clear hk); (try clear hi)) | ((with_reducible refine gate_builtin (b := .append) (xs := #[.tmp 28, .tmp 32]) rfl ?_); at_builtin; refine Kd.R_append k33 (w0 := w) w.heap.size rfl (.tmp 28) (.tmp 32) 48 33 (.agg #[(.int .i8 0), (.int .i8 0)]) 2 rfl Try.underlying48 info33 rfl (by decide) (by omega) u3 x3_2 (⟨x5_2, x4_1⟩ : S33) [.int .i8 x5_2, .int .i8 x4_1] (fun _ => True) (fun _ => False) rfl rfl ?aP (fun _ hk => hk.elim) ?aF ?aO ?aB ?aS ?aL ?_; (case aP => exact k33_mkM _ _ _ (⟨x5_2, x4_1⟩ : S33)); (case aB => exact (by repeat (first | (with_reducible first | exact HB.out | apply below_alloc | apply pw_below_drewN | apply below_drew1 | refine below_set ?_ GE0.out) | exact HB.out))); (case aF => exact (fun _ _ => trivial)); (case aO => exact (by (with_reducible repeat (first | apply Kd.R_alloc | apply Kd.R_drewN | apply Kd.R_drew)); exact HO_3.out)); (case aS => exact (below_size (by repeat (first | (with_reducible first | exact HB.out | apply below_alloc | apply pw_below_drewN | apply below_drew1 | refine below_set ?_ GE0.out) | exact HB.out)))); (case aL => have := LMc9.out; omega); intro v113 w12 ho hb hg hat; rw [← Ny112.out] at ho; have n0_ := Aside0.mk (blk_grown (g := g0) (o := .cells #[.int .i8 s0_0, .int .i8 s0_1, .int .u16 s0_2, .int .u16 s0_3, .int .u16 s0_4, .int .u16 s0_5, .int .u16 s0_6, .int .u16 s0_7, .int .u16 s0_8, .int .u16 s0_9, .int .u16 s0_10, .int .u16 s0_11] 39 (0, 0)) (by (with_reducible repeat (first | refine blk_drewN ?_ _ | refine blk_drew ?_ | refine blk_alloc ?_ _)); exact BK0.out) hg (Kd.R_ne HO_3.out BK0.out (by decide))); have n1_ := Aside0.mk (hb); have n2_ := Aside0.mk (ho); clear BK0; clear HB; clear HO_3; have BK0 := n0_; have HB := n1_; have HO114 := n2_; clear n0_ n1_ n2_; clear ho hb hg hat))
                  go_roundg k2
                  case measure => have := HK1.out; have := HK2.out; omega
                  case rel => exact ⟨(y112), (IntKind.i8.wrap (x5_2 + 1)), (by first | rfl | (simp; done) | (simp [*]; done)), H', ⟨by have := HK1.out; have := HK2.out; omega⟩, ⟨by (with_reducible repeat (first | apply Kd.R_alloc | apply Kd.R_drewN | apply Kd.R_drew)); exact HO114.out⟩, ⟨by (with_reducible repeat (first | refine blk_drewN ?_ _ | refine blk_drew ?_ | refine blk_alloc ?_ _)); exact BK0.out⟩, ⟨by repeat (first | (with_reducible first | exact HB.out | apply below_alloc | apply pw_below_drewN | apply below_drew1 | refine below_set ?_ GE0.out) | exact HB.out)⟩⟩
                · rw [if_neg c9] at H
                  exact absurd H (by simp)
              · replace c8 := Bool.eq_false_iff.mpr c8
                subst c8
                have H1 : (spec_l01All.l1 k2 x3_2 x4_1 (IntKind.i8.wrap (x5_2 + 1)) s0_0 s0_1 s0_2 s0_3 s0_4 s0_5 s0_6 s0_7 s0_8 s0_9 s0_10 s0_11) = some r := by rw [if_neg (show ¬ (false = true) by decide)] at H; exact H
                clear H
                have H := H1
                clear H1
                have H' := Aside0.mk H
                clear H
                have hcz13_0 : wr.cell? ⟨g0, 0, none⟩ = some (.int .i8 s0_0) := bc_ BK0.out 0
                have hcz13_1 : wr.cell? ⟨g0, 1, none⟩ = some (.int .i8 s0_1) := bc_ BK0.out 1
                have hcz13_2 : wr.cell? ⟨g0, 2, none⟩ = some (.int .u16 s0_2) := bc_ BK0.out 2
                have hcz13_3 : wr.cell? ⟨g0, 3, none⟩ = some (.int .u16 s0_3) := bc_ BK0.out 3
                have hcz13_4 : wr.cell? ⟨g0, 4, none⟩ = some (.int .u16 s0_4) := bc_ BK0.out 4
                have hcz13_5 : wr.cell? ⟨g0, 5, none⟩ = some (.int .u16 s0_5) := bc_ BK0.out 5
                have hcz13_6 : wr.cell? ⟨g0, 6, none⟩ = some (.int .u16 s0_6) := bc_ BK0.out 6
                have hcz13_7 : wr.cell? ⟨g0, 7, none⟩ = some (.int .u16 s0_7) := bc_ BK0.out 7
                have hcz13_8 : wr.cell? ⟨g0, 8, none⟩ = some (.int .u16 s0_8) := bc_ BK0.out 8
                have hcz13_9 : wr.cell? ⟨g0, 9, none⟩ = some (.int .u16 s0_9) := bc_ BK0.out 9
                have hcz13_10 : wr.cell? ⟨g0, 10, none⟩ = some (.int .u16 s0_10) := bc_ BK0.out 10
                have hcz13_11 : wr.cell? ⟨g0, 11, none⟩ = some (.int .u16 s0_11) := bc_ BK0.out 11
                have hfz13_0 := blk_frozen BK0.out 0
                have hfz13_1 := blk_frozen BK0.out 1
                have hfz13_2 := blk_frozen BK0.out 2
                have hfz13_3 := blk_frozen BK0.out 3
                have hfz13_4 := blk_frozen BK0.out 4
                have hfz13_5 := blk_frozen BK0.out 5
                have hfz13_6 := blk_frozen BK0.out 6
                have hfz13_7 := blk_frozen BK0.out 7
                have hfz13_8 := blk_frozen BK0.out 8
                have hfz13_9 := blk_frozen BK0.out 9
                have hfz13_10 := blk_frozen BK0.out 10
                have hfz13_11 := blk_frozen BK0.out 11
                go_wp2_with (first | ((with_reducible refine gate_callee (f := 74) rfl ?_); refine goesL_ (some 27) rfl rfl Try.func74 (by kernel_rfl) rfl #[.pointer (some ⟨g0, 0, none⟩), .agg #[.int .i8 x5_2, .int .i8 x4_1]] rfl (by (try simp only [List.map_toArray, List.map_cons, List.map_nil]); first | done | rfl | (simp only [List.length_drop, List.length_take]; rfl)) ?_; (with_reducible refine (spec_l01Free.calls g0 s0_0 s0_1 s0_2 s0_3 s0_4 s0_5 s0_6 s0_7 s0_8 s0_9 s0_10 s0_11 x5_2 x4_1 false _ ?side1 A7.out).mono ?_); (case side1 => exact (by (with_reducible repeat (first | refine blk_drewN ?_ _ | refine blk_drew ?_ | refine blk_alloc ?_ _)); exact BK0.out)); rintro e w14 ⟨rfl, hb⟩; refine ⟨_, rfl, ?_⟩; have n0_ := Aside0.mk (Kd.R_below (by (with_reducible repeat (first | apply Kd.R_alloc | apply Kd.R_drewN | apply Kd.R_drew)); exact HO_3.out) hb); have n1_ := Aside0.mk (blk_below (g := g0) (o := .cells #[.int .i8 s0_0, .int .i8 s0_1, .int .u16 s0_2, .int .u16 s0_3, .int .u16 s0_4, .int .u16 s0_5, .int .u16 s0_6, .int .u16 s0_7, .int .u16 s0_8, .int .u16 s0_9, .int .u16 s0_10, .int .u16 s0_11] 39 (0, 0)) (by (with_reducible repeat (first | refine blk_drewN ?_ _ | refine blk_drew ?_ | refine blk_alloc ?_ _)); exact BK0.out) hb); have n2_ := Aside0.mk (below_step (by repeat (first | (with_reducible first | exact HB.out | apply below_alloc | apply pw_below_drewN | apply below_drew1 | refine below_set ?_ GE0.out) | exact HB.out)) hb); clear HO_3; clear BK0; clear HB; have HO_3 := n0_; have BK0 := n1_; have HB := n2_; clear n0_ n1_ n2_; (try clear hb); (try clear hb2); (try clear hk); (try clear hi)))
                go_roundg k2
                case measure => have := HK1.out; have := HK2.out; omega
                case rel => exact ⟨(x3_2), (IntKind.i8.wrap (x5_2 + 1)), (by first | rfl | (simp; done) | (simp [*]; done)), H', ⟨by have := HK1.out; have := HK2.out; omega⟩, ⟨by (with_reducible repeat (first | apply Kd.R_alloc | apply Kd.R_drewN | apply Kd.R_drew)); exact HO_3.out⟩, ⟨by (with_reducible repeat (first | refine blk_drewN ?_ _ | refine blk_drew ?_ | refine blk_alloc ?_ _)); exact BK0.out⟩, ⟨by repeat (first | (with_reducible first | exact HB.out | apply below_alloc | apply pw_below_drewN | apply below_drew1 | refine below_set ?_ GE0.out) | exact HB.out)⟩⟩
            · rw [if_neg c6] at H
              have c6b0 : decide (x5_2 < s0_0) = false := decide_eq_false c6
              clear c6
              have H' := Aside0.mk H
              clear H
              have hcz15_0 : wr.cell? ⟨g0, 0, none⟩ = some (.int .i8 s0_0) := bc_ BK0.out 0
              have hcz15_1 : wr.cell? ⟨g0, 1, none⟩ = some (.int .i8 s0_1) := bc_ BK0.out 1
              have hcz15_2 : wr.cell? ⟨g0, 2, none⟩ = some (.int .u16 s0_2) := bc_ BK0.out 2
              have hcz15_3 : wr.cell? ⟨g0, 3, none⟩ = some (.int .u16 s0_3) := bc_ BK0.out 3
              have hcz15_4 : wr.cell? ⟨g0, 4, none⟩ = some (.int .u16 s0_4) := bc_ BK0.out 4
              have hcz15_5 : wr.cell? ⟨g0, 5, none⟩ = some (.int .u16 s0_5) := bc_ BK0.out 5
              have hcz15_6 : wr.cell? ⟨g0, 6, none⟩ = some (.int .u16 s0_6) := bc_ BK0.out 6
              have hcz15_7 : wr.cell? ⟨g0, 7, none⟩ = some (.int .u16 s0_7) := bc_ BK0.out 7
              have hcz15_8 : wr.cell? ⟨g0, 8, none⟩ = some (.int .u16 s0_8) := bc_ BK0.out 8
              have hcz15_9 : wr.cell? ⟨g0, 9, none⟩ = some (.int .u16 s0_9) := bc_ BK0.out 9
              have hcz15_10 : wr.cell? ⟨g0, 10, none⟩ = some (.int .u16 s0_10) := bc_ BK0.out 10
              have hcz15_11 : wr.cell? ⟨g0, 11, none⟩ = some (.int .u16 s0_11) := bc_ BK0.out 11
              have hfz15_0 := blk_frozen BK0.out 0
              have hfz15_1 := blk_frozen BK0.out 1
              have hfz15_2 := blk_frozen BK0.out 2
              have hfz15_3 := blk_frozen BK0.out 3
              have hfz15_4 := blk_frozen BK0.out 4
              have hfz15_5 := blk_frozen BK0.out 5
              have hfz15_6 := blk_frozen BK0.out 6
              have hfz15_7 := blk_frozen BK0.out 7
              have hfz15_8 := blk_frozen BK0.out 8
              have hfz15_9 := blk_frozen BK0.out 9
              have hfz15_10 := blk_frozen BK0.out 10
              have hfz15_11 := blk_frozen BK0.out 11
              go_wp2
              go_roundg k2
              case measure => have := HK1.out; have := HK2.out; omega
              case rel => exact ⟨(x3_2), (IntKind.i8.wrap (x4_1 + 1)), (by first | rfl | (simp; done) | (simp [*]; done)), H', ⟨by have := HK1.out; have := HK2.out; omega⟩, ⟨by (with_reducible repeat (first | apply Kd.R_alloc | apply Kd.R_drewN | apply Kd.R_drew)); exact HO_3.out⟩, ⟨by (with_reducible repeat (first | refine blk_drewN ?_ _ | refine blk_drew ?_ | refine blk_alloc ?_ _)); exact BK0.out⟩, ⟨by repeat (first | (with_reducible first | exact HB.out | apply below_alloc | apply pw_below_drewN | apply below_drew1 | refine below_set ?_ GE0.out) | exact HB.out)⟩⟩
      · rw [if_neg c4] at H
        have c4b0 : decide (x4_1 < s0_1) = false := decide_eq_false c4
        clear c4
        obtain rfl := Option.some.inj H
        have hcz16_0 : wr.cell? ⟨g0, 0, none⟩ = some (.int .i8 s0_0) := bc_ BK0.out 0
        have hcz16_1 : wr.cell? ⟨g0, 1, none⟩ = some (.int .i8 s0_1) := bc_ BK0.out 1
        have hcz16_2 : wr.cell? ⟨g0, 2, none⟩ = some (.int .u16 s0_2) := bc_ BK0.out 2
        have hcz16_3 : wr.cell? ⟨g0, 3, none⟩ = some (.int .u16 s0_3) := bc_ BK0.out 3
        have hcz16_4 : wr.cell? ⟨g0, 4, none⟩ = some (.int .u16 s0_4) := bc_ BK0.out 4
        have hcz16_5 : wr.cell? ⟨g0, 5, none⟩ = some (.int .u16 s0_5) := bc_ BK0.out 5
        have hcz16_6 : wr.cell? ⟨g0, 6, none⟩ = some (.int .u16 s0_6) := bc_ BK0.out 6
        have hcz16_7 : wr.cell? ⟨g0, 7, none⟩ = some (.int .u16 s0_7) := bc_ BK0.out 7
        have hcz16_8 : wr.cell? ⟨g0, 8, none⟩ = some (.int .u16 s0_8) := bc_ BK0.out 8
        have hcz16_9 : wr.cell? ⟨g0, 9, none⟩ = some (.int .u16 s0_9) := bc_ BK0.out 9
        have hcz16_10 : wr.cell? ⟨g0, 10, none⟩ = some (.int .u16 s0_10) := bc_ BK0.out 10
        have hcz16_11 : wr.cell? ⟨g0, 11, none⟩ = some (.int .u16 s0_11) := bc_ BK0.out 11
        have hfz16_0 := blk_frozen BK0.out 0
        have hfz16_1 := blk_frozen BK0.out 1
        have hfz16_2 := blk_frozen BK0.out 2
        have hfz16_3 := blk_frozen BK0.out 3
        have hfz16_4 := blk_frozen BK0.out 4
        have hfz16_5 := blk_frozen BK0.out 5
        have hfz16_6 := blk_frozen BK0.out 6
        have hfz16_7 := blk_frozen BK0.out 7
        have hfz16_8 := blk_frozen BK0.out 8
        have hfz16_9 := blk_frozen BK0.out 9
        have hfz16_10 := blk_frozen BK0.out 10
        have hfz16_11 := blk_frozen BK0.out 11
        go_wp2
        go_ret
        exact ⟨_, by first | rfl | (simp [errW_none, errW_some] <;> rfl) | (simp [*, errW_none, errW_some] <;> rfl), by (with_reducible repeat (first | apply Kd.R_alloc | apply Kd.R_drewN | apply Kd.R_drew)); exact HO_3.out, by repeat (first | (with_reducible first | exact HB.out | apply below_alloc | apply pw_below_drewN | apply below_drew1 | refine below_set ?_ GE0.out) | exact HB.out)⟩

/-! ### spec_l06Plain: function 44 -/
mutual
def spec_l06Plain.l0 : Nat → List (S33) → Int → Int → Int → Int → Int → Int → Int → Int → Int → Int → Int → Int → Int → Int → Int → Int → Int → Int → Int → Int → Int → Int → Int → Int → Int → Int → Int → Int → Int → Int → Int → Int → Int → Int → Int → Int → Int → Int → Int → Int → Int → Option (Int × Int × Int × Int × Int × Int × Int × Int × Int × Int × Int × Int × Int × Int × Int × Int × Int × Int × Int × Int × Int × Int × Int × Int × Int × Int × Int × Int × Int × Int × Int × Int × Int × Int × Int × Int × Int × Int × Int × Int)
  | 0, _, _, _, _, _, _, _, _, _, _, _, _, _, _, _, _, _, _, _, _, _, _, _, _, _, _, _, _, _, _, _, _, _, _, _, _, _, _, _, _, _, _ => none
  | k + 1, x4, x5, x117000, x117001, x117002, x117003, x117004, x117005, x117006, x117007, x117008, x117009, x117010, x117011, x117012, x117013, x117014, x117015, x117016, x117017, x117018, x117019, x117020, x117021, x117022, x117023, x117024, x117025, x117026, x117027, x117028, x117029, x117030, x117031, x117032, x117033, x117034, x117035, x117036, x117037, x117038, x117039 => if x5 < (x4.length : Int) then (spec_l06Plain.l1 k x4 x5 0 x117000 x117001 x117002 x117003 x117004 x117005 x117006 x117007 x117008 x117009 x117010 x117011 x117012 x117013 x117014 x117015 x117016 x117017 x117018 x117019 x117020 x117021 x117022 x117023 x117024 x117025 x117026 x117027 x117028 x117029 x117030 x117031 x117032 x117033 x117034 x117035 x117036 x117037 x117038 x117039) else (some (x117000, x117001, x117002, x117003, x117004, x117005, x117006, x117007, x117008, x117009, x117010, x117011, x117012, x117013, x117014, x117015, x117016, x117017, x117018, x117019, x117020, x117021, x117022, x117023, x117024, x117025, x117026, x117027, x117028, x117029, x117030, x117031, x117032, x117033, x117034, x117035, x117036, x117037, x117038, x117039))
def spec_l06Plain.l1 : Nat → List (S33) → Int → Int → Int → Int → Int → Int → Int → Int → Int → Int → Int → Int → Int → Int → Int → Int → Int → Int → Int → Int → Int → Int → Int → Int → Int → Int → Int → Int → Int → Int → Int → Int → Int → Int → Int → Int → Int → Int → Int → Int → Int → Int → Option (Int × Int × Int × Int × Int × Int × Int × Int × Int × Int × Int × Int × Int × Int × Int × Int × Int × Int × Int × Int × Int × Int × Int × Int × Int × Int × Int × Int × Int × Int × Int × Int × Int × Int × Int × Int × Int × Int × Int × Int)
  | 0, _, _, _, _, _, _, _, _, _, _, _, _, _, _, _, _, _, _, _, _, _, _, _, _, _, _, _, _, _, _, _, _, _, _, _, _, _, _, _, _, _, _, _ => none
  | k + 1, x4, x5, x6, x117000, x117001, x117002, x117003, x117004, x117005, x117006, x117007, x117008, x117009, x117010, x117011, x117012, x117013, x117014, x117015, x117016, x117017, x117018, x117019, x117020, x117021, x117022, x117023, x117024, x117025, x117026, x117027, x117028, x117029, x117030, x117031, x117032, x117033, x117034, x117035, x117036, x117037, x117038, x117039 => if x6 < 4 then (if 0 ≤ x5 then (if x5 < (x4.length : Int) then ((spec_l06Put.f x117000 x117001 x117002 x117003 x117004 x117005 x117006 x117007 x117008 x117009 x117010 x117011 x117012 x117013 x117014 x117015 x117016 x117017 x117018 x117019 x117020 x117021 x117022 x117023 x117024 x117025 x117026 x117027 x117028 x117029 x117030 x117031 x117032 x117033 x117034 x117035 x117036 x117037 x117038 x117039 ((rd_T33 x4 x5).f0) ((rd_T33 x4 x5).f1) x6).bind fun bt122 => (spec_l06Plain.l1 k x4 x5 (wrap64 (x6 + 1)) bt122.1 bt122.2.1 bt122.2.2.1 bt122.2.2.2.1 bt122.2.2.2.2.1 bt122.2.2.2.2.2.1 bt122.2.2.2.2.2.2.1 bt122.2.2.2.2.2.2.2.1 bt122.2.2.2.2.2.2.2.2.1 bt122.2.2.2.2.2.2.2.2.2.1 bt122.2.2.2.2.2.2.2.2.2.2.1 bt122.2.2.2.2.2.2.2.2.2.2.2.1 bt122.2.2.2.2.2.2.2.2.2.2.2.2.1 bt122.2.2.2.2.2.2.2.2.2.2.2.2.2.1 bt122.2.2.2.2.2.2.2.2.2.2.2.2.2.2.1 bt122.2.2.2.2.2.2.2.2.2.2.2.2.2.2.2.1 bt122.2.2.2.2.2.2.2.2.2.2.2.2.2.2.2.2.1 bt122.2.2.2.2.2.2.2.2.2.2.2.2.2.2.2.2.2.1 bt122.2.2.2.2.2.2.2.2.2.2.2.2.2.2.2.2.2.2.1 bt122.2.2.2.2.2.2.2.2.2.2.2.2.2.2.2.2.2.2.2.1 bt122.2.2.2.2.2.2.2.2.2.2.2.2.2.2.2.2.2.2.2.2.1 bt122.2.2.2.2.2.2.2.2.2.2.2.2.2.2.2.2.2.2.2.2.2.1 bt122.2.2.2.2.2.2.2.2.2.2.2.2.2.2.2.2.2.2.2.2.2.2.1 bt122.2.2.2.2.2.2.2.2.2.2.2.2.2.2.2.2.2.2.2.2.2.2.2.1 bt122.2.2.2.2.2.2.2.2.2.2.2.2.2.2.2.2.2.2.2.2.2.2.2.2.1 bt122.2.2.2.2.2.2.2.2.2.2.2.2.2.2.2.2.2.2.2.2.2.2.2.2.2.1 bt122.2.2.2.2.2.2.2.2.2.2.2.2.2.2.2.2.2.2.2.2.2.2.2.2.2.2.1 bt122.2.2.2.2.2.2.2.2.2.2.2.2.2.2.2.2.2.2.2.2.2.2.2.2.2.2.2.1 bt122.2.2.2.2.2.2.2.2.2.2.2.2.2.2.2.2.2.2.2.2.2.2.2.2.2.2.2.2.1 bt122.2.2.2.2.2.2.2.2.2.2.2.2.2.2.2.2.2.2.2.2.2.2.2.2.2.2.2.2.2.1 bt122.2.2.2.2.2.2.2.2.2.2.2.2.2.2.2.2.2.2.2.2.2.2.2.2.2.2.2.2.2.2.1 bt122.2.2.2.2.2.2.2.2.2.2.2.2.2.2.2.2.2.2.2.2.2.2.2.2.2.2.2.2.2.2.2.1 bt122.2.2.2.2.2.2.2.2.2.2.2.2.2.2.2.2.2.2.2.2.2.2.2.2.2.2.2.2.2.2.2.2.1 bt122.2.2.2.2.2.2.2.2.2.2.2.2.2.2.2.2.2.2.2.2.2.2.2.2.2.2.2.2.2.2.2.2.2.1 bt122.2.2.2.2.2.2.2.2.2.2.2.2.2.2.2.2.2.2.2.2.2.2.2.2.2.2.2.2.2.2.2.2.2.2.1 bt122.2.2.2.2.2.2.2.2.2.2.2.2.2.2.2.2.2.2.2.2.2.2.2.2.2.2.2.2.2.2.2.2.2.2.2.1 bt122.2.2.2.2.2.2.2.2.2.2.2.2.2.2.2.2.2.2.2.2.2.2.2.2.2.2.2.2.2.2.2.2.2.2.2.2.1 bt122.2.2.2.2.2.2.2.2.2.2.2.2.2.2.2.2.2.2.2.2.2.2.2.2.2.2.2.2.2.2.2.2.2.2.2.2.2.1 bt122.2.2.2.2.2.2.2.2.2.2.2.2.2.2.2.2.2.2.2.2.2.2.2.2.2.2.2.2.2.2.2.2.2.2.2.2.2.2.1 bt122.2.2.2.2.2.2.2.2.2.2.2.2.2.2.2.2.2.2.2.2.2.2.2.2.2.2.2.2.2.2.2.2.2.2.2.2.2.2.2)) else (none)) else (none)) else (spec_l06Plain.l0 k x4 (wrap64 (x5 + 1)) x117000 x117001 x117002 x117003 x117004 x117005 x117006 x117007 x117008 x117009 x117010 x117011 x117012 x117013 x117014 x117015 x117016 x117017 x117018 x117019 x117020 x117021 x117022 x117023 x117024 x117025 x117026 x117027 x117028 x117029 x117030 x117031 x117032 x117033 x117034 x117035 x117036 x117037 x117038 x117039)
end
def spec_l06Plain.f (k : Nat) (s0_0 : Int) (s0_1 : Int) (s0_2 : Int) (s0_3 : Int) (s0_4 : Int) (s0_5 : Int) (s0_6 : Int) (s0_7 : Int) (s0_8 : Int) (s0_9 : Int) (s0_10 : Int) (s0_11 : Int) : Option (Int × Int × Int × Int × Int × Int × Int × Int × Int × Int × Int × Int × Int × Int × Int × Int × Int × Int × Int × Int × Int × Int × Int × Int × Int × Int × Int × Int × Int × Int × Int × Int × Int × Int × Int × Int × Int × Int × Int × Int) := (spec_l01All.f k s0_0 s0_1 s0_2 s0_3 s0_4 s0_5 s0_6 s0_7 s0_8 s0_9 s0_10 s0_11).bind fun t117 => (spec_l06Plain.l0 k t117 0 0 0 0 0 0 0 0 0 0 0 0 0 0 0 0 0 0 0 0 0 0 0 0 0 0 0 0 0 0 0 0 0 0 0 0 0 0 0 0 0)
theorem spec_l06Plain.mono_l : ∀ k, (∀ y0 y1 y2 y3 y4 y5 y6 y7 y8 y9 y10 y11 y12 y13 y14 y15 y16 y17 y18 y19 y20 y21 y22 y23 y24 y25 y26 y27 y28 y29 y30 y31 y32 y33 y34 y35 y36 y37 y38 y39 y40 y41, LeO (spec_l06Plain.l0 k y0 y1 y2 y3 y4 y5 y6 y7 y8 y9 y10 y11 y12 y13 y14 y15 y16 y17 y18 y19 y20 y21 y22 y23 y24 y25 y26 y27 y28 y29 y30 y31 y32 y33 y34 y35 y36 y37 y38 y39 y40 y41) (spec_l06Plain.l0 (k + 1) y0 y1 y2 y3 y4 y5 y6 y7 y8 y9 y10 y11 y12 y13 y14 y15 y16 y17 y18 y19 y20 y21 y22 y23 y24 y25 y26 y27 y28 y29 y30 y31 y32 y33 y34 y35 y36 y37 y38 y39 y40 y41)) ∧ (∀ y0 y1 y2 y3 y4 y5 y6 y7 y8 y9 y10 y11 y12 y13 y14 y15 y16 y17 y18 y19 y20 y21 y22 y23 y24 y25 y26 y27 y28 y29 y30 y31 y32 y33 y34 y35 y36 y37 y38 y39 y40 y41 y42, LeO (spec_l06Plain.l1 k y0 y1 y2 y3 y4 y5 y6 y7 y8 y9 y10 y11 y12 y13 y14 y15 y16 y17 y18 y19 y20 y21 y22 y23 y24 y25 y26 y27 y28 y29 y30 y31 y32 y33 y34 y35 y36 y37 y38 y39 y40 y41 y42) (spec_l06Plain.l1 (k + 1) y0 y1 y2 y3 y4 y5 y6 y7 y8 y9 y10 y11 y12 y13 y14 y15 y16 y17 y18 y19 y20 y21 y22 y23 y24 y25 y26 y27 y28 y29 y30 y31 y32 y33 y34 y35 y36 y37 y38 y39 y40 y41 y42))
  | 0 => ⟨fun _ _ _ _ _ _ _ _ _ _ _ _ _ _ _ _ _ _ _ _ _ _ _ _ _ _ _ _ _ _ _ _ _ _ _ _ _ _ _ _ _ _ r h => by simp [spec_l06Plain.l0] at h, fun _ _ _ _ _ _ _ _ _ _ _ _ _ _ _ _ _ _ _ _ _ _ _ _ _ _ _ _ _ _ _ _ _ _ _ _ _ _ _ _ _ _ _ r h => by simp [spec_l06Plain.l1] at h⟩
  | k + 1 => by
    obtain ⟨ih0, ih1⟩ := spec_l06Plain.mono_l k
    refine ⟨?_, ?_⟩
    · intro y0 y1 y2 y3 y4 y5 y6 y7 y8 y9 y10 y11 y12 y13 y14 y15 y16 y17 y18 y19 y20 y21 y22 y23 y24 y25 y26 y27 y28 y29 y30 y31 y32 y33 y34 y35 y36 y37 y38 y39 y40 y41
      unfold spec_l06Plain.l0
      repeat' first
      | (with_reducible exact ih0 _ _ _ _ _ _ _ _ _ _ _ _ _ _ _ _ _ _ _ _ _ _ _ _ _ _ _ _ _ _ _ _ _ _ _ _ _ _ _ _ _ _)
      | (with_reducible exact ih1 _ _ _ _ _ _ _ _ _ _ _ _ _ _ _ _ _ _ _ _ _ _ _ _ _ _ _ _ _ _ _ _ _ _ _ _ _ _ _ _ _ _ _)
      | (with_reducible exact spec_l01All.mono _ _ _ _ _ _ _ _ _ _ _ _ _)
      | (with_reducible exact LeO.refl _)
      | (with_reducible exact LeO.none _)
      | (with_reducible refine LeO.ite ?_ ?_)
      | (with_reducible refine LeO.bind ?_ (fun _ => ?_))
      | exact ih0 _ _ _ _ _ _ _ _ _ _ _ _ _ _ _ _ _ _ _ _ _ _ _ _ _ _ _ _ _ _ _ _ _ _ _ _ _ _ _ _ _ _
      | exact ih1 _ _ _ _ _ _ _ _ _ _ _ _ _ _ _ _ _ _ _ _ _ _ _ _ _ _ _ _ _ _ _ _ _ _ _ _ _ _ _ _ _ _ _
      | exact spec_l01All.mono _ _ _ _ _ _ _ _ _ _ _ _ _
      | exact LeO.none _
      | refine LeO.ite ?_ ?_
      | refine LeO.bind ?_ (fun _ => ?_)
    · intro y0 y1 y2 y3 y4 y5 y6 y7 y8 y9 y10 y11 y12 y13 y14 y15 y16 y17 y18 y19 y20 y21 y22 y23 y24 y25 y26 y27 y28 y29 y30 y31 y32 y33 y34 y35 y36 y37 y38 y39 y40 y41 y42
      unfold spec_l06Plain.l1
      repeat' first
      | (with_reducible exact ih0 _ _ _ _ _ _ _ _ _ _ _ _ _ _ _ _ _ _ _ _ _ _ _ _ _ _ _ _ _ _ _ _ _ _ _ _ _ _ _ _ _ _)
      | (with_reducible exact ih1 _ _ _ _ _ _ _ _ _ _ _ _ _ _ _ _ _ _ _ _ _ _ _ _ _ _ _ _ _ _ _ _ _ _ _ _ _ _ _ _ _ _ _)
      | (with_reducible exact spec_l01All.mono _ _ _ _ _ _ _ _ _ _ _ _ _)
      | (with_reducible exact LeO.refl _)
      | (with_reducible exact LeO.none _)
      | (with_reducible refine LeO.ite ?_ ?_)
      | (with_reducible refine LeO.bind ?_ (fun _ => ?_))
      | exact ih0 _ _ _ _ _ _ _ _ _ _ _ _ _ _ _ _ _ _ _ _ _ _ _ _ _ _ _ _ _ _ _ _ _ _ _ _ _ _ _ _ _ _
      | exact ih1 _ _ _ _ _ _ _ _ _ _ _ _ _ _ _ _ _ _ _ _ _ _ _ _ _ _ _ _ _ _ _ _ _ _ _ _ _ _ _ _ _ _ _
      | exact spec_l01All.mono _ _ _ _ _ _ _ _ _ _ _ _ _
      | exact LeO.none _
      | refine LeO.ite ?_ ?_
      | refine LeO.bind ?_ (fun _ => ?_)
theorem spec_l06Plain.mono : ∀ a0 a1 a2 a3 a4 a5 a6 a7 a8 a9 a10 a11 k, LeO (spec_l06Plain.f k a0 a1 a2 a3 a4 a5 a6 a7 a8 a9 a10 a11) (spec_l06Plain.f (k + 1) a0 a1 a2 a3 a4 a5 a6 a7 a8 a9 a10 a11) := by
  intro a0 a1 a2 a3 a4 a5 a6 a7 a8 a9 a10 a11 k
  obtain ⟨ih0, ih1⟩ := spec_l06Plain.mono_l k
  unfold spec_l06Plain.f
  repeat' first
      | (with_reducible exact ih0 _ _ _ _ _ _ _ _ _ _ _ _ _ _ _ _ _ _ _ _ _ _ _ _ _ _ _ _ _ _ _ _ _ _ _ _ _ _ _ _ _ _)
      | (with_reducible exact ih1 _ _ _ _ _ _ _ _ _ _ _ _ _ _ _ _ _ _ _ _ _ _ _ _ _ _ _ _ _ _ _ _ _ _ _ _ _ _ _ _ _ _ _)
      | (with_reducible exact spec_l01All.mono _ _ _ _ _ _ _ _ _ _ _ _ _)
      | (with_reducible exact LeO.refl _)
      | (with_reducible exact LeO.none _)
      | (with_reducible refine LeO.ite ?_ ?_)
      | (with_reducible refine LeO.bind ?_ (fun _ => ?_))
      | exact ih0 _ _ _ _ _ _ _ _ _ _ _ _ _ _ _ _ _ _ _ _ _ _ _ _ _ _ _ _ _ _ _ _ _ _ _ _ _ _ _ _ _ _
      | exact ih1 _ _ _ _ _ _ _ _ _ _ _ _ _ _ _ _ _ _ _ _ _ _ _ _ _ _ _ _ _ _ _ _ _ _ _ _ _ _ _ _ _ _ _
      | exact spec_l01All.mono _ _ _ _ _ _ _ _ _ _ _ _ _
      | exact LeO.none _
      | refine LeO.ite ?_ ?_
      | refine LeO.bind ?_ (fun _ => ?_)
set_option maxHeartbeats 8000000 in
set_option maxRecDepth 100000 in
theorem spec_l06Plain.calls (k : Nat) (g0 : Nat) (s0_0 : Int) (s0_1 : Int) (s0_2 : Int) (s0_3 : Int) (s0_4 : Int) (s0_5 : Int) (s0_6 : Int) (s0_7 : Int) (s0_8 : Int) (s0_9 : Int) (s0_10 : Int) (s0_11 : Int) (r1 : Int) (r2 : Int) (r3 : Int) (r4 : Int) (r5 : Int) (r6 : Int) (r7 : Int) (r8 : Int) (r9 : Int) (r10 : Int) (r11 : Int) (r12 : Int) (r13 : Int) (r14 : Int) (r15 : Int) (r16 : Int) (r17 : Int) (r18 : Int) (r19 : Int) (r20 : Int) (r21 : Int) (r22 : Int) (r23 : Int) (r24 : Int) (r25 : Int) (r26 : Int) (r27 : Int) (r28 : Int) (r29 : Int) (r30 : Int) (r31 : Int) (r32 : Int) (r33 : Int) (r34 : Int) (r35 : Int) (r36 : Int) (r37 : Int) (r38 : Int) (r39 : Int) (r40 : Int) (w : World) (hb0 : w.heap[g0]? = some (.cells #[.int .i8 s0_0, .int .i8 s0_1, .int .u16 s0_2, .int .u16 s0_3, .int .u16 s0_4, .int .u16 s0_5, .int .u16 s0_6, .int .u16 s0_7, .int .u16 s0_8, .int .u16 s0_9, .int .u16 s0_10, .int .u16 s0_11] 39 (0, 0))) (h : spec_l06Plain.f k s0_0 s0_1 s0_2 s0_3 s0_4 s0_5 s0_6 s0_7 s0_8 s0_9 s0_10 s0_11 = some (r1, r2, r3, r4, r5, r6, r7, r8, r9, r10, r11, r12, r13, r14, r15, r16, r17, r18, r19, r20, r21, r22, r23, r24, r25, r26, r27, r28, r29, r30, r31, r32, r33, r34, r35, r36, r37, r38, r39, r40)) :
    Calls Try.prog 44 #[.pointer (some ⟨g0, 0, none⟩)] w fun e w' => e = .returned (.agg #[.int .u16 r1, .int .u16 r2, .int .u16 r3, .int .u16 r4, .int .u16 r5, .int .u16 r6, .int .u16 r7, .int .u16 r8, .int .u16 r9, .int .u16 r10, .int .u16 r11, .int .u16 r12, .int .u16 r13, .int .u16 r14, .int .u16 r15, .int .u16 r16, .int .u16 r17, .int .u16 r18, .int .u16 r19, .int .u16 r20, .int .u16 r21, .int .u16 r22, .int .u16 r23, .int .u16 r24, .int .u16 r25, .int .u16 r26, .int .u16 r27, .int .u16 r28, .int .u16 r29, .int .u16 r30, .int .u16 r31, .int .u16 r32, .int .u16 r33, .int .u16 r34, .int .u16 r35, .int .u16 r36, .int .u16 r37, .int .u16 r38, .int .u16 r39, .int .u16 r40]) ∧ Below w.heap.size w w' := by
  have hu26 := Try.underlying26
  have hu33 := Try.underlying33
  have BK0 := Aside0.mk hb0
  clear hb0
  have HB := Aside0.mk (Below.refl w.heap.size w)
  have H : ((spec_l01All.f k s0_0 s0_1 s0_2 s0_3 s0_4 s0_5 s0_6 s0_7 s0_8 s0_9 s0_10 s0_11).bind fun t117 => (spec_l06Plain.l0 k t117 0 0 0 0 0 0 0 0 0 0 0 0 0 0 0 0 0 0 0 0 0 0 0 0 0 0 0 0 0 0 0 0 0 0 0 0 0 0 0 0 0)) = some (r1, r2, r3, r4, r5, r6, r7, r8, r9, r10, r11, r12, r13, r14, r15, r16, r17, r18, r19, r20, r21, r22, r23, r24, r25, r26, r27, r28, r29, r30, r31, r32, r33, r34, r35, r36, r37, r38, r39, r40) := h
  clear h
  replace H := Option.bind_eq_some_iff.mp H
  obtain ⟨t117, A20, H⟩ := H
  replace H : (spec_l06Plain.l0 k t117 0 0 0 0 0 0 0 0 0 0 0 0 0 0 0 0 0 0 0 0 0 0 0 0 0 0 0 0 0 0 0 0 0 0 0 0 0 0 0 0 0) = some (r1, r2, r3, r4, r5, r6, r7, r8, r9, r10, r11, r12, r13, r14, r15, r16, r17, r18, r19, r20, r21, r22, r23, r24, r25, r26, r27, r28, r29, r30, r31, r32, r33, r34, r35, r36, r37, r38, r39, r40) := H
  have A2 := Aside0.mk A20
  clear A20
  have H' := Aside0.mk H
  clear H
  go_enter Try.func44, Try.ntmps44
  go_wp2_with (first | ((with_reducible refine gate_dst (N := 2) rfl ?_); refine box_event ?hg (N := 2) ?hd (cs := #[.int .u16 0, .int .u16 0, .int .u16 0, .int .u16 0, .int .u16 0, .int .u16 0, .int .u16 0, .int .u16 0, .int .u16 0, .int .u16 0, .int .u16 0, .int .u16 0, .int .u16 0, .int .u16 0, .int .u16 0, .int .u16 0, .int .u16 0, .int .u16 0, .int .u16 0, .int .u16 0, .int .u16 0, .int .u16 0, .int .u16 0, .int .u16 0, .int .u16 0, .int .u16 0, .int .u16 0, .int .u16 0, .int .u16 0, .int .u16 0, .int .u16 0, .int .u16 0, .int .u16 0, .int .u16 0, .int .u16 0, .int .u16 0, .int .u16 0, .int .u16 0, .int .u16 0, .int .u16 0]) (t := 26) ?hr ?_; (case hd => rfl); (case hg => rfl); (case hr => first | (go_simp; done) | (go_simp; rfl)); intro gb115 hg w3 hbox hb; have n0_ := Aside0.mk (blk_below (g := g0) (o := .cells #[.int .i8 s0_0, .int .i8 s0_1, .int .u16 s0_2, .int .u16 s0_3, .int .u16 s0_4, .int .u16 s0_5, .int .u16 s0_6, .int .u16 s0_7, .int .u16 s0_8, .int .u16 s0_9, .int .u16 s0_10, .int .u16 s0_11] 39 (0, 0)) (by (with_reducible repeat (first | refine blk_drewN ?_ _ | refine blk_drew ?_ | refine blk_alloc ?_ _)); exact BK0.out) hb); have n1_ := Aside0.mk (below_step (by repeat (first | (with_reducible first | exact HB.out | apply below_alloc | apply pw_below_drewN | apply below_drew1 | refine below_set ?_ GE0.out) | exact HB.out)) hb); have n2_ := Aside0.mk (hbox); have n3_ := Aside0.mk ((by rw [hg]; exact (below_size (by repeat (first | (with_reducible first | exact HB.out | apply below_alloc | apply pw_below_drewN | apply below_drew1 | refine below_set ?_ GE0.out) | exact HB.out))) : w.heap.size ≤ gb115)); have n4_ := Aside0.mk ((by rw [hg]; exact (below_size (by repeat (first | (with_reducible first | exact HB.out | apply below_alloc | apply pw_below_drewN | apply below_drew1 | refine below_set ?_ GE0.out) | exact HB.out))) : w.heap.size ≤ gb115)); have n5_ := Aside0.mk ((by rw [hg]; exact Nat.ne_of_lt (blk_lt (g := g0) (o := .cells #[.int .i8 s0_0, .int .i8 s0_1, .int .u16 s0_2, .int .u16 s0_3, .int .u16 s0_4, .int .u16 s0_5, .int .u16 s0_6, .int .u16 s0_7, .int .u16 s0_8, .int .u16 s0_9, .int .u16 s0_10, .int .u16 s0_11] 39 (0, 0)) (by (with_reducible repeat (first | refine blk_drewN ?_ _ | refine blk_drew ?_ | refine blk_alloc ?_ _)); exact BK0.out)) : g0 ≠ gb115)); have n6_ := Aside0.mk ((by rw [hg]; exact Nat.ne_of_gt (blk_lt (g := g0) (o := .cells #[.int .i8 s0_0, .int .i8 s0_1, .int .u16 s0_2, .int .u16 s0_3, .int .u16 s0_4, .int .u16 s0_5, .int .u16 s0_6, .int .u16 s0_7, .int .u16 s0_8, .int .u16 s0_9, .int .u16 s0_10, .int .u16 s0_11] 39 (0, 0)) (by (with_reducible repeat (first | refine blk_drewN ?_ _ | refine blk_drew ?_ | refine blk_alloc ?_ _)); exact BK0.out)) : gb115 ≠ g0)); clear BK0; clear HB; have BK0 := n0_; have HB := n1_; have BK115 := n2_; have GW115 := n3_; have GE115 := n4_; have NB0_115 := n5_; have NB115_0 := n6_; clear n0_ n1_ n2_ n3_ n4_ n5_ n6_; clear hb hbox hg) | ((with_reducible refine gate_dst (N := 3) rfl ?_); refine box_event ?hg (N := 3) ?hd (cs := #[.int .u16 0, .int .u16 0, .int .u16 0, .int .u16 0, .int .u16 0, .int .u16 0, .int .u16 0, .int .u16 0, .int .u16 0, .int .u16 0, .int .u16 0, .int .u16 0, .int .u16 0, .int .u16 0, .int .u16 0, .int .u16 0, .int .u16 0, .int .u16 0, .int .u16 0, .int .u16 0, .int .u16 0, .int .u16 0, .int .u16 0, .int .u16 0, .int .u16 0, .int .u16 0, .int .u16 0, .int .u16 0, .int .u16 0, .int .u16 0, .int .u16 0, .int .u16 0, .int .u16 0, .int .u16 0, .int .u16 0, .int .u16 0, .int .u16 0, .int .u16 0, .int .u16 0, .int .u16 0]) (t := 26) ?hr ?_; (case hd => rfl); (case hg => rfl); (case hr => first | (go_simp; done) | (go_simp; rfl)); intro gb116 hg w4 hbox hb; have n0_ := Aside0.mk (blk_below (g := g0) (o := .cells #[.int .i8 s0_0, .int .i8 s0_1, .int .u16 s0_2, .int .u16 s0_3, .int .u16 s0_4, .int .u16 s0_5, .int .u16 s0_6, .int .u16 s0_7, .int .u16 s0_8, .int .u16 s0_9, .int .u16 s0_10, .int .u16 s0_11] 39 (0, 0)) (by (with_reducible repeat (first | refine blk_drewN ?_ _ | refine blk_drew ?_ | refine blk_alloc ?_ _)); exact BK0.out) hb); have n1_ := Aside0.mk (blk_below (g := gb115) (o := ob40 26 0 0 0 0 0 0 0 0 0 0 0 0 0 0 0 0 0 0 0 0 0 0 0 0 0 0 0 0 0 0 0 0 0 0 0 0 0 0 0 0) (by (with_reducible repeat (first | refine blk_drewN ?_ _ | refine blk_drew ?_ | refine blk_alloc ?_ _)); exact BK115.out) hb); have n2_ := Aside0.mk (below_step (by repeat (first | (with_reducible first | exact HB.out | apply below_alloc | apply pw_below_drewN | apply below_drew1 | refine below_set ?_ GE0.out | refine below_set ?_ GE115.out) | exact HB.out)) hb); have n3_ := Aside0.mk (hbox); have n4_ := Aside0.mk ((by rw [hg]; exact (below_size (by repeat (first | (with_reducible first | exact HB.out | apply below_alloc | apply pw_below_drewN | apply below_drew1 | refine below_set ?_ GE0.out | refine below_set ?_ GE115.out) | exact HB.out))) : w.heap.size ≤ gb116)); have n5_ := Aside0.mk ((by rw [hg]; exact (below_size (by repeat (first | (with_reducible first | exact HB.out | apply below_alloc | apply pw_below_drewN | apply below_drew1 | refine below_set ?_ GE0.out | refine below_set ?_ GE115.out) | exact HB.out))) : w.heap.size ≤ gb116)); have n6_ := Aside0.mk ((by rw [hg]; exact Nat.ne_of_lt (blk_lt (g := g0) (o := .cells #[.int .i8 s0_0, .int .i8 s0_1, .int .u16 s0_2, .int .u16 s0_3, .int .u16 s0_4, .int .u16 s0_5, .int .u16 s0_6, .int .u16 s0_7, .int .u16 s0_8, .int .u16 s0_9, .int .u16 s0_10, .int .u16 s0_11] 39 (0, 0)) (by (with_reducible repeat (first | refine blk_drewN ?_ _ | refine blk_drew ?_ | refine blk_alloc ?_ _)); exact BK0.out)) : g0 ≠ gb116)); have n7_ := Aside0.mk ((by rw [hg]; exact Nat.ne_of_gt (blk_lt (g := g0) (o := .cells #[.int .i8 s0_0, .int .i8 s0_1, .int .u16 s0_2, .int .u16 s0_3, .int .u16 s0_4, .int .u16 s0_5, .int .u16 s0_6, .int .u16 s0_7, .int .u16 s0_8, .int .u16 s0_9, .int .u16 s0_10, .int .u16 s0_11] 39 (0, 0)) (by (with_reducible repeat (first | refine blk_drewN ?_ _ | refine blk_drew ?_ | refine blk_alloc ?_ _)); exact BK0.out)) : gb116 ≠ g0)); have n8_ := Aside0.mk ((by rw [hg]; exact Nat.ne_of_lt (blk_lt (g := gb115) (o := ob40 26 0 0 0 0 0 0 0 0 0 0 0 0 0 0 0 0 0 0 0 0 0 0 0 0 0 0 0 0 0 0 0 0 0 0 0 0 0 0 0 0) (by (with_reducible repeat (first | refine blk_drewN ?_ _ | refine blk_drew ?_ | refine blk_alloc ?_ _)); exact BK115.out)) : gb115 ≠ gb116)); have n9_ := Aside0.mk ((by rw [hg]; exact Nat.ne_of_gt (blk_lt (g := gb115) (o := ob40 26 0 0 0 0 0 0 0 0 0 0 0 0 0 0 0 0 0 0 0 0 0 0 0 0 0 0 0 0 0 0 0 0 0 0 0 0 0 0 0 0) (by (with_reducible repeat (first | refine blk_drewN ?_ _ | refine blk_drew ?_ | refine blk_alloc ?_ _)); exact BK115.out)) : gb116 ≠ gb115)); clear BK0; clear BK115; clear HB; have BK0 := n0_; have BK115 := n1_; have HB := n2_; have BK116 := n3_; have GW116 := n4_; have GE116 := n5_; have NB0_116 := n6_; have NB116_0 := n7_; have NB115_116 := n8_; have NB116_115 := n9_; clear n0_ n1_ n2_ n3_ n4_ n5_ n6_ n7_ n8_ n9_; clear hb hbox hg) | ((with_reducible refine gate_store (p := 3) rfl ?_); refine wpList_store_whole rfl 26 _ _ rfl gb116 #[.int .u16 0, .int .u16 0, .int .u16 0, .int .u16 0, .int .u16 0, .int .u16 0, .int .u16 0, .int .u16 0, .int .u16 0, .int .u16 0, .int .u16 0, .int .u16 0, .int .u16 0, .int .u16 0, .int .u16 0, .int .u16 0, .int .u16 0, .int .u16 0, .int .u16 0, .int .u16 0, .int .u16 0, .int .u16 0, .int .u16 0, .int .u16 0, .int .u16 0, .int .u16 0, .int .u16 0, .int .u16 0, .int .u16 0, .int .u16 0, .int .u16 0, .int .u16 0, .int .u16 0, .int .u16 0, .int .u16 0, .int .u16 0, .int .u16 0, .int .u16 0, .int .u16 0, .int .u16 0] #[.int .u16 0, .int .u16 0, .int .u16 0, .int .u16 0, .int .u16 0, .int .u16 0, .int .u16 0, .int .u16 0, .int .u16 0, .int .u16 0, .int .u16 0, .int .u16 0, .int .u16 0, .int .u16 0, .int .u16 0, .int .u16 0, .int .u16 0, .int .u16 0, .int .u16 0, .int .u16 0, .int .u16 0, .int .u16 0, .int .u16 0, .int .u16 0, .int .u16 0, .int .u16 0, .int .u16 0, .int .u16 0, .int .u16 0, .int .u16 0, .int .u16 0, .int .u16 0, .int .u16 0, .int .u16 0, .int .u16 0, .int .u16 0, .int .u16 0, .int .u16 0, .int .u16 0, .int .u16 0] rfl rfl (by (with_reducible repeat (first | refine blk_drewN ?_ _ | refine blk_drew ?_ | refine blk_alloc ?_ _)); exact BK116.out) rfl (by kernel_rfl) (by simp [Value.oneCell']) ?_; intro w5 hi hk hbl; have n0_ := Aside0.mk (KeepBut.blk hk (g' := g0) (o := .cells #[.int .i8 s0_0, .int .i8 s0_1, .int .u16 s0_2, .int .u16 s0_3, .int .u16 s0_4, .int .u16 s0_5, .int .u16 s0_6, .int .u16 s0_7, .int .u16 s0_8, .int .u16 s0_9, .int .u16 s0_10, .int .u16 s0_11] 39 (0, 0)) (by (with_reducible repeat (first | refine blk_drewN ?_ _ | refine blk_drew ?_ | refine blk_alloc ?_ _)); exact BK0.out) NB0_116.out (by simp)); have n1_ := Aside0.mk (KeepBut.blk hk (g' := gb115) (o := ob40 26 0 0 0 0 0 0 0 0 0 0 0 0 0 0 0 0 0 0 0 0 0 0 0 0 0 0 0 0 0 0 0 0 0 0 0 0 0 0 0 0) (by (with_reducible repeat (first | refine blk_drewN ?_ _ | refine blk_drew ?_ | refine blk_alloc ?_ _)); exact BK115.out) NB115_116.out (by simp)); have n2_ := Aside0.mk (hbl _ _ (by repeat (first | (with_reducible first | exact HB.out | apply below_alloc | apply pw_below_drewN | apply below_drew1 | refine below_set ?_ GE0.out | refine below_set ?_ GE115.out | refine below_set ?_ GE116.out) | exact HB.out)) GE116.out); have n3_ := Aside0.mk (hi); clear BK0; clear BK115; clear HB; clear BK116; have BK0 := n0_; have BK115 := n1_; have HB := n2_; have BK116 := n3_; clear n0_ n1_ n2_ n3_; clear hi hk hbl) | ((with_reducible refine gate_callee (f := 71) rfl ?_); refine goesL_ (some 9) rfl rfl Try.func71 (by kernel_rfl) rfl #[.pointer (some ⟨g0, 0, none⟩)] rfl (by (try simp only [List.map_toArray, List.map_cons, List.map_nil]); first | done | rfl | (simp only [List.length_drop, List.length_take]; rfl)) ?_; (with_reducible refine (spec_l01All.calls k g0 s0_0 s0_1 s0_2 s0_3 s0_4 s0_5 s0_6 s0_7 s0_8 s0_9 s0_10 s0_11 t117 _ ?side1 A2.out).mono ?_); (case side1 => exact (by (with_reducible repeat (first | refine blk_drewN ?_ _ | refine blk_drew ?_ | refine blk_alloc ?_ _)); exact BK0.out)); rintro e w6 ⟨v118, rfl, ho0, hb⟩; refine ⟨_, rfl, ?_⟩; have n0_ := Aside0.mk (Kd.R_lower ho0 (below_size (by repeat (first | (with_reducible first | exact HB.out | apply below_alloc | apply pw_below_drewN | apply below_drew1 | refine below_set ?_ GE0.out | refine below_set ?_ GE115.out | refine below_set ?_ GE116.out) | exact HB.out)))); have n1_ := Aside0.mk (blk_below (g := g0) (o := .cells #[.int .i8 s0_0, .int .i8 s0_1, .int .u16 s0_2, .int .u16 s0_3, .int .u16 s0_4, .int .u16 s0_5, .int .u16 s0_6, .int .u16 s0_7, .int .u16 s0_8, .int .u16 s0_9, .int .u16 s0_10, .int .u16 s0_11] 39 (0, 0)) (by (with_reducible repeat (first | refine blk_drewN ?_ _ | refine blk_drew ?_ | refine blk_alloc ?_ _)); exact BK0.out) hb); have n2_ := Aside0.mk (blk_below (g := gb115) (o := ob40 26 0 0 0 0 0 0 0 0 0 0 0 0 0 0 0 0 0 0 0 0 0 0 0 0 0 0 0 0 0 0 0 0 0 0 0 0 0 0 0 0) (by (with_reducible repeat (first | refine blk_drewN ?_ _ | refine blk_drew ?_ | refine blk_alloc ?_ _)); exact BK115.out) hb); have n3_ := Aside0.mk (blk_below (g := gb116) (o := ob40 26 0 0 0 0 0 0 0 0 0 0 0 0 0 0 0 0 0 0 0 0 0 0 0 0 0 0 0 0 0 0 0 0 0 0 0 0 0 0 0 0) (by (with_reducible repeat (first | refine blk_drewN ?_ _ | refine blk_drew ?_ | refine blk_alloc ?_ _)); exact BK116.out) hb); have n4_ := Aside0.mk (below_step (by repeat (first | (with_reducible first | exact HB.out | apply below_alloc | apply pw_below_drewN | apply below_drew1 | refine below_set ?_ GE0.out | refine below_set ?_ GE115.out | refine below_set ?_ GE116.out) | exact HB.out)) hb); clear BK0; clear BK115; clear BK116; clear HB; have HO119 := n0_; have BK0 := n1_; have BK115 := n2_; have BK116 := n3_; have HB := n4_; clear n0_ n1_ n2_ n3_ n4_; (try clear hb); (try clear hb2); (try clear hk); (try clear hi); (try clear ho0)))
  go_loopg [5] k (fun kq v5 w' => ∃ (x5_1 : Int) (x117000_1 : Int) (x117001_1 : Int) (x117002_1 : Int) (x117003_1 : Int) (x117004_1 : Int) (x117005_1 : Int) (x117006_1 : Int) (x117007_1 : Int) (x117008_1 : Int) (x117009_1 : Int) (x117010_1 : Int) (x117011_1 : Int) (x117012_1 : Int) (x117013_1 : Int) (x117014_1 : Int) (x117015_1 : Int) (x117016_1 : Int) (x117017_1 : Int) (x117018_1 : Int) (x117019_1 : Int) (x117020_1 : Int) (x117021_1 : Int) (x117022_1 : Int) (x117023_1 : Int) (x117024_1 : Int) (x117025_1 : Int) (x117026_1 : Int) (x117027_1 : Int) (x117028_1 : Int) (x117029_1 : Int) (x117030_1 : Int) (x117031_1 : Int) (x117032_1 : Int) (x117033_1 : Int) (x117034_1 : Int) (x117035_1 : Int) (x117036_1 : Int) (x117037_1 : Int) (x117038_1 : Int) (x117039_1 : Int), v5 = .int .i64 x5_1 ∧ Aside0 (spec_l06Plain.l0 kq t117 x5_1 x117000_1 x117001_1 x117002_1 x117003_1 x117004_1 x117005_1 x117006_1 x117007_1 x117008_1 x117009_1 x117010_1 x117011_1 x117012_1 x117013_1 x117014_1 x117015_1 x117016_1 x117017_1 x117018_1 x117019_1 x117020_1 x117021_1 x117022_1 x117023_1 x117024_1 x117025_1 x117026_1 x117027_1 x117028_1 x117029_1 x117030_1 x117031_1 x117032_1 x117033_1 x117034_1 x117035_1 x117036_1 x117037_1 x117038_1 x117039_1 = some (r1, r2, r3, r4, r5, r6, r7, r8, r9, r10, r11, r12, r13, r14, r15, r16, r17, r18, r19, r20, r21, r22, r23, r24, r25, r26, r27, r28, r29, r30, r31, r32, r33, r34, r35, r36, r37, r38, r39, r40)) ∧ Aside0 (kq ≤ k) ∧ Aside0 (Kd.R k33 33 w' w.heap.size (fun _ => True) v118 t117) ∧ Aside0 (w'.heap[g0]? = some (.cells #[.int .i8 s0_0, .int .i8 s0_1, .int .u16 s0_2, .int .u16 s0_3, .int .u16 s0_4, .int .u16 s0_5, .int .u16 s0_6, .int .u16 s0_7, .int .u16 s0_8, .int .u16 s0_9, .int .u16 s0_10, .int .u16 s0_11] 39 (0, 0))) ∧ Aside0 (w'.heap[gb115]? = some (.cells #[.int .u16 0, .int .u16 0, .int .u16 0, .int .u16 0, .int .u16 0, .int .u16 0, .int .u16 0, .int .u16 0, .int .u16 0, .int .u16 0, .int .u16 0, .int .u16 0, .int .u16 0, .int .u16 0, .int .u16 0, .int .u16 0, .int .u16 0, .int .u16 0, .int .u16 0, .int .u16 0, .int .u16 0, .int .u16 0, .int .u16 0, .int .u16 0, .int .u16 0, .int .u16 0, .int .u16 0, .int .u16 0, .int .u16 0, .int .u16 0, .int .u16 0, .int .u16 0, .int .u16 0, .int .u16 0, .int .u16 0, .int .u16 0, .int .u16 0, .int .u16 0, .int .u16 0, .int .u16 0] 26 (0, 0))) ∧ Aside0 (w'.heap[gb116]? = some (.cells #[.int .u16 x117000_1, .int .u16 x117001_1, .int .u16 x117002_1, .int .u16 x117003_1, .int .u16 x117004_1, .int .u16 x117005_1, .int .u16 x117006_1, .int .u16 x117007_1, .int .u16 x117008_1, .int .u16 x117009_1, .int .u16 x117010_1, .int .u16 x117011_1, .int .u16 x117012_1, .int .u16 x117013_1, .int .u16 x117014_1, .int .u16 x117015_1, .int .u16 x117016_1, .int .u16 x117017_1, .int .u16 x117018_1, .int .u16 x117019_1, .int .u16 x117020_1, .int .u16 x117021_1, .int .u16 x117022_1, .int .u16 x117023_1, .int .u16 x117024_1, .int .u16 x117025_1, .int .u16 x117026_1, .int .u16 x117027_1, .int .u16 x117028_1, .int .u16 x117029_1, .int .u16 x117030_1, .int .u16 x117031_1, .int .u16 x117032_1, .int .u16 x117033_1, .int .u16 x117034_1, .int .u16 x117035_1, .int .u16 x117036_1, .int .u16 x117037_1, .int .u16 x117038_1, .int .u16 x117039_1] 26 (0, 0))) ∧ Aside0 (Below w.heap.size w w'))
  case atStart => exact ⟨(0), (0), (0), (0), (0), (0), (0), (0), (0), (0), (0), (0), (0), (0), (0), (0), (0), (0), (0), (0), (0), (0), (0), (0), (0), (0), (0), (0), (0), (0), (0), (0), (0), (0), (0), (0), (0), (0), (0), (0), (0), (by first | rfl | (simp; done) | (simp [*]; done)), H', ⟨Nat.le_refl _⟩, ⟨by (with_reducible repeat (first | apply Kd.R_alloc | apply Kd.R_drewN | apply Kd.R_drew)); exact HO119.out⟩, ⟨by (with_reducible repeat (first | refine blk_drewN ?_ _ | refine blk_drew ?_ | refine blk_alloc ?_ _)); exact BK0.out⟩, ⟨by (with_reducible repeat (first | refine blk_drewN ?_ _ | refine blk_drew ?_ | refine blk_alloc ?_ _)); exact BK115.out⟩, ⟨by (with_reducible repeat (first | refine blk_drewN ?_ _ | refine blk_drew ?_ | refine blk_alloc ?_ _)); exact BK116.out⟩, ⟨by repeat (first | (with_reducible first | exact HB.out | apply below_alloc | apply pw_below_drewN | apply below_drew1 | refine below_set ?_ GE0.out | refine below_set ?_ GE115.out | refine below_set ?_ GE116.out) | exact HB.out)⟩⟩
  case round =>
    clear H'
    try clear p2
    try clear c4
    obtain ⟨x5_1, x117000_1, x117001_1, x117002_1, x117003_1, x117004_1, x117005_1, x117006_1, x117007_1, x117008_1, x117009_1, x117010_1, x117011_1, x117012_1, x117013_1, x117014_1, x117015_1, x117016_1, x117017_1, x117018_1, x117019_1, x117020_1, x117021_1, x117022_1, x117023_1, x117024_1, x117025_1, x117026_1, x117027_1, x117028_1, x117029_1, x117030_1, x117031_1, x117032_1, x117033_1, x117034_1, x117035_1, x117036_1, x117037_1, x117038_1, x117039_1, rfl, HA, HK1, HO_4, BK0, BK115, BK116, HB⟩ := hrel
    cases gk with
    | zero => exact absurd HA.out (by simp [spec_l06Plain.l0])
    | succ k1 =>
      have H := HA.out
      clear HA
      simp only [spec_l06Plain.l0] at H
      by_cases c7 : x5_1 < (t117.length : Int)
      · rw [if_pos c7] at H
        have c7b0 : decide (x5_1 < (t117.length : Int)) = true := decide_eq_true c7
        clear c7
        have H' := Aside0.mk H
        clear H
        obtain ⟨Ao8, co8, eo8⟩ := Kd.R_slice HO_4.out
        subst eo8
        go_wp2
        go_loopg [6] k1 (fun kq v6 w' => ∃ (x6_2 : Int) (x117000_2 : Int) (x117001_2 : Int) (x117002_2 : Int) (x117003_2 : Int) (x117004_2 : Int) (x117005_2 : Int) (x117006_2 : Int) (x117007_2 : Int) (x117008_2 : Int) (x117009_2 : Int) (x117010_2 : Int) (x117011_2 : Int) (x117012_2 : Int) (x117013_2 : Int) (x117014_2 : Int) (x117015_2 : Int) (x117016_2 : Int) (x117017_2 : Int) (x117018_2 : Int) (x117019_2 : Int) (x117020_2 : Int) (x117021_2 : Int) (x117022_2 : Int) (x117023_2 : Int) (x117024_2 : Int) (x117025_2 : Int) (x117026_2 : Int) (x117027_2 : Int) (x117028_2 : Int) (x117029_2 : Int) (x117030_2 : Int) (x117031_2 : Int) (x117032_2 : Int) (x117033_2 : Int) (x117034_2 : Int) (x117035_2 : Int) (x117036_2 : Int) (x117037_2 : Int) (x117038_2 : Int) (x117039_2 : Int), v6 = .int .i64 x6_2 ∧ Aside0 (spec_l06Plain.l1 kq t117 x5_1 x6_2 x117000_2 x117001_2 x117002_2 x117003_2 x117004_2 x117005_2 x117006_2 x117007_2 x117008_2 x117009_2 x117010_2 x117011_2 x117012_2 x117013_2 x117014_2 x117015_2 x117016_2 x117017_2 x117018_2 x117019_2 x117020_2 x117021_2 x117022_2 x117023_2 x117024_2 x117025_2 x117026_2 x117027_2 x117028_2 x117029_2 x117030_2 x117031_2 x117032_2 x117033_2 x117034_2 x117035_2 x117036_2 x117037_2 x117038_2 x117039_2 = some (r1, r2, r3, r4, r5, r6, r7, r8, r9, r10, r11, r12, r13, r14, r15, r16, r17, r18, r19, r20, r21, r22, r23, r24, r25, r26, r27, r28, r29, r30, r31, r32, r33, r34, r35, r36, r37, r38, r39, r40)) ∧ Aside0 (kq ≤ k1) ∧ Aside0 (Kd.R k33 33 w' w.heap.size (fun _ => True) (.slice Ao8 t117.length co8) t117) ∧ Aside0 (w'.heap[g0]? = some (.cells #[.int .i8 s0_0, .int .i8 s0_1, .int .u16 s0_2, .int .u16 s0_3, .int .u16 s0_4, .int .u16 s0_5, .int .u16 s0_6, .int .u16 s0_7, .int .u16 s0_8, .int .u16 s0_9, .int .u16 s0_10, .int .u16 s0_11] 39 (0, 0))) ∧ Aside0 (w'.heap[gb115]? = some (.cells #[.int .u16 0, .int .u16 0, .int .u16 0, .int .u16 0, .int .u16 0, .int .u16 0, .int .u16 0, .int .u16 0, .int .u16 0, .int .u16 0, .int .u16 0, .int .u16 0, .int .u16 0, .int .u16 0, .int .u16 0, .int .u16 0, .int .u16 0, .int .u16 0, .int .u16 0, .int .u16 0, .int .u16 0, .int .u16 0, .int .u16 0, .int .u16 0, .int .u16 0, .int .u16 0, .int .u16 0, .int .u16 0, .int .u16 0, .int .u16 0, .int .u16 0, .int .u16 0, .int .u16 0, .int .u16 0, .int .u16 0, .int .u16 0, .int .u16 0, .int .u16 0, .int .u16 0, .int .u16 0] 26 (0, 0))) ∧ Aside0 (w'.heap[gb116]? = some (.cells #[.int .u16 x117000_2, .int .u16 x117001_2, .int .u16 x117002_2, .int .u16 x117003_2, .int .u16 x117004_2, .int .u16 x117005_2, .int .u16 x117006_2, .int .u16 x117007_2, .int .u16 x117008_2, .int .u16 x117009_2, .int .u16 x117010_2, .int .u16 x117011_2, .int .u16 x117012_2, .int .u16 x117013_2, .int .u16 x117014_2, .int .u16 x117015_2, .int .u16 x117016_2, .int .u16 x117017_2, .int .u16 x117018_2, .int .u16 x117019_2, .int .u16 x117020_2, .int .u16 x117021_2, .int .u16 x117022_2, .int .u16 x117023_2, .int .u16 x117024_2, .int .u16 x117025_2, .int .u16 x117026_2, .int .u16 x117027_2, .int .u16 x117028_2, .int .u16 x117029_2, .int .u16 x117030_2, .int .u16 x117031_2, .int .u16 x117032_2, .int .u16 x117033_2, .int .u16 x117034_2, .int .u16 x117035_2, .int .u16 x117036_2, .int .u16 x117037_2, .int .u16 x117038_2, .int .u16 x117039_2] 26 (0, 0))) ∧ Aside0 (Below w.heap.size w w'))
        case atStart => exact ⟨(0), (x117000_1), (x117001_1), (x117002_1), (x117003_1), (x117004_1), (x117005_1), (x117006_1), (x117007_1), (x117008_1), (x117009_1), (x117010_1), (x117011_1), (x117012_1), (x117013_1), (x117014_1), (x117015_1), (x117016_1), (x117017_1), (x117018_1), (x117019_1), (x117020_1), (x117021_1), (x117022_1), (x117023_1), (x117024_1), (x117025_1), (x117026_1), (x117027_1), (x117028_1), (x117029_1), (x117030_1), (x117031_1), (x117032_1), (x117033_1), (x117034_1), (x117035_1), (x117036_1), (x117037_1), (x117038_1), (x117039_1), (by first | rfl | (simp; done) | (simp [*]; done)), H', ⟨Nat.le_refl _⟩, ⟨by (with_reducible repeat (first | apply Kd.R_alloc | apply Kd.R_drewN | apply Kd.R_drew)); exact HO_4.out⟩, ⟨by (with_reducible repeat (first | refine blk_drewN ?_ _ | refine blk_drew ?_ | refine blk_alloc ?_ _)); exact BK0.out⟩, ⟨by (with_reducible repeat (first | refine blk_drewN ?_ _ | refine blk_drew ?_ | refine blk_alloc ?_ _)); exact BK115.out⟩, ⟨by (with_reducible repeat (first | refine blk_drewN ?_ _ | refine blk_drew ?_ | refine blk_alloc ?_ _)); exact BK116.out⟩, ⟨by repeat (first | (with_reducible first | exact HB.out | apply below_alloc | apply pw_below_drewN | apply below_drew1 | refine below_set ?_ GE0.out | refine below_set ?_ GE115.out | refine below_set ?_ GE116.out) | exact HB.out)⟩⟩
        case round =>
          clear H'
          try clear p2
          try clear c4
          try clear c7
          try clear c7b0
          try clear p2
          obtain ⟨x6_2, x117000_2, x117001_2, x117002_2, x117003_2, x117004_2, x117005_2, x117006_2, x117007_2, x117008_2, x117009_2, x117010_2, x117011_2, x117012_2, x117013_2, x117014_2, x117015_2, x117016_2, x117017_2, x117018_2, x117019_2, x117020_2, x117021_2, x117022_2, x117023_2, x117024_2, x117025_2, x117026_2, x117027_2, x117028_2, x117029_2, x117030_2, x117031_2, x117032_2, x117033_2, x117034_2, x117035_2, x117036_2, x117037_2, x117038_2, x117039_2, rfl, HA, HK2, HO_4, BK0, BK115, BK116, HB⟩ := hrel
          cases gk with
          | zero => exact absurd HA.out (by simp [spec_l06Plain.l1])
          | succ k2 =>
            have H := HA.out
            clear HA
            simp only [spec_l06Plain.l1] at H
            by_cases c9 : x6_2 < 4
            · rw [if_pos c9] at H
              have c9b0 : decide (x6_2 < 4) = true := decide_eq_true c9
              clear c9
              by_cases c10 : 0 ≤ x5_1
              · rw [if_pos c10] at H
                have c10b0 : decide (0 ≤ x5_1) = true := decide_eq_true c10
                clear c10
                by_cases c11 : x5_1 < (t117.length : Int)
                · rw [if_pos c11] at H
                  have c11b0 : decide (x5_1 < (t117.length : Int)) = true := decide_eq_true c11
                  clear c11
                  replace H := Option.bind_eq_some_iff.mp H
                  obtain ⟨⟨t122, t123, t124, t125, t126, t127, t128, t129, t130, t131, t132, t133, t134, t135, t136, t137, t138, t139, t140, t141, t142, t143, t144, t145, t146, t147, t148, t149, t150, t151, t152, t153, t154, t155, t156, t157, t158, t159, t160, t161⟩, A120, H⟩ := H
                  replace H : (spec_l06Plain.l1 k2 t117 x5_1 (wrap64 (x6_2 + 1)) t122 t123 t124 t125 t126 t127 t128 t129 t130 t131 t132 t133 t134 t135 t136 t137 t138 t139 t140 t141 t142 t143 t144 t145 t146 t147 t148 t149 t150 t151 t152 t153 t154 t155 t156 t157 t158 t159 t160 t161) = some (r1, r2, r3, r4, r5, r6, r7, r8, r9, r10, r11, r12, r13, r14, r15, r16, r17, r18, r19, r20, r21, r22, r23, r24, r25, r26, r27, r28, r29, r30, r31, r32, r33, r34, r35, r36, r37, r38, r39, r40) := H
                  have A12 := Aside0.mk A120
                  clear A120
                  have H' := Aside0.mk H
                  clear H
                  have p121 : 0 ≤ (x5_1 : Int) := of_decide_eq_true (by first | (with_reducible assumption) | assumption)
                  have q121 : x5_1 < (t117.length : Int) := of_decide_eq_true (by first | (with_reducible assumption) | assumption)
                  obtain ⟨ad121, e121, hx121_0, hx121_1⟩ := at_T33 (Kd.R_reads' HO_4.out).2.2 x5_1 p121 q121
                  cases e121
                  replace p121 := eq_true p121
                  replace q121 := eq_true q121
                  go_wp2_with (first | ((with_reducible refine gate_callee (f := 49) rfl ?_); refine goesL_ (some 25) rfl rfl Try.func49 (by kernel_rfl) rfl #[.pointer (some ⟨gb116, 0, none⟩), .agg #[.int .i8 ((rd_T33 t117 x5_1).f0), .int .i8 ((rd_T33 t117 x5_1).f1)], .int .i64 x6_2] rfl (by (try simp only [List.map_toArray, List.map_cons, List.map_nil]); first | done | rfl | (simp only [List.length_drop, List.length_take]; rfl)) ?_; (with_reducible refine (spec_l06Put.calls gb116 x117000_2 x117001_2 x117002_2 x117003_2 x117004_2 x117005_2 x117006_2 x117007_2 x117008_2 x117009_2 x117010_2 x117011_2 x117012_2 x117013_2 x117014_2 x117015_2 x117016_2 x117017_2 x117018_2 x117019_2 x117020_2 x117021_2 x117022_2 x117023_2 x117024_2 x117025_2 x117026_2 x117027_2 x117028_2 x117029_2 x117030_2 x117031_2 x117032_2 x117033_2 x117034_2 x117035_2 x117036_2 x117037_2 x117038_2 x117039_2 ((rd_T33 t117 x5_1).f0) ((rd_T33 t117 x5_1).f1) x6_2 t122 t123 t124 t125 t126 t127 t128 t129 t130 t131 t132 t133 t134 t135 t136 t137 t138 t139 t140 t141 t142 t143 t144 t145 t146 t147 t148 t149 t150 t151 t152 t153 t154 t155 t156 t157 t158 t159 t160 t161 w _ ?side1 ?side2 A12.out).mono ?_); (case side1 => exact ⟨(by (with_reducible repeat (first | refine blk_drewN ?_ _ | refine blk_drew ?_ | refine blk_alloc ?_ _)); exact BK116.out), GE116.out⟩); (case side2 => repeat (first | (with_reducible first | exact HB.out | apply below_alloc | apply pw_below_drewN | apply below_drew1 | refine below_set ?_ GE0.out | refine below_set ?_ GE115.out | refine below_set ?_ GE116.out) | exact HB.out)); rintro e w13 ⟨rfl, hi, hb, hk⟩; refine ⟨_, rfl, ?_⟩; have n0_ := Aside0.mk (Kd.R_mono (Kd.R_keep (Kd.R_types (by (with_reducible repeat (first | apply Kd.R_alloc | apply Kd.R_drewN | apply Kd.R_drew)); exact HO_4.out) (by (with_reducible repeat (first | refine blk_drewN ?_ _ | refine blk_drew ?_ | refine blk_alloc ?_ _)); exact BK116.out) (by decide)) hk (fun _ h => h.2)) (fun _ h => h.1)); have n1_ := Aside0.mk (KeepBut.blk hk (g' := g0) (o := .cells #[.int .i8 s0_0, .int .i8 s0_1, .int .u16 s0_2, .int .u16 s0_3, .int .u16 s0_4, .int .u16 s0_5, .int .u16 s0_6, .int .u16 s0_7, .int .u16 s0_8, .int .u16 s0_9, .int .u16 s0_10, .int .u16 s0_11] 39 (0, 0)) (by (with_reducible repeat (first | refine blk_drewN ?_ _ | refine blk_drew ?_ | refine blk_alloc ?_ _)); exact BK0.out) NB0_116.out (by simp)); have n2_ := Aside0.mk (KeepBut.blk hk (g' := gb115) (o := ob40 26 0 0 0 0 0 0 0 0 0 0 0 0 0 0 0 0 0 0 0 0 0 0 0 0 0 0 0 0 0 0 0 0 0 0 0 0 0 0 0 0) (by (with_reducible repeat (first | refine blk_drewN ?_ _ | refine blk_drew ?_ | refine blk_alloc ?_ _)); exact BK115.out) NB115_116.out (by simp)); have n3_ := Aside0.mk (hb); have n4_ := Aside0.mk (hi.1); clear HO_4; clear BK0; clear BK115; clear HB; clear BK116; have HO_4 := n0_; have BK0 := n1_; have BK115 := n2_; have HB := n3_; have BK116 := n4_; clear n0_ n1_ n2_ n3_ n4_; (try clear hb); (try clear hb2); (try clear hk); (try clear hi)))
                  go_roundg k2
                  case measure => have := HK1.out; have := HK2.out; omega
                  case rel => exact ⟨(wrap64 (x6_2 + 1)), (t122), (t123), (t124), (t125), (t126), (t127), (t128), (t129), (t130), (t131), (t132), (t133), (t134), (t135), (t136), (t137), (t138), (t139), (t140), (t141), (t142), (t143), (t144), (t145), (t146), (t147), (t148), (t149), (t150), (t151), (t152), (t153), (t154), (t155), (t156), (t157), (t158), (t159), (t160), (t161), (by first | rfl | (simp; done) | (simp [*]; done)), H', ⟨by have := HK1.out; have := HK2.out; omega⟩, ⟨by (with_reducible repeat (first | apply Kd.R_alloc | apply Kd.R_drewN | apply Kd.R_drew)); exact HO_4.out⟩, ⟨by (with_reducible repeat (first | refine blk_drewN ?_ _ | refine blk_drew ?_ | refine blk_alloc ?_ _)); exact BK0.out⟩, ⟨by (with_reducible repeat (first | refine blk_drewN ?_ _ | refine blk_drew ?_ | refine blk_alloc ?_ _)); exact BK115.out⟩, ⟨by (with_reducible repeat (first | refine blk_drewN ?_ _ | refine blk_drew ?_ | refine blk_alloc ?_ _)); exact BK116.out⟩, ⟨by repeat (first | (with_reducible first | exact HB.out | apply below_alloc | apply pw_below_drewN | apply below_drew1 | refine below_set ?_ GE0.out | refine below_set ?_ GE115.out | refine below_set ?_ GE116.out) | exact HB.out)⟩⟩
                · rw [if_neg c11] at H
                  exact absurd H (by simp)
              · rw [if_neg c10] at H
                exact absurd H (by simp)
            · rw [if_neg c9] at H
              have c9b0 : decide (x6_2 < 4) = false := decide_eq_false c9
              clear c9
              have H' := Aside0.mk H
              clear H
              go_wp2
              go_roundg k2
              case measure => have := HK1.out; have := HK2.out; omega
              case rel => exact ⟨(wrap64 (x5_1 + 1)), (x117000_2), (x117001_2), (x117002_2), (x117003_2), (x117004_2), (x117005_2), (x117006_2), (x117007_2), (x117008_2), (x117009_2), (x117010_2), (x117011_2), (x117012_2), (x117013_2), (x117014_2), (x117015_2), (x117016_2), (x117017_2), (x117018_2), (x117019_2), (x117020_2), (x117021_2), (x117022_2), (x117023_2), (x117024_2), (x117025_2), (x117026_2), (x117027_2), (x117028_2), (x117029_2), (x117030_2), (x117031_2), (x117032_2), (x117033_2), (x117034_2), (x117035_2), (x117036_2), (x117037_2), (x117038_2), (x117039_2), (by first | rfl | (simp; done) | (simp [*]; done)), H', ⟨by have := HK1.out; have := HK2.out; omega⟩, ⟨by (with_reducible repeat (first | apply Kd.R_alloc | apply Kd.R_drewN | apply Kd.R_drew)); exact HO_4.out⟩, ⟨by (with_reducible repeat (first | refine blk_drewN ?_ _ | refine blk_drew ?_ | refine blk_alloc ?_ _)); exact BK0.out⟩, ⟨by (with_reducible repeat (first | refine blk_drewN ?_ _ | refine blk_drew ?_ | refine blk_alloc ?_ _)); exact BK115.out⟩, ⟨by (with_reducible repeat (first | refine blk_drewN ?_ _ | refine blk_drew ?_ | refine blk_alloc ?_ _)); exact BK116.out⟩, ⟨by repeat (first | (with_reducible first | exact HB.out | apply below_alloc | apply pw_below_drewN | apply below_drew1 | refine below_set ?_ GE0.out | refine below_set ?_ GE115.out | refine below_set ?_ GE116.out) | exact HB.out)⟩⟩
      · rw [if_neg c7] at H
        have c7b0 : decide (x5_1 < (t117.length : Int)) = false := decide_eq_false c7
        clear c7
        simp only [Option.some.injEq, Prod.mk.injEq] at H
        obtain ⟨rfl, rfl, rfl, rfl, rfl, rfl, rfl, rfl, rfl, rfl, rfl, rfl, rfl, rfl, rfl, rfl, rfl, rfl, rfl, rfl, rfl, rfl, rfl, rfl, rfl, rfl, rfl, rfl, rfl, rfl, rfl, rfl, rfl, rfl, rfl, rfl, rfl, rfl, rfl, rfl⟩ := H
        obtain ⟨Ao14, co14, eo14⟩ := Kd.R_slice HO_4.out
        subst eo14
        go_wp2_with (first | ((with_reducible refine gate_dst (N := 26) rfl ?_); refine wpList_load_mid rfl 26 (.tmp 3) rfl gb116 0 rfl [.int .u16 x117000_1, .int .u16 x117001_1, .int .u16 x117002_1, .int .u16 x117003_1, .int .u16 x117004_1, .int .u16 x117005_1, .int .u16 x117006_1, .int .u16 x117007_1, .int .u16 x117008_1, .int .u16 x117009_1, .int .u16 x117010_1, .int .u16 x117011_1, .int .u16 x117012_1, .int .u16 x117013_1, .int .u16 x117014_1, .int .u16 x117015_1, .int .u16 x117016_1, .int .u16 x117017_1, .int .u16 x117018_1, .int .u16 x117019_1, .int .u16 x117020_1, .int .u16 x117021_1, .int .u16 x117022_1, .int .u16 x117023_1, .int .u16 x117024_1, .int .u16 x117025_1, .int .u16 x117026_1, .int .u16 x117027_1, .int .u16 x117028_1, .int .u16 x117029_1, .int .u16 x117030_1, .int .u16 x117031_1, .int .u16 x117032_1, .int .u16 x117033_1, .int .u16 x117034_1, .int .u16 x117035_1, .int .u16 x117036_1, .int .u16 x117037_1, .int .u16 x117038_1, .int .u16 x117039_1] _ (range_blk BK116.out) Try.underlying26 rfl (by kernel_rfl) ?_) | ((with_reducible refine gate_store (p := 2) rfl ?_); refine wpList_store_whole rfl 26 _ _ rfl gb115 #[.int .u16 x117000_1, .int .u16 x117001_1, .int .u16 x117002_1, .int .u16 x117003_1, .int .u16 x117004_1, .int .u16 x117005_1, .int .u16 x117006_1, .int .u16 x117007_1, .int .u16 x117008_1, .int .u16 x117009_1, .int .u16 x117010_1, .int .u16 x117011_1, .int .u16 x117012_1, .int .u16 x117013_1, .int .u16 x117014_1, .int .u16 x117015_1, .int .u16 x117016_1, .int .u16 x117017_1, .int .u16 x117018_1, .int .u16 x117019_1, .int .u16 x117020_1, .int .u16 x117021_1, .int .u16 x117022_1, .int .u16 x117023_1, .int .u16 x117024_1, .int .u16 x117025_1, .int .u16 x117026_1, .int .u16 x117027_1, .int .u16 x117028_1, .int .u16 x117029_1, .int .u16 x117030_1, .int .u16 x117031_1, .int .u16 x117032_1, .int .u16 x117033_1, .int .u16 x117034_1, .int .u16 x117035_1, .int .u16 x117036_1, .int .u16 x117037_1, .int .u16 x117038_1, .int .u16 x117039_1] #[.int .u16 0, .int .u16 0, .int .u16 0, .int .u16 0, .int .u16 0, .int .u16 0, .int .u16 0, .int .u16 0, .int .u16 0, .int .u16 0, .int .u16 0, .int .u16 0, .int .u16 0, .int .u16 0, .int .u16 0, .int .u16 0, .int .u16 0, .int .u16 0, .int .u16 0, .int .u16 0, .int .u16 0, .int .u16 0, .int .u16 0, .int .u16 0, .int .u16 0, .int .u16 0, .int .u16 0, .int .u16 0, .int .u16 0, .int .u16 0, .int .u16 0, .int .u16 0, .int .u16 0, .int .u16 0, .int .u16 0, .int .u16 0, .int .u16 0, .int .u16 0, .int .u16 0, .int .u16 0] rfl rfl (by (with_reducible repeat (first | refine blk_drewN ?_ _ | refine blk_drew ?_ | refine blk_alloc ?_ _)); exact BK115.out) rfl (by kernel_rfl) (by simp [Value.oneCell']) ?_; intro w15 hi hk hbl; have n0_ := Aside0.mk (Kd.R_mono (Kd.R_keep (Kd.R_types (by (with_reducible repeat (first | apply Kd.R_alloc | apply Kd.R_drewN | apply Kd.R_drew)); exact HO_4.out) (by (with_reducible repeat (first | refine blk_drewN ?_ _ | refine blk_drew ?_ | refine blk_alloc ?_ _)); exact BK115.out) (by decide)) hk (fun _ h => h.2)) (fun _ h => h.1)); have n1_ := Aside0.mk (KeepBut.blk hk (g' := g0) (o := .cells #[.int .i8 s0_0, .int .i8 s0_1, .int .u16 s0_2, .int .u16 s0_3, .int .u16 s0_4, .int .u16 s0_5, .int .u16 s0_6, .int .u16 s0_7, .int .u16 s0_8, .int .u16 s0_9, .int .u16 s0_10, .int .u16 s0_11] 39 (0, 0)) (by (with_reducible repeat (first | refine blk_drewN ?_ _ | refine blk_drew ?_ | refine blk_alloc ?_ _)); exact BK0.out) NB0_115.out (by simp)); have n2_ := Aside0.mk (KeepBut.blk hk (g' := gb116) (o := ob40 26 x117000_1 x117001_1 x117002_1 x117003_1 x117004_1 x117005_1 x117006_1 x117007_1 x117008_1 x117009_1 x117010_1 x117011_1 x117012_1 x117013_1 x117014_1 x117015_1 x117016_1 x117017_1 x117018_1 x117019_1 x117020_1 x117021_1 x117022_1 x117023_1 x117024_1 x117025_1 x117026_1 x117027_1 x117028_1 x117029_1 x117030_1 x117031_1 x117032_1 x117033_1 x117034_1 x117035_1 x117036_1 x117037_1 x117038_1 x117039_1) (by (with_reducible repeat (first | refine blk_drewN ?_ _ | refine blk_drew ?_ | refine blk_alloc ?_ _)); exact BK116.out) NB116_115.out (by simp)); have n3_ := Aside0.mk (hbl _ _ (by repeat (first | (with_reducible first | exact HB.out | apply below_alloc | apply pw_below_drewN | apply below_drew1 | refine below_set ?_ GE0.out | refine below_set ?_ GE115.out | refine below_set ?_ GE116.out) | exact HB.out)) GE115.out); have n4_ := Aside0.mk (hi); clear HO_4; clear BK0; clear BK116; clear HB; clear BK115; have HO_4 := n0_; have BK0 := n1_; have BK116 := n2_; have HB := n3_; have BK115 := n4_; clear n0_ n1_ n2_ n3_ n4_; clear hi hk hbl))
        refine bodyPost_ret (results_cell_row rfl _ _ gb115 26 #[.int .u16 x117000_1, .int .u16 x117001_1, .int .u16 x117002_1, .int .u16 x117003_1, .int .u16 x117004_1, .int .u16 x117005_1, .int .u16 x117006_1, .int .u16 x117007_1, .int .u16 x117008_1, .int .u16 x117009_1, .int .u16 x117010_1, .int .u16 x117011_1, .int .u16 x117012_1, .int .u16 x117013_1, .int .u16 x117014_1, .int .u16 x117015_1, .int .u16 x117016_1, .int .u16 x117017_1, .int .u16 x117018_1, .int .u16 x117019_1, .int .u16 x117020_1, .int .u16 x117021_1, .int .u16 x117022_1, .int .u16 x117023_1, .int .u16 x117024_1, .int .u16 x117025_1, .int .u16 x117026_1, .int .u16 x117027_1, .int .u16 x117028_1, .int .u16 x117029_1, .int .u16 x117030_1, .int .u16 x117031_1, .int .u16 x117032_1, .int .u16 x117033_1, .int .u16 x117034_1, .int .u16 x117035_1, .int .u16 x117036_1, .int .u16 x117037_1, .int .u16 x117038_1, .int .u16 x117039_1] (0, 0) _ rfl (by (with_reducible repeat (first | refine blk_drewN ?_ _ | refine blk_drew ?_ | refine blk_alloc ?_ _)); exact BK115.out) Try.underlying26 rfl (by kernel_rfl)) rfl ?_
        exact ⟨by first | rfl | (simp [errW_none, errW_some] <;> rfl) | (simp [*, errW_none, errW_some] <;> rfl), by repeat (first | (with_reducible first | exact HB.out | apply below_alloc | apply pw_below_drewN | apply below_drew1 | refine below_set ?_ GE0.out | refine below_set ?_ GE115.out | refine below_set ?_ GE116.out) | exact HB.out)⟩

end Go.Proofs.Ytdedijjbdkoekaa.PA
