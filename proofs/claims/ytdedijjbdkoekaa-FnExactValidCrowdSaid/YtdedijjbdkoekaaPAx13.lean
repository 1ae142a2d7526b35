/- Lean functions for Go functions, and proofs that Go comes to just their answers; written by a program of this session. -/
import Derived.Test.YtdedijjbdkoekaaPAx0
import Derived.Test.YtdedijjbdkoekaaPAx5
import Derived.Test.YtdedijjbdkoekaaPAx6
import Derived.Test.YtdedijjbdkoekaaPAx12
namespace Go.Proofs.Ytdedijjbdkoekaa.PA
open Go.RowKit Go.Proofs.YtdedijjbdkoekaaW.PrintWords Go.Proofs.YtdedijjbdkoekaaW.PrintLast Go.Proofs.YtdedijjbdkoekaaW.PrintMore
attribute [local go_sem] max2_int min2_int max_two min_two max_three min_three max_four min_four   -- for this text's walks alone
set_option linter.unusedVariables false
set_option linter.unusedSimpArgs false

/-! ### impl_ValidRoom: function 41 -/
mutual
def impl_ValidRoom.j0 : Nat → Bool → Int → Int → Int → Int → Int → Int → Int → Int → Int → Int → Int → Int → Option (Bool)
  | 0, _, _, _, _, _, _, _, _, _, _, _, _, _ => none
  | k + 1, x16, x222000, x222001, x222002, x222003, x222004, x222005, x222006, x222007, x222008, x222009, x222010, x222011 => if x16 = true then (some false) else (impl_ValidRoom.l0 k 0 x222000 x222001 x222002 x222003 x222004 x222005 x222006 x222007 x222008 x222009 x222010 x222011 x222002 x222003 x222004 x222005 x222006 x222007 x222008 x222009 x222010 x222011)
def impl_ValidRoom.l0 : Nat → Int → Int → Int → Int → Int → Int → Int → Int → Int → Int → Int → Int → Int → Int → Int → Int → Int → Int → Int → Int → Int → Int → Int → Option (Bool)
  | 0, _, _, _, _, _, _, _, _, _, _, _, _, _, _, _, _, _, _, _, _, _, _, _ => none
  | k + 1, x19, x222000, x222001, x222002, x222003, x222004, x222005, x222006, x222007, x222008, x222009, x222010, x222011, x225000, x225001, x225002, x225003, x225004, x225005, x225006, x225007, x225008, x225009 => if x19 < 10 then (if 0 ≤ x19 then (if 0 ≤ x222000 then (if (shr .u16 (rd [x225000, x225001, x225002, x225003, x225004, x225005, x225006, x225007, x225008, x225009] x19) x222000) = 0 then (if x19 ≥ (wrap64 (x222001)) then (if (rd [x225000, x225001, x225002, x225003, x225004, x225005, x225006, x225007, x225008, x225009] x19) = 0 then (impl_ValidRoom.l0 k (wrap64 (x19 + 1)) x222000 x222001 x222002 x222003 x222004 x222005 x222006 x222007 x222008 x222009 x222010 x222011 x225000 x225001 x225002 x225003 x225004 x225005 x225006 x225007 x225008 x225009) else (some false)) else (impl_ValidRoom.l0 k (wrap64 (x19 + 1)) x222000 x222001 x222002 x222003 x222004 x222005 x222006 x222007 x222008 x222009 x222010 x222011 x225000 x225001 x225002 x225003 x225004 x225005 x225006 x225007 x225008 x225009)) else (some false)) else (none)) else (none)) else (some true)
end
def impl_ValidRoom.f (k : Nat) (a0_0 : Int) (a0_1 : Int) (a0_2 : Int) (a0_3 : Int) (a0_4 : Int) (a0_5 : Int) (a0_6 : Int) (a0_7 : Int) (a0_8 : Int) (a0_9 : Int) (a0_10 : Int) (a0_11 : Int) : Option (Bool) := (impl_within.f (wrap64 (a0_0)) 1 10).bind fun t222 => (if t222 = true then ((impl_within.f (wrap64 (a0_1)) 1 10).bind fun t223 => (impl_ValidRoom.j0 k (!t223) a0_0 a0_1 a0_2 a0_3 a0_4 a0_5 a0_6 a0_7 a0_8 a0_9 a0_10 a0_11)) else (impl_ValidRoom.j0 k true a0_0 a0_1 a0_2 a0_3 a0_4 a0_5 a0_6 a0_7 a0_8 a0_9 a0_10 a0_11))
theorem impl_ValidRoom.mono_l : ∀ k, (∀ y0 y1 y2 y3 y4 y5 y6 y7 y8 y9 y10 y11 y12, LeO (impl_ValidRoom.j0 k y0 y1 y2 y3 y4 y5 y6 y7 y8 y9 y10 y11 y12) (impl_ValidRoom.j0 (k + 1) y0 y1 y2 y3 y4 y5 y6 y7 y8 y9 y10 y11 y12)) ∧ (∀ y0 y1 y2 y3 y4 y5 y6 y7 y8 y9 y10 y11 y12 y13 y14 y15 y16 y17 y18 y19 y20 y21 y22, LeO (impl_ValidRoom.l0 k y0 y1 y2 y3 y4 y5 y6 y7 y8 y9 y10 y11 y12 y13 y14 y15 y16 y17 y18 y19 y20 y21 y22) (impl_ValidRoom.l0 (k + 1) y0 y1 y2 y3 y4 y5 y6 y7 y8 y9 y10 y11 y12 y13 y14 y15 y16 y17 y18 y19 y20 y21 y22))
  | 0 => ⟨fun _ _ _ _ _ _ _ _ _ _ _ _ _ r h => by simp [impl_ValidRoom.j0] at h, fun _ _ _ _ _ _ _ _ _ _ _ _ _ _ _ _ _ _ _ _ _ _ _ r h => by simp [impl_ValidRoom.l0] at h⟩
  | k + 1 => by
    obtain ⟨ih0, ih1⟩ := impl_ValidRoom.mono_l k
    refine ⟨?_, ?_⟩
    · intro y0 y1 y2 y3 y4 y5 y6 y7 y8 y9 y10 y11 y12
      unfold impl_ValidRoom.j0
      repeat' first
      | (with_reducible exact ih0 _ _ _ _ _ _ _ _ _ _ _ _ _)
      | (with_reducible exact ih1 _ _ _ _ _ _ _ _ _ _ _ _ _ _ _ _ _ _ _ _ _ _ _)
      | (with_reducible exact LeO.refl _)
      | (with_reducible exact LeO.none _)
      | (with_reducible refine LeO.ite ?_ ?_)
      | (with_reducible refine LeO.bind ?_ (fun _ => ?_))
      | exact ih0 _ _ _ _ _ _ _ _ _ _ _ _ _
      | exact ih1 _ _ _ _ _ _ _ _ _ _ _ _ _ _ _ _ _ _ _ _ _ _ _
      | exact LeO.none _
      | refine LeO.ite ?_ ?_
      | refine LeO.bind ?_ (fun _ => ?_)
    · intro y0 y1 y2 y3 y4 y5 y6 y7 y8 y9 y10 y11 y12 y13 y14 y15 y16 y17 y18 y19 y20 y21 y22
      unfold impl_ValidRoom.l0
      repeat' first
      | (with_reducible exact ih0 _ _ _ _ _ _ _ _ _ _ _ _ _)
      | (with_reducible exact ih1 _ _ _ _ _ _ _ _ _ _ _ _ _ _ _ _ _ _ _ _ _ _ _)
      | (with_reducible exact LeO.refl _)
      | (with_reducible exact LeO.none _)
      | (with_reducible refine LeO.ite ?_ ?_)
      | (with_reducible refine LeO.bind ?_ (fun _ => ?_))
      | exact ih0 _ _ _ _ _ _ _ _ _ _ _ _ _
      | exact ih1 _ _ _ _ _ _ _ _ _ _ _ _ _ _ _ _ _ _ _ _ _ _ _
      | exact LeO.none _
      | refine LeO.ite ?_ ?_
      | refine LeO.bind ?_ (fun _ => ?_)
theorem impl_ValidRoom.mono : ∀ a0 a1 a2 a3 a4 a5 a6 a7 a8 a9 a10 a11 k, LeO (impl_ValidRoom.f k a0 a1 a2 a3 a4 a5 a6 a7 a8 a9 a10 a11) (impl_ValidRoom.f (k + 1) a0 a1 a2 a3 a4 a5 a6 a7 a8 a9 a10 a11) := by
  intro a0 a1 a2 a3 a4 a5 a6 a7 a8 a9 a10 a11 k
  obtain ⟨ih0, ih1⟩ := impl_ValidRoom.mono_l k
  unfold impl_ValidRoom.f
  repeat' first
      | (with_reducible exact ih0 _ _ _ _ _ _ _ _ _ _ _ _ _)
      | (with_reducible exact ih1 _ _ _ _ _ _ _ _ _ _ _ _ _ _ _ _ _ _ _ _ _ _ _)
      | (with_reducible exact LeO.refl _)
      | (with_reducible exact LeO.none _)
      | (with_reducible refine LeO.ite ?_ ?_)
      | (with_reducible refine LeO.bind ?_ (fun _ => ?_))
      | exact ih0 _ _ _ _ _ _ _ _ _ _ _ _ _
      | exact ih1 _ _ _ _ _ _ _ _ _ _ _ _ _ _ _ _ _ _ _ _ _ _ _
      | exact LeO.none _
      | refine LeO.ite ?_ ?_
      | refine LeO.bind ?_ (fun _ => ?_)
set_option maxHeartbeats 8000000 in
set_option maxRecDepth 100000 in
theorem impl_ValidRoom.calls (k : Nat) (a0_0 : Int) (a0_1 : Int) (a0_2 : Int) (a0_3 : Int) (a0_4 : Int) (a0_5 : Int) (a0_6 : Int) (a0_7 : Int) (a0_8 : Int) (a0_9 : Int) (a0_10 : Int) (a0_11 : Int) (r : Bool) (w : World) (h : impl_ValidRoom.f k a0_0 a0_1 a0_2 a0_3 a0_4 a0_5 a0_6 a0_7 a0_8 a0_9 a0_10 a0_11 = some r) :
    Calls Try.prog 41 #[.agg #[.int .i8 a0_0, .int .i8 a0_1, .int .u16 a0_2, .int .u16 a0_3, .int .u16 a0_4, .int .u16 a0_5, .int .u16 a0_6, .int .u16 a0_7, .int .u16 a0_8, .int .u16 a0_9, .int .u16 a0_10, .int .u16 a0_11]] w fun e w' => e = .returned (.bool r) ∧ Below w.heap.size w w' := by
  have hu39 := Try.underlying39
  have hu23 := Try.underlying23
  have HB := Aside0.mk (Below.refl w.heap.size w)
  have H : ((impl_within.f (wrap64 (a0_0)) 1 10).bind fun t222 => (if t222 = true then ((impl_within.f (wrap64 (a0_1)) 1 10).bind fun t223 => (impl_ValidRoom.j0 k (!t223) a0_0 a0_1 a0_2 a0_3 a0_4 a0_5 a0_6 a0_7 a0_8 a0_9 a0_10 a0_11)) else (impl_ValidRoom.j0 k true a0_0 a0_1 a0_2 a0_3 a0_4 a0_5 a0_6 a0_7 a0_8 a0_9 a0_10 a0_11))) = some r := h
  clear h
  have HC2 := Aside0.mk H
  clear H
  go_enter Try.func41, Try.ntmps41
  go_upto_region 1 with (first | ((with_reducible refine gate_dst (N := 1) rfl ?_); refine box_event ?hg (N := 1) ?hd (cs := #[.int .i8 a0_0, .int .i8 a0_1, .int .u16 a0_2, .int .u16 a0_3, .int .u16 a0_4, .int .u16 a0_5, .int .u16 a0_6, .int .u16 a0_7, .int .u16 a0_8, .int .u16 a0_9, .int .u16 a0_10, .int .u16 a0_11]) (t := 39) ?hr ?_; (case hd => rfl); (case hg => rfl); (case hr => first | (go_simp; done) | (go_simp; rfl)); intro gb221 hg w3 hbox hb; have n0_ := Aside0.mk (below_step (by repeat (first | (with_reducible first | exact HB.out | apply below_alloc | apply pw_below_drewN | apply below_drew1) | exact HB.out)) hb); have n1_ := Aside0.mk (hbox); have n2_ := Aside0.mk ((by rw [hg]; exact (below_size (by repeat (first | (with_reducible first | exact HB.out | apply below_alloc | apply pw_below_drewN | apply below_drew1) | exact HB.out))) : w.heap.size ≤ gb221)); have n3_ := Aside0.mk ((by rw [hg]; exact (below_size (by repeat (first | (with_reducible first | exact HB.out | apply below_alloc | apply pw_below_drewN | apply below_drew1) | exact HB.out))) : w.heap.size ≤ gb221)); clear HB; have HB := n0_; have BK221 := n1_; have GW221 := n2_; have GE221 := n3_; clear n0_ n1_ n2_ n3_; clear hb hbox hg))
  (try simp only [Act.put, List.setIfInBounds_toArray, List.set_cons_zero, List.set_cons_succ])
  go_cut [16] (fun v16 wc => ∃ (kq : Nat) (x16_1 : Bool), v16 = .bool x16_1 ∧ Aside0 (impl_ValidRoom.j0 kq x16_1 a0_0 a0_1 a0_2 a0_3 a0_4 a0_5 a0_6 a0_7 a0_8 a0_9 a0_10 a0_11 = some r) ∧ Aside0 (kq ≤ k) ∧ Aside0 (wc.heap[gb221]? = some (.cells #[.int .i8 a0_0, .int .i8 a0_1, .int .u16 a0_2, .int .u16 a0_3, .int .u16 a0_4, .int .u16 a0_5, .int .u16 a0_6, .int .u16 a0_7, .int .u16 a0_8, .int .u16 a0_9, .int .u16 a0_10, .int .u16 a0_11] 39 (0, 0))) ∧ Aside0 (Below w.heap.size w wc))
  case first =>
    have H := HC2.out
    clear HC2
    replace H := Option.bind_eq_some_iff.mp H
    obtain ⟨t222, A40, H⟩ := H
    replace H : (if t222 = true then ((impl_within.f (wrap64 (a0_1)) 1 10).bind fun t223 => (impl_ValidRoom.j0 k (!t223) a0_0 a0_1 a0_2 a0_3 a0_4 a0_5 a0_6 a0_7 a0_8 a0_9 a0_10 a0_11)) else (impl_ValidRoom.j0 k true a0_0 a0_1 a0_2 a0_3 a0_4 a0_5 a0_6 a0_7 a0_8 a0_9 a0_10 a0_11)) = some r := H
    have A4 := Aside0.mk A40
    clear A40
    by_cases c5 : t222 = true
    · subst c5
      have H1 : ((impl_within.f (wrap64 (a0_1)) 1 10).bind fun t223 => (impl_ValidRoom.j0 k (!t223) a0_0 a0_1 a0_2 a0_3 a0_4 a0_5 a0_6 a0_7 a0_8 a0_9 a0_10 a0_11)) = some r := by rw [if_pos rfl] at H; exact H
      clear H
      have H := H1
      clear H1
      replace H := Option.bind_eq_some_iff.mp H
      obtain ⟨t223, A60, H⟩ := H
      replace H : (impl_ValidRoom.j0 k (!t223) a0_0 a0_1 a0_2 a0_3 a0_4 a0_5 a0_6 a0_7 a0_8 a0_9 a0_10 a0_11) = some r := H
      have A6 := Aside0.mk A60
      clear A60
      have H' := Aside0.mk H
      clear H
      have hcz7_0 : w3.cell? ⟨gb221, 0, none⟩ = some (.int .i8 a0_0) := bc_ BK221.out 0
      have hcz7_1 : w3.cell? ⟨gb221, 1, none⟩ = some (.int .i8 a0_1) := bc_ BK221.out 1
      have hcz7_2 : w3.cell? ⟨gb221, 2, none⟩ = some (.int .u16 a0_2) := bc_ BK221.out 2
      have hcz7_3 : w3.cell? ⟨gb221, 3, none⟩ = some (.int .u16 a0_3) := bc_ BK221.out 3
      have hcz7_4 : w3.cell? ⟨gb221, 4, none⟩ = some (.int .u16 a0_4) := bc_ BK221.out 4
      have hcz7_5 : w3.cell? ⟨gb221, 5, none⟩ = some (.int .u16 a0_5) := bc_ BK221.out 5
      have hcz7_6 : w3.cell? ⟨gb221, 6, none⟩ = some (.int .u16 a0_6) := bc_ BK221.out 6
      have hcz7_7 : w3.cell? ⟨gb221, 7, none⟩ = some (.int .u16 a0_7) := bc_ BK221.out 7
      have hcz7_8 : w3.cell? ⟨gb221, 8, none⟩ = some (.int .u16 a0_8) := bc_ BK221.out 8
      have hcz7_9 : w3.cell? ⟨gb221, 9, none⟩ = some (.int .u16 a0_9) := bc_ BK221.out 9
      have hcz7_10 : w3.cell? ⟨gb221, 10, none⟩ = some (.int .u16 a0_10) := bc_ BK221.out 10
      have hcz7_11 : w3.cell? ⟨gb221, 11, none⟩ = some (.int .u16 a0_11) := bc_ BK221.out 11
      have hfz7_0 := blk_frozen BK221.out 0
      have hfz7_1 := blk_frozen BK221.out 1
      have hfz7_2 := blk_frozen BK221.out 2
      have hfz7_3 := blk_frozen BK221.out 3
      have hfz7_4 := blk_frozen BK221.out 4
      have hfz7_5 := blk_frozen BK221.out 5
      have hfz7_6 := blk_frozen BK221.out 6
      have hfz7_7 := blk_frozen BK221.out 7
      have hfz7_8 := blk_frozen BK221.out 8
      have hfz7_9 := blk_frozen BK221.out 9
      have hfz7_10 := blk_frozen BK221.out 10
      have hfz7_11 := blk_frozen BK221.out 11
      go_wp2_with (first | ((with_reducible refine gate_callee (f := 68) rfl ?_); refine goesL_ (some 8) rfl rfl Try.func68 (by kernel_rfl) rfl #[.int .i64 (wrap64 (a0_0)), .int .i64 1, .int .i64 10] rfl (by (try simp only [List.map_toArray, List.map_cons, List.map_nil]); first | done | rfl | (simp only [List.length_drop, List.length_take]; rfl)) ?_; (with_reducible refine (impl_within.calls (wrap64 (a0_0)) 1 10 true _ A4.out).mono ?_); rintro e w' ⟨rfl, ⟨nd, rfl⟩⟩; refine ⟨_, rfl, ?_⟩) | (go_at_call 68; (with_reducible refine (impl_within.calls (wrap64 (a0_1)) 1 10 t223 _ A6.out).mono ?_); rintro e w' ⟨rfl, ⟨nd, rfl⟩⟩))
      go_meet
      case rel => exact ⟨_, (!t223), (by first | rfl | (simp; done) | (simp [*]; done)), H', ⟨by first | omega | exact Nat.le_refl _⟩, ⟨by (with_reducible repeat (first | refine blk_drewN ?_ _ | refine blk_drew ?_ | refine blk_alloc ?_ _)); exact BK221.out⟩, ⟨by repeat (first | (with_reducible first | exact HB.out | apply below_alloc | apply pw_below_drewN | apply below_drew1 | refine below_set ?_ GE221.out) | exact HB.out)⟩⟩
    · replace c5 := Bool.eq_false_iff.mpr c5
      subst c5
      have H1 : (impl_ValidRoom.j0 k true a0_0 a0_1 a0_2 a0_3 a0_4 a0_5 a0_6 a0_7 a0_8 a0_9 a0_10 a0_11) = some r := by rw [if_neg (show ¬ (false = true) by decide)] at H; exact H
      clear H
      have H := H1
      clear H1
      have H' := Aside0.mk H
      clear H
      have hcz8_0 : w3.cell? ⟨gb221, 0, none⟩ = some (.int .i8 a0_0) := bc_ BK221.out 0
      have hcz8_1 : w3.cell? ⟨gb221, 1, none⟩ = some (.int .i8 a0_1) := bc_ BK221.out 1
      have hcz8_2 : w3.cell? ⟨gb221, 2, none⟩ = some (.int .u16 a0_2) := bc_ BK221.out 2
      have hcz8_3 : w3.cell? ⟨gb221, 3, none⟩ = some (.int .u16 a0_3) := bc_ BK221.out 3
      have hcz8_4 : w3.cell? ⟨gb221, 4, none⟩ = some (.int .u16 a0_4) := bc_ BK221.out 4
      have hcz8_5 : w3.cell? ⟨gb221, 5, none⟩ = some (.int .u16 a0_5) := bc_ BK221.out 5
      have hcz8_6 : w3.cell? ⟨gb221, 6, none⟩ = some (.int .u16 a0_6) := bc_ BK221.out 6
      have hcz8_7 : w3.cell? ⟨gb221, 7, none⟩ = some (.int .u16 a0_7) := bc_ BK221.out 7
      have hcz8_8 : w3.cell? ⟨gb221, 8, none⟩ = some (.int .u16 a0_8) := bc_ BK221.out 8
      have hcz8_9 : w3.cell? ⟨gb221, 9, none⟩ = some (.int .u16 a0_9) := bc_ BK221.out 9
      have hcz8_10 : w3.cell? ⟨gb221, 10, none⟩ = some (.int .u16 a0_10) := bc_ BK221.out 10
      have hcz8_11 : w3.cell? ⟨gb221, 11, none⟩ = some (.int .u16 a0_11) := bc_ BK221.out 11
      have hfz8_0 := blk_frozen BK221.out 0
      have hfz8_1 := blk_frozen BK221.out 1
      have hfz8_2 := blk_frozen BK221.out 2
      have hfz8_3 := blk_frozen BK221.out 3
      have hfz8_4 := blk_frozen BK221.out 4
      have hfz8_5 := blk_frozen BK221.out 5
      have hfz8_6 := blk_frozen BK221.out 6
      have hfz8_7 := blk_frozen BK221.out 7
      have hfz8_8 := blk_frozen BK221.out 8
      have hfz8_9 := blk_frozen BK221.out 9
      have hfz8_10 := blk_frozen BK221.out 10
      have hfz8_11 := blk_frozen BK221.out 11
      go_wp2_with (first | ((with_reducible refine gate_callee (f := 68) rfl ?_); refine goesL_ (some 8) rfl rfl Try.func68 (by kernel_rfl) rfl #[.int .i64 (wrap64 (a0_0)), .int .i64 1, .int .i64 10] rfl (by (try simp only [List.map_toArray, List.map_cons, List.map_nil]); first | done | rfl | (simp only [List.length_drop, List.length_take]; rfl)) ?_; (with_reducible refine (impl_within.calls (wrap64 (a0_0)) 1 10 false _ A4.out).mono ?_); rintro e w' ⟨rfl, ⟨nd, rfl⟩⟩; refine ⟨_, rfl, ?_⟩))
      go_meet
      case rel => exact ⟨_, (true), (by first | rfl | (simp; done) | (simp [*]; done)), H', ⟨by first | omega | exact Nat.le_refl _⟩, ⟨by (with_reducible repeat (first | refine blk_drewN ?_ _ | refine blk_drew ?_ | refine blk_alloc ?_ _)); exact BK221.out⟩, ⟨by repeat (first | (with_reducible first | exact HB.out | apply below_alloc | apply pw_below_drewN | apply below_drew1 | refine below_set ?_ GE221.out) | exact HB.out)⟩⟩
  case rest =>
    clear HC2
    try clear p2
    try clear c4
    try clear c5
    try clear c6
    try clear p6
    try clear hcz7_0
    try clear hcz7_1
    try clear hcz7_10
    try clear hcz7_11
    try clear hcz7_2
    try clear hcz7_3
    try clear hcz7_4
    try clear hcz7_5
    try clear hcz7_6
    try clear hcz7_7
    try clear hcz7_8
    try clear hcz7_9
    try clear hcz8_0
    try clear hcz8_1
    try clear hcz8_10
    try clear hcz8_11
    try clear hcz8_2
    try clear hcz8_3
    try clear hcz8_4
    try clear hcz8_5
    try clear hcz8_6
    try clear hcz8_7
    try clear hcz8_8
    try clear hcz8_9
    try clear hfz7_0
    try clear hfz7_1
    try clear hfz7_10
    try clear hfz7_11
    try clear hfz7_2
    try clear hfz7_3
    try clear hfz7_4
    try clear hfz7_5
    try clear hfz7_6
    try clear hfz7_7
    try clear hfz7_8
    try clear hfz7_9
    try clear hfz8_0
    try clear hfz8_1
    try clear hfz8_10
    try clear hfz8_11
    try clear hfz8_2
    try clear hfz8_3
    try clear hfz8_4
    try clear hfz8_5
    try clear hfz8_6
    try clear hfz8_7
    try clear hfz8_8
    try clear hfz8_9
    obtain ⟨kq, x16_1, rfl, HA, HJ1, BK221, HB⟩ := hcut
    cases kq with
    | zero => exact absurd HA.out (by simp [impl_ValidRoom.j0])
    | succ kj1 =>
      have H := HA.out
      clear HA
      simp only [impl_ValidRoom.j0] at H
      by_cases c9 : x16_1 = true
      · subst c9
        have H1 : (some false) = some r := by rw [if_pos rfl] at H; exact H
        clear H
        have H := H1
        clear H1
        obtain rfl := Option.some.inj H
        go_wp2
        go_ret
        exact ⟨by first | rfl | (simp [errW_none, errW_some] <;> rfl) | (simp [*, errW_none, errW_some] <;> rfl), by repeat (first | (with_reducible first | exact HB.out | apply below_alloc | apply pw_below_drewN | apply below_drew1 | refine below_set ?_ GE221.out) | exact HB.out)⟩
      · replace c9 := Bool.eq_false_iff.mpr c9
        subst c9
        have H1 : (impl_ValidRoom.l0 kj1 0 a0_0 a0_1 a0_2 a0_3 a0_4 a0_5 a0_6 a0_7 a0_8 a0_9 a0_10 a0_11 a0_2 a0_3 a0_4 a0_5 a0_6 a0_7 a0_8 a0_9 a0_10 a0_11) = some r := by rw [if_neg (show ¬ (false = true) by decide)] at H; exact H
        clear H
        have H := H1
        clear H1
        have H' := Aside0.mk H
        clear H
        have hcz10_0 : wc.cell? ⟨gb221, 0, none⟩ = some (.int .i8 a0_0) := bc_ BK221.out 0
        have hcz10_1 : wc.cell? ⟨gb221, 1, none⟩ = some (.int .i8 a0_1) := bc_ BK221.out 1
        have hcz10_2 : wc.cell? ⟨gb221, 2, none⟩ = some (.int .u16 a0_2) := bc_ BK221.out 2
        have hcz10_3 : wc.cell? ⟨gb221, 3, none⟩ = some (.int .u16 a0_3) := bc_ BK221.out 3
        have hcz10_4 : wc.cell? ⟨gb221, 4, none⟩ = some (.int .u16 a0_4) := bc_ BK221.out 4
        have hcz10_5 : wc.cell? ⟨gb221, 5, none⟩ = some (.int .u16 a0_5) := bc_ BK221.out 5
        have hcz10_6 : wc.cell? ⟨gb221, 6, none⟩ = some (.int .u16 a0_6) := bc_ BK221.out 6
        have hcz10_7 : wc.cell? ⟨gb221, 7, none⟩ = some (.int .u16 a0_7) := bc_ BK221.out 7
        have hcz10_8 : wc.cell? ⟨gb221, 8, none⟩ = some (.int .u16 a0_8) := bc_ BK221.out 8
        have hcz10_9 : wc.cell? ⟨gb221, 9, none⟩ = some (.int .u16 a0_9) := bc_ BK221.out 9
        have hcz10_10 : wc.cell? ⟨gb221, 10, none⟩ = some (.int .u16 a0_10) := bc_ BK221.out 10
        have hcz10_11 : wc.cell? ⟨gb221, 11, none⟩ = some (.int .u16 a0_11) := bc_ BK221.out 11
        have hfz10_0 := blk_frozen BK221.out 0
        have hfz10_1 := blk_frozen BK221.out 1
        have hfz10_2 := blk_frozen BK221.out 2
        have hfz10_3 := blk_frozen BK221.out 3
        have hfz10_4 := blk_frozen BK221.out 4
        have hfz10_5 := blk_frozen BK221.out 5
        have hfz10_6 := blk_frozen BK221.out 6
        have hfz10_7 := blk_frozen BK221.out 7
        have hfz10_8 := blk_frozen BK221.out 8
        have hfz10_9 := blk_frozen BK221.out 9
        have hfz10_10 := blk_frozen BK221.out 10
        have hfz10_11 := blk_frozen BK221.out 11
        go_wp2
        go_loopg [19] kj1 (fun kq v19 w' => ∃ (x19_2 : Int), v19 = .int .i64 x19_2 ∧ Aside0 (impl_ValidRoom.l0 kq x19_2 a0_0 a0_1 a0_2 a0_3 a0_4 a0_5 a0_6 a0_7 a0_8 a0_9 a0_10 a0_11 a0_2 a0_3 a0_4 a0_5 a0_6 a0_7 a0_8 a0_9 a0_10 a0_11 = some r) ∧ Aside0 (kq ≤ kj1) ∧ Aside0 (w'.heap[gb221]? = some (.cells #[.int .i8 a0_0, .int .i8 a0_1, .int .u16 a0_2, .int .u16 a0_3, .int .u16 a0_4, .int .u16 a0_5, .int .u16 a0_6, .int .u16 a0_7, .int .u16 a0_8, .int .u16 a0_9, .int .u16 a0_10, .int .u16 a0_11] 39 (0, 0))) ∧ Aside0 (Below w.heap.size w w'))
        case atStart => exact ⟨(0), (by first | rfl | (simp; done) | (simp [*]; done)), H', ⟨Nat.le_refl _⟩, ⟨by (with_reducible repeat (first | refine blk_drewN ?_ _ | refine blk_drew ?_ | refine blk_alloc ?_ _)); exact BK221.out⟩, ⟨by repeat (first | (with_reducible first | exact HB.out | apply below_alloc | apply pw_below_drewN | apply below_drew1 | refine below_set ?_ GE221.out) | exact HB.out)⟩⟩
        case round =>
          clear H'
          try clear p2
          try clear c4
          try clear c5
          try clear c6
          try clear p6
          try clear c9
          try clear hcz10_0
          try clear hcz10_1
          try clear hcz10_10
          try clear hcz10_11
          try clear hcz10_2
          try clear hcz10_3
          try clear hcz10_4
          try clear hcz10_5
          try clear hcz10_6
          try clear hcz10_7
          try clear hcz10_8
          try clear hcz10_9
          try clear hcz7_0
          try clear hcz7_1
          try clear hcz7_10
          try clear hcz7_11
          try clear hcz7_2
          try clear hcz7_3
          try clear hcz7_4
          try clear hcz7_5
          try clear hcz7_6
          try clear hcz7_7
          try clear hcz7_8
          try clear hcz7_9
          try clear hcz8_0
          try clear hcz8_1
          try clear hcz8_10
          try clear hcz8_11
          try clear hcz8_2
          try clear hcz8_3
          try clear hcz8_4
          try clear hcz8_5
          try clear hcz8_6
          try clear hcz8_7
          try clear hcz8_8
          try clear hcz8_9
          try clear hfz10_0
          try clear hfz10_1
          try clear hfz10_10
          try clear hfz10_11
          try clear hfz10_2
          try clear hfz10_3
          try clear hfz10_4
          try clear hfz10_5
          try clear hfz10_6
          try clear hfz10_7
          try clear hfz10_8
          try clear hfz10_9
          try clear hfz7_0
          try clear hfz7_1
          try clear hfz7_10
          try clear hfz7_11
          try clear hfz7_2
          try clear hfz7_3
          try clear hfz7_4
          try clear hfz7_5
          try clear hfz7_6
          try clear hfz7_7
          try clear hfz7_8
          try clear hfz7_9
          try clear hfz8_0
          try clear hfz8_1
          try clear hfz8_10
          try clear hfz8_11
          try clear hfz8_2
          try clear hfz8_3
          try clear hfz8_4
          try clear hfz8_5
          try clear hfz8_6
          try clear hfz8_7
          try clear hfz8_8
          try clear hfz8_9
          try clear p2
          try clear p6
          obtain ⟨x19_2, rfl, HA, HK2, BK221, HB⟩ := hrel
          cases gk with
          | zero => exact absurd HA.out (by simp [impl_ValidRoom.l0])
          | succ k2 =>
            have H := HA.out
            clear HA
            simp only [impl_ValidRoom.l0] at H
            by_cases c11 : x19_2 < 10
            · rw [if_pos c11] at H
              have c11b0 : decide (x19_2 < 10) = true := decide_eq_true c11
              clear c11
              by_cases c12 : 0 ≤ x19_2
              · rw [if_pos c12] at H
                have c12b0 : decide (0 ≤ x19_2) = true := decide_eq_true c12
                clear c12
                by_cases c13 : 0 ≤ a0_0
                · rw [if_pos c13] at H
                  have c13b0 := eq_true c13
                  have c13b1 : decide (0 ≤ a0_0) = true := decide_eq_true c13
                  clear c13
                  obtain ⟨ji14, hji14⟩ : ∃ j_ : Int, (shr .u16 (rd [a0_2, a0_3, a0_4, a0_5, a0_6, a0_7, a0_8, a0_9, a0_10, a0_11] x19_2) a0_0) = j_ := ⟨_, rfl⟩
                  replace H : (if (ji14) = 0 then (if x19_2 ≥ (wrap64 (a0_1)) then (if (rd [a0_2, a0_3, a0_4, a0_5, a0_6, a0_7, a0_8, a0_9, a0_10, a0_11] x19_2) = 0 then (impl_ValidRoom.l0 k2 (wrap64 (x19_2 + 1)) a0_0 a0_1 a0_2 a0_3 a0_4 a0_5 a0_6 a0_7 a0_8 a0_9 a0_10 a0_11 a0_2 a0_3 a0_4 a0_5 a0_6 a0_7 a0_8 a0_9 a0_10 a0_11) else (some false)) else (impl_ValidRoom.l0 k2 (wrap64 (x19_2 + 1)) a0_0 a0_1 a0_2 a0_3 a0_4 a0_5 a0_6 a0_7 a0_8 a0_9 a0_10 a0_11 a0_2 a0_3 a0_4 a0_5 a0_6 a0_7 a0_8 a0_9 a0_10 a0_11)) else (some false)) = some r := by first | (rw [hji14] at H; exact H) | (simp only [hji14] at H ⊢; exact H)
                  have hji14_ : ((rd [a0_2, a0_3, a0_4, a0_5, a0_6, a0_7, a0_8, a0_9, a0_10, a0_11] x19_2) / 2 ^ min a0_0.toNat 16) = ji14 := hji14
                  have hji14z : a0_0 ≤ 16 → ((rd [a0_2, a0_3, a0_4, a0_5, a0_6, a0_7, a0_8, a0_9, a0_10, a0_11] x19_2) / 2 ^ a0_0.toNat) = ji14 := shr_small hji14
                  by_cases c15 : (ji14) = 0
                  · rw [if_pos c15] at H
                    have c15b0 : ((ji14) == 0) = true := beq_iff_eq.mpr c15
                    have c15b1 : ((ji14) != 0) = false := bne_eq_false_iff_eq.mpr c15
                    clear c15
                    by_cases c16 : x19_2 ≥ (wrap64 (a0_1))
                    · rw [if_pos c16] at H
                      have c16b0 : decide ((wrap64 (a0_1)) ≤ x19_2) = true := decide_eq_true c16
                      clear c16
                      by_cases c17 : (rd [a0_2, a0_3, a0_4, a0_5, a0_6, a0_7, a0_8, a0_9, a0_10, a0_11] x19_2) = 0
                      · rw [if_pos c17] at H
                        have c17b0 : ((rd [a0_2, a0_3, a0_4, a0_5, a0_6, a0_7, a0_8, a0_9, a0_10, a0_11] x19_2) == 0) = true := beq_iff_eq.mpr c17
                        have c17b1 : ((rd [a0_2, a0_3, a0_4, a0_5, a0_6, a0_7, a0_8, a0_9, a0_10, a0_11] x19_2) != 0) = false := bne_eq_false_iff_eq.mpr c17
                        clear c17
                        have H' := Aside0.mk H
                        clear H
                        have hixd18 : ∀ W_ : World, (Instr.index 23 (.agg #[.int .u16 a0_2, .int .u16 a0_3, .int .u16 a0_4, .int .u16 a0_5, .int .u16 a0_6, .int .u16 a0_7, .int .u16 a0_8, .int .u16 a0_9, .int .u16 a0_10, .int .u16 a0_11]) (.int .i64 x19_2)).run Try.prog W_ = .ok (.int .u16 (rd [a0_2, a0_3, a0_4, a0_5, a0_6, a0_7, a0_8, a0_9, a0_10, a0_11] x19_2)) W_ := fun W_ => idx_23 a0_2 a0_3 a0_4 a0_5 a0_6 a0_7 a0_8 a0_9 a0_10 a0_11 x19_2 (by first | omega | exact of_decide_eq_true (by first | (with_reducible assumption) | assumption)) (by first | omega | exact of_decide_eq_true (by first | (with_reducible assumption) | assumption)) W_
                        have hcz19_0 : wr.cell? ⟨gb221, 0, none⟩ = some (.int .i8 a0_0) := bc_ BK221.out 0
                        have hcz19_1 : wr.cell? ⟨gb221, 1, none⟩ = some (.int .i8 a0_1) := bc_ BK221.out 1
                        have hcz19_2 : wr.cell? ⟨gb221, 2, none⟩ = some (.int .u16 a0_2) := bc_ BK221.out 2
                        have hcz19_3 : wr.cell? ⟨gb221, 3, none⟩ = some (.int .u16 a0_3) := bc_ BK221.out 3
                        have hcz19_4 : wr.cell? ⟨gb221, 4, none⟩ = some (.int .u16 a0_4) := bc_ BK221.out 4
                        have hcz19_5 : wr.cell? ⟨gb221, 5, none⟩ = some (.int .u16 a0_5) := bc_ BK221.out 5
                        have hcz19_6 : wr.cell? ⟨gb221, 6, none⟩ = some (.int .u16 a0_6) := bc_ BK221.out 6
                        have hcz19_7 : wr.cell? ⟨gb221, 7, none⟩ = some (.int .u16 a0_7) := bc_ BK221.out 7
                        have hcz19_8 : wr.cell? ⟨gb221, 8, none⟩ = some (.int .u16 a0_8) := bc_ BK221.out 8
                        have hcz19_9 : wr.cell? ⟨gb221, 9, none⟩ = some (.int .u16 a0_9) := bc_ BK221.out 9
                        have hcz19_10 : wr.cell? ⟨gb221, 10, none⟩ = some (.int .u16 a0_10) := bc_ BK221.out 10
                        have hcz19_11 : wr.cell? ⟨gb221, 11, none⟩ = some (.int .u16 a0_11) := bc_ BK221.out 11
                        have hfz19_0 := blk_frozen BK221.out 0
                        have hfz19_1 := blk_frozen BK221.out 1
                        have hfz19_2 := blk_frozen BK221.out 2
                        have hfz19_3 := blk_frozen BK221.out 3
                        have hfz19_4 := blk_frozen BK221.out 4
                        have hfz19_5 := blk_frozen BK221.out 5
                        have hfz19_6 := blk_frozen BK221.out 6
                        have hfz19_7 := blk_frozen BK221.out 7
                        have hfz19_8 := blk_frozen BK221.out 8
                        have hfz19_9 := blk_frozen BK221.out 9
                        have hfz19_10 := blk_frozen BK221.out 10
                        have hfz19_11 := blk_frozen BK221.out 11
                        go_wp2
                        go_roundg k2
                        case measure => have := HJ1.out; have := HK2.out; omega
                        case rel => exact ⟨(wrap64 (x19_2 + 1)), (by first | rfl | (simp; done) | (simp [*]; done)), H', ⟨by have := HJ1.out; have := HK2.out; omega⟩, ⟨by (with_reducible repeat (first | refine blk_drewN ?_ _ | refine blk_drew ?_ | refine blk_alloc ?_ _)); exact BK221.out⟩, ⟨by repeat (first | (with_reducible first | exact HB.out | apply below_alloc | apply pw_below_drewN | apply below_drew1 | refine below_set ?_ GE221.out) | exact HB.out)⟩⟩
                      · rw [if_neg c17] at H
                        have c17b0 : ((rd [a0_2, a0_3, a0_4, a0_5, a0_6, a0_7, a0_8, a0_9, a0_10, a0_11] x19_2) == 0) = false := beq_eq_false_iff_ne.mpr c17
                        have c17b1 : ((rd [a0_2, a0_3, a0_4, a0_5, a0_6, a0_7, a0_8, a0_9, a0_10, a0_11] x19_2) != 0) = true := bne_iff_ne.mpr c17
                        obtain rfl := Option.some.inj H
                        have hixd20 : ∀ W_ : World, (Instr.index 23 (.agg #[.int .u16 a0_2, .int .u16 a0_3, .int .u16 a0_4, .int .u16 a0_5, .int .u16 a0_6, .int .u16 a0_7, .int .u16 a0_8, .int .u16 a0_9, .int .u16 a0_10, .int .u16 a0_11]) (.int .i64 x19_2)).run Try.prog W_ = .ok (.int .u16 (rd [a0_2, a0_3, a0_4, a0_5, a0_6, a0_7, a0_8, a0_9, a0_10, a0_11] x19_2)) W_ := fun W_ => idx_23 a0_2 a0_3 a0_4 a0_5 a0_6 a0_7 a0_8 a0_9 a0_10 a0_11 x19_2 (by first | omega | exact of_decide_eq_true (by first | (with_reducible assumption) | assumption)) (by first | omega | exact of_decide_eq_true (by first | (with_reducible assumption) | assumption)) W_
                        have hcz21_0 : wr.cell? ⟨gb221, 0, none⟩ = some (.int .i8 a0_0) := bc_ BK221.out 0
                        have hcz21_1 : wr.cell? ⟨gb221, 1, none⟩ = some (.int .i8 a0_1) := bc_ BK221.out 1
                        have hcz21_2 : wr.cell? ⟨gb221, 2, none⟩ = some (.int .u16 a0_2) := bc_ BK221.out 2
                        have hcz21_3 : wr.cell? ⟨gb221, 3, none⟩ = some (.int .u16 a0_3) := bc_ BK221.out 3
                        have hcz21_4 : wr.cell? ⟨gb221, 4, none⟩ = some (.int .u16 a0_4) := bc_ BK221.out 4
                        have hcz21_5 : wr.cell? ⟨gb221, 5, none⟩ = some (.int .u16 a0_5) := bc_ BK221.out 5
                        have hcz21_6 : wr.cell? ⟨gb221, 6, none⟩ = some (.int .u16 a0_6) := bc_ BK221.out 6
                        have hcz21_7 : wr.cell? ⟨gb221, 7, none⟩ = some (.int .u16 a0_7) := bc_ BK221.out 7
                        have hcz21_8 : wr.cell? ⟨gb221, 8, none⟩ = some (.int .u16 a0_8) := bc_ BK221.out 8
                        have hcz21_9 : wr.cell? ⟨gb221, 9, none⟩ = some (.int .u16 a0_9) := bc_ BK221.out 9
                        have hcz21_10 : wr.cell? ⟨gb221, 10, none⟩ = some (.int .u16 a0_10) := bc_ BK221.out 10
                        have hcz21_11 : wr.cell? ⟨gb221, 11, none⟩ = some (.int .u16 a0_11) := bc_ BK221.out 11
                        have hfz21_0 := blk_frozen BK221.out 0
                        have hfz21_1 := blk_frozen BK221.out 1
                        have hfz21_2 := blk_frozen BK221.out 2
                        have hfz21_3 := blk_frozen BK221.out 3
                        have hfz21_4 := blk_frozen BK221.out 4
                        have hfz21_5 := blk_frozen BK221.out 5
                        have hfz21_6 := blk_frozen BK221.out 6
                        have hfz21_7 := blk_frozen BK221.out 7
                        have hfz21_8 := blk_frozen BK221.out 8
                        have hfz21_9 := blk_frozen BK221.out 9
                        have hfz21_10 := blk_frozen BK221.out 10
                        have hfz21_11 := blk_frozen BK221.out 11
                        go_wp2
                        go_ret
                        exact ⟨by first | rfl | (simp [errW_none, errW_some] <;> rfl) | (simp only [← hji14]; first | rfl | (simp [errW_none, errW_some] <;> rfl)) | (simp [*, errW_none, errW_some] <;> rfl), by repeat (first | (with_reducible first | exact HB.out | apply below_alloc | apply pw_below_drewN | apply below_drew1 | refine below_set ?_ GE221.out) | exact HB.out)⟩
                    · rw [if_neg c16] at H
                      have c16b0 : decide ((wrap64 (a0_1)) ≤ x19_2) = false := decide_eq_false c16
                      clear c16
                      have H' := Aside0.mk H
                      clear H
                      have hixd22 : ∀ W_ : World, (Instr.index 23 (.agg #[.int .u16 a0_2, .int .u16 a0_3, .int .u16 a0_4, .int .u16 a0_5, .int .u16 a0_6, .int .u16 a0_7, .int .u16 a0_8, .int .u16 a0_9, .int .u16 a0_10, .int .u16 a0_11]) (.int .i64 x19_2)).run Try.prog W_ = .ok (.int .u16 (rd [a0_2, a0_3, a0_4, a0_5, a0_6, a0_7, a0_8, a0_9, a0_10, a0_11] x19_2)) W_ := fun W_ => idx_23 a0_2 a0_3 a0_4 a0_5 a0_6 a0_7 a0_8 a0_9 a0_10 a0_11 x19_2 (by first | omega | exact of_decide_eq_true (by first | (with_reducible assumption) | assumption)) (by first | omega | exact of_decide_eq_true (by first | (with_reducible assumption) | assumption)) W_
                      have hcz23_0 : wr.cell? ⟨gb221, 0, none⟩ = some (.int .i8 a0_0) := bc_ BK221.out 0
                      have hcz23_1 : wr.cell? ⟨gb221, 1, none⟩ = some (.int .i8 a0_1) := bc_ BK221.out 1
                      have hcz23_2 : wr.cell? ⟨gb221, 2, none⟩ = some (.int .u16 a0_2) := bc_ BK221.out 2
                      have hcz23_3 : wr.cell? ⟨gb221, 3, none⟩ = some (.int .u16 a0_3) := bc_ BK221.out 3
                      have hcz23_4 : wr.cell? ⟨gb221, 4, none⟩ = some (.int .u16 a0_4) := bc_ BK221.out 4
                      have hcz23_5 : wr.cell? ⟨gb221, 5, none⟩ = some (.int .u16 a0_5) := bc_ BK221.out 5
                      have hcz23_6 : wr.cell? ⟨gb221, 6, none⟩ = some (.int .u16 a0_6) := bc_ BK221.out 6
                      have hcz23_7 : wr.cell? ⟨gb221, 7, none⟩ = some (.int .u16 a0_7) := bc_ BK221.out 7
                      have hcz23_8 : wr.cell? ⟨gb221, 8, none⟩ = some (.int .u16 a0_8) := bc_ BK221.out 8
                      have hcz23_9 : wr.cell? ⟨gb221, 9, none⟩ = some (.int .u16 a0_9) := bc_ BK221.out 9
                      have hcz23_10 : wr.cell? ⟨gb221, 10, none⟩ = some (.int .u16 a0_10) := bc_ BK221.out 10
                      have hcz23_11 : wr.cell? ⟨gb221, 11, none⟩ = some (.int .u16 a0_11) := bc_ BK221.out 11
                      have hfz23_0 := blk_frozen BK221.out 0
                      have hfz23_1 := blk_frozen BK221.out 1
                      have hfz23_2 := blk_frozen BK221.out 2
                      have hfz23_3 := blk_frozen BK221.out 3
                      have hfz23_4 := blk_frozen BK221.out 4
                      have hfz23_5 := blk_frozen BK221.out 5
                      have hfz23_6 := blk_frozen BK221.out 6
                      have hfz23_7 := blk_frozen BK221.out 7
                      have hfz23_8 := blk_frozen BK221.out 8
                      have hfz23_9 := blk_frozen BK221.out 9
                      have hfz23_10 := blk_frozen BK221.out 10
                      have hfz23_11 := blk_frozen BK221.out 11
                      go_wp2
                      go_roundg k2
                      case measure => have := HJ1.out; have := HK2.out; omega
                      case rel => exact ⟨(wrap64 (x19_2 + 1)), (by first | rfl | (simp; done) | (simp [*]; done)), H', ⟨by have := HJ1.out; have := HK2.out; omega⟩, ⟨by (with_reducible repeat (first | refine blk_drewN ?_ _ | refine blk_drew ?_ | refine blk_alloc ?_ _)); exact BK221.out⟩, ⟨by repeat (first | (with_reducible first | exact HB.out | apply below_alloc | apply pw_below_drewN | apply below_drew1 | refine below_set ?_ GE221.out) | exact HB.out)⟩⟩
                  · rw [if_neg c15] at H
                    have c15b0 : ((ji14) == 0) = false := beq_eq_false_iff_ne.mpr c15
                    have c15b1 : ((ji14) != 0) = true := bne_iff_ne.mpr c15
                    obtain rfl := Option.some.inj H
                    have hixd24 : ∀ W_ : World, (Instr.index 23 (.agg #[.int .u16 a0_2, .int .u16 a0_3, .int .u16 a0_4, .int .u16 a0_5, .int .u16 a0_6, .int .u16 a0_7, .int .u16 a0_8, .int .u16 a0_9, .int .u16 a0_10, .int .u16 a0_11]) (.int .i64 x19_2)).run Try.prog W_ = .ok (.int .u16 (rd [a0_2, a0_3, a0_4, a0_5, a0_6, a0_7, a0_8, a0_9, a0_10, a0_11] x19_2)) W_ := fun W_ => idx_23 a0_2 a0_3 a0_4 a0_5 a0_6 a0_7 a0_8 a0_9 a0_10 a0_11 x19_2 (by first | omega | exact of_decide_eq_true (by first | (with_reducible assumption) | assumption)) (by first | omega | exact of_decide_eq_true (by first | (with_reducible assumption) | assumption)) W_
                    have hcz25_0 : wr.cell? ⟨gb221, 0, none⟩ = some (.int .i8 a0_0) := bc_ BK221.out 0
                    have hcz25_1 : wr.cell? ⟨gb221, 1, none⟩ = some (.int .i8 a0_1) := bc_ BK221.out 1
                    have hcz25_2 : wr.cell? ⟨gb221, 2, none⟩ = some (.int .u16 a0_2) := bc_ BK221.out 2
                    have hcz25_3 : wr.cell? ⟨gb221, 3, none⟩ = some (.int .u16 a0_3) := bc_ BK221.out 3
                    have hcz25_4 : wr.cell? ⟨gb221, 4, none⟩ = some (.int .u16 a0_4) := bc_ BK221.out 4
                    have hcz25_5 : wr.cell? ⟨gb221, 5, none⟩ = some (.int .u16 a0_5) := bc_ BK221.out 5
                    have hcz25_6 : wr.cell? ⟨gb221, 6, none⟩ = some (.int .u16 a0_6) := bc_ BK221.out 6
                    have hcz25_7 : wr.cell? ⟨gb221, 7, none⟩ = some (.int .u16 a0_7) := bc_ BK221.out 7
                    have hcz25_8 : wr.cell? ⟨gb221, 8, none⟩ = some (.int .u16 a0_8) := bc_ BK221.out 8
                    have hcz25_9 : wr.cell? ⟨gb221, 9, none⟩ = some (.int .u16 a0_9) := bc_ BK221.out 9
                    have hcz25_10 : wr.cell? ⟨gb221, 10, none⟩ = some (.int .u16 a0_10) := bc_ BK221.out 10
                    have hcz25_11 : wr.cell? ⟨gb221, 11, none⟩ = some (.int .u16 a0_11) := bc_ BK221.out 11
                    have hfz25_0 := blk_frozen BK221.out 0
                    have hfz25_1 := blk_frozen BK221.out 1
                    have hfz25_2 := blk_frozen BK221.out 2
                    have hfz25_3 := blk_frozen BK221.out 3
                    have hfz25_4 := blk_frozen BK221.out 4
                    have hfz25_5 := blk_frozen BK221.out 5
                    have hfz25_6 := blk_frozen BK221.out 6
                    have hfz25_7 := blk_frozen BK221.out 7
                    have hfz25_8 := blk_frozen BK221.out 8
                    have hfz25_9 := blk_frozen BK221.out 9
                    have hfz25_10 := blk_frozen BK221.out 10
                    have hfz25_11 := blk_frozen BK221.out 11
                    go_wp2
                    go_ret
                    exact ⟨by first | rfl | (simp [errW_none, errW_some] <;> rfl) | (simp only [← hji14]; first | rfl | (simp [errW_none, errW_some] <;> rfl)) | (simp [*, errW_none, errW_some] <;> rfl), by repeat (first | (with_reducible first | exact HB.out | apply below_alloc | apply pw_below_drewN | apply below_drew1 | refine below_set ?_ GE221.out) | exact HB.out)⟩
                · rw [if_neg c13] at H
                  exact absurd H (by simp)
              · rw [if_neg c12] at H
                exact absurd H (by simp)
            · rw [if_neg c11] at H
              have c11b0 : decide (x19_2 < 10) = false := decide_eq_false c11
              clear c11
              obtain rfl := Option.some.inj H
              go_wp2
              go_ret
              exact ⟨by first | rfl | (simp [errW_none, errW_some] <;> rfl) | (simp [*, errW_none, errW_some] <;> rfl), by repeat (first | (with_reducible first | exact HB.out | apply below_alloc | apply pw_below_drewN | apply below_drew1 | refine below_set ?_ GE221.out) | exact HB.out)⟩

/-! ### impl_Room_isCell: function 77 -/
def impl_Room_isCell.f (a0_0 : Int) (a0_1 : Int) (a0_2 : Int) (a0_3 : Int) (a0_4 : Int) (a0_5 : Int) (a0_6 : Int) (a0_7 : Int) (a0_8 : Int) (a0_9 : Int) (a0_10 : Int) (a0_11 : Int) (a1_0 : Int) (a1_1 : Int) : Option (Bool) := (impl_within.f (wrap64 (a1_0)) 0 (wrap64 ((mn (wrap64 (a0_0)) 10) - 1))).bind fun t227 => (if t227 = true then ((impl_within.f (wrap64 (a1_1)) 0 (wrap64 ((mn (wrap64 (a0_1)) 10) - 1))).bind fun t228 => (some t228)) else (some false))
set_option maxHeartbeats 8000000 in
set_option maxRecDepth 100000 in
theorem impl_Room_isCell.calls (a0_0 : Int) (a0_1 : Int) (a0_2 : Int) (a0_3 : Int) (a0_4 : Int) (a0_5 : Int) (a0_6 : Int) (a0_7 : Int) (a0_8 : Int) (a0_9 : Int) (a0_10 : Int) (a0_11 : Int) (a1_0 : Int) (a1_1 : Int) (r : Bool) (w : World) (h : impl_Room_isCell.f a0_0 a0_1 a0_2 a0_3 a0_4 a0_5 a0_6 a0_7 a0_8 a0_9 a0_10 a0_11 a1_0 a1_1 = some r) :
    Calls Try.prog 77 #[.agg #[.int .i8 a0_0, .int .i8 a0_1, .int .u16 a0_2, .int .u16 a0_3, .int .u16 a0_4, .int .u16 a0_5, .int .u16 a0_6, .int .u16 a0_7, .int .u16 a0_8, .int .u16 a0_9, .int .u16 a0_10, .int .u16 a0_11], .agg #[.int .i8 a1_0, .int .i8 a1_1]] w fun e w' => e = .returned (.bool r) ∧ Below w.heap.size w w' := by
  have hu39 := Try.underlying39
  have hu33 := Try.underlying33
  have HB := Aside0.mk (Below.refl w.heap.size w)
  have H : ((impl_within.f (wrap64 (a1_0)) 0 (wrap64 ((mn (wrap64 (a0_0)) 10) - 1))).bind fun t227 => (if t227 = true then ((impl_within.f (wrap64 (a1_1)) 0 (wrap64 ((mn (wrap64 (a0_1)) 10) - 1))).bind fun t228 => (some t228)) else (some false))) = some r := h
  clear h
  obtain ⟨ji3, hji3⟩ : ∃ j_ : Int, (mn (wrap64 (a0_0)) 10) = j_ := ⟨_, rfl⟩
  replace H : ((impl_within.f (wrap64 (a1_0)) 0 (wrap64 ((ji3) - 1))).bind fun t227 => (if t227 = true then ((impl_within.f (wrap64 (a1_1)) 0 (wrap64 ((mn (wrap64 (a0_1)) 10) - 1))).bind fun t228 => (some t228)) else (some false))) = some r := by first | (rw [hji3] at H; exact H) | (simp only [hji3] at H ⊢; exact H)
  (try (have hji3h : ji3 ≤ 10 := by (rw [← hji3]; unfold mn; (repeat' split) <;> omega)))
  (try (have hji3g : ji3 ≤ 64 := by omega))
  have hji3_ : (if 10 < (wrap64 (a0_0)) then 10 else (wrap64 (a0_0))) = ji3 := hji3
  replace H := Option.bind_eq_some_iff.mp H
  obtain ⟨t227, A40, H⟩ := H
  replace H : (if t227 = true then ((impl_within.f (wrap64 (a1_1)) 0 (wrap64 ((mn (wrap64 (a0_1)) 10) - 1))).bind fun t228 => (some t228)) else (some false)) = some r := H
  have A4 := Aside0.mk A40
  clear A40
  by_cases c5 : t227 = true
  · subst c5
    have H1 : ((impl_within.f (wrap64 (a1_1)) 0 (wrap64 ((mn (wrap64 (a0_1)) 10) - 1))).bind fun t228 => (some t228)) = some r := by rw [if_pos rfl] at H; exact H
    clear H
    have H := H1
    clear H1
    obtain ⟨ji6, hji6⟩ : ∃ j_ : Int, (mn (wrap64 (a0_1)) 10) = j_ := ⟨_, rfl⟩
    replace H : ((impl_within.f (wrap64 (a1_1)) 0 (wrap64 ((ji6) - 1))).bind fun t228 => (some t228)) = some r := by first | (rw [hji6] at H; exact H) | (simp only [hji6] at H ⊢; exact H)
    (try rw [hji6] at A4)
    (try (have hji6h : ji6 ≤ 10 := by (rw [← hji6]; unfold mn; (repeat' split) <;> omega)))
    (try (have hji6g : ji6 ≤ 64 := by omega))
    have hji6_ : (if 10 < (wrap64 (a0_1)) then 10 else (wrap64 (a0_1))) = ji6 := hji6
    replace H := Option.bind_eq_some_iff.mp H
    obtain ⟨t228, A70, H⟩ := H
    replace H : (some t228) = some r := H
    have A7 := Aside0.mk A70
    clear A70
    obtain rfl := Option.some.inj H
    go_enter Try.func77, Try.ntmps77
    go_wp2_with (first | ((with_reducible refine gate_dst (N := 2) rfl ?_); (try (refine gate_guard (by rfl) ?_; dsimp only)); refine box_event ?hg (N := 2) ?hd (cs := #[.int .i8 a0_0, .int .i8 a0_1, .int .u16 a0_2, .int .u16 a0_3, .int .u16 a0_4, .int .u16 a0_5, .int .u16 a0_6, .int .u16 a0_7, .int .u16 a0_8, .int .u16 a0_9, .int .u16 a0_10, .int .u16 a0_11]) (t := 39) ?hr ?_; (case hd => rfl); (case hg => rfl); (case hr => first | (go_simp; done) | (go_simp; rfl)); intro gb225 hg w8 hbox hb; have n0_ := Aside0.mk (below_step (by repeat (first | (with_reducible first | exact HB.out | apply below_alloc | apply pw_below_drewN | apply below_drew1) | exact HB.out)) hb); have n1_ := Aside0.mk (hbox); have n2_ := Aside0.mk ((by rw [hg]; exact (below_size (by repeat (first | (with_reducible first | exact HB.out | apply below_alloc | apply pw_below_drewN | apply below_drew1) | exact HB.out))) : w.heap.size ≤ gb225)); have n3_ := Aside0.mk ((by rw [hg]; exact (below_size (by repeat (first | (with_reducible first | exact HB.out | apply below_alloc | apply pw_below_drewN | apply below_drew1) | exact HB.out))) : w.heap.size ≤ gb225)); clear HB; have HB := n0_; have BK225 := n1_; have GW225 := n2_; have GE225 := n3_; clear n0_ n1_ n2_ n3_; clear hb hbox hg) | ((with_reducible refine gate_dst (N := 3) rfl ?_); (try (refine gate_guard (by rfl) ?_; dsimp only)); refine box_event ?hg (N := 3) ?hd (cs := #[.int .i8 a1_0, .int .i8 a1_1]) (t := 33) ?hr ?_; (case hd => rfl); (case hg => rfl); (case hr => first | (go_simp; done) | (go_simp; rfl)); intro gb226 hg w9 hbox hb; have n0_ := Aside0.mk (blk_below (g := gb225) (o := .cells #[.int .i8 a0_0, .int .i8 a0_1, .int .u16 a0_2, .int .u16 a0_3, .int .u16 a0_4, .int .u16 a0_5, .int .u16 a0_6, .int .u16 a0_7, .int .u16 a0_8, .int .u16 a0_9, .int .u16 a0_10, .int .u16 a0_11] 39 (0, 0)) (by (with_reducible repeat (first | refine blk_drewN ?_ _ | refine blk_drew ?_ | refine blk_alloc ?_ _)); exact BK225.out) hb); have n1_ := Aside0.mk (below_step (by repeat (first | (with_reducible first | exact HB.out | apply below_alloc | apply pw_below_drewN | apply below_drew1 | refine below_set ?_ GE225.out) | exact HB.out)) hb); have n2_ := Aside0.mk (hbox); have n3_ := Aside0.mk ((by rw [hg]; exact (below_size (by repeat (first | (with_reducible first | exact HB.out | apply below_alloc | apply pw_below_drewN | apply below_drew1 | refine below_set ?_ GE225.out) | exact HB.out))) : w.heap.size ≤ gb226)); have n4_ := Aside0.mk ((by rw [hg]; exact (below_size (by repeat (first | (with_reducible first | exact HB.out | apply below_alloc | apply pw_below_drewN | apply below_drew1 | refine below_set ?_ GE225.out) | exact HB.out))) : w.heap.size ≤ gb226)); have n5_ := Aside0.mk ((by rw [hg]; exact Nat.ne_of_lt (blk_lt (g := gb225) (o := .cells #[.int .i8 a0_0, .int .i8 a0_1, .int .u16 a0_2, .int .u16 a0_3, .int .u16 a0_4, .int .u16 a0_5, .int .u16 a0_6, .int .u16 a0_7, .int .u16 a0_8, .int .u16 a0_9, .int .u16 a0_10, .int .u16 a0_11] 39 (0, 0)) (by (with_reducible repeat (first | refine blk_drewN ?_ _ | refine blk_drew ?_ | refine blk_alloc ?_ _)); exact BK225.out)) : gb225 ≠ gb226)); have n6_ := Aside0.mk ((by rw [hg]; exact Nat.ne_of_gt (blk_lt (g := gb225) (o := .cells #[.int .i8 a0_0, .int .i8 a0_1, .int .u16 a0_2, .int .u16 a0_3, .int .u16 a0_4, .int .u16 a0_5, .int .u16 a0_6, .int .u16 a0_7, .int .u16 a0_8, .int .u16 a0_9, .int .u16 a0_10, .int .u16 a0_11] 39 (0, 0)) (by (with_reducible repeat (first | refine blk_drewN ?_ _ | refine blk_drew ?_ | refine blk_alloc ?_ _)); exact BK225.out)) : gb226 ≠ gb225)); clear BK225; clear HB; have BK225 := n0_; have HB := n1_; have BK226 := n2_; have GW226 := n3_; have GE226 := n4_; have NB225_226 := n5_; have NB226_225 := n6_; clear n0_ n1_ n2_ n3_ n4_ n5_ n6_; clear hb hbox hg; have hnb10 := NB226_225.out; have hnc10 := NB225_226.out; have hcz11_0 : w9.cell? ⟨gb226, 0, none⟩ = some (.int .i8 a1_0) := (blk_cell BK226.out 0).trans rfl; have hcz11_1 : w9.cell? ⟨gb226, 1, none⟩ = some (.int .i8 a1_1) := (blk_cell BK226.out 1).trans rfl; have hfz11_0 := blk_frozen BK226.out 0; have hfz11_1 := blk_frozen BK226.out 1; have hcz12_0 : w9.cell? ⟨gb225, 0, none⟩ = some (.int .i8 a0_0) := (blk_cell BK225.out 0).trans rfl; have hcz12_1 : w9.cell? ⟨gb225, 1, none⟩ = some (.int .i8 a0_1) := (blk_cell BK225.out 1).trans rfl; have hcz12_2 : w9.cell? ⟨gb225, 2, none⟩ = some (.int .u16 a0_2) := (blk_cell BK225.out 2).trans rfl; have hcz12_3 : w9.cell? ⟨gb225, 3, none⟩ = some (.int .u16 a0_3) := (blk_cell BK225.out 3).trans rfl; have hcz12_4 : w9.cell? ⟨gb225, 4, none⟩ = some (.int .u16 a0_4) := (blk_cell BK225.out 4).trans rfl; have hcz12_5 : w9.cell? ⟨gb225, 5, none⟩ = some (.int .u16 a0_5) := (blk_cell BK225.out 5).trans rfl; have hcz12_6 : w9.cell? ⟨gb225, 6, none⟩ = some (.int .u16 a0_6) := (blk_cell BK225.out 6).trans rfl; have hcz12_7 : w9.cell? ⟨gb225, 7, none⟩ = some (.int .u16 a0_7) := (blk_cell BK225.out 7).trans rfl; have hcz12_8 : w9.cell? ⟨gb225, 8, none⟩ = some (.int .u16 a0_8) := (blk_cell BK225.out 8).trans rfl; have hcz12_9 : w9.cell? ⟨gb225, 9, none⟩ = some (.int .u16 a0_9) := (blk_cell BK225.out 9).trans rfl; have hcz12_10 : w9.cell? ⟨gb225, 10, none⟩ = some (.int .u16 a0_10) := (blk_cell BK225.out 10).trans rfl; have hcz12_11 : w9.cell? ⟨gb225, 11, none⟩ = some (.int .u16 a0_11) := (blk_cell BK225.out 11).trans rfl; have hfz12_0 := blk_frozen BK225.out 0; have hfz12_1 := blk_frozen BK225.out 1; have hfz12_2 := blk_frozen BK225.out 2; have hfz12_3 := blk_frozen BK225.out 3; have hfz12_4 := blk_frozen BK225.out 4; have hfz12_5 := blk_frozen BK225.out 5; have hfz12_6 := blk_frozen BK225.out 6; have hfz12_7 := blk_frozen BK225.out 7; have hfz12_8 := blk_frozen BK225.out 8; have hfz12_9 := blk_frozen BK225.out 9; have hfz12_10 := blk_frozen BK225.out 10; have hfz12_11 := blk_frozen BK225.out 11) | ((with_reducible refine gate_callee (f := 68) rfl ?_); refine goesL_ (some 13) rfl rfl Try.func68 (by kernel_rfl) rfl #[.int .i64 (wrap64 (a1_0)), .int .i64 0, .int .i64 (wrap64 ((ji3) - 1))] rfl (by (try simp only [List.map_toArray, List.map_cons, List.map_nil]); first | done | (simp only [hji3]; rfl) | rfl | (simp only [List.length_drop, List.length_take]; rfl)) ?_; (with_reducible refine (impl_within.calls (wrap64 (a1_0)) 0 (wrap64 ((ji3) - 1)) true _ A4.out).mono ?_); rintro e w' ⟨rfl, ⟨nd, rfl⟩⟩; refine ⟨_, rfl, ?_⟩) | (go_at_call 68; (with_reducible refine (impl_within.calls (wrap64 (a1_1)) 0 (wrap64 ((ji6) - 1)) t228 _ A7.out).mono ?_); rintro e w' ⟨rfl, ⟨nd, rfl⟩⟩))
    go_ret
    exact ⟨by first | rfl | (simp [errW_none, errW_some] <;> rfl) | (simp only [← hji3, ← hji6]; first | rfl | (simp [errW_none, errW_some] <;> rfl)) | (simp [*, errW_none, errW_some] <;> rfl), by repeat (first | (with_reducible first | exact HB.out | apply below_alloc | apply pw_below_drewN | apply below_drew1 | refine below_set ?_ GE225.out | refine below_set ?_ GE226.out) | exact HB.out)⟩
  · replace c5 := Bool.eq_false_iff.mpr c5
    subst c5
    have H1 : (some false) = some r := by rw [if_neg (show ¬ (false = true) by decide)] at H; exact H
    clear H
    have H := H1
    clear H1
    obtain rfl := Option.some.inj H
    go_enter Try.func77, Try.ntmps77
    go_wp2_with (first | ((with_reducible refine gate_dst (N := 2) rfl ?_); (try (refine gate_guard (by rfl) ?_; dsimp only)); refine box_event ?hg (N := 2) ?hd (cs := #[.int .i8 a0_0, .int .i8 a0_1, .int .u16 a0_2, .int .u16 a0_3, .int .u16 a0_4, .int .u16 a0_5, .int .u16 a0_6, .int .u16 a0_7, .int .u16 a0_8, .int .u16 a0_9, .int .u16 a0_10, .int .u16 a0_11]) (t := 39) ?hr ?_; (case hd => rfl); (case hg => rfl); (case hr => first | (go_simp; done) | (go_simp; rfl)); intro gb225 hg w13 hbox hb; have n0_ := Aside0.mk (below_step (by repeat (first | (with_reducible first | exact HB.out | apply below_alloc | apply pw_below_drewN | apply below_drew1) | exact HB.out)) hb); have n1_ := Aside0.mk (hbox); have n2_ := Aside0.mk ((by rw [hg]; exact (below_size (by repeat (first | (with_reducible first | exact HB.out | apply below_alloc | apply pw_below_drewN | apply below_drew1) | exact HB.out))) : w.heap.size ≤ gb225)); have n3_ := Aside0.mk ((by rw [hg]; exact (below_size (by repeat (first | (with_reducible first | exact HB.out | apply below_alloc | apply pw_below_drewN | apply below_drew1) | exact HB.out))) : w.heap.size ≤ gb225)); clear HB; have HB := n0_; have BK225 := n1_; have GW225 := n2_; have GE225 := n3_; clear n0_ n1_ n2_ n3_; clear hb hbox hg) | ((with_reducible refine gate_dst (N := 3) rfl ?_); (try (refine gate_guard (by rfl) ?_; dsimp only)); refine box_event ?hg (N := 3) ?hd (cs := #[.int .i8 a1_0, .int .i8 a1_1]) (t := 33) ?hr ?_; (case hd => rfl); (case hg => rfl); (case hr => first | (go_simp; done) | (go_simp; rfl)); intro gb226 hg w14 hbox hb; have n0_ := Aside0.mk (blk_below (g := gb225) (o := .cells #[.int .i8 a0_0, .int .i8 a0_1, .int .u16 a0_2, .int .u16 a0_3, .int .u16 a0_4, .int .u16 a0_5, .int .u16 a0_6, .int .u16 a0_7, .int .u16 a0_8, .int .u16 a0_9, .int .u16 a0_10, .int .u16 a0_11] 39 (0, 0)) (by (with_reducible repeat (first | refine blk_drewN ?_ _ | refine blk_drew ?_ | refine blk_alloc ?_ _)); exact BK225.out) hb); have n1_ := Aside0.mk (below_step (by repeat (first | (with_reducible first | exact HB.out | apply below_alloc | apply pw_below_drewN | apply below_drew1 | refine below_set ?_ GE225.out) | exact HB.out)) hb); have n2_ := Aside0.mk (hbox); have n3_ := Aside0.mk ((by rw [hg]; exact (below_size (by repeat (first | (with_reducible first | exact HB.out | apply below_alloc | apply pw_below_drewN | apply below_drew1 | refine below_set ?_ GE225.out) | exact HB.out))) : w.heap.size ≤ gb226)); have n4_ := Aside0.mk ((by rw [hg]; exact (below_size (by repeat (first | (with_reducible first | exact HB.out | apply below_alloc | apply pw_below_drewN | apply below_drew1 | refine below_set ?_ GE225.out) | exact HB.out))) : w.heap.size ≤ gb226)); have n5_ := Aside0.mk ((by rw [hg]; exact Nat.ne_of_lt (blk_lt (g := gb225) (o := .cells #[.int .i8 a0_0, .int .i8 a0_1, .int .u16 a0_2, .int .u16 a0_3, .int .u16 a0_4, .int .u16 a0_5, .int .u16 a0_6, .int .u16 a0_7, .int .u16 a0_8, .int .u16 a0_9, .int .u16 a0_10, .int .u16 a0_11] 39 (0, 0)) (by (with_reducible repeat (first | refine blk_drewN ?_ _ | refine blk_drew ?_ | refine blk_alloc ?_ _)); exact BK225.out)) : gb225 ≠ gb226)); have n6_ := Aside0.mk ((by rw [hg]; exact Nat.ne_of_gt (blk_lt (g := gb225) (o := .cells #[.int .i8 a0_0, .int .i8 a0_1, .int .u16 a0_2, .int .u16 a0_3, .int .u16 a0_4, .int .u16 a0_5, .int .u16 a0_6, .int .u16 a0_7, .int .u16 a0_8, .int .u16 a0_9, .int .u16 a0_10, .int .u16 a0_11] 39 (0, 0)) (by (with_reducible repeat (first | refine blk_drewN ?_ _ | refine blk_drew ?_ | refine blk_alloc ?_ _)); exact BK225.out)) : gb226 ≠ gb225)); clear BK225; clear HB; have BK225 := n0_; have HB := n1_; have BK226 := n2_; have GW226 := n3_; have GE226 := n4_; have NB225_226 := n5_; have NB226_225 := n6_; clear n0_ n1_ n2_ n3_ n4_ n5_ n6_; clear hb hbox hg; have hnb15 := NB226_225.out; have hnc15 := NB225_226.out; have hcz16_0 : w14.cell? ⟨gb226, 0, none⟩ = some (.int .i8 a1_0) := (blk_cell BK226.out 0).trans rfl; have hcz16_1 : w14.cell? ⟨gb226, 1, none⟩ = some (.int .i8 a1_1) := (blk_cell BK226.out 1).trans rfl; have hfz16_0 := blk_frozen BK226.out 0; have hfz16_1 := blk_frozen BK226.out 1; have hcz17_0 : w14.cell? ⟨gb225, 0, none⟩ = some (.int .i8 a0_0) := (blk_cell BK225.out 0).trans rfl; have hcz17_1 : w14.cell? ⟨gb225, 1, none⟩ = some (.int .i8 a0_1) := (blk_cell BK225.out 1).trans rfl; have hcz17_2 : w14.cell? ⟨gb225, 2, none⟩ = some (.int .u16 a0_2) := (blk_cell BK225.out 2).trans rfl; have hcz17_3 : w14.cell? ⟨gb225, 3, none⟩ = some (.int .u16 a0_3) := (blk_cell BK225.out 3).trans rfl; have hcz17_4 : w14.cell? ⟨gb225, 4, none⟩ = some (.int .u16 a0_4) := (blk_cell BK225.out 4).trans rfl; have hcz17_5 : w14.cell? ⟨gb225, 5, none⟩ = some (.int .u16 a0_5) := (blk_cell BK225.out 5).trans rfl; have hcz17_6 : w14.cell? ⟨gb225, 6, none⟩ = some (.int .u16 a0_6) := (blk_cell BK225.out 6).trans rfl; have hcz17_7 : w14.cell? ⟨gb225, 7, none⟩ = some (.int .u16 a0_7) := (blk_cell BK225.out 7).trans rfl; have hcz17_8 : w14.cell? ⟨gb225, 8, none⟩ = some (.int .u16 a0_8) := (blk_cell BK225.out 8).trans rfl; have hcz17_9 : w14.cell? ⟨gb225, 9, none⟩ = some (.int .u16 a0_9) := (blk_cell BK225.out 9).trans rfl; have hcz17_10 : w14.cell? ⟨gb225, 10, none⟩ = some (.int .u16 a0_10) := (blk_cell BK225.out 10).trans rfl; have hcz17_11 : w14.cell? ⟨gb225, 11, none⟩ = some (.int .u16 a0_11) := (blk_cell BK225.out 11).trans rfl; have hfz17_0 := blk_frozen BK225.out 0; have hfz17_1 := blk_frozen BK225.out 1; have hfz17_2 := blk_frozen BK225.out 2; have hfz17_3 := blk_frozen BK225.out 3; have hfz17_4 := blk_frozen BK225.out 4; have hfz17_5 := blk_frozen BK225.out 5; have hfz17_6 := blk_frozen BK225.out 6; have hfz17_7 := blk_frozen BK225.out 7; have hfz17_8 := blk_frozen BK225.out 8; have hfz17_9 := blk_frozen BK225.out 9; have hfz17_10 := blk_frozen BK225.out 10; have hfz17_11 := blk_frozen BK225.out 11) | ((with_reducible refine gate_callee (f := 68) rfl ?_); refine goesL_ (some 13) rfl rfl Try.func68 (by kernel_rfl) rfl #[.int .i64 (wrap64 (a1_0)), .int .i64 0, .int .i64 (wrap64 ((ji3) - 1))] rfl (by (try simp only [List.map_toArray, List.map_cons, List.map_nil]); first | done | (simp only [hji3]; rfl) | rfl | (simp only [List.length_drop, List.length_take]; rfl)) ?_; (with_reducible refine (impl_within.calls (wrap64 (a1_0)) 0 (wrap64 ((ji3) - 1)) false _ A4.out).mono ?_); rintro e w' ⟨rfl, ⟨nd, rfl⟩⟩; refine ⟨_, rfl, ?_⟩))
    go_ret
    exact ⟨by first | rfl | (simp [errW_none, errW_some] <;> rfl) | (simp only [← hji3]; first | rfl | (simp [errW_none, errW_some] <;> rfl)) | (simp [*, errW_none, errW_some] <;> rfl), by repeat (first | (with_reducible first | exact HB.out | apply below_alloc | apply pw_below_drewN | apply below_drew1 | refine below_set ?_ GE225.out | refine below_set ?_ GE226.out) | exact HB.out)⟩

end Go.Proofs.Ytdedijjbdkoekaa.PA
