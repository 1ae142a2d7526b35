/- The statement FnExactMovesCrowd of this program: what its proof uses, part 10 of 12. The call returns true for all arguments. No condition of its own. -/
import Derived.Test.YtdedijjbdkoekaaDoorZFnExactMovesCrowd8
section
namespace Go.Proofs.YtdedijjbdkoekaaDoor.PB
open Go.RowKit Go.Proofs.YtdedijjbdkoekaaDoorW.PrintWords Go.Proofs.YtdedijjbdkoekaaDoorW.PrintLast Go.Proofs.YtdedijjbdkoekaaDoorW.PrintMore Go.Proofs.YtdedijjbdkoekaaDoor.La
attribute [local go_sem] max2_int min2_int max_two min_two max_three min_three max_four min_four   -- for this text's walks alone
set_option linter.unusedVariables false
set_option linter.unusedSimpArgs false
def laws_FnExactMovesCrowd.f (k : Nat) (a0_0 : Int) (a0_1 : Int) (a0_2 : LA 10) (a1 : LA 40) (a2 : ByteArray) : Option (Bool) := if (a2.size : Int) > 1048576 then (some true) else ((laws_toRoom.f k a0_0 a0_1 a0_2).bind fun bt278 => ((laws_toCrowd.f k a1).bind fun t281 => ((spec_MovesCrowd.f k bt278.1 bt278.2.1 bt278.2.2 t281 a2).bind fun bt282 => ((laws_toRoom.f k a0_0 a0_1 a0_2).bind fun bt285 => ((laws_toCrowd.f k a1).bind fun t288 => ((impl_MovesCrowd.f k bt285.1 bt285.2.1 bt285.2.2 t288 a2).bind fun bt289 => ((laws_eqCrowd.f k bt289.1 bt282.1).bind fun t292 => (if t292 = true then (if bt289.2 = bt282.2 then (some true) else (some false)) else (some false)))))))))
theorem laws_FnExactMovesCrowd.mono : ∀ a0 a1 a2 a3 a4 k, LeO (laws_FnExactMovesCrowd.f k a0 a1 a2 a3 a4) (laws_FnExactMovesCrowd.f (k + 1) a0 a1 a2 a3 a4) := by
 intro a0 a1 a2 a3 a4 k
 unfold laws_FnExactMovesCrowd.f
 repeat' first
   | (with_reducible exact impl_MovesCrowd.mono _ _ _ _ _ _)
   | (with_reducible exact laws_eqCrowd.mono _ _ _)
   | (with_reducible exact laws_toCrowd.mono _ _)
   | (with_reducible exact laws_toRoom.mono _ _ _ _)
   | (with_reducible exact spec_MovesCrowd.mono _ _ _ _ _ _)
   | (with_reducible exact LeO.refl _)
   | (with_reducible exact LeO.none _)
   | (with_reducible refine LeO.ite ?_ ?_)
   | (with_reducible refine LeO.bind ?_ (fun _ => ?_))
   | exact impl_MovesCrowd.mono _ _ _ _ _ _
   | exact laws_eqCrowd.mono _ _ _
   | exact laws_toCrowd.mono _ _
   | exact laws_toRoom.mono _ _ _ _
   | exact spec_MovesCrowd.mono _ _ _ _ _ _
   | exact LeO.none _
   | refine LeO.ite ?_ ?_
   | refine LeO.bind ?_ (fun _ => ?_)
def laws_FnExactMovesCrowd.T3 : Bool × List (List Nat × List Nat) := (true, [([], []), ([0], [0]), ([], []), ([2, 1], [2]), ([], []), ([1, 3, 4, 3], [1, 3, 4]), ([5], [5]), ([6], [6]), ([6], [6]), ([], []), ([9, 7, 5, 0, 1, 2, 3, 4, 5, 6, 7, 9], [7, 9]), ([8, 10, 0, 1, 2, 3, 4, 5, 6, 7, 8, 9, 10], [8])])
def laws_FnExactMovesCrowd.B3 : List Nat := [0, 1, 0, 7, 0, 31, 63, 127, 127, 0, 767, 2047]
theorem laws_FnExactMovesCrowd.tab3 : rtab .any (opsOf Tryd.f5 3) = laws_FnExactMovesCrowd.T3 := by kernel_rfl
theorem laws_FnExactMovesCrowd.bits3 : waitsOk laws_FnExactMovesCrowd.T3.2 laws_FnExactMovesCrowd.B3 = true := by kernel_rfl
def laws_FnExactMovesCrowd.T4 : Bool × List (List Nat × List Nat) := (true, [([], []), ([0], [0]), ([], []), ([2, 1], [2]), ([], []), ([1, 3, 4, 3], [1, 3, 4]), ([5], [5]), ([6], [6]), ([6], [6]), ([], []), ([9, 7, 5, 0, 1, 2, 3, 4, 5, 6, 7, 9], [7, 9]), ([8, 10, 0, 1, 2, 3, 4, 5, 6, 7, 8, 9, 10], [8])])
def laws_FnExactMovesCrowd.B4 : List Nat := [0, 1, 0, 7, 0, 31, 63, 127, 127, 0, 767, 2047]
theorem laws_FnExactMovesCrowd.tab4 : rtab .any (opsOf Tryd.f5 4) = laws_FnExactMovesCrowd.T4 := by kernel_rfl
theorem laws_FnExactMovesCrowd.bits4 : waitsOk laws_FnExactMovesCrowd.T4.2 laws_FnExactMovesCrowd.B4 = true := by kernel_rfl
set_option maxHeartbeats 8000000 in
set_option maxRecDepth 100000 in
theorem laws_FnExactMovesCrowd.calls (k : Nat) (a0_0 : Int) (a0_1 : Int) (a0_2 : LA 10) (a1 : LA 40) (a2 : ByteArray) (r : Bool) (w : World) (h : laws_FnExactMovesCrowd.f k a0_0 a0_1 a0_2 a1 a2 = some r) :
  Calls Tryd.prog 5 #[.agg (mixA (Value.int .u16) [.int .i8 a0_0, .int .i8 a0_1] a0_2), .agg (mixA (Value.int .u16) [] a1), .string a2] w fun e w' => e = .returned (.bool r) ∧ Below w.heap.size w w' := by
 have hu26 := Tryd.underlying26
 have HB := Aside0.mk (Below.refl w.heap.size w)
 have H : (if (a2.size : Int) > 1048576 then (some true) else ((laws_toRoom.f k a0_0 a0_1 a0_2).bind fun bt278 => ((laws_toCrowd.f k a1).bind fun t281 => ((spec_MovesCrowd.f k bt278.1 bt278.2.1 bt278.2.2 t281 a2).bind fun bt282 => ((laws_toRoom.f k a0_0 a0_1 a0_2).bind fun bt285 => ((laws_toCrowd.f k a1).bind fun t288 => ((impl_MovesCrowd.f k bt285.1 bt285.2.1 bt285.2.2 t288 a2).bind fun bt289 => ((laws_eqCrowd.f k bt289.1 bt282.1).bind fun t292 => (if t292 = true then (if bt289.2 = bt282.2 then (some true) else (some false)) else (some false)))))))))) = some r := h
 clear h
 by_cases c4 : (a2.size : Int) > 1048576
 ·rw [if_pos c4] at H
  have c4b0 : decide (1048576 < (a2.size : Int)) = true := decide_eq_true c4
  have c4b1 : decide (1048576 < a2.size) = true := decide_eq_true (by omega)
  clear c4
  obtain rfl := Option.some.inj H
  go_enter Tryd.func5, Tryd.ntmps5
  go_wp2_with (first | ((with_reducible refine gate_dst (N := 3) rfl ?_); refine box_event ?hg (N := 3) ?hd (cs := (mixA (Value.int .u16) [.int .i8 a0_0, .int .i8 a0_1] a0_2)) (t := 26) ?hr ?_; (case hd => rfl); (case hg => rfl); (case hr => first | (go_simp; done) | (go_simp; rfl)); intro gb276 hg w5 hbox hb; have n0_ := bst HB hb; have n1_ := Aside0.mk (hbox); have n2_ := gwl HB hg; have n3_ := gwl HB hg; clear HB; have HB := n0_; have BK276 := n1_; have GW276 := n2_; have GE276 := n3_; clear n0_ n1_ n2_ n3_; clear hb hbox hg) | ((with_reducible refine gate_dst (N := 4) rfl ?_); refine box_event ?hg (N := 4) ?hd (cs := (mixA (Value.int .u16) [] a1)) (t := 27) ?hr ?_; (case hd => rfl); (case hg => rfl); (case hr => first | (go_simp; done) | (go_simp; rfl)); intro gb277 hg w6 hbox hb; have n0_ := bkb BK276 hb; have n1_ := bst HB hb; have n2_ := Aside0.mk (hbox); have n3_ := gwl HB hg; have n4_ := gwl HB hg; have n5_ := nbl BK276 hg; have n6_ := nbg BK276 hg; clear BK276; clear HB; have BK276 := n0_; have HB := n1_; have BK277 := n2_; have GW277 := n3_; have GE277 := n4_; have NB276_277 := n5_; have NB277_276 := n6_; clear n0_ n1_ n2_ n3_ n4_ n5_ n6_; clear hb hbox hg))
  go_ret
  exact ⟨by first | rfl | (simp [errW_none, errW_some] <;> rfl) | (simp [*, errW_none, errW_some] <;> rfl), pbs HB⟩
 ·rw [if_neg c4] at H
  have c4b0 : decide (1048576 < (a2.size : Int)) = false := decide_eq_false c4
  have c4b1 : decide (1048576 < a2.size) = false := decide_eq_false (by omega)
  clear c4
  replace H := Option.bind_eq_some_iff.mp H
  obtain ⟨⟨t278, t279, t280⟩, A70, H⟩ := H
  replace H : ((laws_toCrowd.f k a1).bind fun t281 => ((spec_MovesCrowd.f k t278 t279 t280 t281 a2).bind fun bt282 => ((laws_toRoom.f k a0_0 a0_1 a0_2).bind fun bt285 => ((laws_toCrowd.f k a1).bind fun t288 => ((impl_MovesCrowd.f k bt285.1 bt285.2.1 bt285.2.2 t288 a2).bind fun bt289 => ((laws_eqCrowd.f k bt289.1 bt282.1).bind fun t292 => (if t292 = true then (if bt289.2 = bt282.2 then (some true) else (some false)) else (some false)))))))) = some r := H
  have A7 := Aside0.mk A70
  clear A70
  replace H := Option.bind_eq_some_iff.mp H
  obtain ⟨t281, A80, H⟩ := H
  replace H : ((spec_MovesCrowd.f k t278 t279 t280 t281 a2).bind fun bt282 => ((laws_toRoom.f k a0_0 a0_1 a0_2).bind fun bt285 => ((laws_toCrowd.f k a1).bind fun t288 => ((impl_MovesCrowd.f k bt285.1 bt285.2.1 bt285.2.2 t288 a2).bind fun bt289 => ((laws_eqCrowd.f k bt289.1 bt282.1).bind fun t292 => (if t292 = true then (if bt289.2 = bt282.2 then (some true) else (some false)) else (some false))))))) = some r := H
  have A8 := Aside0.mk A80
  clear A80
  replace H := Option.bind_eq_some_iff.mp H
  obtain ⟨⟨t282, t283⟩, A90, H⟩ := H
  replace H : ((laws_toRoom.f k a0_0 a0_1 a0_2).bind fun bt285 => ((laws_toCrowd.f k a1).bind fun t288 => ((impl_MovesCrowd.f k bt285.1 bt285.2.1 bt285.2.2 t288 a2).bind fun bt289 => ((laws_eqCrowd.f k bt289.1 t282).bind fun t292 => (if t292 = true then (if bt289.2 = t283 then (some true) else (some false)) else (some false)))))) = some r := H
  have A9 := Aside0.mk A90
  clear A90
  replace H := Option.bind_eq_some_iff.mp H
  obtain ⟨⟨t285, t286, t287⟩, A100, H⟩ := H
  replace H : ((laws_toCrowd.f k a1).bind fun t288 => ((impl_MovesCrowd.f k t285 t286 t287 t288 a2).bind fun bt289 => ((laws_eqCrowd.f k bt289.1 t282).bind fun t292 => (if t292 = true then (if bt289.2 = t283 then (some true) else (some false)) else (some false))))) = some r := H
  have A10 := Aside0.mk A100
  clear A100
  replace H := Option.bind_eq_some_iff.mp H
  obtain ⟨t288, A110, H⟩ := H
  replace H : ((impl_MovesCrowd.f k t285 t286 t287 t288 a2).bind fun bt289 => ((laws_eqCrowd.f k bt289.1 t282).bind fun t292 => (if t292 = true then (if bt289.2 = t283 then (some true) else (some false)) else (some false)))) = some r := H
  have A11 := Aside0.mk A110
  clear A110
  replace H := Option.bind_eq_some_iff.mp H
  obtain ⟨⟨t289, t290⟩, A120, H⟩ := H
  replace H : ((laws_eqCrowd.f k t289 t282).bind fun t292 => (if t292 = true then (if t290 = t283 then (some true) else (some false)) else (some false))) = some r := H
  have A12 := Aside0.mk A120
  clear A120
  replace H := Option.bind_eq_some_iff.mp H
  obtain ⟨t292, A130, H⟩ := H
  replace H : (if t292 = true then (if t290 = t283 then (some true) else (some false)) else (some false)) = some r := H
  have A13 := Aside0.mk A130
  clear A130
  by_cases c14 : t292 = true
  ·subst c14
   have H1 : (if t290 = t283 then (some true) else (some false)) = some r := by rw [if_pos rfl] at H; exact H
   clear H
   have H := H1
   clear H1
   by_cases c15 : t290 = t283
   ·rw [if_pos c15] at H
    have c15b0 : (t290 == t283) = true := beq_iff_eq.mpr c15
    have c15b1 : (t290 != t283) = false := bne_eq_false_iff_eq.mpr c15
    clear c15
    obtain rfl := Option.some.inj H
    go_enter Tryd.func5, Tryd.ntmps5
    try go_wp2_with (first | ((with_reducible refine gate_dst (N := 3) rfl ?_); refine box_event ?hg (N := 3) ?hd (cs := (mixA (Value.int .u16) [.int .i8 a0_0, .int .i8 a0_1] a0_2)) (t := 26) ?hr ?_; (case hd => rfl); (case hg => rfl); (case hr => first | (go_simp; done) | (go_simp; rfl)); intro gb276 hg w16 hbox hb; have n0_ := bst HB hb; have n1_ := Aside0.mk (hbox); have n2_ := gwl HB hg; have n3_ := gwl HB hg; clear HB; have HB := n0_; have BK276 := n1_; have GW276 := n2_; have GE276 := n3_; clear n0_ n1_ n2_ n3_; clear hb hbox hg) | ((with_reducible refine gate_dst (N := 4) rfl ?_); refine box_event ?hg (N := 4) ?hd (cs := (mixA (Value.int .u16) [] a1)) (t := 27) ?hr ?_; (case hd => rfl); (case hg => rfl); (case hr => first | (go_simp; done) | (go_simp; rfl)); intro gb277 hg w17 hbox hb; have n0_ := bkb BK276 hb; have n1_ := bst HB hb; have n2_ := Aside0.mk (hbox); have n3_ := gwl HB hg; have n4_ := gwl HB hg; have n5_ := nbl BK276 hg; have n6_ := nbg BK276 hg; clear BK276; clear HB; have BK276 := n0_; have HB := n1_; have BK277 := n2_; have GW277 := n3_; have GE277 := n4_; have NB276_277 := n5_; have NB277_276 := n6_; clear n0_ n1_ n2_ n3_ n4_ n5_ n6_; clear hb hbox hg))
    have n0_ := Aside0.mk (blk_drew BK276.out)
    have n1_ := Aside0.mk (blk_drew BK277.out)
    have n2_ := Aside0.mk (below_drew1 HB.out)
    clear BK276
    clear BK277
    clear HB
    have BK276 := n0_
    have BK277 := n1_
    have HB := n2_
    clear n0_ n1_ n2_
    refine start_ (n := 12) (S := fun w' => True) (ds := []) #[false, false, false, false, false, false, false, false, false, false, false, false] (by kernel_rfl) rfl rfl trivial (fun hHeld => ?_); refine with_tabW laws_FnExactMovesCrowd.tab3 laws_FnExactMovesCrowd.bits3 (fun HT_ HW_ => ?_)
    generalize w17.drew = w18 at BK276 BK277 HB hHeld ⊢
    refine pure_ (i := 4) (N := some 19) (v := ?_) (a' := ?_) #[false, false, false, false, true, false, false, false, false, false, false, false] rfl rfl (any_of HT_.out (by kernel_rfl)) (fun _ _ _ h => h) (Or.inl ⟨by rfl, ?_⟩) ?_ ?_
    rotate_left
    ·intro w'
     go_simp
     with_reducible rfl
    rotate_left
    ·simp only [Act.put, List.setIfInBounds_toArray, List.set_cons_zero, List.set_cons_succ, i64_w, i32_w]
     rfl
    refine inv_at [0, 1, 2, 3, 5, 6, 7, 8, 9, 10, 11] (fun a0_ b a w' => ∃ (gb284 : Nat) (m9_ : Value), a = putSel a0_ b [(0, 15, .agg (mixA (Value.int .u16) [.int .i8 a0_0, .int .i8 a0_1] a0_2)), (1, 16, .agg (mixA (Value.int .u16) [.int .i8 t278, .int .i8 t279] t280)), (2, 17, .agg (mixA (Value.int .u16) [] a1)), (3, 18, .agg (mixA (Value.int .u16) [] t281)), (5, 20, .tuple #[.agg (mixA (Value.int .u16) [] t282), .int .i64 t283]), (6, 14, .tuple #[.agg (mixA (Value.int .u16) [] t282), .int .i64 t283]), (7, 21, .agg (mixA (Value.int .u16) [] t282)), (8, 22, .int .i64 t283), (9, 7, m9_), (11, 8, .int .i64 t283)] ∧ (w'.heap[gb276]? = some (.cells (mixA (Value.int .u16) [.int .i8 a0_0, .int .i8 a0_1] a0_2) 26 (0, 0))) ∧ (w'.heap[gb277]? = some (.cells (mixA (Value.int .u16) [] a1) 27 (0, 0))) ∧ (Below w.heap.size w w') ∧ (b 9 = true → b 10 = false → w'.heap[gb284]? = some (.cells (mixA (Value.int .u16) [] (LA.zero 40)) 28 (0, 0))) ∧ (b 9 = true → w.heap.size ≤ gb284) ∧ (b 9 = true → w.heap.size ≤ gb284) ∧ (b 9 = true → gb276 ≠ gb284) ∧ (b 9 = true → gb284 ≠ gb276) ∧ (b 9 = true → gb277 ≠ gb284) ∧ (b 9 = true → gb284 ≠ gb277) ∧ (b 10 = true → w'.heap[gb284]? = some (.cells (mixA (Value.int .u16) [] t282) 28 (0, 0))) ∧ (b 9 = true → (m9_ : Value) = .pointer (some ⟨gb284, 0, none⟩))) HT_.out HW_.out (by kernel_rfl) (by kernel_rfl) ?_ ?_ ?_
    ·exact ⟨0, .bool false, by simp only [putSel, Bool.false_eq_true, if_false], BK276.out, BK277.out, HB.out, fun h_ => absurd h_ (by decide), fun h_ => absurd h_ (by decide), fun h_ => absurd h_ (by decide), fun h_ => absurd h_ (by decide), fun h_ => absurd h_ (by decide), fun h_ => absurd h_ (by decide), fun h_ => absurd h_ (by decide), fun h_ => absurd h_ (by decide), fun h_ => absurd h_ (by decide)⟩
    ·skip
     clear BK276 BK277 HB
     refine steps_cons ?_ ?_
     ·rintro b a w' ⟨gb284, m9_, ha, Q_BK276, Q_BK277, Q_HB, Q_BK284, Q_GW284, Q_GE284, Q_NB276_284, Q_NB284_276, Q_NB277_284, Q_NB284_277, Q_BK284_e10, Q_X9_⟩ hb_ hon hoff
      refine ⟨_, rfl, fun K hK => ?_⟩
      have e3 : a.tmps[3]? = some (.pointer (some ⟨gb276, 0, none⟩)) := by rw [ha]; exact (putSel_off rfl).trans rfl
      replace ha := Aside0.mk ha
      have BK276 := Aside0.mk Q_BK276
      have BK277 := Aside0.mk Q_BK277
      have HB := Aside0.mk Q_HB
      have hL_ : World.rangeAt w' gb276 0 ([.int .i8 a0_0, .int .i8 a0_1] ++ a0_2.l.map (Value.int .u16)) := mix_range BK276.out
      refine value_ (w1 := w') (v := .agg (mixA (Value.int .u16) [.int .i8 a0_0, .int .i8 a0_1] a0_2)) (by rfl) rfl ?_ ?_
      ·exact load_mix_run (P := Tryd.prog) 26 (.tmp 3) rfl gb276 (by simp only [Act.eval, Array.getD_eq_getD_getElem?, e3, Option.getD_some]) hL_ Tryd.underlying26 rfl (by kernel_rfl) rfl
      refine hK.out _ _ ⟨gb284, m9_, (by rw [ha.out]; exact putSel_upk 0 hb_ rfl rfl rfl), Q_BK276, Q_BK277, Q_HB, Q_BK284, Q_GW284, Q_GE284, Q_NB276_284, Q_NB284_276, Q_NB277_284, Q_NB284_277, fun h0_ => absurd ((hoff 10 (by kernel_rfl)).symm.trans h0_) (by decide), Q_X9_⟩
     refine steps_cons ?_ ?_
     ·rintro b a w' ⟨gb284, m9_, ha, Q_BK276, Q_BK277, Q_HB, Q_BK284, Q_GW284, Q_GE284, Q_NB276_284, Q_NB284_276, Q_NB277_284, Q_NB284_277, Q_BK284_e10, Q_X9_⟩ hb_ hon hoff
      refine ⟨_, rfl, fun K hK => ?_⟩
      have e15 : a.tmps[15]? = some (.agg (mixA (Value.int .u16) [.int .i8 a0_0, .int .i8 a0_1] a0_2)) := by rw [ha]; exact putSel_on (e := (0, 15, .agg (mixA (Value.int .u16) [.int .i8 a0_0, .int .i8 a0_1] a0_2))) 0 rfl rfl (hon 0 (by kernel_rfl)) rfl
      replace ha := Aside0.mk ha
      have BK276 := Aside0.mk Q_BK276
      have BK277 := Aside0.mk Q_BK277
      have HB := Aside0.mk Q_HB
      refine goes_ Tryd.func8 (by kernel_rfl) rfl #[.agg (mixA (Value.int .u16) [.int .i8 a0_0, .int .i8 a0_1] a0_2)] (by rfl) rfl rfl (by first | (simp only [List.map_toArray, List.map_cons, List.map_nil, Act.eval, Array.getD_eq_getD_getElem?, Option.getD_some, e15]; done) | (simp only [List.map_toArray, List.map_cons, List.map_nil, Act.eval, Array.getD_eq_getD_getElem?, Option.getD_some, e15]; rfl)) ?_
      with_reducible refine (laws_toRoom.calls k a0_0 a0_1 a0_2 t278 t279 t280 _ A7.out).mono ?_
      rintro e w19 ⟨rfl, hb⟩
      refine ⟨_, rfl, ?_⟩
      have n0_ := bkb BK276 hb
      have n1_ := bkb BK277 hb
      have n2_ := bst HB hb
      have z_BK284 := fun (h0_ : b 9 = true) (h1_ : b 10 = false) => (show w19.heap[gb284]? = some (.cells (mixA (Value.int .u16) [] (LA.zero 40)) 28 (0, 0)) from by first | exact (blk_below (g := gb284) (o := .cells (mixA (Value.int .u16) [] (LA.zero 40)) 28 (0, 0)) (by (with_reducible repeat (first | refine blk_drewN ?_ _ | refine blk_drew ?_ | refine blk_alloc ?_ _)); exact (Q_BK284 h0_ h1_)) hb))
      clear BK276
      clear BK277
      clear HB
      have BK276 := n0_
      have BK277 := n1_
      have HB := n2_
      clear n0_ n1_ n2_
      (try clear hb)
      (try clear hb2)
      (try clear hk)
      (try clear hi)
      refine hK.out _ _ ⟨gb284, m9_, (by rw [ha.out]; exact putSel_upk 1 hb_ rfl rfl rfl), (pk BK276), (pk BK277), (pbs HB), z_BK284, Q_GW284, Q_GE284, Q_NB276_284, Q_NB284_276, Q_NB277_284, Q_NB284_277, fun h0_ => absurd ((hoff 10 (by kernel_rfl)).symm.trans h0_) (by decide), Q_X9_⟩
     refine steps_cons ?_ ?_
     ·rintro b a w' ⟨gb284, m9_, ha, Q_BK276, Q_BK277, Q_HB, Q_BK284, Q_GW284, Q_GE284, Q_NB276_284, Q_NB284_276, Q_NB277_284, Q_NB284_277, Q_BK284_e10, Q_X9_⟩ hb_ hon hoff
      refine ⟨_, rfl, fun K hK => ?_⟩
      have e4 : a.tmps[4]? = some (.pointer (some ⟨gb277, 0, none⟩)) := by rw [ha]; exact (putSel_off rfl).trans rfl
      replace ha := Aside0.mk ha
      have BK276 := Aside0.mk Q_BK276
      have BK277 := Aside0.mk Q_BK277
      have HB := Aside0.mk Q_HB
      have hL_ : World.rangeAt w' gb277 0 ([] ++ a1.l.map (Value.int .u16)) := mix_range BK277.out
      refine value_ (w1 := w') (v := .agg (mixA (Value.int .u16) [] a1)) (by rfl) rfl ?_ ?_
      ·exact load_mix_run (P := Tryd.prog) 27 (.tmp 4) rfl gb277 (by simp only [Act.eval, Array.getD_eq_getD_getElem?, e4, Option.getD_some]) hL_ Tryd.underlying27 rfl (by kernel_rfl) rfl
      refine hK.out _ _ ⟨gb284, m9_, (by rw [ha.out]; exact putSel_upk 2 hb_ rfl rfl rfl), Q_BK276, Q_BK277, Q_HB, Q_BK284, Q_GW284, Q_GE284, Q_NB276_284, Q_NB284_276, Q_NB277_284, Q_NB284_277, fun h0_ => absurd ((hoff 10 (by kernel_rfl)).symm.trans h0_) (by decide), Q_X9_⟩
     refine steps_cons ?_ ?_
     ·rintro b a w' ⟨gb284, m9_, ha, Q_BK276, Q_BK277, Q_HB, Q_BK284, Q_GW284, Q_GE284, Q_NB276_284, Q_NB284_276, Q_NB277_284, Q_NB284_277, Q_BK284_e10, Q_X9_⟩ hb_ hon hoff
      refine ⟨_, rfl, fun K hK => ?_⟩
      have e17 : a.tmps[17]? = some (.agg (mixA (Value.int .u16) [] a1)) := by rw [ha]; exact putSel_on (e := (2, 17, .agg (mixA (Value.int .u16) [] a1))) 2 rfl rfl (hon 2 (by kernel_rfl)) rfl
      replace ha := Aside0.mk ha
      have BK276 := Aside0.mk Q_BK276
      have BK277 := Aside0.mk Q_BK277
      have HB := Aside0.mk Q_HB
      refine goes_ Tryd.func12 (by kernel_rfl) rfl #[.agg (mixA (Value.int .u16) [] a1)] (by rfl) rfl rfl (by first | (simp only [List.map_toArray, List.map_cons, List.map_nil, Act.eval, Array.getD_eq_getD_getElem?, Option.getD_some, e17]; done) | (simp only [List.map_toArray, List.map_cons, List.map_nil, Act.eval, Array.getD_eq_getD_getElem?, Option.getD_some, e17]; rfl)) ?_
      with_reducible refine (laws_toCrowd.calls k a1 t281 _ A8.out).mono ?_
      rintro e w21 ⟨rfl, hb⟩
      refine ⟨_, rfl, ?_⟩
      have n0_ := bkb BK276 hb
      have n1_ := bkb BK277 hb
      have n2_ := bst HB hb
      have z_BK284 := fun (h0_ : b 9 = true) (h1_ : b 10 = false) => (show w21.heap[gb284]? = some (.cells (mixA (Value.int .u16) [] (LA.zero 40)) 28 (0, 0)) from by first | exact (blk_below (g := gb284) (o := .cells (mixA (Value.int .u16) [] (LA.zero 40)) 28 (0, 0)) (by (with_reducible repeat (first | refine blk_drewN ?_ _ | refine blk_drew ?_ | refine blk_alloc ?_ _)); exact (Q_BK284 h0_ h1_)) hb))
      clear BK276
      clear BK277
      clear HB
      have BK276 := n0_
      have BK277 := n1_
      have HB := n2_
      clear n0_ n1_ n2_
      (try clear hb)
      (try clear hb2)
      (try clear hk)
      (try clear hi)
      refine hK.out _ _ ⟨gb284, m9_, (by rw [ha.out]; exact putSel_upk 3 hb_ rfl rfl rfl), (pk BK276), (pk BK277), (pbs HB), z_BK284, Q_GW284, Q_GE284, Q_NB276_284, Q_NB284_276, Q_NB277_284, Q_NB284_277, fun h0_ => absurd ((hoff 10 (by kernel_rfl)).symm.trans h0_) (by decide), Q_X9_⟩
     refine steps_cons ?_ ?_
     ·rintro b a w' ⟨gb284, m9_, ha, Q_BK276, Q_BK277, Q_HB, Q_BK284, Q_GW284, Q_GE284, Q_NB276_284, Q_NB284_276, Q_NB277_284, Q_NB284_277, Q_BK284_e10, Q_X9_⟩ hb_ hon hoff
      refine ⟨_, rfl, fun K hK => ?_⟩
      have e16 : a.tmps[16]? = some (.agg (mixA (Value.int .u16) [.int .i8 t278, .int .i8 t279] t280)) := by rw [ha]; exact putSel_on (e := (1, 16, .agg (mixA (Value.int .u16) [.int .i8 t278, .int .i8 t279] t280))) 1 rfl rfl (hon 1 (by kernel_rfl)) rfl
      have e18 : a.tmps[18]? = some (.agg (mixA (Value.int .u16) [] t281)) := by rw [ha]; exact putSel_on (e := (3, 18, .agg (mixA (Value.int .u16) [] t281))) 3 rfl rfl (hon 3 (by kernel_rfl)) rfl
      have e19 : a.tmps[19]? = some (.string a2) := by rw [ha]; exact (putSel_off rfl).trans rfl
      replace ha := Aside0.mk ha
      have BK276 := Aside0.mk Q_BK276
      have BK277 := Aside0.mk Q_BK277
      have HB := Aside0.mk Q_HB
      refine goes_ Tryd.func14 (by kernel_rfl) rfl #[.agg (mixA (Value.int .u16) [.int .i8 t278, .int .i8 t279] t280), .agg (mixA (Value.int .u16) [] t281), .string a2] (by rfl) rfl rfl (by first | (simp only [List.map_toArray, List.map_cons, List.map_nil, Act.eval, Array.getD_eq_getD_getElem?, Option.getD_some, e16, e18, e19]; done) | (simp only [List.map_toArray, List.map_cons, List.map_nil, Act.eval, Array.getD_eq_getD_getElem?, Option.getD_some, e16, e18, e19]; rfl)) ?_
      with_reducible refine (spec_MovesCrowd.calls k t278 t279 t280 t281 a2 t282 t283 _ A9.out).mono ?_
      rintro e w22 ⟨rfl, hb⟩
      refine ⟨_, rfl, ?_⟩
      have n0_ := bkb BK276 hb
      have n1_ := bkb BK277 hb
      have n2_ := bst HB hb
      have z_BK284 := fun (h0_ : b 9 = true) (h1_ : b 10 = false) => (show w22.heap[gb284]? = some (.cells (mixA (Value.int .u16) [] (LA.zero 40)) 28 (0, 0)) from by first | exact (blk_below (g := gb284) (o := .cells (mixA (Value.int .u16) [] (LA.zero 40)) 28 (0, 0)) (by (with_reducible repeat (first | refine blk_drewN ?_ _ | refine blk_drew ?_ | refine blk_alloc ?_ _)); exact (Q_BK284 h0_ h1_)) hb))
      clear BK276
      clear BK277
      clear HB
      have BK276 := n0_
      have BK277 := n1_
      have HB := n2_
      clear n0_ n1_ n2_
      (try clear hb)
      (try clear hb2)
      (try clear hk)
      (try clear hi)
      refine hK.out _ _ ⟨gb284, m9_, (by rw [ha.out]; exact putSel_upk 4 hb_ rfl rfl rfl), (pk BK276), (pk BK277), (pbs HB), z_BK284, Q_GW284, Q_GE284, Q_NB276_284, Q_NB284_276, Q_NB277_284, Q_NB284_277, fun h0_ => absurd ((hoff 10 (by kernel_rfl)).symm.trans h0_) (by decide), Q_X9_⟩
     refine steps_cons ?_ ?_
     ·rintro b a w' ⟨gb284, m9_, ha, Q_BK276, Q_BK277, Q_HB, Q_BK284, Q_GW284, Q_GE284, Q_NB276_284, Q_NB284_276, Q_NB277_284, Q_NB284_277, Q_BK284_e10, Q_X9_⟩ hb_ hon hoff
      refine ⟨_, rfl, fun K hK => ?_⟩
      have e20 : a.tmps[20]? = some (.tuple #[.agg (mixA (Value.int .u16) [] t282), .int .i64 t283]) := by rw [ha]; exact putSel_on (e := (5, 20, .tuple #[.agg (mixA (Value.int .u16) [] t282), .int .i64 t283])) 4 rfl rfl (hon 5 (by kernel_rfl)) rfl
      replace ha := Aside0.mk ha
      have BK276 := Aside0.mk Q_BK276
      have BK277 := Aside0.mk Q_BK277
      have HB := Aside0.mk Q_HB
      refine value_ (w1 := w') (v := .tuple #[.agg (mixA (Value.int .u16) [] t282), .int .i64 t283]) (by rfl) rfl ?_ ?_
      ·go_simp
       (try simp only [i64_w])
       try rfl
      refine hK.out _ _ ⟨gb284, m9_, (by rw [ha.out]; exact putSel_upk 5 hb_ rfl rfl rfl), Q_BK276, Q_BK277, Q_HB, Q_BK284, Q_GW284, Q_GE284, Q_NB276_284, Q_NB284_276, Q_NB277_284, Q_NB284_277, fun h0_ => absurd ((hoff 10 (by kernel_rfl)).symm.trans h0_) (by decide), Q_X9_⟩
     refine steps_cons ?_ ?_
     ·rintro b a w' ⟨gb284, m9_, ha, Q_BK276, Q_BK277, Q_HB, Q_BK284, Q_GW284, Q_GE284, Q_NB276_284, Q_NB284_276, Q_NB277_284, Q_NB284_277, Q_BK284_e10, Q_X9_⟩ hb_ hon hoff
      refine ⟨_, rfl, fun K hK => ?_⟩
      have e14 : a.tmps[14]? = some (.tuple #[.agg (mixA (Value.int .u16) [] t282), .int .i64 t283]) := by rw [ha]; exact putSel_on (e := (6, 14, .tuple #[.agg (mixA (Value.int .u16) [] t282), .int .i64 t283])) 5 rfl rfl (hon 6 (by kernel_rfl)) rfl
      replace ha := Aside0.mk ha
      have BK276 := Aside0.mk Q_BK276
      have BK277 := Aside0.mk Q_BK277
      have HB := Aside0.mk Q_HB
      refine value_ (w1 := w') (v := .agg (mixA (Value.int .u16) [] t282)) (by rfl) rfl ?_ ?_
      ·go_simp
       (try simp only [i64_w])
       try rfl
      refine hK.out _ _ ⟨gb284, m9_, (by rw [ha.out]; exact putSel_upk 6 hb_ rfl rfl rfl), Q_BK276, Q_BK277, Q_HB, Q_BK284, Q_GW284, Q_GE284, Q_NB276_284, Q_NB284_276, Q_NB277_284, Q_NB284_277, fun h0_ => absurd ((hoff 10 (by kernel_rfl)).symm.trans h0_) (by decide), Q_X9_⟩
     refine steps_cons ?_ ?_
     ·rintro b a w' ⟨gb284, m9_, ha, Q_BK276, Q_BK277, Q_HB, Q_BK284, Q_GW284, Q_GE284, Q_NB276_284, Q_NB284_276, Q_NB277_284, Q_NB284_277, Q_BK284_e10, Q_X9_⟩ hb_ hon hoff
      refine ⟨_, rfl, fun K hK => ?_⟩
      have e14 : a.tmps[14]? = some (.tuple #[.agg (mixA (Value.int .u16) [] t282), .int .i64 t283]) := by rw [ha]; exact putSel_on (e := (6, 14, .tuple #[.agg (mixA (Value.int .u16) [] t282), .int .i64 t283])) 5 rfl rfl (hon 6 (by kernel_rfl)) rfl
      replace ha := Aside0.mk ha
      have BK276 := Aside0.mk Q_BK276
      have BK277 := Aside0.mk Q_BK277
      have HB := Aside0.mk Q_HB
      refine value_ (w1 := w') (v := .int .i64 t283) (by rfl) rfl ?_ ?_
      ·go_simp
       (try simp only [i64_w])
       try rfl
      refine hK.out _ _ ⟨gb284, m9_, (by rw [ha.out]; exact putSel_upk 7 hb_ rfl rfl rfl), Q_BK276, Q_BK277, Q_HB, Q_BK284, Q_GW284, Q_GE284, Q_NB276_284, Q_NB284_276, Q_NB277_284, Q_NB284_277, Q_BK284_e10, Q_X9_⟩
     refine steps_cons ?_ ?_
     ·rintro b a w' ⟨gb284, m9_, ha, Q_BK276, Q_BK277, Q_HB, Q_BK284, Q_GW284, Q_GE284, Q_NB276_284, Q_NB284_276, Q_NB277_284, Q_NB284_277, Q_BK284_e10, Q_X9_⟩ hb_ hon hoff
      refine ⟨_, rfl, fun K hK => ?_⟩
      replace ha := Aside0.mk ha
      have BK276 := Aside0.mk Q_BK276
      have BK277 := Aside0.mk Q_BK277
      have HB := Aside0.mk Q_HB
      refine box_step ?hg (N := 7) ?hd (cs := (mixA (Value.int .u16) [] (LA.zero 40))) (t := 28) ?hr ?_; (case hd => rfl); (case hg => rfl); (case hr => first | (go_simp; done) | (go_simp; rfl))
      intro gb284 hg w19 hbox hb
      have n0_ := bkb BK276 hb
      have n1_ := bkb BK277 hb
      have n2_ := bst HB hb
      have n3_ := Aside0.mk (hbox)
      have n4_ := gwl HB hg
      have n5_ := gwl HB hg
      have n6_ := nbl BK276 hg
      have n7_ := nbg BK276 hg
      have n8_ := nbl BK277 hg
      have n9_ := nbg BK277 hg
      clear BK276
      clear BK277
      clear HB
      have BK276 := n0_
      have BK277 := n1_
      have HB := n2_
      have BK284 := n3_
      have GW284 := n4_
      have GE284 := n5_
      have NB276_284 := n6_
      have NB284_276 := n7_
      have NB277_284 := n8_
      have NB284_277 := n9_
      clear n0_ n1_ n2_ n3_ n4_ n5_ n6_ n7_ n8_ n9_
      clear hb hbox hg
      refine hK.out _ _ ⟨gb284, (.pointer (some ⟨gb284, 0, none⟩)), (by rw [ha.out]; exact putSel_upk 8 hb_ rfl rfl rfl), (pk BK276), (pk BK277), (pbs HB), fun _ _ => (pk BK284), fun _ => GW284.out, fun _ => GE284.out, fun _ => NB276_284.out, fun _ => NB284_276.out, fun _ => NB277_284.out, fun _ => NB284_277.out, fun h0_ => absurd ((hoff 10 (by kernel_rfl)).symm.trans h0_) (by decide), fun _ => rfl⟩
     refine steps_cons ?_ ?_
     ·rintro b a w' ⟨gb284, m9_, ha, Q_BK276, Q_BK277, Q_HB, Q_BK284, Q_GW284, Q_GE284, Q_NB276_284, Q_NB284_276, Q_NB277_284, Q_NB284_277, Q_BK284_e10, Q_X9_⟩ hb_ hon hoff
      refine ⟨_, rfl, fun K hK => ?_⟩
      have e7 : a.tmps[7]? = some (m9_) := by rw [ha]; exact putSel_on (e := (9, 7, m9_)) 8 rfl rfl (hon 9 (by kernel_rfl)) rfl
      rw [Q_X9_ (hon 9 (by kernel_rfl))] at e7
      have e21 : a.tmps[21]? = some (.agg (mixA (Value.int .u16) [] t282)) := by rw [ha]; exact putSel_on (e := (7, 21, .agg (mixA (Value.int .u16) [] t282))) 6 rfl rfl (hon 7 (by kernel_rfl)) rfl
      replace ha := Aside0.mk ha
      have BK276 := Aside0.mk Q_BK276
      have BK277 := Aside0.mk Q_BK277
      have HB := Aside0.mk Q_HB
      have BK284 := Aside0.mk (Q_BK284 (hon 9 (by kernel_rfl)) hb_)
      have GW284 := Aside0.mk (Q_GW284 (hon 9 (by kernel_rfl)))
      have GE284 := Aside0.mk (Q_GE284 (hon 9 (by kernel_rfl)))
      have NB276_284 := Aside0.mk (Q_NB276_284 (hon 9 (by kernel_rfl)))
      have NB284_276 := Aside0.mk (Q_NB284_276 (hon 9 (by kernel_rfl)))
      have NB277_284 := Aside0.mk (Q_NB277_284 (hon 9 (by kernel_rfl)))
      have NB284_277 := Aside0.mk (Q_NB284_277 (hon 9 (by kernel_rfl)))
      refine step_store_lmix (by rfl) rfl 28 _ _ rfl gb284 (e := (Value.int .u16)) (cs' := []) (W' := t282) (cs := []) (W := (LA.zero 40)) (T := 28) (by first | (simp only [List.map_toArray, List.map_cons, List.map_nil, Act.eval, Array.getD_eq_getD_getElem?, Option.getD_some, e7, e21]; done) | (simp only [List.map_toArray, List.map_cons, List.map_nil, Act.eval, Array.getD_eq_getD_getElem?, Option.getD_some, e7, e21]; rfl)) (by first | (simp only [List.map_toArray, List.map_cons, List.map_nil, Act.eval, Array.getD_eq_getD_getElem?, Option.getD_some, e7, e21]; done) | (simp only [List.map_toArray, List.map_cons, List.map_nil, Act.eval, Array.getD_eq_getD_getElem?, Option.getD_some, e7, e21]; rfl)) (pk BK284) rfl (by kernel_rfl) rfl (fun _ => rfl) rfl ?_
      intro w24 hi hk hbl
      have n0_ := Aside0.mk (KeepBut.blk hk (g' := gb276) (o := .cells (mixA (Value.int .u16) [.int .i8 a0_0, .int .i8 a0_1] a0_2) 26 (0, 0)) (pk BK276) NB276_284.out (by simp))
      have n1_ := Aside0.mk (KeepBut.blk hk (g' := gb277) (o := .cells (mixA (Value.int .u16) [] a1) 27 (0, 0)) (pk BK277) NB277_284.out (by simp))
      have n2_ := Aside0.mk (hbl _ _ (pbs HB) GE284.out)
      have n3_ := Aside0.mk (hi)
      clear BK276
      clear BK277
      clear HB
      clear BK284
      have BK276 := n0_
      have BK277 := n1_
      have HB := n2_
      have BK284 := n3_
      clear n0_ n1_ n2_ n3_
      clear hi hk hbl
      refine hK.out _ _ ⟨gb284, m9_, (by rw [ha.out]; exact putSel_none (v := undef) rfl), (pk BK276), (pk BK277), (pbs HB), fun _ h1_ => absurd ((up_self b 10).symm.trans h1_) (by decide), fun _ => GW284.out, fun _ => GE284.out, fun _ => NB276_284.out, fun _ => NB284_276.out, fun _ => NB277_284.out, fun _ => NB284_277.out, fun _ => (pk BK284), Q_X9_⟩
     refine steps_cons ?_ ?_
     ·rintro b a w' ⟨gb284, m9_, ha, Q_BK276, Q_BK277, Q_HB, Q_BK284, Q_GW284, Q_GE284, Q_NB276_284, Q_NB284_276, Q_NB277_284, Q_NB284_277, Q_BK284_e10, Q_X9_⟩ hb_ hon hoff
      refine ⟨_, rfl, fun K hK => ?_⟩
      have e22 : a.tmps[22]? = some (.int .i64 t283) := by rw [ha]; exact putSel_on (e := (8, 22, .int .i64 t283)) 7 rfl rfl (hon 8 (by kernel_rfl)) rfl
      replace ha := Aside0.mk ha
      have BK276 := Aside0.mk Q_BK276
      have BK277 := Aside0.mk Q_BK277
      have HB := Aside0.mk Q_HB
      have GW284 := Aside0.mk (Q_GW284 (hon 9 (by kernel_rfl)))
      have GE284 := Aside0.mk (Q_GE284 (hon 9 (by kernel_rfl)))
      have NB276_284 := Aside0.mk (Q_NB276_284 (hon 9 (by kernel_rfl)))
      have NB284_276 := Aside0.mk (Q_NB284_276 (hon 9 (by kernel_rfl)))
      have NB277_284 := Aside0.mk (Q_NB277_284 (hon 9 (by kernel_rfl)))
      have NB284_277 := Aside0.mk (Q_NB284_277 (hon 9 (by kernel_rfl)))
      have BK284 := Aside0.mk (Q_BK284_e10 (hon 10 (by kernel_rfl)))
      refine value_ (w1 := w') (v := .int .i64 t283) (by rfl) rfl ?_ ?_
      ·go_simp
       (try simp only [i64_w])
       try rfl
      refine hK.out _ _ ⟨gb284, m9_, (by rw [ha.out]; exact putSel_upk 9 hb_ rfl rfl rfl), Q_BK276, Q_BK277, Q_HB, fun _ h1_ => absurd ((hon 10 (by kernel_rfl)).symm.trans h1_) (by decide), Q_GW284, Q_GE284, Q_NB276_284, Q_NB284_276, Q_NB277_284, Q_NB284_277, Q_BK284_e10, Q_X9_⟩
     exact steps_nil
    rintro b a w24 hall ⟨gb284, m9_, ha, Q_BK276, Q_BK277, Q_HB, Q_BK284, Q_GW284, Q_GE284, Q_NB276_284, Q_NB284_276, Q_NB277_284, Q_NB284_277, Q_BK284_e10, Q_X9_⟩
    clear BK276 BK277 HB
    have hb0_ := hall 0 (by kernel_rfl)
    have hb1_ := hall 1 (by kernel_rfl)
    have hb2_ := hall 2 (by kernel_rfl)
    have hb3_ := hall 3 (by kernel_rfl)
    have hb5_ := hall 5 (by kernel_rfl)
    have hb6_ := hall 6 (by kernel_rfl)
    have hb7_ := hall 7 (by kernel_rfl)
    have hb8_ := hall 8 (by kernel_rfl)
    have hb9_ := hall 9 (by kernel_rfl)
    have hb10_ := hall 10 (by kernel_rfl)
    have hb11_ := hall 11 (by kernel_rfl)
    subst ha
    obtain rfl := (Q_X9_ hb9_).symm
    simp only [putSel, hb0_, hb1_, hb2_, hb3_, hb5_, hb6_, hb7_, hb8_, hb9_, hb10_, hb11_, if_true, Act.put, List.setIfInBounds_toArray, List.set_cons_zero, List.set_cons_succ]
    have BK276 := Aside0.mk Q_BK276
    clear Q_BK276
    have BK277 := Aside0.mk Q_BK277
    clear Q_BK277
    have HB := Aside0.mk Q_HB
    clear Q_HB
    clear Q_BK284
    have GW284 := Aside0.mk (Q_GW284 hb9_)
    clear Q_GW284
    have GE284 := Aside0.mk (Q_GE284 hb9_)
    clear Q_GE284
    have NB276_284 := Aside0.mk (Q_NB276_284 hb9_)
    clear Q_NB276_284
    have NB284_276 := Aside0.mk (Q_NB284_276 hb9_)
    clear Q_NB284_276
    have NB277_284 := Aside0.mk (Q_NB277_284 hb9_)
    clear Q_NB277_284
    have NB284_277 := Aside0.mk (Q_NB284_277 hb9_)
    clear Q_NB284_277
    have BK284 := Aside0.mk (Q_BK284_e10 hb10_)
    clear Q_BK284_e10
    clear hall hb0_ hb1_ hb2_ hb3_ hb5_ hb6_ hb7_ hb8_ hb9_ hb10_ hb11_
    try go_wp2
    have n0_ := Aside0.mk (blk_drew BK276.out)
    have n1_ := Aside0.mk (blk_drew BK277.out)
    have n2_ := Aside0.mk (blk_drew BK284.out)
    have n3_ := Aside0.mk (below_drew1 HB.out)
    clear BK276
    clear BK277
    clear BK284
    clear HB
    have BK276 := n0_
    have BK277 := n1_
    have BK284 := n2_
    have HB := n3_
    clear n0_ n1_ n2_ n3_
    refine start_ (n := 12) (S := fun w' => True) (ds := []) #[false, false, false, false, false, false, false, false, false, false, false, false] (by kernel_rfl) rfl rfl trivial (fun hHeld => ?_); refine with_tabW laws_FnExactMovesCrowd.tab4 laws_FnExactMovesCrowd.bits4 (fun HT_ HW_ => ?_)
    generalize w24.drew = w29 at BK276 BK277 BK284 HB hHeld ⊢
    refine pure_ (i := 4) (N := some 28) (v := ?_) (a' := ?_) #[false, false, false, false, true, false, false, false, false, false, false, false] rfl rfl (any_of HT_.out (by kernel_rfl)) (fun _ _ _ h => h) (Or.inl ⟨by rfl, ?_⟩) ?_ ?_
    rotate_left
    ·intro w'
     go_simp
     with_reducible rfl
    rotate_left
    ·simp only [Act.put, List.setIfInBounds_toArray, List.set_cons_zero, List.set_cons_succ, i64_w, i32_w]
     rfl
    refine inv_at [0, 1, 2, 3, 5, 6, 7, 8, 9, 10, 11] (fun a0_ b a w' => ∃ (gb291 : Nat) (m9_ : Value), a = putSel a0_ b [(0, 24, .agg (mixA (Value.int .u16) [.int .i8 a0_0, .int .i8 a0_1] a0_2)), (1, 25, .agg (mixA (Value.int .u16) [.int .i8 t285, .int .i8 t286] t287)), (2, 26, .agg (mixA (Value.int .u16) [] a1)), (3, 27, .agg (mixA (Value.int .u16) [] t288)), (5, 29, .tuple #[.agg (mixA (Value.int .u16) [] t289), .int .i64 t290]), (6, 23, .tuple #[.agg (mixA (Value.int .u16) [] t289), .int .i64 t290]), (7, 30, .agg (mixA (Value.int .u16) [] t289)), (8, 31, .int .i64 t290), (9, 9, m9_), (11, 10, .int .i64 t290)] ∧ (w'.heap[gb276]? = some (.cells (mixA (Value.int .u16) [.int .i8 a0_0, .int .i8 a0_1] a0_2) 26 (0, 0))) ∧ (w'.heap[gb277]? = some (.cells (mixA (Value.int .u16) [] a1) 27 (0, 0))) ∧ (w'.heap[gb284]? = some (.cells (mixA (Value.int .u16) [] t282) 28 (0, 0))) ∧ (Below w.heap.size w w') ∧ (b 9 = true → b 10 = false → w'.heap[gb291]? = some (.cells (mixA (Value.int .u16) [] (LA.zero 40)) 28 (0, 0))) ∧ (b 9 = true → w.heap.size ≤ gb291) ∧ (b 9 = true → w.heap.size ≤ gb291) ∧ (b 9 = true → gb276 ≠ gb291) ∧ (b 9 = true → gb291 ≠ gb276) ∧ (b 9 = true → gb277 ≠ gb291) ∧ (b 9 = true → gb291 ≠ gb277) ∧ (b 9 = true → gb284 ≠ gb291) ∧ (b 9 = true → gb291 ≠ gb284) ∧ (b 10 = true → w'.heap[gb291]? = some (.cells (mixA (Value.int .u16) [] t289) 28 (0, 0))) ∧ (b 9 = true → (m9_ : Value) = .pointer (some ⟨gb291, 0, none⟩))) HT_.out HW_.out (by kernel_rfl) (by kernel_rfl) ?_ ?_ ?_
    ·exact ⟨0, .bool false, by simp only [putSel, Bool.false_eq_true, if_false], BK276.out, BK277.out, BK284.out, HB.out, fun h_ => absurd h_ (by decide), fun h_ => absurd h_ (by decide), fun h_ => absurd h_ (by decide), fun h_ => absurd h_ (by decide), fun h_ => absurd h_ (by decide), fun h_ => absurd h_ (by decide), fun h_ => absurd h_ (by decide), fun h_ => absurd h_ (by decide), fun h_ => absurd h_ (by decide), fun h_ => absurd h_ (by decide), fun h_ => absurd h_ (by decide)⟩
    ·skip
     clear BK276 BK277 BK284 HB
     refine steps_cons ?_ ?_
     ·rintro b a w' ⟨gb291, m9_, ha, Q_BK276, Q_BK277, Q_BK284, Q_HB, Q_BK291, Q_GW291, Q_GE291, Q_NB276_291, Q_NB291_276, Q_NB277_291, Q_NB291_277, Q_NB284_291, Q_NB291_284, Q_BK291_e10, Q_X9_⟩ hb_ hon hoff
      refine ⟨_, rfl, fun K hK => ?_⟩
      have e3 : a.tmps[3]? = some (.pointer (some ⟨gb276, 0, none⟩)) := by rw [ha]; exact (putSel_off rfl).trans rfl
      replace ha := Aside0.mk ha
      have BK276 := Aside0.mk Q_BK276
      have BK277 := Aside0.mk Q_BK277
      have BK284 := Aside0.mk Q_BK284
      have HB := Aside0.mk Q_HB
      have hL_ : World.rangeAt w' gb276 0 ([.int .i8 a0_0, .int .i8 a0_1] ++ a0_2.l.map (Value.int .u16)) := mix_range BK276.out
      refine value_ (w1 := w') (v := .agg (mixA (Value.int .u16) [.int .i8 a0_0, .int .i8 a0_1] a0_2)) (by rfl) rfl ?_ ?_
      ·exact load_mix_run (P := Tryd.prog) 26 (.tmp 3) rfl gb276 (by simp only [Act.eval, Array.getD_eq_getD_getElem?, e3, Option.getD_some]) hL_ Tryd.underlying26 rfl (by kernel_rfl) rfl
      refine hK.out _ _ ⟨gb291, m9_, (by rw [ha.out]; exact putSel_upk 0 hb_ rfl rfl rfl), Q_BK276, Q_BK277, Q_BK284, Q_HB, Q_BK291, Q_GW291, Q_GE291, Q_NB276_291, Q_NB291_276, Q_NB277_291, Q_NB291_277, Q_NB284_291, Q_NB291_284, fun h0_ => absurd ((hoff 10 (by kernel_rfl)).symm.trans h0_) (by decide), Q_X9_⟩
     refine steps_cons ?_ ?_
     ·rintro b a w' ⟨gb291, m9_, ha, Q_BK276, Q_BK277, Q_BK284, Q_HB, Q_BK291, Q_GW291, Q_GE291, Q_NB276_291, Q_NB291_276, Q_NB277_291, Q_NB291_277, Q_NB284_291, Q_NB291_284, Q_BK291_e10, Q_X9_⟩ hb_ hon hoff
      refine ⟨_, rfl, fun K hK => ?_⟩
      have e24 : a.tmps[24]? = some (.agg (mixA (Value.int .u16) [.int .i8 a0_0, .int .i8 a0_1] a0_2)) := by rw [ha]; exact putSel_on (e := (0, 24, .agg (mixA (Value.int .u16) [.int .i8 a0_0, .int .i8 a0_1] a0_2))) 0 rfl rfl (hon 0 (by kernel_rfl)) rfl
      replace ha := Aside0.mk ha
      have BK276 := Aside0.mk Q_BK276
      have BK277 := Aside0.mk Q_BK277
      have BK284 := Aside0.mk Q_BK284
      have HB := Aside0.mk Q_HB
      refine goes_ Tryd.func8 (by kernel_rfl) rfl #[.agg (mixA (Value.int .u16) [.int .i8 a0_0, .int .i8 a0_1] a0_2)] (by rfl) rfl rfl (by first | (simp only [List.map_toArray, List.map_cons, List.map_nil, Act.eval, Array.getD_eq_getD_getElem?, Option.getD_some, e24]; done) | (simp only [List.map_toArray, List.map_cons, List.map_nil, Act.eval, Array.getD_eq_getD_getElem?, Option.getD_some, e24]; rfl)) ?_
      with_reducible refine (laws_toRoom.calls k a0_0 a0_1 a0_2 t285 t286 t287 _ A10.out).mono ?_
      rintro e w30 ⟨rfl, hb⟩
      refine ⟨_, rfl, ?_⟩
      have n0_ := bkb BK276 hb
      have n1_ := bkb BK277 hb
      have n2_ := bkb BK284 hb
      have n3_ := bst HB hb
      have z_BK291 := fun (h0_ : b 9 = true) (h1_ : b 10 = false) => (show w30.heap[gb291]? = some (.cells (mixA (Value.int .u16) [] (LA.zero 40)) 28 (0, 0)) from by first | exact (blk_below (g := gb291) (o := .cells (mixA (Value.int .u16) [] (LA.zero 40)) 28 (0, 0)) (by (with_reducible repeat (first | refine blk_drewN ?_ _ | refine blk_drew ?_ | refine blk_alloc ?_ _)); exact (Q_BK291 h0_ h1_)) hb))
      clear BK276
      clear BK277
      clear BK284
      clear HB
      have BK276 := n0_
      have BK277 := n1_
      have BK284 := n2_
      have HB := n3_
      clear n0_ n1_ n2_ n3_
      (try clear hb)
      (try clear hb2)
      (try clear hk)
      (try clear hi)
      refine hK.out _ _ ⟨gb291, m9_, (by rw [ha.out]; exact putSel_upk 1 hb_ rfl rfl rfl), (pk BK276), (pk BK277), (pk BK284), (pbs HB), z_BK291, Q_GW291, Q_GE291, Q_NB276_291, Q_NB291_276, Q_NB277_291, Q_NB291_277, Q_NB284_291, Q_NB291_284, fun h0_ => absurd ((hoff 10 (by kernel_rfl)).symm.trans h0_) (by decide), Q_X9_⟩
     refine steps_cons ?_ ?_
     ·rintro b a w' ⟨gb291, m9_, ha, Q_BK276, Q_BK277, Q_BK284, Q_HB, Q_BK291, Q_GW291, Q_GE291, Q_NB276_291, Q_NB291_276, Q_NB277_291, Q_NB291_277, Q_NB284_291, Q_NB291_284, Q_BK291_e10, Q_X9_⟩ hb_ hon hoff
      refine ⟨_, rfl, fun K hK => ?_⟩
      have e4 : a.tmps[4]? = some (.pointer (some ⟨gb277, 0, none⟩)) := by rw [ha]; exact (putSel_off rfl).trans rfl
      replace ha := Aside0.mk ha
      have BK276 := Aside0.mk Q_BK276
      have BK277 := Aside0.mk Q_BK277
      have BK284 := Aside0.mk Q_BK284
      have HB := Aside0.mk Q_HB
      have hL_ : World.rangeAt w' gb277 0 ([] ++ a1.l.map (Value.int .u16)) := mix_range BK277.out
      refine value_ (w1 := w') (v := .agg (mixA (Value.int .u16) [] a1)) (by rfl) rfl ?_ ?_
      ·exact load_mix_run (P := Tryd.prog) 27 (.tmp 4) rfl gb277 (by simp only [Act.eval, Array.getD_eq_getD_getElem?, e4, Option.getD_some]) hL_ Tryd.underlying27 rfl (by kernel_rfl) rfl
      refine hK.out _ _ ⟨gb291, m9_, (by rw [ha.out]; exact putSel_upk 2 hb_ rfl rfl rfl), Q_BK276, Q_BK277, Q_BK284, Q_HB, Q_BK291, Q_GW291, Q_GE291, Q_NB276_291, Q_NB291_276, Q_NB277_291, Q_NB291_277, Q_NB284_291, Q_NB291_284, fun h0_ => absurd ((hoff 10 (by kernel_rfl)).symm.trans h0_) (by decide), Q_X9_⟩
     refine steps_cons ?_ ?_
     ·rintro b a w' ⟨gb291, m9_, ha, Q_BK276, Q_BK277, Q_BK284, Q_HB, Q_BK291, Q_GW291, Q_GE291, Q_NB276_291, Q_NB291_276, Q_NB277_291, Q_NB291_277, Q_NB284_291, Q_NB291_284, Q_BK291_e10, Q_X9_⟩ hb_ hon hoff
      refine ⟨_, rfl, fun K hK => ?_⟩
      have e26 : a.tmps[26]? = some (.agg (mixA (Value.int .u16) [] a1)) := by rw [ha]; exact putSel_on (e := (2, 26, .agg (mixA (Value.int .u16) [] a1))) 2 rfl rfl (hon 2 (by kernel_rfl)) rfl
      replace ha := Aside0.mk ha
      have BK276 := Aside0.mk Q_BK276
      have BK277 := Aside0.mk Q_BK277
      have BK284 := Aside0.mk Q_BK284
      have HB := Aside0.mk Q_HB
      refine goes_ Tryd.func12 (by kernel_rfl) rfl #[.agg (mixA (Value.int .u16) [] a1)] (by rfl) rfl rfl (by first | (simp only [List.map_toArray, List.map_cons, List.map_nil, Act.eval, Array.getD_eq_getD_getElem?, Option.getD_some, e26]; done) | (simp only [List.map_toArray, List.map_cons, List.map_nil, Act.eval, Array.getD_eq_getD_getElem?, Option.getD_some, e26]; rfl)) ?_
      with_reducible refine (laws_toCrowd.calls k a1 t288 _ A11.out).mono ?_
      rintro e w32 ⟨rfl, hb⟩
      refine ⟨_, rfl, ?_⟩
      have n0_ := bkb BK276 hb
      have n1_ := bkb BK277 hb
      have n2_ := bkb BK284 hb
      have n3_ := bst HB hb
      have z_BK291 := fun (h0_ : b 9 = true) (h1_ : b 10 = false) => (show w32.heap[gb291]? = some (.cells (mixA (Value.int .u16) [] (LA.zero 40)) 28 (0, 0)) from by first | exact (blk_below (g := gb291) (o := .cells (mixA (Value.int .u16) [] (LA.zero 40)) 28 (0, 0)) (by (with_reducible repeat (first | refine blk_drewN ?_ _ | refine blk_drew ?_ | refine blk_alloc ?_ _)); exact (Q_BK291 h0_ h1_)) hb))
      clear BK276
      clear BK277
      clear BK284
      clear HB
      have BK276 := n0_
      have BK277 := n1_
      have BK284 := n2_
      have HB := n3_
      clear n0_ n1_ n2_ n3_
      (try clear hb)
      (try clear hb2)
      (try clear hk)
      (try clear hi)
      refine hK.out _ _ ⟨gb291, m9_, (by rw [ha.out]; exact putSel_upk 3 hb_ rfl rfl rfl), (pk BK276), (pk BK277), (pk BK284), (pbs HB), z_BK291, Q_GW291, Q_GE291, Q_NB276_291, Q_NB291_276, Q_NB277_291, Q_NB291_277, Q_NB284_291, Q_NB291_284, fun h0_ => absurd ((hoff 10 (by kernel_rfl)).symm.trans h0_) (by decide), Q_X9_⟩
     refine steps_cons ?_ ?_
     ·rintro b a w' ⟨gb291, m9_, ha, Q_BK276, Q_BK277, Q_BK284, Q_HB, Q_BK291, Q_GW291, Q_GE291, Q_NB276_291, Q_NB291_276, Q_NB277_291, Q_NB291_277, Q_NB284_291, Q_NB291_284, Q_BK291_e10, Q_X9_⟩ hb_ hon hoff
      refine ⟨_, rfl, fun K hK => ?_⟩
      have e25 : a.tmps[25]? = some (.agg (mixA (Value.int .u16) [.int .i8 t285, .int .i8 t286] t287)) := by rw [ha]; exact putSel_on (e := (1, 25, .agg (mixA (Value.int .u16) [.int .i8 t285, .int .i8 t286] t287))) 1 rfl rfl (hon 1 (by kernel_rfl)) rfl
      have e27 : a.tmps[27]? = some (.agg (mixA (Value.int .u16) [] t288)) := by rw [ha]; exact putSel_on (e := (3, 27, .agg (mixA (Value.int .u16) [] t288))) 3 rfl rfl (hon 3 (by kernel_rfl)) rfl
      have e28 : a.tmps[28]? = some (.string a2) := by rw [ha]; exact (putSel_off rfl).trans rfl
      replace ha := Aside0.mk ha
      have BK276 := Aside0.mk Q_BK276
      have BK277 := Aside0.mk Q_BK277
      have BK284 := Aside0.mk Q_BK284
      have HB := Aside0.mk Q_HB
      refine goes_ Tryd.func15 (by kernel_rfl) rfl #[.agg (mixA (Value.int .u16) [.int .i8 t285, .int .i8 t286] t287), .agg (mixA (Value.int .u16) [] t288), .string a2] (by rfl) rfl rfl (by first | (simp only [List.map_toArray, List.map_cons, List.map_nil, Act.eval, Array.getD_eq_getD_getElem?, Option.getD_some, e25, e27, e28]; done) | (simp only [List.map_toArray, List.map_cons, List.map_nil, Act.eval, Array.getD_eq_getD_getElem?, Option.getD_some, e25, e27, e28]; rfl)) ?_
      with_reducible refine (impl_MovesCrowd.calls k t285 t286 t287 t288 a2 t289 t290 _ A12.out).mono ?_
      rintro e w33 ⟨rfl, hb⟩
      refine ⟨_, rfl, ?_⟩
      have n0_ := bkb BK276 hb
      have n1_ := bkb BK277 hb
      have n2_ := bkb BK284 hb
      have n3_ := bst HB hb
      have z_BK291 := fun (h0_ : b 9 = true) (h1_ : b 10 = false) => (show w33.heap[gb291]? = some (.cells (mixA (Value.int .u16) [] (LA.zero 40)) 28 (0, 0)) from by first | exact (blk_below (g := gb291) (o := .cells (mixA (Value.int .u16) [] (LA.zero 40)) 28 (0, 0)) (by (with_reducible repeat (first | refine blk_drewN ?_ _ | refine blk_drew ?_ | refine blk_alloc ?_ _)); exact (Q_BK291 h0_ h1_)) hb))
      clear BK276
      clear BK277
      clear BK284
      clear HB
      have BK276 := n0_
      have BK277 := n1_
      have BK284 := n2_
      have HB := n3_
      clear n0_ n1_ n2_ n3_
      (try clear hb)
      (try clear hb2)
      (try clear hk)
      (try clear hi)
      refine hK.out _ _ ⟨gb291, m9_, (by rw [ha.out]; exact putSel_upk 4 hb_ rfl rfl rfl), (pk BK276), (pk BK277), (pk BK284), (pbs HB), z_BK291, Q_GW291, Q_GE291, Q_NB276_291, Q_NB291_276, Q_NB277_291, Q_NB291_277, Q_NB284_291, Q_NB291_284, fun h0_ => absurd ((hoff 10 (by kernel_rfl)).symm.trans h0_) (by decide), Q_X9_⟩
     refine steps_cons ?_ ?_
     ·rintro b a w' ⟨gb291, m9_, ha, Q_BK276, Q_BK277, Q_BK284, Q_HB, Q_BK291, Q_GW291, Q_GE291, Q_NB276_291, Q_NB291_276, Q_NB277_291, Q_NB291_277, Q_NB284_291, Q_NB291_284, Q_BK291_e10, Q_X9_⟩ hb_ hon hoff
      refine ⟨_, rfl, fun K hK => ?_⟩
      have e29 : a.tmps[29]? = some (.tuple #[.agg (mixA (Value.int .u16) [] t289), .int .i64 t290]) := by rw [ha]; exact putSel_on (e := (5, 29, .tuple #[.agg (mixA (Value.int .u16) [] t289), .int .i64 t290])) 4 rfl rfl (hon 5 (by kernel_rfl)) rfl
      replace ha := Aside0.mk ha
      have BK276 := Aside0.mk Q_BK276
      have BK277 := Aside0.mk Q_BK277
      have BK284 := Aside0.mk Q_BK284
      have HB := Aside0.mk Q_HB
      refine value_ (w1 := w') (v := .tuple #[.agg (mixA (Value.int .u16) [] t289), .int .i64 t290]) (by rfl) rfl ?_ ?_
      ·go_simp
       (try simp only [i64_w])
       try rfl
      refine hK.out _ _ ⟨gb291, m9_, (by rw [ha.out]; exact putSel_upk 5 hb_ rfl rfl rfl), Q_BK276, Q_BK277, Q_BK284, Q_HB, Q_BK291, Q_GW291, Q_GE291, Q_NB276_291, Q_NB291_276, Q_NB277_291, Q_NB291_277, Q_NB284_291, Q_NB291_284, fun h0_ => absurd ((hoff 10 (by kernel_rfl)).symm.trans h0_) (by decide), Q_X9_⟩
     refine steps_cons ?_ ?_
     ·rintro b a w' ⟨gb291, m9_, ha, Q_BK276, Q_BK277, Q_BK284, Q_HB, Q_BK291, Q_GW291, Q_GE291, Q_NB276_291, Q_NB291_276, Q_NB277_291, Q_NB291_277, Q_NB284_291, Q_NB291_284, Q_BK291_e10, Q_X9_⟩ hb_ hon hoff
      refine ⟨_, rfl, fun K hK => ?_⟩
      have e23 : a.tmps[23]? = some (.tuple #[.agg (mixA (Value.int .u16) [] t289), .int .i64 t290]) := by rw [ha]; exact putSel_on (e := (6, 23, .tuple #[.agg (mixA (Value.int .u16) [] t289), .int .i64 t290])) 5 rfl rfl (hon 6 (by kernel_rfl)) rfl
      replace ha := Aside0.mk ha
      have BK276 := Aside0.mk Q_BK276
      have BK277 := Aside0.mk Q_BK277
      have BK284 := Aside0.mk Q_BK284
      have HB := Aside0.mk Q_HB
      refine value_ (w1 := w') (v := .agg (mixA (Value.int .u16) [] t289)) (by rfl) rfl ?_ ?_
      ·go_simp
       (try simp only [i64_w])
       try rfl
      refine hK.out _ _ ⟨gb291, m9_, (by rw [ha.out]; exact putSel_upk 6 hb_ rfl rfl rfl), Q_BK276, Q_BK277, Q_BK284, Q_HB, Q_BK291, Q_GW291, Q_GE291, Q_NB276_291, Q_NB291_276, Q_NB277_291, Q_NB291_277, Q_NB284_291, Q_NB291_284, fun h0_ => absurd ((hoff 10 (by kernel_rfl)).symm.trans h0_) (by decide), Q_X9_⟩
     refine steps_cons ?_ ?_
     ·rintro b a w' ⟨gb291, m9_, ha, Q_BK276, Q_BK277, Q_BK284, Q_HB, Q_BK291, Q_GW291, Q_GE291, Q_NB276_291, Q_NB291_276, Q_NB277_291, Q_NB291_277, Q_NB284_291, Q_NB291_284, Q_BK291_e10, Q_X9_⟩ hb_ hon hoff
      refine ⟨_, rfl, fun K hK => ?_⟩
      have e23 : a.tmps[23]? = some (.tuple #[.agg (mixA (Value.int .u16) [] t289), .int .i64 t290]) := by rw [ha]; exact putSel_on (e := (6, 23, .tuple #[.agg (mixA (Value.int .u16) [] t289), .int .i64 t290])) 5 rfl rfl (hon 6 (by kernel_rfl)) rfl
      replace ha := Aside0.mk ha
      have BK276 := Aside0.mk Q_BK276
      have BK277 := Aside0.mk Q_BK277
      have BK284 := Aside0.mk Q_BK284
      have HB := Aside0.mk Q_HB
      refine value_ (w1 := w') (v := .int .i64 t290) (by rfl) rfl ?_ ?_
      ·go_simp
       (try simp only [i64_w])
       try rfl
      refine hK.out _ _ ⟨gb291, m9_, (by rw [ha.out]; exact putSel_upk 7 hb_ rfl rfl rfl), Q_BK276, Q_BK277, Q_BK284, Q_HB, Q_BK291, Q_GW291, Q_GE291, Q_NB276_291, Q_NB291_276, Q_NB277_291, Q_NB291_277, Q_NB284_291, Q_NB291_284, Q_BK291_e10, Q_X9_⟩
     refine steps_cons ?_ ?_
     ·rintro b a w' ⟨gb291, m9_, ha, Q_BK276, Q_BK277, Q_BK284, Q_HB, Q_BK291, Q_GW291, Q_GE291, Q_NB276_291, Q_NB291_276, Q_NB277_291, Q_NB291_277, Q_NB284_291, Q_NB291_284, Q_BK291_e10, Q_X9_⟩ hb_ hon hoff
      refine ⟨_, rfl, fun K hK => ?_⟩
      replace ha := Aside0.mk ha
      have BK276 := Aside0.mk Q_BK276
      have BK277 := Aside0.mk Q_BK277
      have BK284 := Aside0.mk Q_BK284
      have HB := Aside0.mk Q_HB
      refine box_step ?hg (N := 9) ?hd (cs := (mixA (Value.int .u16) [] (LA.zero 40))) (t := 28) ?hr ?_; (case hd => rfl); (case hg => rfl); (case hr => first | (go_simp; done) | (go_simp; rfl))
      intro gb291 hg w30 hbox hb
      have n0_ := bkb BK276 hb
      have n1_ := bkb BK277 hb
      have n2_ := bkb BK284 hb
      have n3_ := bst HB hb
      have n4_ := Aside0.mk (hbox)
      have n5_ := gwl HB hg
      have n6_ := gwl HB hg
      have n7_ := nbl BK276 hg
      have n8_ := nbg BK276 hg
      have n9_ := nbl BK277 hg
      have n10_ := nbg BK277 hg
      have n11_ := nbl BK284 hg
      have n12_ := nbg BK284 hg
      clear BK276
      clear BK277
      clear BK284
      clear HB
      have BK276 := n0_
      have BK277 := n1_
      have BK284 := n2_
      have HB := n3_
      have BK291 := n4_
      have GW291 := n5_
      have GE291 := n6_
      have NB276_291 := n7_
      have NB291_276 := n8_
      have NB277_291 := n9_
      have NB291_277 := n10_
      have NB284_291 := n11_
      have NB291_284 := n12_
      clear n0_ n1_ n2_ n3_ n4_ n5_ n6_ n7_ n8_ n9_ n10_ n11_ n12_
      clear hb hbox hg
      refine hK.out _ _ ⟨gb291, (.pointer (some ⟨gb291, 0, none⟩)), (by rw [ha.out]; exact putSel_upk 8 hb_ rfl rfl rfl), (pk BK276), (pk BK277), (pk BK284), (pbs HB), fun _ _ => (pk BK291), fun _ => GW291.out, fun _ => GE291.out, fun _ => NB276_291.out, fun _ => NB291_276.out, fun _ => NB277_291.out, fun _ => NB291_277.out, fun _ => NB284_291.out, fun _ => NB291_284.out, fun h0_ => absurd ((hoff 10 (by kernel_rfl)).symm.trans h0_) (by decide), fun _ => rfl⟩
     refine steps_cons ?_ ?_
     ·rintro b a w' ⟨gb291, m9_, ha, Q_BK276, Q_BK277, Q_BK284, Q_HB, Q_BK291, Q_GW291, Q_GE291, Q_NB276_291, Q_NB291_276, Q_NB277_291, Q_NB291_277, Q_NB284_291, Q_NB291_284, Q_BK291_e10, Q_X9_⟩ hb_ hon hoff
      refine ⟨_, rfl, fun K hK => ?_⟩
      have e9 : a.tmps[9]? = some (m9_) := by rw [ha]; exact putSel_on (e := (9, 9, m9_)) 8 rfl rfl (hon 9 (by kernel_rfl)) rfl
      rw [Q_X9_ (hon 9 (by kernel_rfl))] at e9
      have e30 : a.tmps[30]? = some (.agg (mixA (Value.int .u16) [] t289)) := by rw [ha]; exact putSel_on (e := (7, 30, .agg (mixA (Value.int .u16) [] t289))) 6 rfl rfl (hon 7 (by kernel_rfl)) rfl
      replace ha := Aside0.mk ha
      have BK276 := Aside0.mk Q_BK276
      have BK277 := Aside0.mk Q_BK277
      have BK284 := Aside0.mk Q_BK284
      have HB := Aside0.mk Q_HB
      have BK291 := Aside0.mk (Q_BK291 (hon 9 (by kernel_rfl)) hb_)
      have GW291 := Aside0.mk (Q_GW291 (hon 9 (by kernel_rfl)))
      have GE291 := Aside0.mk (Q_GE291 (hon 9 (by kernel_rfl)))
      have NB276_291 := Aside0.mk (Q_NB276_291 (hon 9 (by kernel_rfl)))
      have NB291_276 := Aside0.mk (Q_NB291_276 (hon 9 (by kernel_rfl)))
      have NB277_291 := Aside0.mk (Q_NB277_291 (hon 9 (by kernel_rfl)))
      have NB291_277 := Aside0.mk (Q_NB291_277 (hon 9 (by kernel_rfl)))
      have NB284_291 := Aside0.mk (Q_NB284_291 (hon 9 (by kernel_rfl)))
      have NB291_284 := Aside0.mk (Q_NB291_284 (hon 9 (by kernel_rfl)))
      refine step_store_lmix (by rfl) rfl 28 _ _ rfl gb291 (e := (Value.int .u16)) (cs' := []) (W' := t289) (cs := []) (W := (LA.zero 40)) (T := 28) (by first | (simp only [List.map_toArray, List.map_cons, List.map_nil, Act.eval, Array.getD_eq_getD_getElem?, Option.getD_some, e9, e30]; done) | (simp only [List.map_toArray, List.map_cons, List.map_nil, Act.eval, Array.getD_eq_getD_getElem?, Option.getD_some, e9, e30]; rfl)) (by first | (simp only [List.map_toArray, List.map_cons, List.map_nil, Act.eval, Array.getD_eq_getD_getElem?, Option.getD_some, e9, e30]; done) | (simp only [List.map_toArray, List.map_cons, List.map_nil, Act.eval, Array.getD_eq_getD_getElem?, Option.getD_some, e9, e30]; rfl)) (pk BK291) rfl (by kernel_rfl) rfl (fun _ => rfl) rfl ?_
      intro w35 hi hk hbl
      have n0_ := Aside0.mk (KeepBut.blk hk (g' := gb276) (o := .cells (mixA (Value.int .u16) [.int .i8 a0_0, .int .i8 a0_1] a0_2) 26 (0, 0)) (pk BK276) NB276_291.out (by simp))
      have n1_ := Aside0.mk (KeepBut.blk hk (g' := gb277) (o := .cells (mixA (Value.int .u16) [] a1) 27 (0, 0)) (pk BK277) NB277_291.out (by simp))
      have n2_ := Aside0.mk (KeepBut.blk hk (g' := gb284) (o := .cells (mixA (Value.int .u16) [] t282) 28 (0, 0)) (pk BK284) NB284_291.out (by simp))
      have n3_ := Aside0.mk (hbl _ _ (pbs HB) GE291.out)
      have n4_ := Aside0.mk (hi)
      clear BK276
      clear BK277
      clear BK284
      clear HB
      clear BK291
      have BK276 := n0_
      have BK277 := n1_
      have BK284 := n2_
      have HB := n3_
      have BK291 := n4_
      clear n0_ n1_ n2_ n3_ n4_
      clear hi hk hbl
      refine hK.out _ _ ⟨gb291, m9_, (by rw [ha.out]; exact putSel_none (v := undef) rfl), (pk BK276), (pk BK277), (pk BK284), (pbs HB), fun _ h1_ => absurd ((up_self b 10).symm.trans h1_) (by decide), fun _ => GW291.out, fun _ => GE291.out, fun _ => NB276_291.out, fun _ => NB291_276.out, fun _ => NB277_291.out, fun _ => NB291_277.out, fun _ => NB284_291.out, fun _ => NB291_284.out, fun _ => (pk BK291), Q_X9_⟩
     refine steps_cons ?_ ?_
     ·rintro b a w' ⟨gb291, m9_, ha, Q_BK276, Q_BK277, Q_BK284, Q_HB, Q_BK291, Q_GW291, Q_GE291, Q_NB276_291, Q_NB291_276, Q_NB277_291, Q_NB291_277, Q_NB284_291, Q_NB291_284, Q_BK291_e10, Q_X9_⟩ hb_ hon hoff
      refine ⟨_, rfl, fun K hK => ?_⟩
      have e31 : a.tmps[31]? = some (.int .i64 t290) := by rw [ha]; exact putSel_on (e := (8, 31, .int .i64 t290)) 7 rfl rfl (hon 8 (by kernel_rfl)) rfl
      replace ha := Aside0.mk ha
      have BK276 := Aside0.mk Q_BK276
      have BK277 := Aside0.mk Q_BK277
      have BK284 := Aside0.mk Q_BK284
      have HB := Aside0.mk Q_HB
      have GW291 := Aside0.mk (Q_GW291 (hon 9 (by kernel_rfl)))
      have GE291 := Aside0.mk (Q_GE291 (hon 9 (by kernel_rfl)))
      have NB276_291 := Aside0.mk (Q_NB276_291 (hon 9 (by kernel_rfl)))
      have NB291_276 := Aside0.mk (Q_NB291_276 (hon 9 (by kernel_rfl)))
      have NB277_291 := Aside0.mk (Q_NB277_291 (hon 9 (by kernel_rfl)))
      have NB291_277 := Aside0.mk (Q_NB291_277 (hon 9 (by kernel_rfl)))
      have NB284_291 := Aside0.mk (Q_NB284_291 (hon 9 (by kernel_rfl)))
      have NB291_284 := Aside0.mk (Q_NB291_284 (hon 9 (by kernel_rfl)))
      have BK291 := Aside0.mk (Q_BK291_e10 (hon 10 (by kernel_rfl)))
      refine value_ (w1 := w') (v := .int .i64 t290) (by rfl) rfl ?_ ?_
      ·go_simp
       (try simp only [i64_w])
       try rfl
      refine hK.out _ _ ⟨gb291, m9_, (by rw [ha.out]; exact putSel_upk 9 hb_ rfl rfl rfl), Q_BK276, Q_BK277, Q_BK284, Q_HB, fun _ h1_ => absurd ((hon 10 (by kernel_rfl)).symm.trans h1_) (by decide), Q_GW291, Q_GE291, Q_NB276_291, Q_NB291_276, Q_NB277_291, Q_NB291_277, Q_NB284_291, Q_NB291_284, Q_BK291_e10, Q_X9_⟩
     exact steps_nil
    rintro b a w35 hall ⟨gb291, m9_, ha, Q_BK276, Q_BK277, Q_BK284, Q_HB, Q_BK291, Q_GW291, Q_GE291, Q_NB276_291, Q_NB291_276, Q_NB277_291, Q_NB291_277, Q_NB284_291, Q_NB291_284, Q_BK291_e10, Q_X9_⟩
    clear BK276 BK277 BK284 HB
    have hb0_ := hall 0 (by kernel_rfl)
    have hb1_ := hall 1 (by kernel_rfl)
    have hb2_ := hall 2 (by kernel_rfl)
    have hb3_ := hall 3 (by kernel_rfl)
    have hb5_ := hall 5 (by kernel_rfl)
    have hb6_ := hall 6 (by kernel_rfl)
    have hb7_ := hall 7 (by kernel_rfl)
    have hb8_ := hall 8 (by kernel_rfl)
    have hb9_ := hall 9 (by kernel_rfl)
    have hb10_ := hall 10 (by kernel_rfl)
    have hb11_ := hall 11 (by kernel_rfl)
    subst ha
    obtain rfl := (Q_X9_ hb9_).symm
    simp only [putSel, hb0_, hb1_, hb2_, hb3_, hb5_, hb6_, hb7_, hb8_, hb9_, hb10_, hb11_, if_true, Act.put, List.setIfInBounds_toArray, List.set_cons_zero, List.set_cons_succ]
    have BK276 := Aside0.mk Q_BK276
    clear Q_BK276
    have BK277 := Aside0.mk Q_BK277
    clear Q_BK277
    have BK284 := Aside0.mk Q_BK284
    clear Q_BK284
    have HB := Aside0.mk Q_HB
    clear Q_HB
    clear Q_BK291
    have GW291 := Aside0.mk (Q_GW291 hb9_)
    clear Q_GW291
    have GE291 := Aside0.mk (Q_GE291 hb9_)
    clear Q_GE291
    have NB276_291 := Aside0.mk (Q_NB276_291 hb9_)
    clear Q_NB276_291
    have NB291_276 := Aside0.mk (Q_NB291_276 hb9_)
    clear Q_NB291_276
    have NB277_291 := Aside0.mk (Q_NB277_291 hb9_)
    clear Q_NB277_291
    have NB291_277 := Aside0.mk (Q_NB291_277 hb9_)
    clear Q_NB291_277
    have NB284_291 := Aside0.mk (Q_NB284_291 hb9_)
    clear Q_NB284_291
    have NB291_284 := Aside0.mk (Q_NB291_284 hb9_)
    clear Q_NB291_284
    have BK291 := Aside0.mk (Q_BK291_e10 hb10_)
    clear Q_BK291_e10
    clear hall hb0_ hb1_ hb2_ hb3_ hb5_ hb6_ hb7_ hb8_ hb9_ hb10_ hb11_
    try go_wp2_with (first | ((with_reducible refine gate_dst (N := 32) rfl ?_); refine wpList_run0 (v := .agg (mixA (Value.int .u16) [] t289)) rfl (load_mix_run (P := Tryd.prog) 28 (.tmp 9) rfl gb291 rfl (show World.rangeAt _ gb291 0 ([] ++ t289.l.map (Value.int .u16)) from mix_range (show (World.heap _)[gb291]? = some (.cells (mixA (Value.int .u16) [] t289) 28 (0, 0)) from by (with_reducible repeat (first | refine blk_drewN ?_ _ | refine blk_drew ?_ | refine blk_alloc ?_ _)); exact BK291.out)) Tryd.underlying28 rfl (by kernel_rfl) rfl) ?_) | ((with_reducible refine gate_dst (N := 33) rfl ?_); refine wpList_run0 (v := .agg (mixA (Value.int .u16) [] t282)) rfl (load_mix_run (P := Tryd.prog) 28 (.tmp 7) rfl gb284 rfl (show World.rangeAt _ gb284 0 ([] ++ t282.l.map (Value.int .u16)) from mix_range (show (World.heap _)[gb284]? = some (.cells (mixA (Value.int .u16) [] t282) 28 (0, 0)) from by (with_reducible repeat (first | refine blk_drewN ?_ _ | refine blk_drew ?_ | refine blk_alloc ?_ _)); exact BK284.out)) Tryd.underlying28 rfl (by kernel_rfl) rfl) ?_) | ((with_reducible refine gate_callee (f := 10) rfl ?_); refine goesL_ (some 34) rfl rfl Tryd.func10 (by kernel_rfl) rfl #[.agg (mixA (Value.int .u16) [] t289), .agg (mixA (Value.int .u16) [] t282)] rfl (by (try simp only [List.map_toArray, List.map_cons, List.map_nil]); first | done | rfl | (simp only [List.length_drop, List.length_take]; rfl)) ?_; (with_reducible refine (laws_eqCrowd.calls k t289 t282 true _ A13.out).mono ?_); rintro e w42 ⟨rfl, hb⟩; refine ⟨_, rfl, ?_⟩; have n0_ := bkb BK276 hb; have n1_ := bkb BK277 hb; have n2_ := bkb BK284 hb; have n3_ := bkb BK291 hb; have n4_ := bst HB hb; clear BK276; clear BK277; clear BK284; clear BK291; clear HB; have BK276 := n0_; have BK277 := n1_; have BK284 := n2_; have BK291 := n3_; have HB := n4_; clear n0_ n1_ n2_ n3_ n4_; (try clear hb); (try clear hb2); (try clear hk); (try clear hi)))
    go_ret
    exact ⟨by first | rfl | (simp [errW_none, errW_some] <;> rfl) | (simp [*, errW_none, errW_some] <;> rfl), pbs HB⟩
   ·rw [if_neg c15] at H
    have c15b0 : (t290 == t283) = false := beq_eq_false_iff_ne.mpr c15
    have c15b1 : (t290 != t283) = true := bne_iff_ne.mpr c15
    obtain rfl := Option.some.inj H
    go_enter Tryd.func5, Tryd.ntmps5
    try go_wp2_with (first | ((with_reducible refine gate_dst (N := 3) rfl ?_); refine box_event ?hg (N := 3) ?hd (cs := (mixA (Value.int .u16) [.int .i8 a0_0, .int .i8 a0_1] a0_2)) (t := 26) ?hr ?_; (case hd => rfl); (case hg => rfl); (case hr => first | (go_simp; done) | (go_simp; rfl)); intro gb276 hg w43 hbox hb; have n0_ := bst HB hb; have n1_ := Aside0.mk (hbox); have n2_ := gwl HB hg; have n3_ := gwl HB hg; clear HB; have HB := n0_; have BK276 := n1_; have GW276 := n2_; have GE276 := n3_; clear n0_ n1_ n2_ n3_; clear hb hbox hg) | ((with_reducible refine gate_dst (N := 4) rfl ?_); refine box_event ?hg (N := 4) ?hd (cs := (mixA (Value.int .u16) [] a1)) (t := 27) ?hr ?_; (case hd => rfl); (case hg => rfl); (case hr => first | (go_simp; done) | (go_simp; rfl)); intro gb277 hg w44 hbox hb; have n0_ := bkb BK276 hb; have n1_ := bst HB hb; have n2_ := Aside0.mk (hbox); have n3_ := gwl HB hg; have n4_ := gwl HB hg; have n5_ := nbl BK276 hg; have n6_ := nbg BK276 hg; clear BK276; clear HB; have BK276 := n0_; have HB := n1_; have BK277 := n2_; have GW277 := n3_; have GE277 := n4_; have NB276_277 := n5_; have NB277_276 := n6_; clear n0_ n1_ n2_ n3_ n4_ n5_ n6_; clear hb hbox hg))
    have n0_ := Aside0.mk (blk_drew BK276.out)
    have n1_ := Aside0.mk (blk_drew BK277.out)
    have n2_ := Aside0.mk (below_drew1 HB.out)
    clear BK276
    clear BK277
    clear HB
    have BK276 := n0_
    have BK277 := n1_
    have HB := n2_
    clear n0_ n1_ n2_
    refine start_ (n := 12) (S := fun w' => True) (ds := []) #[false, false, false, false, false, false, false, false, false, false, false, false] (by kernel_rfl) rfl rfl trivial (fun hHeld => ?_); refine with_tabW laws_FnExactMovesCrowd.tab3 laws_FnExactMovesCrowd.bits3 (fun HT_ HW_ => ?_)
    generalize w44.drew = w45 at BK276 BK277 HB hHeld ⊢
    refine pure_ (i := 4) (N := some 19) (v := ?_) (a' := ?_) #[false, false, false, false, true, false, false, false, false, false, false, false] rfl rfl (any_of HT_.out (by kernel_rfl)) (fun _ _ _ h => h) (Or.inl ⟨by rfl, ?_⟩) ?_ ?_
    rotate_left
    ·intro w'
     go_simp
     with_reducible rfl
    rotate_left
    ·simp only [Act.put, List.setIfInBounds_toArray, List.set_cons_zero, List.set_cons_succ, i64_w, i32_w]
     rfl
    refine inv_at [0, 1, 2, 3, 5, 6, 7, 8, 9, 10, 11] (fun a0_ b a w' => ∃ (gb284 : Nat) (m9_ : Value), a = putSel a0_ b [(0, 15, .agg (mixA (Value.int .u16) [.int .i8 a0_0, .int .i8 a0_1] a0_2)), (1, 16, .agg (mixA (Value.int .u16) [.int .i8 t278, .int .i8 t279] t280)), (2, 17, .agg (mixA (Value.int .u16) [] a1)), (3, 18, .agg (mixA (Value.int .u16) [] t281)), (5, 20, .tuple #[.agg (mixA (Value.int .u16) [] t282), .int .i64 t283]), (6, 14, .tuple #[.agg (mixA (Value.int .u16) [] t282), .int .i64 t283]), (7, 21, .agg (mixA (Value.int .u16) [] t282)), (8, 22, .int .i64 t283), (9, 7, m9_), (11, 8, .int .i64 t283)] ∧ (w'.heap[gb276]? = some (.cells (mixA (Value.int .u16) [.int .i8 a0_0, .int .i8 a0_1] a0_2) 26 (0, 0))) ∧ (w'.heap[gb277]? = some (.cells (mixA (Value.int .u16) [] a1) 27 (0, 0))) ∧ (Below w.heap.size w w') ∧ (b 9 = true → b 10 = false → w'.heap[gb284]? = some (.cells (mixA (Value.int .u16) [] (LA.zero 40)) 28 (0, 0))) ∧ (b 9 = true → w.heap.size ≤ gb284) ∧ (b 9 = true → w.heap.size ≤ gb284) ∧ (b 9 = true → gb276 ≠ gb284) ∧ (b 9 = true → gb284 ≠ gb276) ∧ (b 9 = true → gb277 ≠ gb284) ∧ (b 9 = true → gb284 ≠ gb277) ∧ (b 10 = true → w'.heap[gb284]? = some (.cells (mixA (Value.int .u16) [] t282) 28 (0, 0))) ∧ (b 9 = true → (m9_ : Value) = .pointer (some ⟨gb284, 0, none⟩))) HT_.out HW_.out (by kernel_rfl) (by kernel_rfl) ?_ ?_ ?_
    ·exact ⟨0, .bool false, by simp only [putSel, Bool.false_eq_true, if_false], BK276.out, BK277.out, HB.out, fun h_ => absurd h_ (by decide), fun h_ => absurd h_ (by decide), fun h_ => absurd h_ (by decide), fun h_ => absurd h_ (by decide), fun h_ => absurd h_ (by decide), fun h_ => absurd h_ (by decide), fun h_ => absurd h_ (by decide), fun h_ => absurd h_ (by decide), fun h_ => absurd h_ (by decide)⟩
    ·skip
     clear BK276 BK277 HB
     refine steps_cons ?_ ?_
     ·rintro b a w' ⟨gb284, m9_, ha, Q_BK276, Q_BK277, Q_HB, Q_BK284, Q_GW284, Q_GE284, Q_NB276_284, Q_NB284_276, Q_NB277_284, Q_NB284_277, Q_BK284_e10, Q_X9_⟩ hb_ hon hoff
      refine ⟨_, rfl, fun K hK => ?_⟩
      have e3 : a.tmps[3]? = some (.pointer (some ⟨gb276, 0, none⟩)) := by rw [ha]; exact (putSel_off rfl).trans rfl
      replace ha := Aside0.mk ha
      have BK276 := Aside0.mk Q_BK276
      have BK277 := Aside0.mk Q_BK277
      have HB := Aside0.mk Q_HB
      have hL_ : World.rangeAt w' gb276 0 ([.int .i8 a0_0, .int .i8 a0_1] ++ a0_2.l.map (Value.int .u16)) := mix_range BK276.out
      refine value_ (w1 := w') (v := .agg (mixA (Value.int .u16) [.int .i8 a0_0, .int .i8 a0_1] a0_2)) (by rfl) rfl ?_ ?_
      ·exact load_mix_run (P := Tryd.prog) 26 (.tmp 3) rfl gb276 (by simp only [Act.eval, Array.getD_eq_getD_getElem?, e3, Option.getD_some]) hL_ Tryd.underlying26 rfl (by kernel_rfl) rfl
      refine hK.out _ _ ⟨gb284, m9_, (by rw [ha.out]; exact putSel_upk 0 hb_ rfl rfl rfl), Q_BK276, Q_BK277, Q_HB, Q_BK284, Q_GW284, Q_GE284, Q_NB276_284, Q_NB284_276, Q_NB277_284, Q_NB284_277, fun h0_ => absurd ((hoff 10 (by kernel_rfl)).symm.trans h0_) (by decide), Q_X9_⟩
     refine steps_cons ?_ ?_
     ·rintro b a w' ⟨gb284, m9_, ha, Q_BK276, Q_BK277, Q_HB, Q_BK284, Q_GW284, Q_GE284, Q_NB276_284, Q_NB284_276, Q_NB277_284, Q_NB284_277, Q_BK284_e10, Q_X9_⟩ hb_ hon hoff
      refine ⟨_, rfl, fun K hK => ?_⟩
      have e15 : a.tmps[15]? = some (.agg (mixA (Value.int .u16) [.int .i8 a0_0, .int .i8 a0_1] a0_2)) := by rw [ha]; exact putSel_on (e := (0, 15, .agg (mixA (Value.int .u16) [.int .i8 a0_0, .int .i8 a0_1] a0_2))) 0 rfl rfl (hon 0 (by kernel_rfl)) rfl
      replace ha := Aside0.mk ha
      have BK276 := Aside0.mk Q_BK276
      have BK277 := Aside0.mk Q_BK277
      have HB := Aside0.mk Q_HB
      refine goes_ Tryd.func8 (by kernel_rfl) rfl #[.agg (mixA (Value.int .u16) [.int .i8 a0_0, .int .i8 a0_1] a0_2)] (by rfl) rfl rfl (by first | (simp only [List.map_toArray, List.map_cons, List.map_nil, Act.eval, Array.getD_eq_getD_getElem?, Option.getD_some, e15]; done) | (simp only [List.map_toArray, List.map_cons, List.map_nil, Act.eval, Array.getD_eq_getD_getElem?, Option.getD_some, e15]; rfl)) ?_
      with_reducible refine (laws_toRoom.calls k a0_0 a0_1 a0_2 t278 t279 t280 _ A7.out).mono ?_
      rintro e w46 ⟨rfl, hb⟩
      refine ⟨_, rfl, ?_⟩
      have n0_ := bkb BK276 hb
      have n1_ := bkb BK277 hb
      have n2_ := bst HB hb
      have z_BK284 := fun (h0_ : b 9 = true) (h1_ : b 10 = false) => (show w46.heap[gb284]? = some (.cells (mixA (Value.int .u16) [] (LA.zero 40)) 28 (0, 0)) from by first | exact (blk_below (g := gb284) (o := .cells (mixA (Value.int .u16) [] (LA.zero 40)) 28 (0, 0)) (by (with_reducible repeat (first | refine blk_drewN ?_ _ | refine blk_drew ?_ | refine blk_alloc ?_ _)); exact (Q_BK284 h0_ h1_)) hb))
      clear BK276
      clear BK277
      clear HB
      have BK276 := n0_
      have BK277 := n1_
      have HB := n2_
      clear n0_ n1_ n2_
      (try clear hb)
      (try clear hb2)
      (try clear hk)
      (try clear hi)
      refine hK.out _ _ ⟨gb284, m9_, (by rw [ha.out]; exact putSel_upk 1 hb_ rfl rfl rfl), (pk BK276), (pk BK277), (pbs HB), z_BK284, Q_GW284, Q_GE284, Q_NB276_284, Q_NB284_276, Q_NB277_284, Q_NB284_277, fun h0_ => absurd ((hoff 10 (by kernel_rfl)).symm.trans h0_) (by decide), Q_X9_⟩
     refine steps_cons ?_ ?_
     ·rintro b a w' ⟨gb284, m9_, ha, Q_BK276, Q_BK277, Q_HB, Q_BK284, Q_GW284, Q_GE284, Q_NB276_284, Q_NB284_276, Q_NB277_284, Q_NB284_277, Q_BK284_e10, Q_X9_⟩ hb_ hon hoff
      refine ⟨_, rfl, fun K hK => ?_⟩
      have e4 : a.tmps[4]? = some (.pointer (some ⟨gb277, 0, none⟩)) := by rw [ha]; exact (putSel_off rfl).trans rfl
      replace ha := Aside0.mk ha
      have BK276 := Aside0.mk Q_BK276
      have BK277 := Aside0.mk Q_BK277
      have HB := Aside0.mk Q_HB
      have hL_ : World.rangeAt w' gb277 0 ([] ++ a1.l.map (Value.int .u16)) := mix_range BK277.out
      refine value_ (w1 := w') (v := .agg (mixA (Value.int .u16) [] a1)) (by rfl) rfl ?_ ?_
      ·exact load_mix_run (P := Tryd.prog) 27 (.tmp 4) rfl gb277 (by simp only [Act.eval, Array.getD_eq_getD_getElem?, e4, Option.getD_some]) hL_ Tryd.underlying27 rfl (by kernel_rfl) rfl
      refine hK.out _ _ ⟨gb284, m9_, (by rw [ha.out]; exact putSel_upk 2 hb_ rfl rfl rfl), Q_BK276, Q_BK277, Q_HB, Q_BK284, Q_GW284, Q_GE284, Q_NB276_284, Q_NB284_276, Q_NB277_284, Q_NB284_277, fun h0_ => absurd ((hoff 10 (by kernel_rfl)).symm.trans h0_) (by decide), Q_X9_⟩
     refine steps_cons ?_ ?_
     ·rintro b a w' ⟨gb284, m9_, ha, Q_BK276, Q_BK277, Q_HB, Q_BK284, Q_GW284, Q_GE284, Q_NB276_284, Q_NB284_276, Q_NB277_284, Q_NB284_277, Q_BK284_e10, Q_X9_⟩ hb_ hon hoff
      refine ⟨_, rfl, fun K hK => ?_⟩
      have e17 : a.tmps[17]? = some (.agg (mixA (Value.int .u16) [] a1)) := by rw [ha]; exact putSel_on (e := (2, 17, .agg (mixA (Value.int .u16) [] a1))) 2 rfl rfl (hon 2 (by kernel_rfl)) rfl
      replace ha := Aside0.mk ha
      have BK276 := Aside0.mk Q_BK276
      have BK277 := Aside0.mk Q_BK277
      have HB := Aside0.mk Q_HB
      refine goes_ Tryd.func12 (by kernel_rfl) rfl #[.agg (mixA (Value.int .u16) [] a1)] (by rfl) rfl rfl (by first | (simp only [List.map_toArray, List.map_cons, List.map_nil, Act.eval, Array.getD_eq_getD_getElem?, Option.getD_some, e17]; done) | (simp only [List.map_toArray, List.map_cons, List.map_nil, Act.eval, Array.getD_eq_getD_getElem?, Option.getD_some, e17]; rfl)) ?_
      with_reducible refine (laws_toCrowd.calls k a1 t281 _ A8.out).mono ?_
      rintro e w48 ⟨rfl, hb⟩
      refine ⟨_, rfl, ?_⟩
      have n0_ := bkb BK276 hb
      have n1_ := bkb BK277 hb
      have n2_ := bst HB hb
      have z_BK284 := fun (h0_ : b 9 = true) (h1_ : b 10 = false) => (show w48.heap[gb284]? = some (.cells (mixA (Value.int .u16) [] (LA.zero 40)) 28 (0, 0)) from by first | exact (blk_below (g := gb284) (o := .cells (mixA (Value.int .u16) [] (LA.zero 40)) 28 (0, 0)) (by (with_reducible repeat (first | refine blk_drewN ?_ _ | refine blk_drew ?_ | refine blk_alloc ?_ _)); exact (Q_BK284 h0_ h1_)) hb))
      clear BK276
      clear BK277
      clear HB
      have BK276 := n0_
      have BK277 := n1_
      have HB := n2_
      clear n0_ n1_ n2_
      (try clear hb)
      (try clear hb2)
      (try clear hk)
      (try clear hi)
      refine hK.out _ _ ⟨gb284, m9_, (by rw [ha.out]; exact putSel_upk 3 hb_ rfl rfl rfl), (pk BK276), (pk BK277), (pbs HB), z_BK284, Q_GW284, Q_GE284, Q_NB276_284, Q_NB284_276, Q_NB277_284, Q_NB284_277, fun h0_ => absurd ((hoff 10 (by kernel_rfl)).symm.trans h0_) (by decide), Q_X9_⟩
     refine steps_cons ?_ ?_
     ·rintro b a w' ⟨gb284, m9_, ha, Q_BK276, Q_BK277, Q_HB, Q_BK284, Q_GW284, Q_GE284, Q_NB276_284, Q_NB284_276, Q_NB277_284, Q_NB284_277, Q_BK284_e10, Q_X9_⟩ hb_ hon hoff
      refine ⟨_, rfl, fun K hK => ?_⟩
      have e16 : a.tmps[16]? = some (.agg (mixA (Value.int .u16) [.int .i8 t278, .int .i8 t279] t280)) := by rw [ha]; exact putSel_on (e := (1, 16, .agg (mixA (Value.int .u16) [.int .i8 t278, .int .i8 t279] t280))) 1 rfl rfl (hon 1 (by kernel_rfl)) rfl
      have e18 : a.tmps[18]? = some (.agg (mixA (Value.int .u16) [] t281)) := by rw [ha]; exact putSel_on (e := (3, 18, .agg (mixA (Value.int .u16) [] t281))) 3 rfl rfl (hon 3 (by kernel_rfl)) rfl
      have e19 : a.tmps[19]? = some (.string a2) := by rw [ha]; exact (putSel_off rfl).trans rfl
      replace ha := Aside0.mk ha
      have BK276 := Aside0.mk Q_BK276
      have BK277 := Aside0.mk Q_BK277
      have HB := Aside0.mk Q_HB
      refine goes_ Tryd.func14 (by kernel_rfl) rfl #[.agg (mixA (Value.int .u16) [.int .i8 t278, .int .i8 t279] t280), .agg (mixA (Value.int .u16) [] t281), .string a2] (by rfl) rfl rfl (by first | (simp only [List.map_toArray, List.map_cons, List.map_nil, Act.eval, Array.getD_eq_getD_getElem?, Option.getD_some, e16, e18, e19]; done) | (simp only [List.map_toArray, List.map_cons, List.map_nil, Act.eval, Array.getD_eq_getD_getElem?, Option.getD_some, e16, e18, e19]; rfl)) ?_
      with_reducible refine (spec_MovesCrowd.calls k t278 t279 t280 t281 a2 t282 t283 _ A9.out).mono ?_
      rintro e w49 ⟨rfl, hb⟩
      refine ⟨_, rfl, ?_⟩
      have n0_ := bkb BK276 hb
      have n1_ := bkb BK277 hb
      have n2_ := bst HB hb
      have z_BK284 := fun (h0_ : b 9 = true) (h1_ : b 10 = false) => (show w49.heap[gb284]? = some (.cells (mixA (Value.int .u16) [] (LA.zero 40)) 28 (0, 0)) from by first | exact (blk_below (g := gb284) (o := .cells (mixA (Value.int .u16) [] (LA.zero 40)) 28 (0, 0)) (by (with_reducible repeat (first | refine blk_drewN ?_ _ | refine blk_drew ?_ | refine blk_alloc ?_ _)); exact (Q_BK284 h0_ h1_)) hb))
      clear BK276
      clear BK277
      clear HB
      have BK276 := n0_
      have BK277 := n1_
      have HB := n2_
      clear n0_ n1_ n2_
      (try clear hb)
      (try clear hb2)
      (try clear hk)
      (try clear hi)
      refine hK.out _ _ ⟨gb284, m9_, (by rw [ha.out]; exact putSel_upk 4 hb_ rfl rfl rfl), (pk BK276), (pk BK277), (pbs HB), z_BK284, Q_GW284, Q_GE284, Q_NB276_284, Q_NB284_276, Q_NB277_284, Q_NB284_277, fun h0_ => absurd ((hoff 10 (by kernel_rfl)).symm.trans h0_) (by decide), Q_X9_⟩
     refine steps_cons ?_ ?_
     ·rintro b a w' ⟨gb284, m9_, ha, Q_BK276, Q_BK277, Q_HB, Q_BK284, Q_GW284, Q_GE284, Q_NB276_284, Q_NB284_276, Q_NB277_284, Q_NB284_277, Q_BK284_e10, Q_X9_⟩ hb_ hon hoff
      refine ⟨_, rfl, fun K hK => ?_⟩
      have e20 : a.tmps[20]? = some (.tuple #[.agg (mixA (Value.int .u16) [] t282), .int .i64 t283]) := by rw [ha]; exact putSel_on (e := (5, 20, .tuple #[.agg (mixA (Value.int .u16) [] t282), .int .i64 t283])) 4 rfl rfl (hon 5 (by kernel_rfl)) rfl
      replace ha := Aside0.mk ha
      have BK276 := Aside0.mk Q_BK276
      have BK277 := Aside0.mk Q_BK277
      have HB := Aside0.mk Q_HB
      refine value_ (w1 := w') (v := .tuple #[.agg (mixA (Value.int .u16) [] t282), .int .i64 t283]) (by rfl) rfl ?_ ?_
      ·go_simp
       (try simp only [i64_w])
       try rfl
      refine hK.out _ _ ⟨gb284, m9_, (by rw [ha.out]; exact putSel_upk 5 hb_ rfl rfl rfl), Q_BK276, Q_BK277, Q_HB, Q_BK284, Q_GW284, Q_GE284, Q_NB276_284, Q_NB284_276, Q_NB277_284, Q_NB284_277, fun h0_ => absurd ((hoff 10 (by kernel_rfl)).symm.trans h0_) (by decide), Q_X9_⟩
     refine steps_cons ?_ ?_
     ·rintro b a w' ⟨gb284, m9_, ha, Q_BK276, Q_BK277, Q_HB, Q_BK284, Q_GW284, Q_GE284, Q_NB276_284, Q_NB284_276, Q_NB277_284, Q_NB284_277, Q_BK284_e10, Q_X9_⟩ hb_ hon hoff
      refine ⟨_, rfl, fun K hK => ?_⟩
      have e14 : a.tmps[14]? = some (.tuple #[.agg (mixA (Value.int .u16) [] t282), .int .i64 t283]) := by rw [ha]; exact putSel_on (e := (6, 14, .tuple #[.agg (mixA (Value.int .u16) [] t282), .int .i64 t283])) 5 rfl rfl (hon 6 (by kernel_rfl)) rfl
      replace ha := Aside0.mk ha
      have BK276 := Aside0.mk Q_BK276
      have BK277 := Aside0.mk Q_BK277
      have HB := Aside0.mk Q_HB
      refine value_ (w1 := w') (v := .agg (mixA (Value.int .u16) [] t282)) (by rfl) rfl ?_ ?_
      ·go_simp
       (try simp only [i64_w])
       try rfl
      refine hK.out _ _ ⟨gb284, m9_, (by rw [ha.out]; exact putSel_upk 6 hb_ rfl rfl rfl), Q_BK276, Q_BK277, Q_HB, Q_BK284, Q_GW284, Q_GE284, Q_NB276_284, Q_NB284_276, Q_NB277_284, Q_NB284_277, fun h0_ => absurd ((hoff 10 (by kernel_rfl)).symm.trans h0_) (by decide), Q_X9_⟩
     refine steps_cons ?_ ?_
     ·rintro b a w' ⟨gb284, m9_, ha, Q_BK276, Q_BK277, Q_HB, Q_BK284, Q_GW284, Q_GE284, Q_NB276_284, Q_NB284_276, Q_NB277_284, Q_NB284_277, Q_BK284_e10, Q_X9_⟩ hb_ hon hoff
      refine ⟨_, rfl, fun K hK => ?_⟩
      have e14 : a.tmps[14]? = some (.tuple #[.agg (mixA (Value.int .u16) [] t282), .int .i64 t283]) := by rw [ha]; exact putSel_on (e := (6, 14, .tuple #[.agg (mixA (Value.int .u16) [] t282), .int .i64 t283])) 5 rfl rfl (hon 6 (by kernel_rfl)) rfl
      replace ha := Aside0.mk ha
      have BK276 := Aside0.mk Q_BK276
      have BK277 := Aside0.mk Q_BK277
      have HB := Aside0.mk Q_HB
      refine value_ (w1 := w') (v := .int .i64 t283) (by rfl) rfl ?_ ?_
      ·go_simp
       (try simp only [i64_w])
       try rfl
      refine hK.out _ _ ⟨gb284, m9_, (by rw [ha.out]; exact putSel_upk 7 hb_ rfl rfl rfl), Q_BK276, Q_BK277, Q_HB, Q_BK284, Q_GW284, Q_GE284, Q_NB276_284, Q_NB284_276, Q_NB277_284, Q_NB284_277, Q_BK284_e10, Q_X9_⟩
     refine steps_cons ?_ ?_
     ·rintro b a w' ⟨gb284, m9_, ha, Q_BK276, Q_BK277, Q_HB, Q_BK284, Q_GW284, Q_GE284, Q_NB276_284, Q_NB284_276, Q_NB277_284, Q_NB284_277, Q_BK284_e10, Q_X9_⟩ hb_ hon hoff
      refine ⟨_, rfl, fun K hK => ?_⟩
      replace ha := Aside0.mk ha
      have BK276 := Aside0.mk Q_BK276
      have BK277 := Aside0.mk Q_BK277
      have HB := Aside0.mk Q_HB
      refine box_step ?hg (N := 7) ?hd (cs := (mixA (Value.int .u16) [] (LA.zero 40))) (t := 28) ?hr ?_; (case hd => rfl); (case hg => rfl); (case hr => first | (go_simp; done) | (go_simp; rfl))
      intro gb284 hg w46 hbox hb
      have n0_ := bkb BK276 hb
      have n1_ := bkb BK277 hb
      have n2_ := bst HB hb
      have n3_ := Aside0.mk (hbox)
      have n4_ := gwl HB hg
      have n5_ := gwl HB hg
      have n6_ := nbl BK276 hg
      have n7_ := nbg BK276 hg
      have n8_ := nbl BK277 hg
      have n9_ := nbg BK277 hg
      clear BK276
      clear BK277
      clear HB
      have BK276 := n0_
      have BK277 := n1_
      have HB := n2_
      have BK284 := n3_
      have GW284 := n4_
      have GE284 := n5_
      have NB276_284 := n6_
      have NB284_276 := n7_
      have NB277_284 := n8_
      have NB284_277 := n9_
      clear n0_ n1_ n2_ n3_ n4_ n5_ n6_ n7_ n8_ n9_
      clear hb hbox hg
      refine hK.out _ _ ⟨gb284, (.pointer (some ⟨gb284, 0, none⟩)), (by rw [ha.out]; exact putSel_upk 8 hb_ rfl rfl rfl), (pk BK276), (pk BK277), (pbs HB), fun _ _ => (pk BK284), fun _ => GW284.out, fun _ => GE284.out, fun _ => NB276_284.out, fun _ => NB284_276.out, fun _ => NB277_284.out, fun _ => NB284_277.out, fun h0_ => absurd ((hoff 10 (by kernel_rfl)).symm.trans h0_) (by decide), fun _ => rfl⟩
     refine steps_cons ?_ ?_
     ·rintro b a w' ⟨gb284, m9_, ha, Q_BK276, Q_BK277, Q_HB, Q_BK284, Q_GW284, Q_GE284, Q_NB276_284, Q_NB284_276, Q_NB277_284, Q_NB284_277, Q_BK284_e10, Q_X9_⟩ hb_ hon hoff
      refine ⟨_, rfl, fun K hK => ?_⟩
      have e7 : a.tmps[7]? = some (m9_) := by rw [ha]; exact putSel_on (e := (9, 7, m9_)) 8 rfl rfl (hon 9 (by kernel_rfl)) rfl
      rw [Q_X9_ (hon 9 (by kernel_rfl))] at e7
      have e21 : a.tmps[21]? = some (.agg (mixA (Value.int .u16) [] t282)) := by rw [ha]; exact putSel_on (e := (7, 21, .agg (mixA (Value.int .u16) [] t282))) 6 rfl rfl (hon 7 (by kernel_rfl)) rfl
      replace ha := Aside0.mk ha
      have BK276 := Aside0.mk Q_BK276
      have BK277 := Aside0.mk Q_BK277
      have HB := Aside0.mk Q_HB
      have BK284 := Aside0.mk (Q_BK284 (hon 9 (by kernel_rfl)) hb_)
      have GW284 := Aside0.mk (Q_GW284 (hon 9 (by kernel_rfl)))
      have GE284 := Aside0.mk (Q_GE284 (hon 9 (by kernel_rfl)))
      have NB276_284 := Aside0.mk (Q_NB276_284 (hon 9 (by kernel_rfl)))
      have NB284_276 := Aside0.mk (Q_NB284_276 (hon 9 (by kernel_rfl)))
      have NB277_284 := Aside0.mk (Q_NB277_284 (hon 9 (by kernel_rfl)))
      have NB284_277 := Aside0.mk (Q_NB284_277 (hon 9 (by kernel_rfl)))
      refine step_store_lmix (by rfl) rfl 28 _ _ rfl gb284 (e := (Value.int .u16)) (cs' := []) (W' := t282) (cs := []) (W := (LA.zero 40)) (T := 28) (by first | (simp only [List.map_toArray, List.map_cons, List.map_nil, Act.eval, Array.getD_eq_getD_getElem?, Option.getD_some, e7, e21]; done) | (simp only [List.map_toArray, List.map_cons, List.map_nil, Act.eval, Array.getD_eq_getD_getElem?, Option.getD_some, e7, e21]; rfl)) (by first | (simp only [List.map_toArray, List.map_cons, List.map_nil, Act.eval, Array.getD_eq_getD_getElem?, Option.getD_some, e7, e21]; done) | (simp only [List.map_toArray, List.map_cons, List.map_nil, Act.eval, Array.getD_eq_getD_getElem?, Option.getD_some, e7, e21]; rfl)) (pk BK284) rfl (by kernel_rfl) rfl (fun _ => rfl) rfl ?_
      intro w51 hi hk hbl
      have n0_ := Aside0.mk (KeepBut.blk hk (g' := gb276) (o := .cells (mixA (Value.int .u16) [.int .i8 a0_0, .int .i8 a0_1] a0_2) 26 (0, 0)) (pk BK276) NB276_284.out (by simp))
      have n1_ := Aside0.mk (KeepBut.blk hk (g' := gb277) (o := .cells (mixA (Value.int .u16) [] a1) 27 (0, 0)) (pk BK277) NB277_284.out (by simp))
      have n2_ := Aside0.mk (hbl _ _ (pbs HB) GE284.out)
      have n3_ := Aside0.mk (hi)
      clear BK276
      clear BK277
      clear HB
      clear BK284
      have BK276 := n0_
      have BK277 := n1_
      have HB := n2_
      have BK284 := n3_
      clear n0_ n1_ n2_ n3_
      clear hi hk hbl
      refine hK.out _ _ ⟨gb284, m9_, (by rw [ha.out]; exact putSel_none (v := undef) rfl), (pk BK276), (pk BK277), (pbs HB), fun _ h1_ => absurd ((up_self b 10).symm.trans h1_) (by decide), fun _ => GW284.out, fun _ => GE284.out, fun _ => NB276_284.out, fun _ => NB284_276.out, fun _ => NB277_284.out, fun _ => NB284_277.out, fun _ => (pk BK284), Q_X9_⟩
     refine steps_cons ?_ ?_
     ·rintro b a w' ⟨gb284, m9_, ha, Q_BK276, Q_BK277, Q_HB, Q_BK284, Q_GW284, Q_GE284, Q_NB276_284, Q_NB284_276, Q_NB277_284, Q_NB284_277, Q_BK284_e10, Q_X9_⟩ hb_ hon hoff
      refine ⟨_, rfl, fun K hK => ?_⟩
      have e22 : a.tmps[22]? = some (.int .i64 t283) := by rw [ha]; exact putSel_on (e := (8, 22, .int .i64 t283)) 7 rfl rfl (hon 8 (by kernel_rfl)) rfl
      replace ha := Aside0.mk ha
      have BK276 := Aside0.mk Q_BK276
      have BK277 := Aside0.mk Q_BK277
      have HB := Aside0.mk Q_HB
      have GW284 := Aside0.mk (Q_GW284 (hon 9 (by kernel_rfl)))
      have GE284 := Aside0.mk (Q_GE284 (hon 9 (by kernel_rfl)))
      have NB276_284 := Aside0.mk (Q_NB276_284 (hon 9 (by kernel_rfl)))
      have NB284_276 := Aside0.mk (Q_NB284_276 (hon 9 (by kernel_rfl)))
      have NB277_284 := Aside0.mk (Q_NB277_284 (hon 9 (by kernel_rfl)))
      have NB284_277 := Aside0.mk (Q_NB284_277 (hon 9 (by kernel_rfl)))
      have BK284 := Aside0.mk (Q_BK284_e10 (hon 10 (by kernel_rfl)))
      refine value_ (w1 := w') (v := .int .i64 t283) (by rfl) rfl ?_ ?_
      ·go_simp
       (try simp only [i64_w])
       try rfl
      refine hK.out _ _ ⟨gb284, m9_, (by rw [ha.out]; exact putSel_upk 9 hb_ rfl rfl rfl), Q_BK276, Q_BK277, Q_HB, fun _ h1_ => absurd ((hon 10 (by kernel_rfl)).symm.trans h1_) (by decide), Q_GW284, Q_GE284, Q_NB276_284, Q_NB284_276, Q_NB277_284, Q_NB284_277, Q_BK284_e10, Q_X9_⟩
     exact steps_nil
    rintro b a w51 hall ⟨gb284, m9_, ha, Q_BK276, Q_BK277, Q_HB, Q_BK284, Q_GW284, Q_GE284, Q_NB276_284, Q_NB284_276, Q_NB277_284, Q_NB284_277, Q_BK284_e10, Q_X9_⟩
    clear BK276 BK277 HB
    have hb0_ := hall 0 (by kernel_rfl)
    have hb1_ := hall 1 (by kernel_rfl)
    have hb2_ := hall 2 (by kernel_rfl)
    have hb3_ := hall 3 (by kernel_rfl)
    have hb5_ := hall 5 (by kernel_rfl)
    have hb6_ := hall 6 (by kernel_rfl)
    have hb7_ := hall 7 (by kernel_rfl)
    have hb8_ := hall 8 (by kernel_rfl)
    have hb9_ := hall 9 (by kernel_rfl)
    have hb10_ := hall 10 (by kernel_rfl)
    have hb11_ := hall 11 (by kernel_rfl)
    subst ha
    obtain rfl := (Q_X9_ hb9_).symm
    simp only [putSel, hb0_, hb1_, hb2_, hb3_, hb5_, hb6_, hb7_, hb8_, hb9_, hb10_, hb11_, if_true, Act.put, List.setIfInBounds_toArray, List.set_cons_zero, List.set_cons_succ]
    have BK276 := Aside0.mk Q_BK276
    clear Q_BK276
    have BK277 := Aside0.mk Q_BK277
    clear Q_BK277
    have HB := Aside0.mk Q_HB
    clear Q_HB
    clear Q_BK284
    have GW284 := Aside0.mk (Q_GW284 hb9_)
    clear Q_GW284
    have GE284 := Aside0.mk (Q_GE284 hb9_)
    clear Q_GE284
    have NB276_284 := Aside0.mk (Q_NB276_284 hb9_)
    clear Q_NB276_284
    have NB284_276 := Aside0.mk (Q_NB284_276 hb9_)
    clear Q_NB284_276
    have NB277_284 := Aside0.mk (Q_NB277_284 hb9_)
    clear Q_NB277_284
    have NB284_277 := Aside0.mk (Q_NB284_277 hb9_)
    clear Q_NB284_277
    have BK284 := Aside0.mk (Q_BK284_e10 hb10_)
    clear Q_BK284_e10
    clear hall hb0_ hb1_ hb2_ hb3_ hb5_ hb6_ hb7_ hb8_ hb9_ hb10_ hb11_
    try go_wp2
    have n0_ := Aside0.mk (blk_drew BK276.out)
    have n1_ := Aside0.mk (blk_drew BK277.out)
    have n2_ := Aside0.mk (blk_drew BK284.out)
    have n3_ := Aside0.mk (below_drew1 HB.out)
    clear BK276
    clear BK277
    clear BK284
    clear HB
    have BK276 := n0_
    have BK277 := n1_
    have BK284 := n2_
    have HB := n3_
    clear n0_ n1_ n2_ n3_
    refine start_ (n := 12) (S := fun w' => True) (ds := []) #[false, false, false, false, false, false, false, false, false, false, false, false] (by kernel_rfl) rfl rfl trivial (fun hHeld => ?_); refine with_tabW laws_FnExactMovesCrowd.tab4 laws_FnExactMovesCrowd.bits4 (fun HT_ HW_ => ?_)
    generalize w51.drew = w56 at BK276 BK277 BK284 HB hHeld ⊢
    refine pure_ (i := 4) (N := some 28) (v := ?_) (a' := ?_) #[false, false, false, false, true, false, false, false, false, false, false, false] rfl rfl (any_of HT_.out (by kernel_rfl)) (fun _ _ _ h => h) (Or.inl ⟨by rfl, ?_⟩) ?_ ?_
    rotate_left
    ·intro w'
     go_simp
     with_reducible rfl
    rotate_left
    ·simp only [Act.put, List.setIfInBounds_toArray, List.set_cons_zero, List.set_cons_succ, i64_w, i32_w]
     rfl
    refine inv_at [0, 1, 2, 3, 5, 6, 7, 8, 9, 10, 11] (fun a0_ b a w' => ∃ (gb291 : Nat) (m9_ : Value), a = putSel a0_ b [(0, 24, .agg (mixA (Value.int .u16) [.int .i8 a0_0, .int .i8 a0_1] a0_2)), (1, 25, .agg (mixA (Value.int .u16) [.int .i8 t285, .int .i8 t286] t287)), (2, 26, .agg (mixA (Value.int .u16) [] a1)), (3, 27, .agg (mixA (Value.int .u16) [] t288)), (5, 29, .tuple #[.agg (mixA (Value.int .u16) [] t289), .int .i64 t290]), (6, 23, .tuple #[.agg (mixA (Value.int .u16) [] t289), .int .i64 t290]), (7, 30, .agg (mixA (Value.int .u16) [] t289)), (8, 31, .int .i64 t290), (9, 9, m9_), (11, 10, .int .i64 t290)] ∧ (w'.heap[gb276]? = some (.cells (mixA (Value.int .u16) [.int .i8 a0_0, .int .i8 a0_1] a0_2) 26 (0, 0))) ∧ (w'.heap[gb277]? = some (.cells (mixA (Value.int .u16) [] a1) 27 (0, 0))) ∧ (w'.heap[gb284]? = some (.cells (mixA (Value.int .u16) [] t282) 28 (0, 0))) ∧ (Below w.heap.size w w') ∧ (b 9 = true → b 10 = false → w'.heap[gb291]? = some (.cells (mixA (Value.int .u16) [] (LA.zero 40)) 28 (0, 0))) ∧ (b 9 = true → w.heap.size ≤ gb291) ∧ (b 9 = true → w.heap.size ≤ gb291) ∧ (b 9 = true → gb276 ≠ gb291) ∧ (b 9 = true → gb291 ≠ gb276) ∧ (b 9 = true → gb277 ≠ gb291) ∧ (b 9 = true → gb291 ≠ gb277) ∧ (b 9 = true → gb284 ≠ gb291) ∧ (b 9 = true → gb291 ≠ gb284) ∧ (b 10 = true → w'.heap[gb291]? = some (.cells (mixA (Value.int .u16) [] t289) 28 (0, 0))) ∧ (b 9 = true → (m9_ : Value) = .pointer (some ⟨gb291, 0, none⟩))) HT_.out HW_.out (by kernel_rfl) (by kernel_rfl) ?_ ?_ ?_
    ·exact ⟨0, .bool false, by simp only [putSel, Bool.false_eq_true, if_false], BK276.out, BK277.out, BK284.out, HB.out, fun h_ => absurd h_ (by decide), fun h_ => absurd h_ (by decide), fun h_ => absurd h_ (by decide), fun h_ => absurd h_ (by decide), fun h_ => absurd h_ (by decide), fun h_ => absurd h_ (by decide), fun h_ => absurd h_ (by decide), fun h_ => absurd h_ (by decide), fun h_ => absurd h_ (by decide), fun h_ => absurd h_ (by decide), fun h_ => absurd h_ (by decide)⟩
    ·skip
     clear BK276 BK277 BK284 HB
     refine steps_cons ?_ ?_
     ·rintro b a w' ⟨gb291, m9_, ha, Q_BK276, Q_BK277, Q_BK284, Q_HB, Q_BK291, Q_GW291, Q_GE291, Q_NB276_291, Q_NB291_276, Q_NB277_291, Q_NB291_277, Q_NB284_291, Q_NB291_284, Q_BK291_e10, Q_X9_⟩ hb_ hon hoff
      refine ⟨_, rfl, fun K hK => ?_⟩
      have e3 : a.tmps[3]? = some (.pointer (some ⟨gb276, 0, none⟩)) := by rw [ha]; exact (putSel_off rfl).trans rfl
      replace ha := Aside0.mk ha
      have BK276 := Aside0.mk Q_BK276
      have BK277 := Aside0.mk Q_BK277
      have BK284 := Aside0.mk Q_BK284
      have HB := Aside0.mk Q_HB
      have hL_ : World.rangeAt w' gb276 0 ([.int .i8 a0_0, .int .i8 a0_1] ++ a0_2.l.map (Value.int .u16)) := mix_range BK276.out
      refine value_ (w1 := w') (v := .agg (mixA (Value.int .u16) [.int .i8 a0_0, .int .i8 a0_1] a0_2)) (by rfl) rfl ?_ ?_
      ·exact load_mix_run (P := Tryd.prog) 26 (.tmp 3) rfl gb276 (by simp only [Act.eval, Array.getD_eq_getD_getElem?, e3, Option.getD_some]) hL_ Tryd.underlying26 rfl (by kernel_rfl) rfl
      refine hK.out _ _ ⟨gb291, m9_, (by rw [ha.out]; exact putSel_upk 0 hb_ rfl rfl rfl), Q_BK276, Q_BK277, Q_BK284, Q_HB, Q_BK291, Q_GW291, Q_GE291, Q_NB276_291, Q_NB291_276, Q_NB277_291, Q_NB291_277, Q_NB284_291, Q_NB291_284, fun h0_ => absurd ((hoff 10 (by kernel_rfl)).symm.trans h0_) (by decide), Q_X9_⟩
     refine steps_cons ?_ ?_
     ·rintro b a w' ⟨gb291, m9_, ha, Q_BK276, Q_BK277, Q_BK284, Q_HB, Q_BK291, Q_GW291, Q_GE291, Q_NB276_291, Q_NB291_276, Q_NB277_291, Q_NB291_277, Q_NB284_291, Q_NB291_284, Q_BK291_e10, Q_X9_⟩ hb_ hon hoff
      refine ⟨_, rfl, fun K hK => ?_⟩
      have e24 : a.tmps[24]? = some (.agg (mixA (Value.int .u16) [.int .i8 a0_0, .int .i8 a0_1] a0_2)) := by rw [ha]; exact putSel_on (e := (0, 24, .agg (mixA (Value.int .u16) [.int .i8 a0_0, .int .i8 a0_1] a0_2))) 0 rfl rfl (hon 0 (by kernel_rfl)) rfl
      replace ha := Aside0.mk ha
      have BK276 := Aside0.mk Q_BK276
      have BK277 := Aside0.mk Q_BK277
      have BK284 := Aside0.mk Q_BK284
      have HB := Aside0.mk Q_HB
      refine goes_ Tryd.func8 (by kernel_rfl) rfl #[.agg (mixA (Value.int .u16) [.int .i8 a0_0, .int .i8 a0_1] a0_2)] (by rfl) rfl rfl (by first | (simp only [List.map_toArray, List.map_cons, List.map_nil, Act.eval, Array.getD_eq_getD_getElem?, Option.getD_some, e24]; done) | (simp only [List.map_toArray, List.map_cons, List.map_nil, Act.eval, Array.getD_eq_getD_getElem?, Option.getD_some, e24]; rfl)) ?_
      with_reducible refine (laws_toRoom.calls k a0_0 a0_1 a0_2 t285 t286 t287 _ A10.out).mono ?_
      rintro e w57 ⟨rfl, hb⟩
      refine ⟨_, rfl, ?_⟩
      have n0_ := bkb BK276 hb
      have n1_ := bkb BK277 hb
      have n2_ := bkb BK284 hb
      have n3_ := bst HB hb
      have z_BK291 := fun (h0_ : b 9 = true) (h1_ : b 10 = false) => (show w57.heap[gb291]? = some (.cells (mixA (Value.int .u16) [] (LA.zero 40)) 28 (0, 0)) from by first | exact (blk_below (g := gb291) (o := .cells (mixA (Value.int .u16) [] (LA.zero 40)) 28 (0, 0)) (by (with_reducible repeat (first | refine blk_drewN ?_ _ | refine blk_drew ?_ | refine blk_alloc ?_ _)); exact (Q_BK291 h0_ h1_)) hb))
      clear BK276
      clear BK277
      clear BK284
      clear HB
      have BK276 := n0_
      have BK277 := n1_
      have BK284 := n2_
      have HB := n3_
      clear n0_ n1_ n2_ n3_
      (try clear hb)
      (try clear hb2)
      (try clear hk)
      (try clear hi)
      refine hK.out _ _ ⟨gb291, m9_, (by rw [ha.out]; exact putSel_upk 1 hb_ rfl rfl rfl), (pk BK276), (pk BK277), (pk BK284), (pbs HB), z_BK291, Q_GW291, Q_GE291, Q_NB276_291, Q_NB291_276, Q_NB277_291, Q_NB291_277, Q_NB284_291, Q_NB291_284, fun h0_ => absurd ((hoff 10 (by kernel_rfl)).symm.trans h0_) (by decide), Q_X9_⟩
     refine steps_cons ?_ ?_
     ·rintro b a w' ⟨gb291, m9_, ha, Q_BK276, Q_BK277, Q_BK284, Q_HB, Q_BK291, Q_GW291, Q_GE291, Q_NB276_291, Q_NB291_276, Q_NB277_291, Q_NB291_277, Q_NB284_291, Q_NB291_284, Q_BK291_e10, Q_X9_⟩ hb_ hon hoff
      refine ⟨_, rfl, fun K hK => ?_⟩
      have e4 : a.tmps[4]? = some (.pointer (some ⟨gb277, 0, none⟩)) := by rw [ha]; exact (putSel_off rfl).trans rfl
      replace ha := Aside0.mk ha
      have BK276 := Aside0.mk Q_BK276
      have BK277 := Aside0.mk Q_BK277
      have BK284 := Aside0.mk Q_BK284
      have HB := Aside0.mk Q_HB
      have hL_ : World.rangeAt w' gb277 0 ([] ++ a1.l.map (Value.int .u16)) := mix_range BK277.out
      refine value_ (w1 := w') (v := .agg (mixA (Value.int .u16) [] a1)) (by rfl) rfl ?_ ?_
      ·exact load_mix_run (P := Tryd.prog) 27 (.tmp 4) rfl gb277 (by simp only [Act.eval, Array.getD_eq_getD_getElem?, e4, Option.getD_some]) hL_ Tryd.underlying27 rfl (by kernel_rfl) rfl
      refine hK.out _ _ ⟨gb291, m9_, (by rw [ha.out]; exact putSel_upk 2 hb_ rfl rfl rfl), Q_BK276, Q_BK277, Q_BK284, Q_HB, Q_BK291, Q_GW291, Q_GE291, Q_NB276_291, Q_NB291_276, Q_NB277_291, Q_NB291_277, Q_NB284_291, Q_NB291_284, fun h0_ => absurd ((hoff 10 (by kernel_rfl)).symm.trans h0_) (by decide), Q_X9_⟩
     refine steps_cons ?_ ?_
     ·rintro b a w' ⟨gb291, m9_, ha, Q_BK276, Q_BK277, Q_BK284, Q_HB, Q_BK291, Q_GW291, Q_GE291, Q_NB276_291, Q_NB291_276, Q_NB277_291, Q_NB291_277, Q_NB284_291, Q_NB291_284, Q_BK291_e10, Q_X9_⟩ hb_ hon hoff
      refine ⟨_, rfl, fun K hK => ?_⟩
      have e26 : a.tmps[26]? = some (.agg (mixA (Value.int .u16) [] a1)) := by rw [ha]; exact putSel_on (e := (2, 26, .agg (mixA (Value.int .u16) [] a1))) 2 rfl rfl (hon 2 (by kernel_rfl)) rfl
      replace ha := Aside0.mk ha
      have BK276 := Aside0.mk Q_BK276
      have BK277 := Aside0.mk Q_BK277
      have BK284 := Aside0.mk Q_BK284
      have HB := Aside0.mk Q_HB
      refine goes_ Tryd.func12 (by kernel_rfl) rfl #[.agg (mixA (Value.int .u16) [] a1)] (by rfl) rfl rfl (by first | (simp only [List.map_toArray, List.map_cons, List.map_nil, Act.eval, Array.getD_eq_getD_getElem?, Option.getD_some, e26]; done) | (simp only [List.map_toArray, List.map_cons, List.map_nil, Act.eval, Array.getD_eq_getD_getElem?, Option.getD_some, e26]; rfl)) ?_
      with_reducible refine (laws_toCrowd.calls k a1 t288 _ A11.out).mono ?_
      rintro e w59 ⟨rfl, hb⟩
      refine ⟨_, rfl, ?_⟩
      have n0_ := bkb BK276 hb
      have n1_ := bkb BK277 hb
      have n2_ := bkb BK284 hb
      have n3_ := bst HB hb
      have z_BK291 := fun (h0_ : b 9 = true) (h1_ : b 10 = false) => (show w59.heap[gb291]? = some (.cells (mixA (Value.int .u16) [] (LA.zero 40)) 28 (0, 0)) from by first | exact (blk_below (g := gb291) (o := .cells (mixA (Value.int .u16) [] (LA.zero 40)) 28 (0, 0)) (by (with_reducible repeat (first | refine blk_drewN ?_ _ | refine blk_drew ?_ | refine blk_alloc ?_ _)); exact (Q_BK291 h0_ h1_)) hb))
      clear BK276
      clear BK277
      clear BK284
      clear HB
      have BK276 := n0_
      have BK277 := n1_
      have BK284 := n2_
      have HB := n3_
      clear n0_ n1_ n2_ n3_
      (try clear hb)
      (try clear hb2)
      (try clear hk)
      (try clear hi)
      refine hK.out _ _ ⟨gb291, m9_, (by rw [ha.out]; exact putSel_upk 3 hb_ rfl rfl rfl), (pk BK276), (pk BK277), (pk BK284), (pbs HB), z_BK291, Q_GW291, Q_GE291, Q_NB276_291, Q_NB291_276, Q_NB277_291, Q_NB291_277, Q_NB284_291, Q_NB291_284, fun h0_ => absurd ((hoff 10 (by kernel_rfl)).symm.trans h0_) (by decide), Q_X9_⟩
     refine steps_cons ?_ ?_
     ·rintro b a w' ⟨gb291, m9_, ha, Q_BK276, Q_BK277, Q_BK284, Q_HB, Q_BK291, Q_GW291, Q_GE291, Q_NB276_291, Q_NB291_276, Q_NB277_291, Q_NB291_277, Q_NB284_291, Q_NB291_284, Q_BK291_e10, Q_X9_⟩ hb_ hon hoff
      refine ⟨_, rfl, fun K hK => ?_⟩
      have e25 : a.tmps[25]? = some (.agg (mixA (Value.int .u16) [.int .i8 t285, .int .i8 t286] t287)) := by rw [ha]; exact putSel_on (e := (1, 25, .agg (mixA (Value.int .u16) [.int .i8 t285, .int .i8 t286] t287))) 1 rfl rfl (hon 1 (by kernel_rfl)) rfl
      have e27 : a.tmps[27]? = some (.agg (mixA (Value.int .u16) [] t288)) := by rw [ha]; exact putSel_on (e := (3, 27, .agg (mixA (Value.int .u16) [] t288))) 3 rfl rfl (hon 3 (by kernel_rfl)) rfl
      have e28 : a.tmps[28]? = some (.string a2) := by rw [ha]; exact (putSel_off rfl).trans rfl
      replace ha := Aside0.mk ha
      have BK276 := Aside0.mk Q_BK276
      have BK277 := Aside0.mk Q_BK277
      have BK284 := Aside0.mk Q_BK284
      have HB := Aside0.mk Q_HB
      refine goes_ Tryd.func15 (by kernel_rfl) rfl #[.agg (mixA (Value.int .u16) [.int .i8 t285, .int .i8 t286] t287), .agg (mixA (Value.int .u16) [] t288), .string a2] (by rfl) rfl rfl (by first | (simp only [List.map_toArray, List.map_cons, List.map_nil, Act.eval, Array.getD_eq_getD_getElem?, Option.getD_some, e25, e27, e28]; done) | (simp only [List.map_toArray, List.map_cons, List.map_nil, Act.eval, Array.getD_eq_getD_getElem?, Option.getD_some, e25, e27, e28]; rfl)) ?_
      with_reducible refine (impl_MovesCrowd.calls k t285 t286 t287 t288 a2 t289 t290 _ A12.out).mono ?_
      rintro e w60 ⟨rfl, hb⟩
      refine ⟨_, rfl, ?_⟩
      have n0_ := bkb BK276 hb
      have n1_ := bkb BK277 hb
      have n2_ := bkb BK284 hb
      have n3_ := bst HB hb
      have z_BK291 := fun (h0_ : b 9 = true) (h1_ : b 10 = false) => (show w60.heap[gb291]? = some (.cells (mixA (Value.int .u16) [] (LA.zero 40)) 28 (0, 0)) from by first | exact (blk_below (g := gb291) (o := .cells (mixA (Value.int .u16) [] (LA.zero 40)) 28 (0, 0)) (by (with_reducible repeat (first | refine blk_drewN ?_ _ | refine blk_drew ?_ | refine blk_alloc ?_ _)); exact (Q_BK291 h0_ h1_)) hb))
      clear BK276
      clear BK277
      clear BK284
      clear HB
      have BK276 := n0_
      have BK277 := n1_
      have BK284 := n2_
      have HB := n3_
      clear n0_ n1_ n2_ n3_
      (try clear hb)
      (try clear hb2)
      (try clear hk)
      (try clear hi)
      refine hK.out _ _ ⟨gb291, m9_, (by rw [ha.out]; exact putSel_upk 4 hb_ rfl rfl rfl), (pk BK276), (pk BK277), (pk BK284), (pbs HB), z_BK291, Q_GW291, Q_GE291, Q_NB276_291, Q_NB291_276, Q_NB277_291, Q_NB291_277, Q_NB284_291, Q_NB291_284, fun h0_ => absurd ((hoff 10 (by kernel_rfl)).symm.trans h0_) (by decide), Q_X9_⟩
     refine steps_cons ?_ ?_
     ·rintro b a w' ⟨gb291, m9_, ha, Q_BK276, Q_BK277, Q_BK284, Q_HB, Q_BK291, Q_GW291, Q_GE291, Q_NB276_291, Q_NB291_276, Q_NB277_291, Q_NB291_277, Q_NB284_291, Q_NB291_284, Q_BK291_e10, Q_X9_⟩ hb_ hon hoff
      refine ⟨_, rfl, fun K hK => ?_⟩
      have e29 : a.tmps[29]? = some (.tuple #[.agg (mixA (Value.int .u16) [] t289), .int .i64 t290]) := by rw [ha]; exact putSel_on (e := (5, 29, .tuple #[.agg (mixA (Value.int .u16) [] t289), .int .i64 t290])) 4 rfl rfl (hon 5 (by kernel_rfl)) rfl
      replace ha := Aside0.mk ha
      have BK276 := Aside0.mk Q_BK276
      have BK277 := Aside0.mk Q_BK277
      have BK284 := Aside0.mk Q_BK284
      have HB := Aside0.mk Q_HB
      refine value_ (w1 := w') (v := .tuple #[.agg (mixA (Value.int .u16) [] t289), .int .i64 t290]) (by rfl) rfl ?_ ?_
      ·go_simp
       (try simp only [i64_w])
       try rfl
      refine hK.out _ _ ⟨gb291, m9_, (by rw [ha.out]; exact putSel_upk 5 hb_ rfl rfl rfl), Q_BK276, Q_BK277, Q_BK284, Q_HB, Q_BK291, Q_GW291, Q_GE291, Q_NB276_291, Q_NB291_276, Q_NB277_291, Q_NB291_277, Q_NB284_291, Q_NB291_284, fun h0_ => absurd ((hoff 10 (by kernel_rfl)).symm.trans h0_) (by decide), Q_X9_⟩
     refine steps_cons ?_ ?_
     ·rintro b a w' ⟨gb291, m9_, ha, Q_BK276, Q_BK277, Q_BK284, Q_HB, Q_BK291, Q_GW291, Q_GE291, Q_NB276_291, Q_NB291_276, Q_NB277_291, Q_NB291_277, Q_NB284_291, Q_NB291_284, Q_BK291_e10, Q_X9_⟩ hb_ hon hoff
      refine ⟨_, rfl, fun K hK => ?_⟩
      have e23 : a.tmps[23]? = some (.tuple #[.agg (mixA (Value.int .u16) [] t289), .int .i64 t290]) := by rw [ha]; exact putSel_on (e := (6, 23, .tuple #[.agg (mixA (Value.int .u16) [] t289), .int .i64 t290])) 5 rfl rfl (hon 6 (by kernel_rfl)) rfl
      replace ha := Aside0.mk ha
      have BK276 := Aside0.mk Q_BK276
      have BK277 := Aside0.mk Q_BK277
      have BK284 := Aside0.mk Q_BK284
      have HB := Aside0.mk Q_HB
      refine value_ (w1 := w') (v := .agg (mixA (Value.int .u16) [] t289)) (by rfl) rfl ?_ ?_
      ·go_simp
       (try simp only [i64_w])
       try rfl
      refine hK.out _ _ ⟨gb291, m9_, (by rw [ha.out]; exact putSel_upk 6 hb_ rfl rfl rfl), Q_BK276, Q_BK277, Q_BK284, Q_HB, Q_BK291, Q_GW291, Q_GE291, Q_NB276_291, Q_NB291_276, Q_NB277_291, Q_NB291_277, Q_NB284_291, Q_NB291_284, fun h0_ => absurd ((hoff 10 (by kernel_rfl)).symm.trans h0_) (by decide), Q_X9_⟩
     refine steps_cons ?_ ?_
     ·rintro b a w' ⟨gb291, m9_, ha, Q_BK276, Q_BK277, Q_BK284, Q_HB, Q_BK291, Q_GW291, Q_GE291, Q_NB276_291, Q_NB291_276, Q_NB277_291, Q_NB291_277, Q_NB284_291, Q_NB291_284, Q_BK291_e10, Q_X9_⟩ hb_ hon hoff
      refine ⟨_, rfl, fun K hK => ?_⟩
      have e23 : a.tmps[23]? = some (.tuple #[.agg (mixA (Value.int .u16) [] t289), .int .i64 t290]) := by rw [ha]; exact putSel_on (e := (6, 23, .tuple #[.agg (mixA (Value.int .u16) [] t289), .int .i64 t290])) 5 rfl rfl (hon 6 (by kernel_rfl)) rfl
      replace ha := Aside0.mk ha
      have BK276 := Aside0.mk Q_BK276
      have BK277 := Aside0.mk Q_BK277
      have BK284 := Aside0.mk Q_BK284
      have HB := Aside0.mk Q_HB
      refine value_ (w1 := w') (v := .int .i64 t290) (by rfl) rfl ?_ ?_
      ·go_simp
       (try simp only [i64_w])
       try rfl
      refine hK.out _ _ ⟨gb291, m9_, (by rw [ha.out]; exact putSel_upk 7 hb_ rfl rfl rfl), Q_BK276, Q_BK277, Q_BK284, Q_HB, Q_BK291, Q_GW291, Q_GE291, Q_NB276_291, Q_NB291_276, Q_NB277_291, Q_NB291_277, Q_NB284_291, Q_NB291_284, Q_BK291_e10, Q_X9_⟩
     refine steps_cons ?_ ?_
     ·rintro b a w' ⟨gb291, m9_, ha, Q_BK276, Q_BK277, Q_BK284, Q_HB, Q_BK291, Q_GW291, Q_GE291, Q_NB276_291, Q_NB291_276, Q_NB277_291, Q_NB291_277, Q_NB284_291, Q_NB291_284, Q_BK291_e10, Q_X9_⟩ hb_ hon hoff
      refine ⟨_, rfl, fun K hK => ?_⟩
      replace ha := Aside0.mk ha
      have BK276 := Aside0.mk Q_BK276
      have BK277 := Aside0.mk Q_BK277
      have BK284 := Aside0.mk Q_BK284
      have HB := Aside0.mk Q_HB
      refine box_step ?hg (N := 9) ?hd (cs := (mixA (Value.int .u16) [] (LA.zero 40))) (t := 28) ?hr ?_; (case hd => rfl); (case hg => rfl); (case hr => first | (go_simp; done) | (go_simp; rfl))
      intro gb291 hg w57 hbox hb
      have n0_ := bkb BK276 hb
      have n1_ := bkb BK277 hb
      have n2_ := bkb BK284 hb
      have n3_ := bst HB hb
      have n4_ := Aside0.mk (hbox)
      have n5_ := gwl HB hg
      have n6_ := gwl HB hg
      have n7_ := nbl BK276 hg
      have n8_ := nbg BK276 hg
      have n9_ := nbl BK277 hg
      have n10_ := nbg BK277 hg
      have n11_ := nbl BK284 hg
      have n12_ := nbg BK284 hg
      clear BK276
      clear BK277
      clear BK284
      clear HB
      have BK276 := n0_
      have BK277 := n1_
      have BK284 := n2_
      have HB := n3_
      have BK291 := n4_
      have GW291 := n5_
      have GE291 := n6_
      have NB276_291 := n7_
      have NB291_276 := n8_
      have NB277_291 := n9_
      have NB291_277 := n10_
      have NB284_291 := n11_
      have NB291_284 := n12_
      clear n0_ n1_ n2_ n3_ n4_ n5_ n6_ n7_ n8_ n9_ n10_ n11_ n12_
      clear hb hbox hg
      refine hK.out _ _ ⟨gb291, (.pointer (some ⟨gb291, 0, none⟩)), (by rw [ha.out]; exact putSel_upk 8 hb_ rfl rfl rfl), (pk BK276), (pk BK277), (pk BK284), (pbs HB), fun _ _ => (pk BK291), fun _ => GW291.out, fun _ => GE291.out, fun _ => NB276_291.out, fun _ => NB291_276.out, fun _ => NB277_291.out, fun _ => NB291_277.out, fun _ => NB284_291.out, fun _ => NB291_284.out, fun h0_ => absurd ((hoff 10 (by kernel_rfl)).symm.trans h0_) (by decide), fun _ => rfl⟩
     refine steps_cons ?_ ?_
     ·rintro b a w' ⟨gb291, m9_, ha, Q_BK276, Q_BK277, Q_BK284, Q_HB, Q_BK291, Q_GW291, Q_GE291, Q_NB276_291, Q_NB291_276, Q_NB277_291, Q_NB291_277, Q_NB284_291, Q_NB291_284, Q_BK291_e10, Q_X9_⟩ hb_ hon hoff
      refine ⟨_, rfl, fun K hK => ?_⟩
      have e9 : a.tmps[9]? = some (m9_) := by rw [ha]; exact putSel_on (e := (9, 9, m9_)) 8 rfl rfl (hon 9 (by kernel_rfl)) rfl
      rw [Q_X9_ (hon 9 (by kernel_rfl))] at e9
      have e30 : a.tmps[30]? = some (.agg (mixA (Value.int .u16) [] t289)) := by rw [ha]; exact putSel_on (e := (7, 30, .agg (mixA (Value.int .u16) [] t289))) 6 rfl rfl (hon 7 (by kernel_rfl)) rfl
      replace ha := Aside0.mk ha
      have BK276 := Aside0.mk Q_BK276
      have BK277 := Aside0.mk Q_BK277
      have BK284 := Aside0.mk Q_BK284
      have HB := Aside0.mk Q_HB
      have BK291 := Aside0.mk (Q_BK291 (hon 9 (by kernel_rfl)) hb_)
      have GW291 := Aside0.mk (Q_GW291 (hon 9 (by kernel_rfl)))
      have GE291 := Aside0.mk (Q_GE291 (hon 9 (by kernel_rfl)))
      have NB276_291 := Aside0.mk (Q_NB276_291 (hon 9 (by kernel_rfl)))
      have NB291_276 := Aside0.mk (Q_NB291_276 (hon 9 (by kernel_rfl)))
      have NB277_291 := Aside0.mk (Q_NB277_291 (hon 9 (by kernel_rfl)))
      have NB291_277 := Aside0.mk (Q_NB291_277 (hon 9 (by kernel_rfl)))
      have NB284_291 := Aside0.mk (Q_NB284_291 (hon 9 (by kernel_rfl)))
      have NB291_284 := Aside0.mk (Q_NB291_284 (hon 9 (by kernel_rfl)))
      refine step_store_lmix (by rfl) rfl 28 _ _ rfl gb291 (e := (Value.int .u16)) (cs' := []) (W' := t289) (cs := []) (W := (LA.zero 40)) (T := 28) (by first | (simp only [List.map_toArray, List.map_cons, List.map_nil, Act.eval, Array.getD_eq_getD_getElem?, Option.getD_some, e9, e30]; done) | (simp only [List.map_toArray, List.map_cons, List.map_nil, Act.eval, Array.getD_eq_getD_getElem?, Option.getD_some, e9, e30]; rfl)) (by first | (simp only [List.map_toArray, List.map_cons, List.map_nil, Act.eval, Array.getD_eq_getD_getElem?, Option.getD_some, e9, e30]; done) | (simp only [List.map_toArray, List.map_cons, List.map_nil, Act.eval, Array.getD_eq_getD_getElem?, Option.getD_some, e9, e30]; rfl)) (pk BK291) rfl (by kernel_rfl) rfl (fun _ => rfl) rfl ?_
      intro w62 hi hk hbl
      have n0_ := Aside0.mk (KeepBut.blk hk (g' := gb276) (o := .cells (mixA (Value.int .u16) [.int .i8 a0_0, .int .i8 a0_1] a0_2) 26 (0, 0)) (pk BK276) NB276_291.out (by simp))
      have n1_ := Aside0.mk (KeepBut.blk hk (g' := gb277) (o := .cells (mixA (Value.int .u16) [] a1) 27 (0, 0)) (pk BK277) NB277_291.out (by simp))
      have n2_ := Aside0.mk (KeepBut.blk hk (g' := gb284) (o := .cells (mixA (Value.int .u16) [] t282) 28 (0, 0)) (pk BK284) NB284_291.out (by simp))
      have n3_ := Aside0.mk (hbl _ _ (pbs HB) GE291.out)
      have n4_ := Aside0.mk (hi)
      clear BK276
      clear BK277
      clear BK284
      clear HB
      clear BK291
      have BK276 := n0_
      have BK277 := n1_
      have BK284 := n2_
      have HB := n3_
      have BK291 := n4_
      clear n0_ n1_ n2_ n3_ n4_
      clear hi hk hbl
      refine hK.out _ _ ⟨gb291, m9_, (by rw [ha.out]; exact putSel_none (v := undef) rfl), (pk BK276), (pk BK277), (pk BK284), (pbs HB), fun _ h1_ => absurd ((up_self b 10).symm.trans h1_) (by decide), fun _ => GW291.out, fun _ => GE291.out, fun _ => NB276_291.out, fun _ => NB291_276.out, fun _ => NB277_291.out, fun _ => NB291_277.out, fun _ => NB284_291.out, fun _ => NB291_284.out, fun _ => (pk BK291), Q_X9_⟩
     refine steps_cons ?_ ?_
     ·rintro b a w' ⟨gb291, m9_, ha, Q_BK276, Q_BK277, Q_BK284, Q_HB, Q_BK291, Q_GW291, Q_GE291, Q_NB276_291, Q_NB291_276, Q_NB277_291, Q_NB291_277, Q_NB284_291, Q_NB291_284, Q_BK291_e10, Q_X9_⟩ hb_ hon hoff
      refine ⟨_, rfl, fun K hK => ?_⟩
      have e31 : a.tmps[31]? = some (.int .i64 t290) := by rw [ha]; exact putSel_on (e := (8, 31, .int .i64 t290)) 7 rfl rfl (hon 8 (by kernel_rfl)) rfl
      replace ha := Aside0.mk ha
      have BK276 := Aside0.mk Q_BK276
      have BK277 := Aside0.mk Q_BK277
      have BK284 := Aside0.mk Q_BK284
      have HB := Aside0.mk Q_HB
      have GW291 := Aside0.mk (Q_GW291 (hon 9 (by kernel_rfl)))
      have GE291 := Aside0.mk (Q_GE291 (hon 9 (by kernel_rfl)))
      have NB276_291 := Aside0.mk (Q_NB276_291 (hon 9 (by kernel_rfl)))
      have NB291_276 := Aside0.mk (Q_NB291_276 (hon 9 (by kernel_rfl)))
      have NB277_291 := Aside0.mk (Q_NB277_291 (hon 9 (by kernel_rfl)))
      have NB291_277 := Aside0.mk (Q_NB291_277 (hon 9 (by kernel_rfl)))
      have NB284_291 := Aside0.mk (Q_NB284_291 (hon 9 (by kernel_rfl)))
      have NB291_284 := Aside0.mk (Q_NB291_284 (hon 9 (by kernel_rfl)))
      have BK291 := Aside0.mk (Q_BK291_e10 (hon 10 (by kernel_rfl)))
      refine value_ (w1 := w') (v := .int .i64 t290) (by rfl) rfl ?_ ?_
      ·go_simp
       (try simp only [i64_w])
       try rfl
      refine hK.out _ _ ⟨gb291, m9_, (by rw [ha.out]; exact putSel_upk 9 hb_ rfl rfl rfl), Q_BK276, Q_BK277, Q_BK284, Q_HB, fun _ h1_ => absurd ((hon 10 (by kernel_rfl)).symm.trans h1_) (by decide), Q_GW291, Q_GE291, Q_NB276_291, Q_NB291_276, Q_NB277_291, Q_NB291_277, Q_NB284_291, Q_NB291_284, Q_BK291_e10, Q_X9_⟩
     exact steps_nil
    rintro b a w62 hall ⟨gb291, m9_, ha, Q_BK276, Q_BK277, Q_BK284, Q_HB, Q_BK291, Q_GW291, Q_GE291, Q_NB276_291, Q_NB291_276, Q_NB277_291, Q_NB291_277, Q_NB284_291, Q_NB291_284, Q_BK291_e10, Q_X9_⟩
    clear BK276 BK277 BK284 HB
    have hb0_ := hall 0 (by kernel_rfl)
    have hb1_ := hall 1 (by kernel_rfl)
    have hb2_ := hall 2 (by kernel_rfl)
    have hb3_ := hall 3 (by kernel_rfl)
    have hb5_ := hall 5 (by kernel_rfl)
    have hb6_ := hall 6 (by kernel_rfl)
    have hb7_ := hall 7 (by kernel_rfl)
    have hb8_ := hall 8 (by kernel_rfl)
    have hb9_ := hall 9 (by kernel_rfl)
    have hb10_ := hall 10 (by kernel_rfl)
    have hb11_ := hall 11 (by kernel_rfl)
    subst ha
    obtain rfl := (Q_X9_ hb9_).symm
    simp only [putSel, hb0_, hb1_, hb2_, hb3_, hb5_, hb6_, hb7_, hb8_, hb9_, hb10_, hb11_, if_true, Act.put, List.setIfInBounds_toArray, List.set_cons_zero, List.set_cons_succ]
    have BK276 := Aside0.mk Q_BK276
    clear Q_BK276
    have BK277 := Aside0.mk Q_BK277
    clear Q_BK277
    have BK284 := Aside0.mk Q_BK284
    clear Q_BK284
    have HB := Aside0.mk Q_HB
    clear Q_HB
    clear Q_BK291
    have GW291 := Aside0.mk (Q_GW291 hb9_)
    clear Q_GW291
    have GE291 := Aside0.mk (Q_GE291 hb9_)
    clear Q_GE291
    have NB276_291 := Aside0.mk (Q_NB276_291 hb9_)
    clear Q_NB276_291
    have NB291_276 := Aside0.mk (Q_NB291_276 hb9_)
    clear Q_NB291_276
    have NB277_291 := Aside0.mk (Q_NB277_291 hb9_)
    clear Q_NB277_291
    have NB291_277 := Aside0.mk (Q_NB291_277 hb9_)
    clear Q_NB291_277
    have NB284_291 := Aside0.mk (Q_NB284_291 hb9_)
    clear Q_NB284_291
    have NB291_284 := Aside0.mk (Q_NB291_284 hb9_)
    clear Q_NB291_284
    have BK291 := Aside0.mk (Q_BK291_e10 hb10_)
    clear Q_BK291_e10
    clear hall hb0_ hb1_ hb2_ hb3_ hb5_ hb6_ hb7_ hb8_ hb9_ hb10_ hb11_
    try go_wp2_with (first | ((with_reducible refine gate_dst (N := 32) rfl ?_); refine wpList_run0 (v := .agg (mixA (Value.int .u16) [] t289)) rfl (load_mix_run (P := Tryd.prog) 28 (.tmp 9) rfl gb291 rfl (show World.rangeAt _ gb291 0 ([] ++ t289.l.map (Value.int .u16)) from mix_range (show (World.heap _)[gb291]? = some (.cells (mixA (Value.int .u16) [] t289) 28 (0, 0)) from by (with_reducible repeat (first | refine blk_drewN ?_ _ | refine blk_drew ?_ | refine blk_alloc ?_ _)); exact BK291.out)) Tryd.underlying28 rfl (by kernel_rfl) rfl) ?_) | ((with_reducible refine gate_dst (N := 33) rfl ?_); refine wpList_run0 (v := .agg (mixA (Value.int .u16) [] t282)) rfl (load_mix_run (P := Tryd.prog) 28 (.tmp 7) rfl gb284 rfl (show World.rangeAt _ gb284 0 ([] ++ t282.l.map (Value.int .u16)) from mix_range (show (World.heap _)[gb284]? = some (.cells (mixA (Value.int .u16) [] t282) 28 (0, 0)) from by (with_reducible repeat (first | refine blk_drewN ?_ _ | refine blk_drew ?_ | refine blk_alloc ?_ _)); exact BK284.out)) Tryd.underlying28 rfl (by kernel_rfl) rfl) ?_) | ((with_reducible refine gate_callee (f := 10) rfl ?_); refine goesL_ (some 34) rfl rfl Tryd.func10 (by kernel_rfl) rfl #[.agg (mixA (Value.int .u16) [] t289), .agg (mixA (Value.int .u16) [] t282)] rfl (by (try simp only [List.map_toArray, List.map_cons, List.map_nil]); first | done | rfl | (simp only [List.length_drop, List.length_take]; rfl)) ?_; (with_reducible refine (laws_eqCrowd.calls k t289 t282 true _ A13.out).mono ?_); rintro e w69 ⟨rfl, hb⟩; refine ⟨_, rfl, ?_⟩; have n0_ := bkb BK276 hb; have n1_ := bkb BK277 hb; have n2_ := bkb BK284 hb; have n3_ := bkb BK291 hb; have n4_ := bst HB hb; clear BK276; clear BK277; clear BK284; clear BK291; clear HB; have BK276 := n0_; have BK277 := n1_; have BK284 := n2_; have BK291 := n3_; have HB := n4_; clear n0_ n1_ n2_ n3_ n4_; (try clear hb); (try clear hb2); (try clear hk); (try clear hi)))
    go_ret
    exact ⟨by first | rfl | (simp [errW_none, errW_some] <;> rfl) | (simp [*, errW_none, errW_some] <;> rfl), pbs HB⟩
  ·replace c14 := Bool.eq_false_iff.mpr c14
   subst c14
   have H1 : (some false) = some r := by rw [if_neg (show ¬ (false = true) by decide)] at H; exact H
   clear H
   have H := H1
   clear H1
   obtain rfl := Option.some.inj H
   go_enter Tryd.func5, Tryd.ntmps5
   try go_wp2_with (first | ((with_reducible refine gate_dst (N := 3) rfl ?_); refine box_event ?hg (N := 3) ?hd (cs := (mixA (Value.int .u16) [.int .i8 a0_0, .int .i8 a0_1] a0_2)) (t := 26) ?hr ?_; (case hd => rfl); (case hg => rfl); (case hr => first | (go_simp; done) | (go_simp; rfl)); intro gb276 hg w70 hbox hb; have n0_ := bst HB hb; have n1_ := Aside0.mk (hbox); have n2_ := gwl HB hg; have n3_ := gwl HB hg; clear HB; have HB := n0_; have BK276 := n1_; have GW276 := n2_; have GE276 := n3_; clear n0_ n1_ n2_ n3_; clear hb hbox hg) | ((with_reducible refine gate_dst (N := 4) rfl ?_); refine box_event ?hg (N := 4) ?hd (cs := (mixA (Value.int .u16) [] a1)) (t := 27) ?hr ?_; (case hd => rfl); (case hg => rfl); (case hr => first | (go_simp; done) | (go_simp; rfl)); intro gb277 hg w71 hbox hb; have n0_ := bkb BK276 hb; have n1_ := bst HB hb; have n2_ := Aside0.mk (hbox); have n3_ := gwl HB hg; have n4_ := gwl HB hg; have n5_ := nbl BK276 hg; have n6_ := nbg BK276 hg; clear BK276; clear HB; have BK276 := n0_; have HB := n1_; have BK277 := n2_; have GW277 := n3_; have GE277 := n4_; have NB276_277 := n5_; have NB277_276 := n6_; clear n0_ n1_ n2_ n3_ n4_ n5_ n6_; clear hb hbox hg))
   have n0_ := Aside0.mk (blk_drew BK276.out)
   have n1_ := Aside0.mk (blk_drew BK277.out)
   have n2_ := Aside0.mk (below_drew1 HB.out)
   clear BK276
   clear BK277
   clear HB
   have BK276 := n0_
   have BK277 := n1_
   have HB := n2_
   clear n0_ n1_ n2_
   refine start_ (n := 12) (S := fun w' => True) (ds := []) #[false, false, false, false, false, false, false, false, false, false, false, false] (by kernel_rfl) rfl rfl trivial (fun hHeld => ?_); refine with_tabW laws_FnExactMovesCrowd.tab3 laws_FnExactMovesCrowd.bits3 (fun HT_ HW_ => ?_)
   generalize w71.drew = w72 at BK276 BK277 HB hHeld ⊢
   refine pure_ (i := 4) (N := some 19) (v := ?_) (a' := ?_) #[false, false, false, false, true, false, false, false, false, false, false, false] rfl rfl (any_of HT_.out (by kernel_rfl)) (fun _ _ _ h => h) (Or.inl ⟨by rfl, ?_⟩) ?_ ?_
   rotate_left
   ·intro w'
    go_simp
    with_reducible rfl
   rotate_left
   ·simp only [Act.put, List.setIfInBounds_toArray, List.set_cons_zero, List.set_cons_succ, i64_w, i32_w]
    rfl
   refine inv_at [0, 1, 2, 3, 5, 6, 7, 8, 9, 10, 11] (fun a0_ b a w' => ∃ (gb284 : Nat) (m9_ : Value), a = putSel a0_ b [(0, 15, .agg (mixA (Value.int .u16) [.int .i8 a0_0, .int .i8 a0_1] a0_2)), (1, 16, .agg (mixA (Value.int .u16) [.int .i8 t278, .int .i8 t279] t280)), (2, 17, .agg (mixA (Value.int .u16) [] a1)), (3, 18, .agg (mixA (Value.int .u16) [] t281)), (5, 20, .tuple #[.agg (mixA (Value.int .u16) [] t282), .int .i64 t283]), (6, 14, .tuple #[.agg (mixA (Value.int .u16) [] t282), .int .i64 t283]), (7, 21, .agg (mixA (Value.int .u16) [] t282)), (8, 22, .int .i64 t283), (9, 7, m9_), (11, 8, .int .i64 t283)] ∧ (w'.heap[gb276]? = some (.cells (mixA (Value.int .u16) [.int .i8 a0_0, .int .i8 a0_1] a0_2) 26 (0, 0))) ∧ (w'.heap[gb277]? = some (.cells (mixA (Value.int .u16) [] a1) 27 (0, 0))) ∧ (Below w.heap.size w w') ∧ (b 9 = true → b 10 = false → w'.heap[gb284]? = some (.cells (mixA (Value.int .u16) [] (LA.zero 40)) 28 (0, 0))) ∧ (b 9 = true → w.heap.size ≤ gb284) ∧ (b 9 = true → w.heap.size ≤ gb284) ∧ (b 9 = true → gb276 ≠ gb284) ∧ (b 9 = true → gb284 ≠ gb276) ∧ (b 9 = true → gb277 ≠ gb284) ∧ (b 9 = true → gb284 ≠ gb277) ∧ (b 10 = true → w'.heap[gb284]? = some (.cells (mixA (Value.int .u16) [] t282) 28 (0, 0))) ∧ (b 9 = true → (m9_ : Value) = .pointer (some ⟨gb284, 0, none⟩))) HT_.out HW_.out (by kernel_rfl) (by kernel_rfl) ?_ ?_ ?_
   ·exact ⟨0, .bool false, by simp only [putSel, Bool.false_eq_true, if_false], BK276.out, BK277.out, HB.out, fun h_ => absurd h_ (by decide), fun h_ => absurd h_ (by decide), fun h_ => absurd h_ (by decide), fun h_ => absurd h_ (by decide), fun h_ => absurd h_ (by decide), fun h_ => absurd h_ (by decide), fun h_ => absurd h_ (by decide), fun h_ => absurd h_ (by decide), fun h_ => absurd h_ (by decide)⟩
   ·skip
    clear BK276 BK277 HB
    refine steps_cons ?_ ?_
    ·rintro b a w' ⟨gb284, m9_, ha, Q_BK276, Q_BK277, Q_HB, Q_BK284, Q_GW284, Q_GE284, Q_NB276_284, Q_NB284_276, Q_NB277_284, Q_NB284_277, Q_BK284_e10, Q_X9_⟩ hb_ hon hoff
     refine ⟨_, rfl, fun K hK => ?_⟩
     have e3 : a.tmps[3]? = some (.pointer (some ⟨gb276, 0, none⟩)) := by rw [ha]; exact (putSel_off rfl).trans rfl
     replace ha := Aside0.mk ha
     have BK276 := Aside0.mk Q_BK276
     have BK277 := Aside0.mk Q_BK277
     have HB := Aside0.mk Q_HB
     have hL_ : World.rangeAt w' gb276 0 ([.int .i8 a0_0, .int .i8 a0_1] ++ a0_2.l.map (Value.int .u16)) := mix_range BK276.out
     refine value_ (w1 := w') (v := .agg (mixA (Value.int .u16) [.int .i8 a0_0, .int .i8 a0_1] a0_2)) (by rfl) rfl ?_ ?_
     ·exact load_mix_run (P := Tryd.prog) 26 (.tmp 3) rfl gb276 (by simp only [Act.eval, Array.getD_eq_getD_getElem?, e3, Option.getD_some]) hL_ Tryd.underlying26 rfl (by kernel_rfl) rfl
     refine hK.out _ _ ⟨gb284, m9_, (by rw [ha.out]; exact putSel_upk 0 hb_ rfl rfl rfl), Q_BK276, Q_BK277, Q_HB, Q_BK284, Q_GW284, Q_GE284, Q_NB276_284, Q_NB284_276, Q_NB277_284, Q_NB284_277, fun h0_ => absurd ((hoff 10 (by kernel_rfl)).symm.trans h0_) (by decide), Q_X9_⟩
    refine steps_cons ?_ ?_
    ·rintro b a w' ⟨gb284, m9_, ha, Q_BK276, Q_BK277, Q_HB, Q_BK284, Q_GW284, Q_GE284, Q_NB276_284, Q_NB284_276, Q_NB277_284, Q_NB284_277, Q_BK284_e10, Q_X9_⟩ hb_ hon hoff
     refine ⟨_, rfl, fun K hK => ?_⟩
     have e15 : a.tmps[15]? = some (.agg (mixA (Value.int .u16) [.int .i8 a0_0, .int .i8 a0_1] a0_2)) := by rw [ha]; exact putSel_on (e := (0, 15, .agg (mixA (Value.int .u16) [.int .i8 a0_0, .int .i8 a0_1] a0_2))) 0 rfl rfl (hon 0 (by kernel_rfl)) rfl
     replace ha := Aside0.mk ha
     have BK276 := Aside0.mk Q_BK276
     have BK277 := Aside0.mk Q_BK277
     have HB := Aside0.mk Q_HB
     refine goes_ Tryd.func8 (by kernel_rfl) rfl #[.agg (mixA (Value.int .u16) [.int .i8 a0_0, .int .i8 a0_1] a0_2)] (by rfl) rfl rfl (by first | (simp only [List.map_toArray, List.map_cons, List.map_nil, Act.eval, Array.getD_eq_getD_getElem?, Option.getD_some, e15]; done) | (simp only [List.map_toArray, List.map_cons, List.map_nil, Act.eval, Array.getD_eq_getD_getElem?, Option.getD_some, e15]; rfl)) ?_
     with_reducible refine (laws_toRoom.calls k a0_0 a0_1 a0_2 t278 t279 t280 _ A7.out).mono ?_
     rintro e w73 ⟨rfl, hb⟩
     refine ⟨_, rfl, ?_⟩
     have n0_ := bkb BK276 hb
     have n1_ := bkb BK277 hb
     have n2_ := bst HB hb
     have z_BK284 := fun (h0_ : b 9 = true) (h1_ : b 10 = false) => (show w73.heap[gb284]? = some (.cells (mixA (Value.int .u16) [] (LA.zero 40)) 28 (0, 0)) from by first | exact (blk_below (g := gb284) (o := .cells (mixA (Value.int .u16) [] (LA.zero 40)) 28 (0, 0)) (by (with_reducible repeat (first | refine blk_drewN ?_ _ | refine blk_drew ?_ | refine blk_alloc ?_ _)); exact (Q_BK284 h0_ h1_)) hb))
     clear BK276
     clear BK277
     clear HB
     have BK276 := n0_
     have BK277 := n1_
     have HB := n2_
     clear n0_ n1_ n2_
     (try clear hb)
     (try clear hb2)
     (try clear hk)
     (try clear hi)
     refine hK.out _ _ ⟨gb284, m9_, (by rw [ha.out]; exact putSel_upk 1 hb_ rfl rfl rfl), (pk BK276), (pk BK277), (pbs HB), z_BK284, Q_GW284, Q_GE284, Q_NB276_284, Q_NB284_276, Q_NB277_284, Q_NB284_277, fun h0_ => absurd ((hoff 10 (by kernel_rfl)).symm.trans h0_) (by decide), Q_X9_⟩
    refine steps_cons ?_ ?_
    ·rintro b a w' ⟨gb284, m9_, ha, Q_BK276, Q_BK277, Q_HB, Q_BK284, Q_GW284, Q_GE284, Q_NB276_284, Q_NB284_276, Q_NB277_284, Q_NB284_277, Q_BK284_e10, Q_X9_⟩ hb_ hon hoff
     refine ⟨_, rfl, fun K hK => ?_⟩
     have e4 : a.tmps[4]? = some (.pointer (some ⟨gb277, 0, none⟩)) := by rw [ha]; exact (putSel_off rfl).trans rfl
     replace ha := Aside0.mk ha
     have BK276 := Aside0.mk Q_BK276
     have BK277 := Aside0.mk Q_BK277
     have HB := Aside0.mk Q_HB
     have hL_ : World.rangeAt w' gb277 0 ([] ++ a1.l.map (Value.int .u16)) := mix_range BK277.out
     refine value_ (w1 := w') (v := .agg (mixA (Value.int .u16) [] a1)) (by rfl) rfl ?_ ?_
     ·exact load_mix_run (P := Tryd.prog) 27 (.tmp 4) rfl gb277 (by simp only [Act.eval, Array.getD_eq_getD_getElem?, e4, Option.getD_some]) hL_ Tryd.underlying27 rfl (by kernel_rfl) rfl
     refine hK.out _ _ ⟨gb284, m9_, (by rw [ha.out]; exact putSel_upk 2 hb_ rfl rfl rfl), Q_BK276, Q_BK277, Q_HB, Q_BK284, Q_GW284, Q_GE284, Q_NB276_284, Q_NB284_276, Q_NB277_284, Q_NB284_277, fun h0_ => absurd ((hoff 10 (by kernel_rfl)).symm.trans h0_) (by decide), Q_X9_⟩
    refine steps_cons ?_ ?_
    ·rintro b a w' ⟨gb284, m9_, ha, Q_BK276, Q_BK277, Q_HB, Q_BK284, Q_GW284, Q_GE284, Q_NB276_284, Q_NB284_276, Q_NB277_284, Q_NB284_277, Q_BK284_e10, Q_X9_⟩ hb_ hon hoff
     refine ⟨_, rfl, fun K hK => ?_⟩
     have e17 : a.tmps[17]? = some (.agg (mixA (Value.int .u16) [] a1)) := by rw [ha]; exact putSel_on (e := (2, 17, .agg (mixA (Value.int .u16) [] a1))) 2 rfl rfl (hon 2 (by kernel_rfl)) rfl
     replace ha := Aside0.mk ha
     have BK276 := Aside0.mk Q_BK276
     have BK277 := Aside0.mk Q_BK277
     have HB := Aside0.mk Q_HB
     refine goes_ Tryd.func12 (by kernel_rfl) rfl #[.agg (mixA (Value.int .u16) [] a1)] (by rfl) rfl rfl (by first | (simp only [List.map_toArray, List.map_cons, List.map_nil, Act.eval, Array.getD_eq_getD_getElem?, Option.getD_some, e17]; done) | (simp only [List.map_toArray, List.map_cons, List.map_nil, Act.eval, Array.getD_eq_getD_getElem?, Option.getD_some, e17]; rfl)) ?_
     with_reducible refine (laws_toCrowd.calls k a1 t281 _ A8.out).mono ?_
     rintro e w75 ⟨rfl, hb⟩
     refine ⟨_, rfl, ?_⟩
     have n0_ := bkb BK276 hb
     have n1_ := bkb BK277 hb
     have n2_ := bst HB hb
     have z_BK284 := fun (h0_ : b 9 = true) (h1_ : b 10 = false) => (show w75.heap[gb284]? = some (.cells (mixA (Value.int .u16) [] (LA.zero 40)) 28 (0, 0)) from by first | exact (blk_below (g := gb284) (o := .cells (mixA (Value.int .u16) [] (LA.zero 40)) 28 (0, 0)) (by (with_reducible repeat (first | refine blk_drewN ?_ _ | refine blk_drew ?_ | refine blk_alloc ?_ _)); exact (Q_BK284 h0_ h1_)) hb))
     clear BK276
     clear BK277
     clear HB
     have BK276 := n0_
     have BK277 := n1_
     have HB := n2_
     clear n0_ n1_ n2_
     (try clear hb)
     (try clear hb2)
     (try clear hk)
     (try clear hi)
     refine hK.out _ _ ⟨gb284, m9_, (by rw [ha.out]; exact putSel_upk 3 hb_ rfl rfl rfl), (pk BK276), (pk BK277), (pbs HB), z_BK284, Q_GW284, Q_GE284, Q_NB276_284, Q_NB284_276, Q_NB277_284, Q_NB284_277, fun h0_ => absurd ((hoff 10 (by kernel_rfl)).symm.trans h0_) (by decide), Q_X9_⟩
    refine steps_cons ?_ ?_
    ·rintro b a w' ⟨gb284, m9_, ha, Q_BK276, Q_BK277, Q_HB, Q_BK284, Q_GW284, Q_GE284, Q_NB276_284, Q_NB284_276, Q_NB277_284, Q_NB284_277, Q_BK284_e10, Q_X9_⟩ hb_ hon hoff
     refine ⟨_, rfl, fun K hK => ?_⟩
     have e16 : a.tmps[16]? = some (.agg (mixA (Value.int .u16) [.int .i8 t278, .int .i8 t279] t280)) := by rw [ha]; exact putSel_on (e := (1, 16, .agg (mixA (Value.int .u16) [.int .i8 t278, .int .i8 t279] t280))) 1 rfl rfl (hon 1 (by kernel_rfl)) rfl
     have e18 : a.tmps[18]? = some (.agg (mixA (Value.int .u16) [] t281)) := by rw [ha]; exact putSel_on (e := (3, 18, .agg (mixA (Value.int .u16) [] t281))) 3 rfl rfl (hon 3 (by kernel_rfl)) rfl
     have e19 : a.tmps[19]? = some (.string a2) := by rw [ha]; exact (putSel_off rfl).trans rfl
     replace ha := Aside0.mk ha
     have BK276 := Aside0.mk Q_BK276
     have BK277 := Aside0.mk Q_BK277
     have HB := Aside0.mk Q_HB
     refine goes_ Tryd.func14 (by kernel_rfl) rfl #[.agg (mixA (Value.int .u16) [.int .i8 t278, .int .i8 t279] t280), .agg (mixA (Value.int .u16) [] t281), .string a2] (by rfl) rfl rfl (by first | (simp only [List.map_toArray, List.map_cons, List.map_nil, Act.eval, Array.getD_eq_getD_getElem?, Option.getD_some, e16, e18, e19]; done) | (simp only [List.map_toArray, List.map_cons, List.map_nil, Act.eval, Array.getD_eq_getD_getElem?, Option.getD_some, e16, e18, e19]; rfl)) ?_
     with_reducible refine (spec_MovesCrowd.calls k t278 t279 t280 t281 a2 t282 t283 _ A9.out).mono ?_
     rintro e w76 ⟨rfl, hb⟩
     refine ⟨_, rfl, ?_⟩
     have n0_ := bkb BK276 hb
     have n1_ := bkb BK277 hb
     have n2_ := bst HB hb
     have z_BK284 := fun (h0_ : b 9 = true) (h1_ : b 10 = false) => (show w76.heap[gb284]? = some (.cells (mixA (Value.int .u16) [] (LA.zero 40)) 28 (0, 0)) from by first | exact (blk_below (g := gb284) (o := .cells (mixA (Value.int .u16) [] (LA.zero 40)) 28 (0, 0)) (by (with_reducible repeat (first | refine blk_drewN ?_ _ | refine blk_drew ?_ | refine blk_alloc ?_ _)); exact (Q_BK284 h0_ h1_)) hb))
     clear BK276
     clear BK277
     clear HB
     have BK276 := n0_
     have BK277 := n1_
     have HB := n2_
     clear n0_ n1_ n2_
     (try clear hb)
     (try clear hb2)
     (try clear hk)
     (try clear hi)
     refine hK.out _ _ ⟨gb284, m9_, (by rw [ha.out]; exact putSel_upk 4 hb_ rfl rfl rfl), (pk BK276), (pk BK277), (pbs HB), z_BK284, Q_GW284, Q_GE284, Q_NB276_284, Q_NB284_276, Q_NB277_284, Q_NB284_277, fun h0_ => absurd ((hoff 10 (by kernel_rfl)).symm.trans h0_) (by decide), Q_X9_⟩
    refine steps_cons ?_ ?_
    ·rintro b a w' ⟨gb284, m9_, ha, Q_BK276, Q_BK277, Q_HB, Q_BK284, Q_GW284, Q_GE284, Q_NB276_284, Q_NB284_276, Q_NB277_284, Q_NB284_277, Q_BK284_e10, Q_X9_⟩ hb_ hon hoff
     refine ⟨_, rfl, fun K hK => ?_⟩
     have e20 : a.tmps[20]? = some (.tuple #[.agg (mixA (Value.int .u16) [] t282), .int .i64 t283]) := by rw [ha]; exact putSel_on (e := (5, 20, .tuple #[.agg (mixA (Value.int .u16) [] t282), .int .i64 t283])) 4 rfl rfl (hon 5 (by kernel_rfl)) rfl
     replace ha := Aside0.mk ha
     have BK276 := Aside0.mk Q_BK276
     have BK277 := Aside0.mk Q_BK277
     have HB := Aside0.mk Q_HB
     refine value_ (w1 := w') (v := .tuple #[.agg (mixA (Value.int .u16) [] t282), .int .i64 t283]) (by rfl) rfl ?_ ?_
     ·go_simp
      (try simp only [i64_w])
      try rfl
     refine hK.out _ _ ⟨gb284, m9_, (by rw [ha.out]; exact putSel_upk 5 hb_ rfl rfl rfl), Q_BK276, Q_BK277, Q_HB, Q_BK284, Q_GW284, Q_GE284, Q_NB276_284, Q_NB284_276, Q_NB277_284, Q_NB284_277, fun h0_ => absurd ((hoff 10 (by kernel_rfl)).symm.trans h0_) (by decide), Q_X9_⟩
    refine steps_cons ?_ ?_
    ·rintro b a w' ⟨gb284, m9_, ha, Q_BK276, Q_BK277, Q_HB, Q_BK284, Q_GW284, Q_GE284, Q_NB276_284, Q_NB284_276, Q_NB277_284, Q_NB284_277, Q_BK284_e10, Q_X9_⟩ hb_ hon hoff
     refine ⟨_, rfl, fun K hK => ?_⟩
     have e14 : a.tmps[14]? = some (.tuple #[.agg (mixA (Value.int .u16) [] t282), .int .i64 t283]) := by rw [ha]; exact putSel_on (e := (6, 14, .tuple #[.agg (mixA (Value.int .u16) [] t282), .int .i64 t283])) 5 rfl rfl (hon 6 (by kernel_rfl)) rfl
     replace ha := Aside0.mk ha
     have BK276 := Aside0.mk Q_BK276
     have BK277 := Aside0.mk Q_BK277
     have HB := Aside0.mk Q_HB
     refine value_ (w1 := w') (v := .agg (mixA (Value.int .u16) [] t282)) (by rfl) rfl ?_ ?_
     ·go_simp
      (try simp only [i64_w])
      try rfl
     refine hK.out _ _ ⟨gb284, m9_, (by rw [ha.out]; exact putSel_upk 6 hb_ rfl rfl rfl), Q_BK276, Q_BK277, Q_HB, Q_BK284, Q_GW284, Q_GE284, Q_NB276_284, Q_NB284_276, Q_NB277_284, Q_NB284_277, fun h0_ => absurd ((hoff 10 (by kernel_rfl)).symm.trans h0_) (by decide), Q_X9_⟩
    refine steps_cons ?_ ?_
    ·rintro b a w' ⟨gb284, m9_, ha, Q_BK276, Q_BK277, Q_HB, Q_BK284, Q_GW284, Q_GE284, Q_NB276_284, Q_NB284_276, Q_NB277_284, Q_NB284_277, Q_BK284_e10, Q_X9_⟩ hb_ hon hoff
     refine ⟨_, rfl, fun K hK => ?_⟩
     have e14 : a.tmps[14]? = some (.tuple #[.agg (mixA (Value.int .u16) [] t282), .int .i64 t283]) := by rw [ha]; exact putSel_on (e := (6, 14, .tuple #[.agg (mixA (Value.int .u16) [] t282), .int .i64 t283])) 5 rfl rfl (hon 6 (by kernel_rfl)) rfl
     replace ha := Aside0.mk ha
     have BK276 := Aside0.mk Q_BK276
     have BK277 := Aside0.mk Q_BK277
     have HB := Aside0.mk Q_HB
     refine value_ (w1 := w') (v := .int .i64 t283) (by rfl) rfl ?_ ?_
     ·go_simp
      (try simp only [i64_w])
      try rfl
     refine hK.out _ _ ⟨gb284, m9_, (by rw [ha.out]; exact putSel_upk 7 hb_ rfl rfl rfl), Q_BK276, Q_BK277, Q_HB, Q_BK284, Q_GW284, Q_GE284, Q_NB276_284, Q_NB284_276, Q_NB277_284, Q_NB284_277, Q_BK284_e10, Q_X9_⟩
    refine steps_cons ?_ ?_
    ·rintro b a w' ⟨gb284, m9_, ha, Q_BK276, Q_BK277, Q_HB, Q_BK284, Q_GW284, Q_GE284, Q_NB276_284, Q_NB284_276, Q_NB277_284, Q_NB284_277, Q_BK284_e10, Q_X9_⟩ hb_ hon hoff
     refine ⟨_, rfl, fun K hK => ?_⟩
     replace ha := Aside0.mk ha
     have BK276 := Aside0.mk Q_BK276
     have BK277 := Aside0.mk Q_BK277
     have HB := Aside0.mk Q_HB
     refine box_step ?hg (N := 7) ?hd (cs := (mixA (Value.int .u16) [] (LA.zero 40))) (t := 28) ?hr ?_; (case hd => rfl); (case hg => rfl); (case hr => first | (go_simp; done) | (go_simp; rfl))
     intro gb284 hg w73 hbox hb
     have n0_ := bkb BK276 hb
     have n1_ := bkb BK277 hb
     have n2_ := bst HB hb
     have n3_ := Aside0.mk (hbox)
     have n4_ := gwl HB hg
     have n5_ := gwl HB hg
     have n6_ := nbl BK276 hg
     have n7_ := nbg BK276 hg
     have n8_ := nbl BK277 hg
     have n9_ := nbg BK277 hg
     clear BK276
     clear BK277
     clear HB
     have BK276 := n0_
     have BK277 := n1_
     have HB := n2_
     have BK284 := n3_
     have GW284 := n4_
     have GE284 := n5_
     have NB276_284 := n6_
     have NB284_276 := n7_
     have NB277_284 := n8_
     have NB284_277 := n9_
     clear n0_ n1_ n2_ n3_ n4_ n5_ n6_ n7_ n8_ n9_
     clear hb hbox hg
     refine hK.out _ _ ⟨gb284, (.pointer (some ⟨gb284, 0, none⟩)), (by rw [ha.out]; exact putSel_upk 8 hb_ rfl rfl rfl), (pk BK276), (pk BK277), (pbs HB), fun _ _ => (pk BK284), fun _ => GW284.out, fun _ => GE284.out, fun _ => NB276_284.out, fun _ => NB284_276.out, fun _ => NB277_284.out, fun _ => NB284_277.out, fun h0_ => absurd ((hoff 10 (by kernel_rfl)).symm.trans h0_) (by decide), fun _ => rfl⟩
    refine steps_cons ?_ ?_
    ·rintro b a w' ⟨gb284, m9_, ha, Q_BK276, Q_BK277, Q_HB, Q_BK284, Q_GW284, Q_GE284, Q_NB276_284, Q_NB284_276, Q_NB277_284, Q_NB284_277, Q_BK284_e10, Q_X9_⟩ hb_ hon hoff
     refine ⟨_, rfl, fun K hK => ?_⟩
     have e7 : a.tmps[7]? = some (m9_) := by rw [ha]; exact putSel_on (e := (9, 7, m9_)) 8 rfl rfl (hon 9 (by kernel_rfl)) rfl
     rw [Q_X9_ (hon 9 (by kernel_rfl))] at e7
     have e21 : a.tmps[21]? = some (.agg (mixA (Value.int .u16) [] t282)) := by rw [ha]; exact putSel_on (e := (7, 21, .agg (mixA (Value.int .u16) [] t282))) 6 rfl rfl (hon 7 (by kernel_rfl)) rfl
     replace ha := Aside0.mk ha
     have BK276 := Aside0.mk Q_BK276
     have BK277 := Aside0.mk Q_BK277
     have HB := Aside0.mk Q_HB
     have BK284 := Aside0.mk (Q_BK284 (hon 9 (by kernel_rfl)) hb_)
     have GW284 := Aside0.mk (Q_GW284 (hon 9 (by kernel_rfl)))
     have GE284 := Aside0.mk (Q_GE284 (hon 9 (by kernel_rfl)))
     have NB276_284 := Aside0.mk (Q_NB276_284 (hon 9 (by kernel_rfl)))
     have NB284_276 := Aside0.mk (Q_NB284_276 (hon 9 (by kernel_rfl)))
     have NB277_284 := Aside0.mk (Q_NB277_284 (hon 9 (by kernel_rfl)))
     have NB284_277 := Aside0.mk (Q_NB284_277 (hon 9 (by kernel_rfl)))
     refine step_store_lmix (by rfl) rfl 28 _ _ rfl gb284 (e := (Value.int .u16)) (cs' := []) (W' := t282) (cs := []) (W := (LA.zero 40)) (T := 28) (by first | (simp only [List.map_toArray, List.map_cons, List.map_nil, Act.eval, Array.getD_eq_getD_getElem?, Option.getD_some, e7, e21]; done) | (simp only [List.map_toArray, List.map_cons, List.map_nil, Act.eval, Array.getD_eq_getD_getElem?, Option.getD_some, e7, e21]; rfl)) (by first | (simp only [List.map_toArray, List.map_cons, List.map_nil, Act.eval, Array.getD_eq_getD_getElem?, Option.getD_some, e7, e21]; done) | (simp only [List.map_toArray, List.map_cons, List.map_nil, Act.eval, Array.getD_eq_getD_getElem?, Option.getD_some, e7, e21]; rfl)) (pk BK284) rfl (by kernel_rfl) rfl (fun _ => rfl) rfl ?_
     intro w78 hi hk hbl
     have n0_ := Aside0.mk (KeepBut.blk hk (g' := gb276) (o := .cells (mixA (Value.int .u16) [.int .i8 a0_0, .int .i8 a0_1] a0_2) 26 (0, 0)) (pk BK276) NB276_284.out (by simp))
     have n1_ := Aside0.mk (KeepBut.blk hk (g' := gb277) (o := .cells (mixA (Value.int .u16) [] a1) 27 (0, 0)) (pk BK277) NB277_284.out (by simp))
     have n2_ := Aside0.mk (hbl _ _ (pbs HB) GE284.out)
     have n3_ := Aside0.mk (hi)
     clear BK276
     clear BK277
     clear HB
     clear BK284
     have BK276 := n0_
     have BK277 := n1_
     have HB := n2_
     have BK284 := n3_
     clear n0_ n1_ n2_ n3_
     clear hi hk hbl
     refine hK.out _ _ ⟨gb284, m9_, (by rw [ha.out]; exact putSel_none (v := undef) rfl), (pk BK276), (pk BK277), (pbs HB), fun _ h1_ => absurd ((up_self b 10).symm.trans h1_) (by decide), fun _ => GW284.out, fun _ => GE284.out, fun _ => NB276_284.out, fun _ => NB284_276.out, fun _ => NB277_284.out, fun _ => NB284_277.out, fun _ => (pk BK284), Q_X9_⟩
    refine steps_cons ?_ ?_
    ·rintro b a w' ⟨gb284, m9_, ha, Q_BK276, Q_BK277, Q_HB, Q_BK284, Q_GW284, Q_GE284, Q_NB276_284, Q_NB284_276, Q_NB277_284, Q_NB284_277, Q_BK284_e10, Q_X9_⟩ hb_ hon hoff
     refine ⟨_, rfl, fun K hK => ?_⟩
     have e22 : a.tmps[22]? = some (.int .i64 t283) := by rw [ha]; exact putSel_on (e := (8, 22, .int .i64 t283)) 7 rfl rfl (hon 8 (by kernel_rfl)) rfl
     replace ha := Aside0.mk ha
     have BK276 := Aside0.mk Q_BK276
     have BK277 := Aside0.mk Q_BK277
     have HB := Aside0.mk Q_HB
     have GW284 := Aside0.mk (Q_GW284 (hon 9 (by kernel_rfl)))
     have GE284 := Aside0.mk (Q_GE284 (hon 9 (by kernel_rfl)))
     have NB276_284 := Aside0.mk (Q_NB276_284 (hon 9 (by kernel_rfl)))
     have NB284_276 := Aside0.mk (Q_NB284_276 (hon 9 (by kernel_rfl)))
     have NB277_284 := Aside0.mk (Q_NB277_284 (hon 9 (by kernel_rfl)))
     have NB284_277 := Aside0.mk (Q_NB284_277 (hon 9 (by kernel_rfl)))
     have BK284 := Aside0.mk (Q_BK284_e10 (hon 10 (by kernel_rfl)))
     refine value_ (w1 := w') (v := .int .i64 t283) (by rfl) rfl ?_ ?_
     ·go_simp
      (try simp only [i64_w])
      try rfl
     refine hK.out _ _ ⟨gb284, m9_, (by rw [ha.out]; exact putSel_upk 9 hb_ rfl rfl rfl), Q_BK276, Q_BK277, Q_HB, fun _ h1_ => absurd ((hon 10 (by kernel_rfl)).symm.trans h1_) (by decide), Q_GW284, Q_GE284, Q_NB276_284, Q_NB284_276, Q_NB277_284, Q_NB284_277, Q_BK284_e10, Q_X9_⟩
    exact steps_nil
   rintro b a w78 hall ⟨gb284, m9_, ha, Q_BK276, Q_BK277, Q_HB, Q_BK284, Q_GW284, Q_GE284, Q_NB276_284, Q_NB284_276, Q_NB277_284, Q_NB284_277, Q_BK284_e10, Q_X9_⟩
   clear BK276 BK277 HB
   have hb0_ := hall 0 (by kernel_rfl)
   have hb1_ := hall 1 (by kernel_rfl)
   have hb2_ := hall 2 (by kernel_rfl)
   have hb3_ := hall 3 (by kernel_rfl)
   have hb5_ := hall 5 (by kernel_rfl)
   have hb6_ := hall 6 (by kernel_rfl)
   have hb7_ := hall 7 (by kernel_rfl)
   have hb8_ := hall 8 (by kernel_rfl)
   have hb9_ := hall 9 (by kernel_rfl)
   have hb10_ := hall 10 (by kernel_rfl)
   have hb11_ := hall 11 (by kernel_rfl)
   subst ha
   obtain rfl := (Q_X9_ hb9_).symm
   simp only [putSel, hb0_, hb1_, hb2_, hb3_, hb5_, hb6_, hb7_, hb8_, hb9_, hb10_, hb11_, if_true, Act.put, List.setIfInBounds_toArray, List.set_cons_zero, List.set_cons_succ]
   have BK276 := Aside0.mk Q_BK276
   clear Q_BK276
   have BK277 := Aside0.mk Q_BK277
   clear Q_BK277
   have HB := Aside0.mk Q_HB
   clear Q_HB
   clear Q_BK284
   have GW284 := Aside0.mk (Q_GW284 hb9_)
   clear Q_GW284
   have GE284 := Aside0.mk (Q_GE284 hb9_)
   clear Q_GE284
   have NB276_284 := Aside0.mk (Q_NB276_284 hb9_)
   clear Q_NB276_284
   have NB284_276 := Aside0.mk (Q_NB284_276 hb9_)
   clear Q_NB284_276
   have NB277_284 := Aside0.mk (Q_NB277_284 hb9_)
   clear Q_NB277_284
   have NB284_277 := Aside0.mk (Q_NB284_277 hb9_)
   clear Q_NB284_277
   have BK284 := Aside0.mk (Q_BK284_e10 hb10_)
   clear Q_BK284_e10
   clear hall hb0_ hb1_ hb2_ hb3_ hb5_ hb6_ hb7_ hb8_ hb9_ hb10_ hb11_
   try go_wp2
   have n0_ := Aside0.mk (blk_drew BK276.out)
   have n1_ := Aside0.mk (blk_drew BK277.out)
   have n2_ := Aside0.mk (blk_drew BK284.out)
   have n3_ := Aside0.mk (below_drew1 HB.out)
   clear BK276
   clear BK277
   clear BK284
   clear HB
   have BK276 := n0_
   have BK277 := n1_
   have BK284 := n2_
   have HB := n3_
   clear n0_ n1_ n2_ n3_
   refine start_ (n := 12) (S := fun w' => True) (ds := []) #[false, false, false, false, false, false, false, false, false, false, false, false] (by kernel_rfl) rfl rfl trivial (fun hHeld => ?_); refine with_tabW laws_FnExactMovesCrowd.tab4 laws_FnExactMovesCrowd.bits4 (fun HT_ HW_ => ?_)
   generalize w78.drew = w83 at BK276 BK277 BK284 HB hHeld ⊢
   refine pure_ (i := 4) (N := some 28) (v := ?_) (a' := ?_) #[false, false, false, false, true, false, false, false, false, false, false, false] rfl rfl (any_of HT_.out (by kernel_rfl)) (fun _ _ _ h => h) (Or.inl ⟨by rfl, ?_⟩) ?_ ?_
   rotate_left
   ·intro w'
    go_simp
    with_reducible rfl
   rotate_left
   ·simp only [Act.put, List.setIfInBounds_toArray, List.set_cons_zero, List.set_cons_succ, i64_w, i32_w]
    rfl
   refine inv_at [0, 1, 2, 3, 5, 6, 7, 8, 9, 10, 11] (fun a0_ b a w' => ∃ (gb291 : Nat) (m9_ : Value), a = putSel a0_ b [(0, 24, .agg (mixA (Value.int .u16) [.int .i8 a0_0, .int .i8 a0_1] a0_2)), (1, 25, .agg (mixA (Value.int .u16) [.int .i8 t285, .int .i8 t286] t287)), (2, 26, .agg (mixA (Value.int .u16) [] a1)), (3, 27, .agg (mixA (Value.int .u16) [] t288)), (5, 29, .tuple #[.agg (mixA (Value.int .u16) [] t289), .int .i64 t290]), (6, 23, .tuple #[.agg (mixA (Value.int .u16) [] t289), .int .i64 t290]), (7, 30, .agg (mixA (Value.int .u16) [] t289)), (8, 31, .int .i64 t290), (9, 9, m9_), (11, 10, .int .i64 t290)] ∧ (w'.heap[gb276]? = some (.cells (mixA (Value.int .u16) [.int .i8 a0_0, .int .i8 a0_1] a0_2) 26 (0, 0))) ∧ (w'.heap[gb277]? = some (.cells (mixA (Value.int .u16) [] a1) 27 (0, 0))) ∧ (w'.heap[gb284]? = some (.cells (mixA (Value.int .u16) [] t282) 28 (0, 0))) ∧ (Below w.heap.size w w') ∧ (b 9 = true → b 10 = false → w'.heap[gb291]? = some (.cells (mixA (Value.int .u16) [] (LA.zero 40)) 28 (0, 0))) ∧ (b 9 = true → w.heap.size ≤ gb291) ∧ (b 9 = true → w.heap.size ≤ gb291) ∧ (b 9 = true → gb276 ≠ gb291) ∧ (b 9 = true → gb291 ≠ gb276) ∧ (b 9 = true → gb277 ≠ gb291) ∧ (b 9 = true → gb291 ≠ gb277) ∧ (b 9 = true → gb284 ≠ gb291) ∧ (b 9 = true → gb291 ≠ gb284) ∧ (b 10 = true → w'.heap[gb291]? = some (.cells (mixA (Value.int .u16) [] t289) 28 (0, 0))) ∧ (b 9 = true → (m9_ : Value) = .pointer (some ⟨gb291, 0, none⟩))) HT_.out HW_.out (by kernel_rfl) (by kernel_rfl) ?_ ?_ ?_
   ·exact ⟨0, .bool false, by simp only [putSel, Bool.false_eq_true, if_false], BK276.out, BK277.out, BK284.out, HB.out, fun h_ => absurd h_ (by decide), fun h_ => absurd h_ (by decide), fun h_ => absurd h_ (by decide), fun h_ => absurd h_ (by decide), fun h_ => absurd h_ (by decide), fun h_ => absurd h_ (by decide), fun h_ => absurd h_ (by decide), fun h_ => absurd h_ (by decide), fun h_ => absurd h_ (by decide), fun h_ => absurd h_ (by decide), fun h_ => absurd h_ (by decide)⟩
   ·skip
    clear BK276 BK277 BK284 HB
    refine steps_cons ?_ ?_
    ·rintro b a w' ⟨gb291, m9_, ha, Q_BK276, Q_BK277, Q_BK284, Q_HB, Q_BK291, Q_GW291, Q_GE291, Q_NB276_291, Q_NB291_276, Q_NB277_291, Q_NB291_277, Q_NB284_291, Q_NB291_284, Q_BK291_e10, Q_X9_⟩ hb_ hon hoff
     refine ⟨_, rfl, fun K hK => ?_⟩
     have e3 : a.tmps[3]? = some (.pointer (some ⟨gb276, 0, none⟩)) := by rw [ha]; exact (putSel_off rfl).trans rfl
     replace ha := Aside0.mk ha
     have BK276 := Aside0.mk Q_BK276
     have BK277 := Aside0.mk Q_BK277
     have BK284 := Aside0.mk Q_BK284
     have HB := Aside0.mk Q_HB
     have hL_ : World.rangeAt w' gb276 0 ([.int .i8 a0_0, .int .i8 a0_1] ++ a0_2.l.map (Value.int .u16)) := mix_range BK276.out
     refine value_ (w1 := w') (v := .agg (mixA (Value.int .u16) [.int .i8 a0_0, .int .i8 a0_1] a0_2)) (by rfl) rfl ?_ ?_
     ·exact load_mix_run (P := Tryd.prog) 26 (.tmp 3) rfl gb276 (by simp only [Act.eval, Array.getD_eq_getD_getElem?, e3, Option.getD_some]) hL_ Tryd.underlying26 rfl (by kernel_rfl) rfl
     refine hK.out _ _ ⟨gb291, m9_, (by rw [ha.out]; exact putSel_upk 0 hb_ rfl rfl rfl), Q_BK276, Q_BK277, Q_BK284, Q_HB, Q_BK291, Q_GW291, Q_GE291, Q_NB276_291, Q_NB291_276, Q_NB277_291, Q_NB291_277, Q_NB284_291, Q_NB291_284, fun h0_ => absurd ((hoff 10 (by kernel_rfl)).symm.trans h0_) (by decide), Q_X9_⟩
    refine steps_cons ?_ ?_
    ·rintro b a w' ⟨gb291, m9_, ha, Q_BK276, Q_BK277, Q_BK284, Q_HB, Q_BK291, Q_GW291, Q_GE291, Q_NB276_291, Q_NB291_276, Q_NB277_291, Q_NB291_277, Q_NB284_291, Q_NB291_284, Q_BK291_e10, Q_X9_⟩ hb_ hon hoff
     refine ⟨_, rfl, fun K hK => ?_⟩
     have e24 : a.tmps[24]? = some (.agg (mixA (Value.int .u16) [.int .i8 a0_0, .int .i8 a0_1] a0_2)) := by rw [ha]; exact putSel_on (e := (0, 24, .agg (mixA (Value.int .u16) [.int .i8 a0_0, .int .i8 a0_1] a0_2))) 0 rfl rfl (hon 0 (by kernel_rfl)) rfl
     replace ha := Aside0.mk ha
     have BK276 := Aside0.mk Q_BK276
     have BK277 := Aside0.mk Q_BK277
     have BK284 := Aside0.mk Q_BK284
     have HB := Aside0.mk Q_HB
     refine goes_ Tryd.func8 (by kernel_rfl) rfl #[.agg (mixA (Value.int .u16) [.int .i8 a0_0, .int .i8 a0_1] a0_2)] (by rfl) rfl rfl (by first | (simp only [List.map_toArray, List.map_cons, List.map_nil, Act.eval, Array.getD_eq_getD_getElem?, Option.getD_some, e24]; done) | (simp only [List.map_toArray, List.map_cons, List.map_nil, Act.eval, Array.getD_eq_getD_getElem?, Option.getD_some, e24]; rfl)) ?_
     with_reducible refine (laws_toRoom.calls k a0_0 a0_1 a0_2 t285 t286 t287 _ A10.out).mono ?_
     rintro e w84 ⟨rfl, hb⟩
     refine ⟨_, rfl, ?_⟩
     have n0_ := bkb BK276 hb
     have n1_ := bkb BK277 hb
     have n2_ := bkb BK284 hb
     have n3_ := bst HB hb
     have z_BK291 := fun (h0_ : b 9 = true) (h1_ : b 10 = false) => (show w84.heap[gb291]? = some (.cells (mixA (Value.int .u16) [] (LA.zero 40)) 28 (0, 0)) from by first | exact (blk_below (g := gb291) (o := .cells (mixA (Value.int .u16) [] (LA.zero 40)) 28 (0, 0)) (by (with_reducible repeat (first | refine blk_drewN ?_ _ | refine blk_drew ?_ | refine blk_alloc ?_ _)); exact (Q_BK291 h0_ h1_)) hb))
     clear BK276
     clear BK277
     clear BK284
     clear HB
     have BK276 := n0_
     have BK277 := n1_
     have BK284 := n2_
     have HB := n3_
     clear n0_ n1_ n2_ n3_
     (try clear hb)
     (try clear hb2)
     (try clear hk)
     (try clear hi)
     refine hK.out _ _ ⟨gb291, m9_, (by rw [ha.out]; exact putSel_upk 1 hb_ rfl rfl rfl), (pk BK276), (pk BK277), (pk BK284), (pbs HB), z_BK291, Q_GW291, Q_GE291, Q_NB276_291, Q_NB291_276, Q_NB277_291, Q_NB291_277, Q_NB284_291, Q_NB291_284, fun h0_ => absurd ((hoff 10 (by kernel_rfl)).symm.trans h0_) (by decide), Q_X9_⟩
    refine steps_cons ?_ ?_
    ·rintro b a w' ⟨gb291, m9_, ha, Q_BK276, Q_BK277, Q_BK284, Q_HB, Q_BK291, Q_GW291, Q_GE291, Q_NB276_291, Q_NB291_276, Q_NB277_291, Q_NB291_277, Q_NB284_291, Q_NB291_284, Q_BK291_e10, Q_X9_⟩ hb_ hon hoff
     refine ⟨_, rfl, fun K hK => ?_⟩
     have e4 : a.tmps[4]? = some (.pointer (some ⟨gb277, 0, none⟩)) := by rw [ha]; exact (putSel_off rfl).trans rfl
     replace ha := Aside0.mk ha
     have BK276 := Aside0.mk Q_BK276
     have BK277 := Aside0.mk Q_BK277
     have BK284 := Aside0.mk Q_BK284
     have HB := Aside0.mk Q_HB
     have hL_ : World.rangeAt w' gb277 0 ([] ++ a1.l.map (Value.int .u16)) := mix_range BK277.out
     refine value_ (w1 := w') (v := .agg (mixA (Value.int .u16) [] a1)) (by rfl) rfl ?_ ?_
     ·exact load_mix_run (P := Tryd.prog) 27 (.tmp 4) rfl gb277 (by simp only [Act.eval, Array.getD_eq_getD_getElem?, e4, Option.getD_some]) hL_ Tryd.underlying27 rfl (by kernel_rfl) rfl
     refine hK.out _ _ ⟨gb291, m9_, (by rw [ha.out]; exact putSel_upk 2 hb_ rfl rfl rfl), Q_BK276, Q_BK277, Q_BK284, Q_HB, Q_BK291, Q_GW291, Q_GE291, Q_NB276_291, Q_NB291_276, Q_NB277_291, Q_NB291_277, Q_NB284_291, Q_NB291_284, fun h0_ => absurd ((hoff 10 (by kernel_rfl)).symm.trans h0_) (by decide), Q_X9_⟩
    refine steps_cons ?_ ?_
    ·rintro b a w' ⟨gb291, m9_, ha, Q_BK276, Q_BK277, Q_BK284, Q_HB, Q_BK291, Q_GW291, Q_GE291, Q_NB276_291, Q_NB291_276, Q_NB277_291, Q_NB291_277, Q_NB284_291, Q_NB291_284, Q_BK291_e10, Q_X9_⟩ hb_ hon hoff
     refine ⟨_, rfl, fun K hK => ?_⟩
     have e26 : a.tmps[26]? = some (.agg (mixA (Value.int .u16) [] a1)) := by rw [ha]; exact putSel_on (e := (2, 26, .agg (mixA (Value.int .u16) [] a1))) 2 rfl rfl (hon 2 (by kernel_rfl)) rfl
     replace ha := Aside0.mk ha
     have BK276 := Aside0.mk Q_BK276
     have BK277 := Aside0.mk Q_BK277
     have BK284 := Aside0.mk Q_BK284
     have HB := Aside0.mk Q_HB
     refine goes_ Tryd.func12 (by kernel_rfl) rfl #[.agg (mixA (Value.int .u16) [] a1)] (by rfl) rfl rfl (by first | (simp only [List.map_toArray, List.map_cons, List.map_nil, Act.eval, Array.getD_eq_getD_getElem?, Option.getD_some, e26]; done) | (simp only [List.map_toArray, List.map_cons, List.map_nil, Act.eval, Array.getD_eq_getD_getElem?, Option.getD_some, e26]; rfl)) ?_
     with_reducible refine (laws_toCrowd.calls k a1 t288 _ A11.out).mono ?_
     rintro e w86 ⟨rfl, hb⟩
     refine ⟨_, rfl, ?_⟩
     have n0_ := bkb BK276 hb
     have n1_ := bkb BK277 hb
     have n2_ := bkb BK284 hb
     have n3_ := bst HB hb
     have z_BK291 := fun (h0_ : b 9 = true) (h1_ : b 10 = false) => (show w86.heap[gb291]? = some (.cells (mixA (Value.int .u16) [] (LA.zero 40)) 28 (0, 0)) from by first | exact (blk_below (g := gb291) (o := .cells (mixA (Value.int .u16) [] (LA.zero 40)) 28 (0, 0)) (by (with_reducible repeat (first | refine blk_drewN ?_ _ | refine blk_drew ?_ | refine blk_alloc ?_ _)); exact (Q_BK291 h0_ h1_)) hb))
     clear BK276
     clear BK277
     clear BK284
     clear HB
     have BK276 := n0_
     have BK277 := n1_
     have BK284 := n2_
     have HB := n3_
     clear n0_ n1_ n2_ n3_
     (try clear hb)
     (try clear hb2)
     (try clear hk)
     (try clear hi)
     refine hK.out _ _ ⟨gb291, m9_, (by rw [ha.out]; exact putSel_upk 3 hb_ rfl rfl rfl), (pk BK276), (pk BK277), (pk BK284), (pbs HB), z_BK291, Q_GW291, Q_GE291, Q_NB276_291, Q_NB291_276, Q_NB277_291, Q_NB291_277, Q_NB284_291, Q_NB291_284, fun h0_ => absurd ((hoff 10 (by kernel_rfl)).symm.trans h0_) (by decide), Q_X9_⟩
    refine steps_cons ?_ ?_
    ·rintro b a w' ⟨gb291, m9_, ha, Q_BK276, Q_BK277, Q_BK284, Q_HB, Q_BK291, Q_GW291, Q_GE291, Q_NB276_291, Q_NB291_276, Q_NB277_291, Q_NB291_277, Q_NB284_291, Q_NB291_284, Q_BK291_e10, Q_X9_⟩ hb_ hon hoff
     refine ⟨_, rfl, fun K hK => ?_⟩
     have e25 : a.tmps[25]? = some (.agg (mixA (Value.int .u16) [.int .i8 t285, .int .i8 t286] t287)) := by rw [ha]; exact putSel_on (e := (1, 25, .agg (mixA (Value.int .u16) [.int .i8 t285, .int .i8 t286] t287))) 1 rfl rfl (hon 1 (by kernel_rfl)) rfl
     have e27 : a.tmps[27]? = some (.agg (mixA (Value.int .u16) [] t288)) := by rw [ha]; exact putSel_on (e := (3, 27, .agg (mixA (Value.int .u16) [] t288))) 3 rfl rfl (hon 3 (by kernel_rfl)) rfl
     have e28 : a.tmps[28]? = some (.string a2) := by rw [ha]; exact (putSel_off rfl).trans rfl
     replace ha := Aside0.mk ha
     have BK276 := Aside0.mk Q_BK276
     have BK277 := Aside0.mk Q_BK277
     have BK284 := Aside0.mk Q_BK284
     have HB := Aside0.mk Q_HB
     refine goes_ Tryd.func15 (by kernel_rfl) rfl #[.agg (mixA (Value.int .u16) [.int .i8 t285, .int .i8 t286] t287), .agg (mixA (Value.int .u16) [] t288), .string a2] (by rfl) rfl rfl (by first | (simp only [List.map_toArray, List.map_cons, List.map_nil, Act.eval, Array.getD_eq_getD_getElem?, Option.getD_some, e25, e27, e28]; done) | (simp only [List.map_toArray, List.map_cons, List.map_nil, Act.eval, Array.getD_eq_getD_getElem?, Option.getD_some, e25, e27, e28]; rfl)) ?_
     with_reducible refine (impl_MovesCrowd.calls k t285 t286 t287 t288 a2 t289 t290 _ A12.out).mono ?_
     rintro e w87 ⟨rfl, hb⟩
     refine ⟨_, rfl, ?_⟩
     have n0_ := bkb BK276 hb
     have n1_ := bkb BK277 hb
     have n2_ := bkb BK284 hb
     have n3_ := bst HB hb
     have z_BK291 := fun (h0_ : b 9 = true) (h1_ : b 10 = false) => (show w87.heap[gb291]? = some (.cells (mixA (Value.int .u16) [] (LA.zero 40)) 28 (0, 0)) from by first | exact (blk_below (g := gb291) (o := .cells (mixA (Value.int .u16) [] (LA.zero 40)) 28 (0, 0)) (by (with_reducible repeat (first | refine blk_drewN ?_ _ | refine blk_drew ?_ | refine blk_alloc ?_ _)); exact (Q_BK291 h0_ h1_)) hb))
     clear BK276
     clear BK277
     clear BK284
     clear HB
     have BK276 := n0_
     have BK277 := n1_
     have BK284 := n2_
     have HB := n3_
     clear n0_ n1_ n2_ n3_
     (try clear hb)
     (try clear hb2)
     (try clear hk)
     (try clear hi)
     refine hK.out _ _ ⟨gb291, m9_, (by rw [ha.out]; exact putSel_upk 4 hb_ rfl rfl rfl), (pk BK276), (pk BK277), (pk BK284), (pbs HB), z_BK291, Q_GW291, Q_GE291, Q_NB276_291, Q_NB291_276, Q_NB277_291, Q_NB291_277, Q_NB284_291, Q_NB291_284, fun h0_ => absurd ((hoff 10 (by kernel_rfl)).symm.trans h0_) (by decide), Q_X9_⟩
    refine steps_cons ?_ ?_
    ·rintro b a w' ⟨gb291, m9_, ha, Q_BK276, Q_BK277, Q_BK284, Q_HB, Q_BK291, Q_GW291, Q_GE291, Q_NB276_291, Q_NB291_276, Q_NB277_291, Q_NB291_277, Q_NB284_291, Q_NB291_284, Q_BK291_e10, Q_X9_⟩ hb_ hon hoff
     refine ⟨_, rfl, fun K hK => ?_⟩
     have e29 : a.tmps[29]? = some (.tuple #[.agg (mixA (Value.int .u16) [] t289), .int .i64 t290]) := by rw [ha]; exact putSel_on (e := (5, 29, .tuple #[.agg (mixA (Value.int .u16) [] t289), .int .i64 t290])) 4 rfl rfl (hon 5 (by kernel_rfl)) rfl
     replace ha := Aside0.mk ha
     have BK276 := Aside0.mk Q_BK276
     have BK277 := Aside0.mk Q_BK277
     have BK284 := Aside0.mk Q_BK284
     have HB := Aside0.mk Q_HB
     refine value_ (w1 := w') (v := .tuple #[.agg (mixA (Value.int .u16) [] t289), .int .i64 t290]) (by rfl) rfl ?_ ?_
     ·go_simp
      (try simp only [i64_w])
      try rfl
     refine hK.out _ _ ⟨gb291, m9_, (by rw [ha.out]; exact putSel_upk 5 hb_ rfl rfl rfl), Q_BK276, Q_BK277, Q_BK284, Q_HB, Q_BK291, Q_GW291, Q_GE291, Q_NB276_291, Q_NB291_276, Q_NB277_291, Q_NB291_277, Q_NB284_291, Q_NB291_284, fun h0_ => absurd ((hoff 10 (by kernel_rfl)).symm.trans h0_) (by decide), Q_X9_⟩
    refine steps_cons ?_ ?_
    ·rintro b a w' ⟨gb291, m9_, ha, Q_BK276, Q_BK277, Q_BK284, Q_HB, Q_BK291, Q_GW291, Q_GE291, Q_NB276_291, Q_NB291_276, Q_NB277_291, Q_NB291_277, Q_NB284_291, Q_NB291_284, Q_BK291_e10, Q_X9_⟩ hb_ hon hoff
     refine ⟨_, rfl, fun K hK => ?_⟩
     have e23 : a.tmps[23]? = some (.tuple #[.agg (mixA (Value.int .u16) [] t289), .int .i64 t290]) := by rw [ha]; exact putSel_on (e := (6, 23, .tuple #[.agg (mixA (Value.int .u16) [] t289), .int .i64 t290])) 5 rfl rfl (hon 6 (by kernel_rfl)) rfl
     replace ha := Aside0.mk ha
     have BK276 := Aside0.mk Q_BK276
     have BK277 := Aside0.mk Q_BK277
     have BK284 := Aside0.mk Q_BK284
     have HB := Aside0.mk Q_HB
     refine value_ (w1 := w') (v := .agg (mixA (Value.int .u16) [] t289)) (by rfl) rfl ?_ ?_
     ·go_simp
      (try simp only [i64_w])
      try rfl
     refine hK.out _ _ ⟨gb291, m9_, (by rw [ha.out]; exact putSel_upk 6 hb_ rfl rfl rfl), Q_BK276, Q_BK277, Q_BK284, Q_HB, Q_BK291, Q_GW291, Q_GE291, Q_NB276_291, Q_NB291_276, Q_NB277_291, Q_NB291_277, Q_NB284_291, Q_NB291_284, fun h0_ => absurd ((hoff 10 (by kernel_rfl)).symm.trans h0_) (by decide), Q_X9_⟩
    refine steps_cons ?_ ?_
    ·rintro b a w' ⟨gb291, m9_, ha, Q_BK276, Q_BK277, Q_BK284, Q_HB, Q_BK291, Q_GW291, Q_GE291, Q_NB276_291, Q_NB291_276, Q_NB277_291, Q_NB291_277, Q_NB284_291, Q_NB291_284, Q_BK291_e10, Q_X9_⟩ hb_ hon hoff
     refine ⟨_, rfl, fun K hK => ?_⟩
     have e23 : a.tmps[23]? = some (.tuple #[.agg (mixA (Value.int .u16) [] t289), .int .i64 t290]) := by rw [ha]; exact putSel_on (e := (6, 23, .tuple #[.agg (mixA (Value.int .u16) [] t289), .int .i64 t290])) 5 rfl rfl (hon 6 (by kernel_rfl)) rfl
     replace ha := Aside0.mk ha
     have BK276 := Aside0.mk Q_BK276
     have BK277 := Aside0.mk Q_BK277
     have BK284 := Aside0.mk Q_BK284
     have HB := Aside0.mk Q_HB
     refine value_ (w1 := w') (v := .int .i64 t290) (by rfl) rfl ?_ ?_
     ·go_simp
      (try simp only [i64_w])
      try rfl
     refine hK.out _ _ ⟨gb291, m9_, (by rw [ha.out]; exact putSel_upk 7 hb_ rfl rfl rfl), Q_BK276, Q_BK277, Q_BK284, Q_HB, Q_BK291, Q_GW291, Q_GE291, Q_NB276_291, Q_NB291_276, Q_NB277_291, Q_NB291_277, Q_NB284_291, Q_NB291_284, Q_BK291_e10, Q_X9_⟩
    refine steps_cons ?_ ?_
    ·rintro b a w' ⟨gb291, m9_, ha, Q_BK276, Q_BK277, Q_BK284, Q_HB, Q_BK291, Q_GW291, Q_GE291, Q_NB276_291, Q_NB291_276, Q_NB277_291, Q_NB291_277, Q_NB284_291, Q_NB291_284, Q_BK291_e10, Q_X9_⟩ hb_ hon hoff
     refine ⟨_, rfl, fun K hK => ?_⟩
     replace ha := Aside0.mk ha
     have BK276 := Aside0.mk Q_BK276
     have BK277 := Aside0.mk Q_BK277
     have BK284 := Aside0.mk Q_BK284
     have HB := Aside0.mk Q_HB
     refine box_step ?hg (N := 9) ?hd (cs := (mixA (Value.int .u16) [] (LA.zero 40))) (t := 28) ?hr ?_; (case hd => rfl); (case hg => rfl); (case hr => first | (go_simp; done) | (go_simp; rfl))
     intro gb291 hg w84 hbox hb
     have n0_ := bkb BK276 hb
     have n1_ := bkb BK277 hb
     have n2_ := bkb BK284 hb
     have n3_ := bst HB hb
     have n4_ := Aside0.mk (hbox)
     have n5_ := gwl HB hg
     have n6_ := gwl HB hg
     have n7_ := nbl BK276 hg
     have n8_ := nbg BK276 hg
     have n9_ := nbl BK277 hg
     have n10_ := nbg BK277 hg
     have n11_ := nbl BK284 hg
     have n12_ := nbg BK284 hg
     clear BK276
     clear BK277
     clear BK284
     clear HB
     have BK276 := n0_
     have BK277 := n1_
     have BK284 := n2_
     have HB := n3_
     have BK291 := n4_
     have GW291 := n5_
     have GE291 := n6_
     have NB276_291 := n7_
     have NB291_276 := n8_
     have NB277_291 := n9_
     have NB291_277 := n10_
     have NB284_291 := n11_
     have NB291_284 := n12_
     clear n0_ n1_ n2_ n3_ n4_ n5_ n6_ n7_ n8_ n9_ n10_ n11_ n12_
     clear hb hbox hg
     refine hK.out _ _ ⟨gb291, (.pointer (some ⟨gb291, 0, none⟩)), (by rw [ha.out]; exact putSel_upk 8 hb_ rfl rfl rfl), (pk BK276), (pk BK277), (pk BK284), (pbs HB), fun _ _ => (pk BK291), fun _ => GW291.out, fun _ => GE291.out, fun _ => NB276_291.out, fun _ => NB291_276.out, fun _ => NB277_291.out, fun _ => NB291_277.out, fun _ => NB284_291.out, fun _ => NB291_284.out, fun h0_ => absurd ((hoff 10 (by kernel_rfl)).symm.trans h0_) (by decide), fun _ => rfl⟩
    refine steps_cons ?_ ?_
    ·rintro b a w' ⟨gb291, m9_, ha, Q_BK276, Q_BK277, Q_BK284, Q_HB, Q_BK291, Q_GW291, Q_GE291, Q_NB276_291, Q_NB291_276, Q_NB277_291, Q_NB291_277, Q_NB284_291, Q_NB291_284, Q_BK291_e10, Q_X9_⟩ hb_ hon hoff
     refine ⟨_, rfl, fun K hK => ?_⟩
     have e9 : a.tmps[9]? = some (m9_) := by rw [ha]; exact putSel_on (e := (9, 9, m9_)) 8 rfl rfl (hon 9 (by kernel_rfl)) rfl
     rw [Q_X9_ (hon 9 (by kernel_rfl))] at e9
     have e30 : a.tmps[30]? = some (.agg (mixA (Value.int .u16) [] t289)) := by rw [ha]; exact putSel_on (e := (7, 30, .agg (mixA (Value.int .u16) [] t289))) 6 rfl rfl (hon 7 (by kernel_rfl)) rfl
     replace ha := Aside0.mk ha
     have BK276 := Aside0.mk Q_BK276
     have BK277 := Aside0.mk Q_BK277
     have BK284 := Aside0.mk Q_BK284
     have HB := Aside0.mk Q_HB
     have BK291 := Aside0.mk (Q_BK291 (hon 9 (by kernel_rfl)) hb_)
     have GW291 := Aside0.mk (Q_GW291 (hon 9 (by kernel_rfl)))
     have GE291 := Aside0.mk (Q_GE291 (hon 9 (by kernel_rfl)))
     have NB276_291 := Aside0.mk (Q_NB276_291 (hon 9 (by kernel_rfl)))
     have NB291_276 := Aside0.mk (Q_NB291_276 (hon 9 (by kernel_rfl)))
     have NB277_291 := Aside0.mk (Q_NB277_291 (hon 9 (by kernel_rfl)))
     have NB291_277 := Aside0.mk (Q_NB291_277 (hon 9 (by kernel_rfl)))
     have NB284_291 := Aside0.mk (Q_NB284_291 (hon 9 (by kernel_rfl)))
     have NB291_284 := Aside0.mk (Q_NB291_284 (hon 9 (by kernel_rfl)))
     refine step_store_lmix (by rfl) rfl 28 _ _ rfl gb291 (e := (Value.int .u16)) (cs' := []) (W' := t289) (cs := []) (W := (LA.zero 40)) (T := 28) (by first | (simp only [List.map_toArray, List.map_cons, List.map_nil, Act.eval, Array.getD_eq_getD_getElem?, Option.getD_some, e9, e30]; done) | (simp only [List.map_toArray, List.map_cons, List.map_nil, Act.eval, Array.getD_eq_getD_getElem?, Option.getD_some, e9, e30]; rfl)) (by first | (simp only [List.map_toArray, List.map_cons, List.map_nil, Act.eval, Array.getD_eq_getD_getElem?, Option.getD_some, e9, e30]; done) | (simp only [List.map_toArray, List.map_cons, List.map_nil, Act.eval, Array.getD_eq_getD_getElem?, Option.getD_some, e9, e30]; rfl)) (pk BK291) rfl (by kernel_rfl) rfl (fun _ => rfl) rfl ?_
     intro w89 hi hk hbl
     have n0_ := Aside0.mk (KeepBut.blk hk (g' := gb276) (o := .cells (mixA (Value.int .u16) [.int .i8 a0_0, .int .i8 a0_1] a0_2) 26 (0, 0)) (pk BK276) NB276_291.out (by simp))
     have n1_ := Aside0.mk (KeepBut.blk hk (g' := gb277) (o := .cells (mixA (Value.int .u16) [] a1) 27 (0, 0)) (pk BK277) NB277_291.out (by simp))
     have n2_ := Aside0.mk (KeepBut.blk hk (g' := gb284) (o := .cells (mixA (Value.int .u16) [] t282) 28 (0, 0)) (pk BK284) NB284_291.out (by simp))
     have n3_ := Aside0.mk (hbl _ _ (pbs HB) GE291.out)
     have n4_ := Aside0.mk (hi)
     clear BK276
     clear BK277
     clear BK284
     clear HB
     clear BK291
     have BK276 := n0_
     have BK277 := n1_
     have BK284 := n2_
     have HB := n3_
     have BK291 := n4_
     clear n0_ n1_ n2_ n3_ n4_
     clear hi hk hbl
     refine hK.out _ _ ⟨gb291, m9_, (by rw [ha.out]; exact putSel_none (v := undef) rfl), (pk BK276), (pk BK277), (pk BK284), (pbs HB), fun _ h1_ => absurd ((up_self b 10).symm.trans h1_) (by decide), fun _ => GW291.out, fun _ => GE291.out, fun _ => NB276_291.out, fun _ => NB291_276.out, fun _ => NB277_291.out, fun _ => NB291_277.out, fun _ => NB284_291.out, fun _ => NB291_284.out, fun _ => (pk BK291), Q_X9_⟩
    refine steps_cons ?_ ?_
    ·rintro b a w' ⟨gb291, m9_, ha, Q_BK276, Q_BK277, Q_BK284, Q_HB, Q_BK291, Q_GW291, Q_GE291, Q_NB276_291, Q_NB291_276, Q_NB277_291, Q_NB291_277, Q_NB284_291, Q_NB291_284, Q_BK291_e10, Q_X9_⟩ hb_ hon hoff
     refine ⟨_, rfl, fun K hK => ?_⟩
     have e31 : a.tmps[31]? = some (.int .i64 t290) := by rw [ha]; exact putSel_on (e := (8, 31, .int .i64 t290)) 7 rfl rfl (hon 8 (by kernel_rfl)) rfl
     replace ha := Aside0.mk ha
     have BK276 := Aside0.mk Q_BK276
     have BK277 := Aside0.mk Q_BK277
     have BK284 := Aside0.mk Q_BK284
     have HB := Aside0.mk Q_HB
     have GW291 := Aside0.mk (Q_GW291 (hon 9 (by kernel_rfl)))
     have GE291 := Aside0.mk (Q_GE291 (hon 9 (by kernel_rfl)))
     have NB276_291 := Aside0.mk (Q_NB276_291 (hon 9 (by kernel_rfl)))
     have NB291_276 := Aside0.mk (Q_NB291_276 (hon 9 (by kernel_rfl)))
     have NB277_291 := Aside0.mk (Q_NB277_291 (hon 9 (by kernel_rfl)))
     have NB291_277 := Aside0.mk (Q_NB291_277 (hon 9 (by kernel_rfl)))
     have NB284_291 := Aside0.mk (Q_NB284_291 (hon 9 (by kernel_rfl)))
     have NB291_284 := Aside0.mk (Q_NB291_284 (hon 9 (by kernel_rfl)))
     have BK291 := Aside0.mk (Q_BK291_e10 (hon 10 (by kernel_rfl)))
     refine value_ (w1 := w') (v := .int .i64 t290) (by rfl) rfl ?_ ?_
     ·go_simp
      (try simp only [i64_w])
      try rfl
     refine hK.out _ _ ⟨gb291, m9_, (by rw [ha.out]; exact putSel_upk 9 hb_ rfl rfl rfl), Q_BK276, Q_BK277, Q_BK284, Q_HB, fun _ h1_ => absurd ((hon 10 (by kernel_rfl)).symm.trans h1_) (by decide), Q_GW291, Q_GE291, Q_NB276_291, Q_NB291_276, Q_NB277_291, Q_NB291_277, Q_NB284_291, Q_NB291_284, Q_BK291_e10, Q_X9_⟩
    exact steps_nil
   rintro b a w89 hall ⟨gb291, m9_, ha, Q_BK276, Q_BK277, Q_BK284, Q_HB, Q_BK291, Q_GW291, Q_GE291, Q_NB276_291, Q_NB291_276, Q_NB277_291, Q_NB291_277, Q_NB284_291, Q_NB291_284, Q_BK291_e10, Q_X9_⟩
   clear BK276 BK277 BK284 HB
   have hb0_ := hall 0 (by kernel_rfl)
   have hb1_ := hall 1 (by kernel_rfl)
   have hb2_ := hall 2 (by kernel_rfl)
   have hb3_ := hall 3 (by kernel_rfl)
   have hb5_ := hall 5 (by kernel_rfl)
   have hb6_ := hall 6 (by kernel_rfl)
   have hb7_ := hall 7 (by kernel_rfl)
   have hb8_ := hall 8 (by kernel_rfl)
   have hb9_ := hall 9 (by kernel_rfl)
   have hb10_ := hall 10 (by kernel_rfl)
   have hb11_ := hall 11 (by kernel_rfl)
   subst ha
   obtain rfl := (Q_X9_ hb9_).symm
   simp only [putSel, hb0_, hb1_, hb2_, hb3_, hb5_, hb6_, hb7_, hb8_, hb9_, hb10_, hb11_, if_true, Act.put, List.setIfInBounds_toArray, List.set_cons_zero, List.set_cons_succ]
   have BK276 := Aside0.mk Q_BK276
   clear Q_BK276
   have BK277 := Aside0.mk Q_BK277
   clear Q_BK277
   have BK284 := Aside0.mk Q_BK284
   clear Q_BK284
   have HB := Aside0.mk Q_HB
   clear Q_HB
   clear Q_BK291
   have GW291 := Aside0.mk (Q_GW291 hb9_)
   clear Q_GW291
   have GE291 := Aside0.mk (Q_GE291 hb9_)
   clear Q_GE291
   have NB276_291 := Aside0.mk (Q_NB276_291 hb9_)
   clear Q_NB276_291
   have NB291_276 := Aside0.mk (Q_NB291_276 hb9_)
   clear Q_NB291_276
   have NB277_291 := Aside0.mk (Q_NB277_291 hb9_)
   clear Q_NB277_291
   have NB291_277 := Aside0.mk (Q_NB291_277 hb9_)
   clear Q_NB291_277
   have NB284_291 := Aside0.mk (Q_NB284_291 hb9_)
   clear Q_NB284_291
   have NB291_284 := Aside0.mk (Q_NB291_284 hb9_)
   clear Q_NB291_284
   have BK291 := Aside0.mk (Q_BK291_e10 hb10_)
   clear Q_BK291_e10
   clear hall hb0_ hb1_ hb2_ hb3_ hb5_ hb6_ hb7_ hb8_ hb9_ hb10_ hb11_
   try go_wp2_with (first | ((with_reducible refine gate_dst (N := 32) rfl ?_); refine wpList_run0 (v := .agg (mixA (Value.int .u16) [] t289)) rfl (load_mix_run (P := Tryd.prog) 28 (.tmp 9) rfl gb291 rfl (show World.rangeAt _ gb291 0 ([] ++ t289.l.map (Value.int .u16)) from mix_range (show (World.heap _)[gb291]? = some (.cells (mixA (Value.int .u16) [] t289) 28 (0, 0)) from by (with_reducible repeat (first | refine blk_drewN ?_ _ | refine blk_drew ?_ | refine blk_alloc ?_ _)); exact BK291.out)) Tryd.underlying28 rfl (by kernel_rfl) rfl) ?_) | ((with_reducible refine gate_dst (N := 33) rfl ?_); refine wpList_run0 (v := .agg (mixA (Value.int .u16) [] t282)) rfl (load_mix_run (P := Tryd.prog) 28 (.tmp 7) rfl gb284 rfl (show World.rangeAt _ gb284 0 ([] ++ t282.l.map (Value.int .u16)) from mix_range (show (World.heap _)[gb284]? = some (.cells (mixA (Value.int .u16) [] t282) 28 (0, 0)) from by (with_reducible repeat (first | refine blk_drewN ?_ _ | refine blk_drew ?_ | refine blk_alloc ?_ _)); exact BK284.out)) Tryd.underlying28 rfl (by kernel_rfl) rfl) ?_) | ((with_reducible refine gate_callee (f := 10) rfl ?_); refine goesL_ (some 34) rfl rfl Tryd.func10 (by kernel_rfl) rfl #[.agg (mixA (Value.int .u16) [] t289), .agg (mixA (Value.int .u16) [] t282)] rfl (by (try simp only [List.map_toArray, List.map_cons, List.map_nil]); first | done | rfl | (simp only [List.length_drop, List.length_take]; rfl)) ?_; (with_reducible refine (laws_eqCrowd.calls k t289 t282 false _ A13.out).mono ?_); rintro e w96 ⟨rfl, hb⟩; refine ⟨_, rfl, ?_⟩; have n0_ := bkb BK276 hb; have n1_ := bkb BK277 hb; have n2_ := bkb BK284 hb; have n3_ := bkb BK291 hb; have n4_ := bst HB hb; clear BK276; clear BK277; clear BK284; clear BK291; clear HB; have BK276 := n0_; have BK277 := n1_; have BK284 := n2_; have BK291 := n3_; have HB := n4_; clear n0_ n1_ n2_ n3_ n4_; (try clear hb); (try clear hb2); (try clear hk); (try clear hi)))
   go_ret
   exact ⟨by first | rfl | (simp [errW_none, errW_some] <;> rfl) | (simp [*, errW_none, errW_some] <;> rfl), pbs HB⟩
end Go.Proofs.YtdedijjbdkoekaaDoor.PB
end
section
namespace Go.Proofs.YtdedijjbdkoekaaDoor.PB
open Go.RowKit Go.Proofs.YtdedijjbdkoekaaDoorW.PrintWords Go.Proofs.YtdedijjbdkoekaaDoorW.PrintLast Go.Proofs.YtdedijjbdkoekaaDoorW.PrintMore Go.Proofs.YtdedijjbdkoekaaDoor.La
attribute [local go_sem] max2_int min2_int max_two min_two max_three min_three max_four min_four   -- for this text's walks alone
set_option linter.unusedVariables false
set_option linter.unusedSimpArgs false
def spec_MoveCrowd.f (k : Nat) (a0_0 : Int) (a0_1 : Int) (a0_2 : LA 10) (a1 : LA 40) (a2 : Int) : Option (LA 40 × Int) := (spec_l06Ok.f k a0_0 a0_1 a0_2 a1).bind fun t166 => (if t166 = true then ((spec_l06Letter.f a2).bind fun t167 => (if t167 = true then ((spec_l06Move.f k a0_0 a0_1 a0_2 a1 a2).bind fun t168 => (some (t168, 0))) else (some ((LA.zero 40), 5)))) else (some ((LA.zero 40), 1)))
theorem spec_MoveCrowd.mono : ∀ a0 a1 a2 a3 a4 k, LeO (spec_MoveCrowd.f k a0 a1 a2 a3 a4) (spec_MoveCrowd.f (k + 1) a0 a1 a2 a3 a4) := by
 intro a0 a1 a2 a3 a4 k
 unfold spec_MoveCrowd.f
 repeat' first
   | (with_reducible exact spec_l06Move.mono _ _ _ _ _ _)
   | (with_reducible exact spec_l06Ok.mono _ _ _ _ _)
   | (with_reducible exact LeO.refl _)
   | (with_reducible exact LeO.none _)
   | (with_reducible refine LeO.ite ?_ ?_)
   | (with_reducible refine LeO.bind ?_ (fun _ => ?_))
   | exact spec_l06Move.mono _ _ _ _ _ _
   | exact spec_l06Ok.mono _ _ _ _ _
   | exact LeO.none _
   | refine LeO.ite ?_ ?_
   | refine LeO.bind ?_ (fun _ => ?_)
def impl_MoveCrowd.f (k : Nat) (a0_0 : Int) (a0_1 : Int) (a0_2 : LA 10) (a1 : LA 40) (a2 : Int) : Option (LA 40 × Int) := (impl_MovesCrowd.f k a0_0 a0_1 a0_2 a1 (strOfNums (([a2] : List Int)))).bind fun bt250 => (some (bt250.1, bt250.2))
theorem impl_MoveCrowd.mono : ∀ a0 a1 a2 a3 a4 k, LeO (impl_MoveCrowd.f k a0 a1 a2 a3 a4) (impl_MoveCrowd.f (k + 1) a0 a1 a2 a3 a4) := by
 intro a0 a1 a2 a3 a4 k
 unfold impl_MoveCrowd.f
 repeat' first
   | (with_reducible exact impl_MovesCrowd.mono _ _ _ _ _ _)
   | (with_reducible exact LeO.refl _)
   | (with_reducible exact LeO.none _)
   | (with_reducible refine LeO.ite ?_ ?_)
   | (with_reducible refine LeO.bind ?_ (fun _ => ?_))
   | exact impl_MovesCrowd.mono _ _ _ _ _ _
   | exact LeO.none _
   | refine LeO.ite ?_ ?_
   | refine LeO.bind ?_ (fun _ => ?_)
end Go.Proofs.YtdedijjbdkoekaaDoor.PB
end
section
namespace Go.Proofs.YtdedijjbdkoekaaDoor.PB
open Go.RowKit Go.Proofs.YtdedijjbdkoekaaDoorW.PrintWords Go.Proofs.YtdedijjbdkoekaaDoorW.PrintLast Go.Proofs.YtdedijjbdkoekaaDoorW.PrintMore Go.Proofs.YtdedijjbdkoekaaDoor.La
attribute [local go_sem] max2_int min2_int max_two min_two max_three min_three max_four min_four   -- for this text's walks alone
set_option linter.unusedVariables false
set_option linter.unusedSimpArgs false
def bits_OnesCount16.f (a0 : Int) : Option (Int) := if 0 ≤ (a0 / 256) then (if (a0 / 256) < 256 then (if 0 ≤ (Go.bits .and .u16 a0 255) then (if (Go.bits .and .u16 a0 255) < 256 then (some (((bt (⟨#[0, 1, 1, 2, 1, 2, 2, 3, 1, 2, 2, 3, 2, 3, 3, 4, 1, 2, 2, 3, 2, 3, 3, 4, 2, 3, 3, 4, 3, 4, 4, 5, 1, 2, 2, 3, 2, 3, 3, 4, 2, 3, 3, 4, 3, 4, 4, 5, 2, 3, 3, 4, 3, 4, 4, 5, 3, 4, 4, 5, 4, 5, 5, 6, 1, 2, 2, 3, 2, 3, 3, 4, 2, 3, 3, 4, 3, 4, 4, 5, 2, 3, 3, 4, 3, 4, 4, 5, 3, 4, 4, 5, 4, 5, 5, 6, 2, 3, 3, 4, 3, 4, 4, 5, 3, 4, 4, 5, 4, 5, 5, 6, 3, 4, 4, 5, 4, 5, 5, 6, 4, 5, 5, 6, 5, 6, 6, 7, 1, 2, 2, 3, 2, 3, 3, 4, 2, 3, 3, 4, 3, 4, 4, 5, 2, 3, 3, 4, 3, 4, 4, 5, 3, 4, 4, 5, 4, 5, 5, 6, 2, 3, 3, 4, 3, 4, 4, 5, 3, 4, 4, 5, 4, 5, 5, 6, 3, 4, 4, 5, 4, 5, 5, 6, 4, 5, 5, 6, 5, 6, 6, 7, 2, 3, 3, 4, 3, 4, 4, 5, 3, 4, 4, 5, 4, 5, 5, 6, 3, 4, 4, 5, 4, 5, 5, 6, 4, 5, 5, 6, 5, 6, 6, 7, 3, 4, 4, 5, 4, 5, 5, 6, 4, 5, 5, 6, 5, 6, 6, 7, 4, 5, 5, 6, 5, 6, 6, 7, 5, 6, 6, 7, 6, 7, 7, 8]⟩ : ByteArray) (a0 / 256)) + (bt (⟨#[0, 1, 1, 2, 1, 2, 2, 3, 1, 2, 2, 3, 2, 3, 3, 4, 1, 2, 2, 3, 2, 3, 3, 4, 2, 3, 3, 4, 3, 4, 4, 5, 1, 2, 2, 3, 2, 3, 3, 4, 2, 3, 3, 4, 3, 4, 4, 5, 2, 3, 3, 4, 3, 4, 4, 5, 3, 4, 4, 5, 4, 5, 5, 6, 1, 2, 2, 3, 2, 3, 3, 4, 2, 3, 3, 4, 3, 4, 4, 5, 2, 3, 3, 4, 3, 4, 4, 5, 3, 4, 4, 5, 4, 5, 5, 6, 2, 3, 3, 4, 3, 4, 4, 5, 3, 4, 4, 5, 4, 5, 5, 6, 3, 4, 4, 5, 4, 5, 5, 6, 4, 5, 5, 6, 5, 6, 6, 7, 1, 2, 2, 3, 2, 3, 3, 4, 2, 3, 3, 4, 3, 4, 4, 5, 2, 3, 3, 4, 3, 4, 4, 5, 3, 4, 4, 5, 4, 5, 5, 6, 2, 3, 3, 4, 3, 4, 4, 5, 3, 4, 4, 5, 4, 5, 5, 6, 3, 4, 4, 5, 4, 5, 5, 6, 4, 5, 5, 6, 5, 6, 6, 7, 2, 3, 3, 4, 3, 4, 4, 5, 3, 4, 4, 5, 4, 5, 5, 6, 3, 4, 4, 5, 4, 5, 5, 6, 4, 5, 5, 6, 5, 6, 6, 7, 3, 4, 4, 5, 4, 5, 5, 6, 4, 5, 5, 6, 5, 6, 6, 7, 4, 5, 5, 6, 5, 6, 6, 7, 5, 6, 6, 7, 6, 7, 7, 8]⟩ : ByteArray) (Go.bits .and .u16 a0 255))) % 256)) else (none)) else (none)) else (none)) else (none)
mutual
def impl_CountCrowd.l0 : Nat → Int → LA 40 → Int → Option (Int)
 | 0, _, _, _ => none
 | k + 1, x3, x8, x9 => if x9 < 4 then (if 0 ≤ x9 then (impl_CountCrowd.l1 k x3 x8 x9 (LA.row x8 10 x9) 0) else (none)) else (some x3)
def impl_CountCrowd.l1 : Nat → Int → LA 40 → Int → LA 10 → Int → Option (Int)
 | 0, _, _, _, _, _ => none
 | k + 1, x3, x8, x9, x12, x13 => if x13 < 10 then (if 0 ≤ x13 then ((bits_OnesCount16.f (Go.bits .and .u16 (rd x12.l x13) 1023)).bind fun t312 => (impl_CountCrowd.l1 k (wrap64 (x3 + t312)) x8 x9 x12 (wrap64 (x13 + 1)))) else (none)) else (impl_CountCrowd.l0 k x3 x8 (wrap64 (x9 + 1)))
end
def impl_CountCrowd.f (k : Nat) (a0 : LA 40) : Option (Int) := impl_CountCrowd.l0 k 0 a0 0
theorem impl_CountCrowd.mono_l : ∀ k, (∀ y0 y1 y2, LeO (impl_CountCrowd.l0 k y0 y1 y2) (impl_CountCrowd.l0 (k + 1) y0 y1 y2)) ∧ (∀ y0 y1 y2 y3 y4, LeO (impl_CountCrowd.l1 k y0 y1 y2 y3 y4) (impl_CountCrowd.l1 (k + 1) y0 y1 y2 y3 y4))
 | 0 => ⟨fun _ _ _ r h => by simp [impl_CountCrowd.l0] at h, fun _ _ _ _ _ r h => by simp [impl_CountCrowd.l1] at h⟩
 | k + 1 => by
  obtain ⟨ih0, ih1⟩ := impl_CountCrowd.mono_l k
  refine ⟨?_, ?_⟩
  ·intro y0 y1 y2
   unfold impl_CountCrowd.l0
   repeat' first
   | (with_reducible exact ih0 _ _ _)
   | (with_reducible exact ih1 _ _ _ _ _)
   | (with_reducible exact LeO.refl _)
   | (with_reducible exact LeO.none _)
   | (with_reducible refine LeO.ite ?_ ?_)
   | (with_reducible refine LeO.bind ?_ (fun _ => ?_))
   | exact ih0 _ _ _
   | exact ih1 _ _ _ _ _
   | exact LeO.none _
   | refine LeO.ite ?_ ?_
   | refine LeO.bind ?_ (fun _ => ?_)
  ·intro y0 y1 y2 y3 y4
   unfold impl_CountCrowd.l1
   repeat' first
   | (with_reducible exact ih0 _ _ _)
   | (with_reducible exact ih1 _ _ _ _ _)
   | (with_reducible exact LeO.refl _)
   | (with_reducible exact LeO.none _)
   | (with_reducible refine LeO.ite ?_ ?_)
   | (with_reducible refine LeO.bind ?_ (fun _ => ?_))
   | exact ih0 _ _ _
   | exact ih1 _ _ _ _ _
   | exact LeO.none _
   | refine LeO.ite ?_ ?_
   | refine LeO.bind ?_ (fun _ => ?_)
theorem impl_CountCrowd.mono : ∀ a0 k, LeO (impl_CountCrowd.f k a0) (impl_CountCrowd.f (k + 1) a0) := by
 intro a0 k
 obtain ⟨ih0, ih1⟩ := impl_CountCrowd.mono_l k
 unfold impl_CountCrowd.f
 repeat' first
   | (with_reducible exact ih0 _ _ _)
   | (with_reducible exact ih1 _ _ _ _ _)
   | (with_reducible exact LeO.refl _)
   | (with_reducible exact LeO.none _)
   | (with_reducible refine LeO.ite ?_ ?_)
   | (with_reducible refine LeO.bind ?_ (fun _ => ?_))
   | exact ih0 _ _ _
   | exact ih1 _ _ _ _ _
   | exact LeO.none _
   | refine LeO.ite ?_ ?_
   | refine LeO.bind ?_ (fun _ => ?_)
end Go.Proofs.YtdedijjbdkoekaaDoor.PB
end
section
namespace Go.Proofs.YtdedijjbdkoekaaDoor.PB
open Go.RowKit Go.Proofs.YtdedijjbdkoekaaDoorW.PrintWords Go.Proofs.YtdedijjbdkoekaaDoorW.PrintLast Go.Proofs.YtdedijjbdkoekaaDoorW.PrintMore Go.Proofs.YtdedijjbdkoekaaDoor.La
attribute [local go_sem] max2_int min2_int max_two min_two max_three min_three max_four min_four   -- for this text's walks alone
set_option linter.unusedVariables false
set_option linter.unusedSimpArgs false
mutual
def impl_anywhere.l0 : Nat → List (S41) → Int → Int → LA 40 → Option (LA 40)
 | 0, _, _, _, _ => none
 | k + 1, x9, x10, x11, x385000 => if x11 < x10 then (if 0 ≤ x11 then (if x11 < (x9.length : Int) then (impl_anywhere.l1 k x9 x10 x11 0 x385000 ((rd_T41 x9 x11).f0) ((rd_T41 x9 x11).f1)) else (none)) else (none)) else (some x385000)
def impl_anywhere.l1 : Nat → List (S41) → Int → Int → Int → LA 40 → Int → Int → Option (LA 40)
 | 0, _, _, _, _, _, _, _ => none
 | k + 1, x9, x10, x11, x15, x385000, x390000, x390001 => if x15 < 4 then ((impl_Crowd_set.f x385000 x390000 x390001 x15).bind fun t390 => (impl_anywhere.l1 k x9 x10 x11 (wrap64 (x15 + 1)) t390 x390000 x390001)) else (impl_anywhere.l0 k x9 x10 (wrap64 (x11 + 1)) x385000)
end
def impl_anywhere.f (k : Nat) (a0_0 : Int) (a0_1 : Int) (a0_2 : LA 10) : Option (LA 40) := (impl_Room_free.f k a0_0 a0_1 a0_2).bind fun t385 => (impl_anywhere.l0 k t385 (t385.length : Int) 0 (LA.zero 40))
theorem impl_anywhere.mono_l : ∀ k, (∀ y0 y1 y2 y3, LeO (impl_anywhere.l0 k y0 y1 y2 y3) (impl_anywhere.l0 (k + 1) y0 y1 y2 y3)) ∧ (∀ y0 y1 y2 y3 y4 y5 y6, LeO (impl_anywhere.l1 k y0 y1 y2 y3 y4 y5 y6) (impl_anywhere.l1 (k + 1) y0 y1 y2 y3 y4 y5 y6))
 | 0 => ⟨fun _ _ _ _ r h => by simp [impl_anywhere.l0] at h, fun _ _ _ _ _ _ _ r h => by simp [impl_anywhere.l1] at h⟩
 | k + 1 => by
  obtain ⟨ih0, ih1⟩ := impl_anywhere.mono_l k
  refine ⟨?_, ?_⟩
  ·intro y0 y1 y2 y3
   unfold impl_anywhere.l0
   repeat' first
   | (with_reducible exact ih0 _ _ _ _)
   | (with_reducible exact ih1 _ _ _ _ _ _ _)
   | (with_reducible exact impl_Room_free.mono _ _ _ _)
   | (with_reducible exact LeO.refl _)
   | (with_reducible exact LeO.none _)
   | (with_reducible refine LeO.ite ?_ ?_)
   | (with_reducible refine LeO.bind ?_ (fun _ => ?_))
   | exact ih0 _ _ _ _
   | exact ih1 _ _ _ _ _ _ _
   | exact impl_Room_free.mono _ _ _ _
   | exact LeO.none _
   | refine LeO.ite ?_ ?_
   | refine LeO.bind ?_ (fun _ => ?_)
  ·intro y0 y1 y2 y3 y4 y5 y6
   unfold impl_anywhere.l1
   repeat' first
   | (with_reducible exact ih0 _ _ _ _)
   | (with_reducible exact ih1 _ _ _ _ _ _ _)
   | (with_reducible exact impl_Room_free.mono _ _ _ _)
   | (with_reducible exact LeO.refl _)
   | (with_reducible exact LeO.none _)
   | (with_reducible refine LeO.ite ?_ ?_)
   | (with_reducible refine LeO.bind ?_ (fun _ => ?_))
   | exact ih0 _ _ _ _
   | exact ih1 _ _ _ _ _ _ _
   | exact impl_Room_free.mono _ _ _ _
   | exact LeO.none _
   | refine LeO.ite ?_ ?_
   | refine LeO.bind ?_ (fun _ => ?_)
theorem impl_anywhere.mono : ∀ a0 a1 a2 k, LeO (impl_anywhere.f k a0 a1 a2) (impl_anywhere.f (k + 1) a0 a1 a2) := by
 intro a0 a1 a2 k
 obtain ⟨ih0, ih1⟩ := impl_anywhere.mono_l k
 unfold impl_anywhere.f
 repeat' first
   | (with_reducible exact ih0 _ _ _ _)
   | (with_reducible exact ih1 _ _ _ _ _ _ _)
   | (with_reducible exact impl_Room_free.mono _ _ _ _)
   | (with_reducible exact LeO.refl _)
   | (with_reducible exact LeO.none _)
   | (with_reducible refine LeO.ite ?_ ?_)
   | (with_reducible refine LeO.bind ?_ (fun _ => ?_))
   | exact ih0 _ _ _ _
   | exact ih1 _ _ _ _ _ _ _
   | exact impl_Room_free.mono _ _ _ _
   | exact LeO.none _
   | refine LeO.ite ?_ ?_
   | refine LeO.bind ?_ (fun _ => ?_)
def impl_Anywhere.f (k : Nat) (a0_0 : Int) (a0_1 : Int) (a0_2 : LA 10) : Option (LA 40 × Int) := (impl_ValidRoom.f k a0_0 a0_1 a0_2).bind fun t393 => (if t393 = true then ((impl_anywhere.f k a0_0 a0_1 a0_2).bind fun t394 => (some (t394, 0))) else (some ((LA.zero 40), 1)))
theorem impl_Anywhere.mono : ∀ a0 a1 a2 k, LeO (impl_Anywhere.f k a0 a1 a2) (impl_Anywhere.f (k + 1) a0 a1 a2) := by
 intro a0 a1 a2 k
 unfold impl_Anywhere.f
 repeat' first
   | (with_reducible exact impl_ValidRoom.mono _ _ _ _)
   | (with_reducible exact impl_anywhere.mono _ _ _ _)
   | (with_reducible exact LeO.refl _)
   | (with_reducible exact LeO.none _)
   | (with_reducible refine LeO.ite ?_ ?_)
   | (with_reducible refine LeO.bind ?_ (fun _ => ?_))
   | exact impl_ValidRoom.mono _ _ _ _
   | exact impl_anywhere.mono _ _ _ _
   | exact LeO.none _
   | refine LeO.ite ?_ ?_
   | refine LeO.bind ?_ (fun _ => ?_)
mutual
def impl_Crowd_only.l0 : Nat → List (S41) → Int → Int → LA 40 → Option (Int × Int × Int)
 | 0, _, _, _, _ => none
 | k + 1, x10, x11, x12, x396000 => if x12 < x11 then (if 0 ≤ x12 then (if x12 < (x10.length : Int) then (impl_Crowd_only.l1 k x10 x11 x12 0 x396000 ((rd_T41 x10 x12).f0) ((rd_T41 x10 x12).f1)) else (none)) else (none)) else (some (0, 0, 0))
def impl_Crowd_only.l1 : Nat → List (S41) → Int → Int → Int → LA 40 → Int → Int → Option (Int × Int × Int)
 | 0, _, _, _, _, _, _, _ => none
 | k + 1, x10, x11, x12, x16, x396000, x403000, x403001 => if x16 < 4 then ((impl_Crowd_has.f x396000 x403000 x403001 x16).bind fun t403 => (if t403 = true then (some (x403000, x403001, x16)) else (impl_Crowd_only.l1 k x10 x11 x12 (wrap64 (x16 + 1)) x396000 x403000 x403001))) else (impl_Crowd_only.l0 k x10 x11 (wrap64 (x12 + 1)) x396000)
end
def impl_Crowd_only.f (k : Nat) (a0 : LA 40) (a1_0 : Int) (a1_1 : Int) (a1_2 : LA 10) : Option (Int × Int × Int) := (impl_Room_free.f k a1_0 a1_1 a1_2).bind fun t398 => (impl_Crowd_only.l0 k t398 (t398.length : Int) 0 a0)
theorem impl_Crowd_only.mono_l : ∀ k, (∀ y0 y1 y2 y3, LeO (impl_Crowd_only.l0 k y0 y1 y2 y3) (impl_Crowd_only.l0 (k + 1) y0 y1 y2 y3)) ∧ (∀ y0 y1 y2 y3 y4 y5 y6, LeO (impl_Crowd_only.l1 k y0 y1 y2 y3 y4 y5 y6) (impl_Crowd_only.l1 (k + 1) y0 y1 y2 y3 y4 y5 y6))
 | 0 => ⟨fun _ _ _ _ r h => by simp [impl_Crowd_only.l0] at h, fun _ _ _ _ _ _ _ r h => by simp [impl_Crowd_only.l1] at h⟩
 | k + 1 => by
  obtain ⟨ih0, ih1⟩ := impl_Crowd_only.mono_l k
  refine ⟨?_, ?_⟩
  ·intro y0 y1 y2 y3
   unfold impl_Crowd_only.l0
   repeat' first
   | (with_reducible exact ih0 _ _ _ _)
   | (with_reducible exact ih1 _ _ _ _ _ _ _)
   | (with_reducible exact impl_Room_free.mono _ _ _ _)
   | (with_reducible exact LeO.refl _)
   | (with_reducible exact LeO.none _)
   | (with_reducible refine LeO.ite ?_ ?_)
   | (with_reducible refine LeO.bind ?_ (fun _ => ?_))
   | exact ih0 _ _ _ _
   | exact ih1 _ _ _ _ _ _ _
   | exact impl_Room_free.mono _ _ _ _
   | exact LeO.none _
   | refine LeO.ite ?_ ?_
   | refine LeO.bind ?_ (fun _ => ?_)
  ·intro y0 y1 y2 y3 y4 y5 y6
   unfold impl_Crowd_only.l1
   repeat' first
   | (with_reducible exact ih0 _ _ _ _)
   | (with_reducible exact ih1 _ _ _ _ _ _ _)
   | (with_reducible exact impl_Room_free.mono _ _ _ _)
   | (with_reducible exact LeO.refl _)
   | (with_reducible exact LeO.none _)
   | (with_reducible refine LeO.ite ?_ ?_)
   | (with_reducible refine LeO.bind ?_ (fun _ => ?_))
   | exact ih0 _ _ _ _
   | exact ih1 _ _ _ _ _ _ _
   | exact impl_Room_free.mono _ _ _ _
   | exact LeO.none _
   | refine LeO.ite ?_ ?_
   | refine LeO.bind ?_ (fun _ => ?_)
theorem impl_Crowd_only.mono : ∀ a0 a1 a2 a3 k, LeO (impl_Crowd_only.f k a0 a1 a2 a3) (impl_Crowd_only.f (k + 1) a0 a1 a2 a3) := by
 intro a0 a1 a2 a3 k
 obtain ⟨ih0, ih1⟩ := impl_Crowd_only.mono_l k
 unfold impl_Crowd_only.f
 repeat' first
   | (with_reducible exact ih0 _ _ _ _)
   | (with_reducible exact ih1 _ _ _ _ _ _ _)
   | (with_reducible exact impl_Room_free.mono _ _ _ _)
   | (with_reducible exact LeO.refl _)
   | (with_reducible exact LeO.none _)
   | (with_reducible refine LeO.ite ?_ ?_)
   | (with_reducible refine LeO.bind ?_ (fun _ => ?_))
   | exact ih0 _ _ _ _
   | exact ih1 _ _ _ _ _ _ _
   | exact impl_Room_free.mono _ _ _ _
   | exact LeO.none _
   | refine LeO.ite ?_ ?_
   | refine LeO.bind ?_ (fun _ => ?_)
def impl_WhereNow.f (k : Nat) (a0_0 : Int) (a0_1 : Int) (a0_2 : LA 10) (a1 : ByteArray) : Option (Int × Int × Int × Int) := (impl_Anywhere.f k a0_0 a0_1 a0_2).bind fun bt406 => ((impl_MovesCrowd.f k a0_0 a0_1 a0_2 bt406.1 a1).bind fun bt409 => ((impl_CountCrowd.f k bt409.1).bind fun t412 => (if bt409.2 = 0 then (if t412 > 1 then (some (0, 0, 0, 4)) else (if t412 = 0 then (some (0, 0, 0, 6)) else ((impl_Crowd_only.f k bt409.1 a0_0 a0_1 a0_2).bind fun bt413 => (some (bt413.1, bt413.2.1, bt413.2.2, 0))))) else (some (0, 0, 0, bt409.2)))))
theorem impl_WhereNow.mono : ∀ a0 a1 a2 a3 k, LeO (impl_WhereNow.f k a0 a1 a2 a3) (impl_WhereNow.f (k + 1) a0 a1 a2 a3) := by
 intro a0 a1 a2 a3 k
 unfold impl_WhereNow.f
 repeat' first
   | (with_reducible exact impl_Anywhere.mono _ _ _ _)
   | (with_reducible exact impl_CountCrowd.mono _ _)
   | (with_reducible exact impl_Crowd_only.mono _ _ _ _ _)
   | (with_reducible exact impl_MovesCrowd.mono _ _ _ _ _ _)
   | (with_reducible exact LeO.refl _)
   | (with_reducible exact LeO.none _)
   | (with_reducible refine LeO.ite ?_ ?_)
   | (with_reducible refine LeO.bind ?_ (fun _ => ?_))
   | exact impl_Anywhere.mono _ _ _ _
   | exact impl_CountCrowd.mono _ _
   | exact impl_Crowd_only.mono _ _ _ _ _
   | exact impl_MovesCrowd.mono _ _ _ _ _ _
   | exact LeO.none _
   | refine LeO.ite ?_ ?_
   | refine LeO.bind ?_ (fun _ => ?_)
def laws_eqSpot.f (a0_0 : Int) (a0_1 : Int) (a1_0 : Int) (a1_1 : Int) : Option (Bool) := if a0_0 = a1_0 then (if a0_1 = a1_1 then (some true) else (some false)) else (some false)
end Go.Proofs.YtdedijjbdkoekaaDoor.PB
end
