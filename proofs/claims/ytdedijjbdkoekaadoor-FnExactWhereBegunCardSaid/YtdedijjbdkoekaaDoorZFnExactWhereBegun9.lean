/- The statement FnExactWhereBegun of this program: what its proof uses, part 10 of 12. The call returns true for all arguments. No condition of its own. -/
import Derived.Test.YtdedijjbdkoekaaDoorZFnExactWhereBegun8
section
namespace Go.Proofs.YtdedijjbdkoekaaDoor.PB
open Go.RowKit Go.Proofs.YtdedijjbdkoekaaDoorW.PrintWords Go.Proofs.YtdedijjbdkoekaaDoorW.PrintLast Go.Proofs.YtdedijjbdkoekaaDoorW.PrintMore Go.Proofs.YtdedijjbdkoekaaDoor.La
attribute [local go_sem] max2_int min2_int max_two min_two max_three min_three max_four min_four   -- for this text's walks alone
set_option linter.unusedVariables false
set_option linter.unusedSimpArgs false
def spec_MovesCrowd.l0 : Nat → ByteArray → Int → Int → Int → LA 10 → LA 40 → Option (LA 40 × Int)
 | 0, _, _, _, _, _, _ => none
 | k + 1, x2, x9, x271000, x271001, x271002, x272000 => if x9 < (x2.size : Int) then (if 0 ≤ x9 then ((spec_l06Move.f k x271000 x271001 x271002 x272000 (bt x2 x9)).bind fun t275 => (spec_MovesCrowd.l0 k x2 (wrap64 (x9 + 1)) x271000 x271001 x271002 t275)) else (none)) else (some (x272000, 0))
def spec_MovesCrowd.f (k : Nat) (a0_0 : Int) (a0_1 : Int) (a0_2 : LA 10) (a1 : LA 40) (a2 : ByteArray) : Option (LA 40 × Int) := (spec_l06Ok.f k a0_0 a0_1 a0_2 a1).bind fun t273 => (if t273 = true then ((spec_l06Moves.f k a2).bind fun t274 => (if t274 = 0 then (spec_MovesCrowd.l0 k a2 0 a0_0 a0_1 a0_2 a1) else (some ((LA.zero 40), t274)))) else (some ((LA.zero 40), 1)))
theorem spec_MovesCrowd.mono_l : ∀ k, (∀ y0 y1 y2 y3 y4 y5, LeO (spec_MovesCrowd.l0 k y0 y1 y2 y3 y4 y5) (spec_MovesCrowd.l0 (k + 1) y0 y1 y2 y3 y4 y5))
 | 0 => fun _ _ _ _ _ _ r h => by simp [spec_MovesCrowd.l0] at h
 | k + 1 => by
  have ih0 := spec_MovesCrowd.mono_l k
  ·intro y0 y1 y2 y3 y4 y5
   unfold spec_MovesCrowd.l0
   repeat' first
   | (with_reducible exact ih0 _ _ _ _ _ _)
   | (with_reducible exact spec_l06Move.mono _ _ _ _ _ _)
   | (with_reducible exact spec_l06Moves.mono _ _)
   | (with_reducible exact spec_l06Ok.mono _ _ _ _ _)
   | (with_reducible exact LeO.refl _)
   | (with_reducible exact LeO.none _)
   | (with_reducible refine LeO.ite ?_ ?_)
   | (with_reducible refine LeO.bind ?_ (fun _ => ?_))
   | exact ih0 _ _ _ _ _ _
   | exact spec_l06Move.mono _ _ _ _ _ _
   | exact spec_l06Moves.mono _ _
   | exact spec_l06Ok.mono _ _ _ _ _
   | exact LeO.none _
   | refine LeO.ite ?_ ?_
   | refine LeO.bind ?_ (fun _ => ?_)
theorem spec_MovesCrowd.mono : ∀ a0 a1 a2 a3 a4 k, LeO (spec_MovesCrowd.f k a0 a1 a2 a3 a4) (spec_MovesCrowd.f (k + 1) a0 a1 a2 a3 a4) := by
 intro a0 a1 a2 a3 a4 k
 have ih0 := spec_MovesCrowd.mono_l k
 unfold spec_MovesCrowd.f
 repeat' first
   | (with_reducible exact ih0 _ _ _ _ _ _)
   | (with_reducible exact spec_l06Move.mono _ _ _ _ _ _)
   | (with_reducible exact spec_l06Moves.mono _ _)
   | (with_reducible exact spec_l06Ok.mono _ _ _ _ _)
   | (with_reducible exact LeO.refl _)
   | (with_reducible exact LeO.none _)
   | (with_reducible refine LeO.ite ?_ ?_)
   | (with_reducible refine LeO.bind ?_ (fun _ => ?_))
   | exact ih0 _ _ _ _ _ _
   | exact spec_l06Move.mono _ _ _ _ _ _
   | exact spec_l06Moves.mono _ _
   | exact spec_l06Ok.mono _ _ _ _ _
   | exact LeO.none _
   | refine LeO.ite ?_ ?_
   | refine LeO.bind ?_ (fun _ => ?_)
end Go.Proofs.YtdedijjbdkoekaaDoor.PB
end
section
namespace Go.Proofs.YtdedijjbdkoekaaDoor.PB
open Go.RowKit Go.Proofs.YtdedijjbdkoekaaDoorW.PrintWords Go.Proofs.YtdedijjbdkoekaaDoorW.PrintLast Go.Proofs.YtdedijjbdkoekaaDoorW.PrintMore Go.Proofs.YtdedijjbdkoekaaDoor.La
attribute [local go_sem] max2_int min2_int max_two min_two max_three min_three max_four min_four   -- for this text's walks alone
set_option linter.unusedVariables false
set_option linter.unusedSimpArgs false
mutual
def impl_anywhere.l0 : Nat → List (S41) → Int → Int → LA 40 → Option (LA 40)
 | 0, _, _, _, _ => none
 | k + 1, x9, x10, x11, x385000 => if x11 < x10 then (if 0 ≤ x11 then (if x11 < (x9.length : Int) then (impl_anywhere.l1 k x9 x10 x11 0 x385000 ((rd_T41 x9 x11).f0) ((rd_T41 x9 x11).f1)) else (none)) else (none)) else (some x385000)
def impl_anywhere.l1 : Nat → List (S41) → Int → Int → Int → LA 40 → Int → Int → Option (LA 40)
 | 0, _, _, _, _, _, _, _ => none
 | k + 1, x9, x10, x11, x15, x385000, x390000, x390001 => if x15 < 4 then ((impl_Crowd_set.f x385000 x390000 x390001 x15).bind fun t390 => (impl_anywhere.l1 k x9 x10 x11 (wrap64 (x15 + 1)) t390 x390000 x390001)) else (impl_anywhere.l0 k x9 x10 (wrap64 (x11 + 1)) x385000)
end
def impl_anywhere.f (k : Nat) (a0_0 : Int) (a0_1 : Int) (a0_2 : LA 10) : Option (LA 40) := (impl_Room_free.f k a0_0 a0_1 a0_2).bind fun t385 => (impl_anywhere.l0 k t385 (t385.length : Int) 0 (LA.zero 40))
theorem impl_anywhere.mono_l : ∀ k, (∀ y0 y1 y2 y3, LeO (impl_anywhere.l0 k y0 y1 y2 y3) (impl_anywhere.l0 (k + 1) y0 y1 y2 y3)) ∧ (∀ y0 y1 y2 y3 y4 y5 y6, LeO (impl_anywhere.l1 k y0 y1 y2 y3 y4 y5 y6) (impl_anywhere.l1 (k + 1) y0 y1 y2 y3 y4 y5 y6))
 | 0 => ⟨fun _ _ _ _ r h => by simp [impl_anywhere.l0] at h, fun _ _ _ _ _ _ _ r h => by simp [impl_anywhere.l1] at h⟩
 | k + 1 => by
  obtain ⟨ih0, ih1⟩ := impl_anywhere.mono_l k
  refine ⟨?_, ?_⟩
  ·intro y0 y1 y2 y3
   unfold impl_anywhere.l0
   repeat' first
   | (with_reducible exact ih0 _ _ _ _)
   | (with_reducible exact ih1 _ _ _ _ _ _ _)
   | (with_reducible exact impl_Room_free.mono _ _ _ _)
   | (with_reducible exact LeO.refl _)
   | (with_reducible exact LeO.none _)
   | (with_reducible refine LeO.ite ?_ ?_)
   | (with_reducible refine LeO.bind ?_ (fun _ => ?_))
   | exact ih0 _ _ _ _
   | exact ih1 _ _ _ _ _ _ _
   | exact impl_Room_free.mono _ _ _ _
   | exact LeO.none _
   | refine LeO.ite ?_ ?_
   | refine LeO.bind ?_ (fun _ => ?_)
  ·intro y0 y1 y2 y3 y4 y5 y6
   unfold impl_anywhere.l1
   repeat' first
   | (with_reducible exact ih0 _ _ _ _)
   | (with_reducible exact ih1 _ _ _ _ _ _ _)
   | (with_reducible exact impl_Room_free.mono _ _ _ _)
   | (with_reducible exact LeO.refl _)
   | (with_reducible exact LeO.none _)
   | (with_reducible refine LeO.ite ?_ ?_)
   | (with_reducible refine LeO.bind ?_ (fun _ => ?_))
   | exact ih0 _ _ _ _
   | exact ih1 _ _ _ _ _ _ _
   | exact impl_Room_free.mono _ _ _ _
   | exact LeO.none _
   | refine LeO.ite ?_ ?_
   | refine LeO.bind ?_ (fun _ => ?_)
theorem impl_anywhere.mono : ∀ a0 a1 a2 k, LeO (impl_anywhere.f k a0 a1 a2) (impl_anywhere.f (k + 1) a0 a1 a2) := by
 intro a0 a1 a2 k
 obtain ⟨ih0, ih1⟩ := impl_anywhere.mono_l k
 unfold impl_anywhere.f
 repeat' first
   | (with_reducible exact ih0 _ _ _ _)
   | (with_reducible exact ih1 _ _ _ _ _ _ _)
   | (with_reducible exact impl_Room_free.mono _ _ _ _)
   | (with_reducible exact LeO.refl _)
   | (with_reducible exact LeO.none _)
   | (with_reducible refine LeO.ite ?_ ?_)
   | (with_reducible refine LeO.bind ?_ (fun _ => ?_))
   | exact ih0 _ _ _ _
   | exact ih1 _ _ _ _ _ _ _
   | exact impl_Room_free.mono _ _ _ _
   | exact LeO.none _
   | refine LeO.ite ?_ ?_
   | refine LeO.bind ?_ (fun _ => ?_)
def impl_Anywhere.f (k : Nat) (a0_0 : Int) (a0_1 : Int) (a0_2 : LA 10) : Option (LA 40 × Int) := (impl_ValidRoom.f k a0_0 a0_1 a0_2).bind fun t393 => (if t393 = true then ((impl_anywhere.f k a0_0 a0_1 a0_2).bind fun t394 => (some (t394, 0))) else (some ((LA.zero 40), 1)))
theorem impl_Anywhere.mono : ∀ a0 a1 a2 k, LeO (impl_Anywhere.f k a0 a1 a2) (impl_Anywhere.f (k + 1) a0 a1 a2) := by
 intro a0 a1 a2 k
 unfold impl_Anywhere.f
 repeat' first
   | (with_reducible exact impl_ValidRoom.mono _ _ _ _)
   | (with_reducible exact impl_anywhere.mono _ _ _ _)
   | (with_reducible exact LeO.refl _)
   | (with_reducible exact LeO.none _)
   | (with_reducible refine LeO.ite ?_ ?_)
   | (with_reducible refine LeO.bind ?_ (fun _ => ?_))
   | exact impl_ValidRoom.mono _ _ _ _
   | exact impl_anywhere.mono _ _ _ _
   | exact LeO.none _
   | refine LeO.ite ?_ ?_
   | refine LeO.bind ?_ (fun _ => ?_)
mutual
def impl_Crowd_only.l0 : Nat → List (S41) → Int → Int → LA 40 → Option (Int × Int × Int)
 | 0, _, _, _, _ => none
 | k + 1, x10, x11, x12, x396000 => if x12 < x11 then (if 0 ≤ x12 then (if x12 < (x10.length : Int) then (impl_Crowd_only.l1 k x10 x11 x12 0 x396000 ((rd_T41 x10 x12).f0) ((rd_T41 x10 x12).f1)) else (none)) else (none)) else (some (0, 0, 0))
def impl_Crowd_only.l1 : Nat → List (S41) → Int → Int → Int → LA 40 → Int → Int → Option (Int × Int × Int)
 | 0, _, _, _, _, _, _, _ => none
 | k + 1, x10, x11, x12, x16, x396000, x403000, x403001 => if x16 < 4 then ((impl_Crowd_has.f x396000 x403000 x403001 x16).bind fun t403 => (if t403 = true then (some (x403000, x403001, x16)) else (impl_Crowd_only.l1 k x10 x11 x12 (wrap64 (x16 + 1)) x396000 x403000 x403001))) else (impl_Crowd_only.l0 k x10 x11 (wrap64 (x12 + 1)) x396000)
end
def impl_Crowd_only.f (k : Nat) (a0 : LA 40) (a1_0 : Int) (a1_1 : Int) (a1_2 : LA 10) : Option (Int × Int × Int) := (impl_Room_free.f k a1_0 a1_1 a1_2).bind fun t398 => (impl_Crowd_only.l0 k t398 (t398.length : Int) 0 a0)
theorem impl_Crowd_only.mono_l : ∀ k, (∀ y0 y1 y2 y3, LeO (impl_Crowd_only.l0 k y0 y1 y2 y3) (impl_Crowd_only.l0 (k + 1) y0 y1 y2 y3)) ∧ (∀ y0 y1 y2 y3 y4 y5 y6, LeO (impl_Crowd_only.l1 k y0 y1 y2 y3 y4 y5 y6) (impl_Crowd_only.l1 (k + 1) y0 y1 y2 y3 y4 y5 y6))
 | 0 => ⟨fun _ _ _ _ r h => by simp [impl_Crowd_only.l0] at h, fun _ _ _ _ _ _ _ r h => by simp [impl_Crowd_only.l1] at h⟩
 | k + 1 => by
  obtain ⟨ih0, ih1⟩ := impl_Crowd_only.mono_l k
  refine ⟨?_, ?_⟩
  ·intro y0 y1 y2 y3
   unfold impl_Crowd_only.l0
   repeat' first
   | (with_reducible exact ih0 _ _ _ _)
   | (with_reducible exact ih1 _ _ _ _ _ _ _)
   | (with_reducible exact impl_Room_free.mono _ _ _ _)
   | (with_reducible exact LeO.refl _)
   | (with_reducible exact LeO.none _)
   | (with_reducible refine LeO.ite ?_ ?_)
   | (with_reducible refine LeO.bind ?_ (fun _ => ?_))
   | exact ih0 _ _ _ _
   | exact ih1 _ _ _ _ _ _ _
   | exact impl_Room_free.mono _ _ _ _
   | exact LeO.none _
   | refine LeO.ite ?_ ?_
   | refine LeO.bind ?_ (fun _ => ?_)
  ·intro y0 y1 y2 y3 y4 y5 y6
   unfold impl_Crowd_only.l1
   repeat' first
   | (with_reducible exact ih0 _ _ _ _)
   | (with_reducible exact ih1 _ _ _ _ _ _ _)
   | (with_reducible exact impl_Room_free.mono _ _ _ _)
   | (with_reducible exact LeO.refl _)
   | (with_reducible exact LeO.none _)
   | (with_reducible refine LeO.ite ?_ ?_)
   | (with_reducible refine LeO.bind ?_ (fun _ => ?_))
   | exact ih0 _ _ _ _
   | exact ih1 _ _ _ _ _ _ _
   | exact impl_Room_free.mono _ _ _ _
   | exact LeO.none _
   | refine LeO.ite ?_ ?_
   | refine LeO.bind ?_ (fun _ => ?_)
theorem impl_Crowd_only.mono : ∀ a0 a1 a2 a3 k, LeO (impl_Crowd_only.f k a0 a1 a2 a3) (impl_Crowd_only.f (k + 1) a0 a1 a2 a3) := by
 intro a0 a1 a2 a3 k
 obtain ⟨ih0, ih1⟩ := impl_Crowd_only.mono_l k
 unfold impl_Crowd_only.f
 repeat' first
   | (with_reducible exact ih0 _ _ _ _)
   | (with_reducible exact ih1 _ _ _ _ _ _ _)
   | (with_reducible exact impl_Room_free.mono _ _ _ _)
   | (with_reducible exact LeO.refl _)
   | (with_reducible exact LeO.none _)
   | (with_reducible refine LeO.ite ?_ ?_)
   | (with_reducible refine LeO.bind ?_ (fun _ => ?_))
   | exact ih0 _ _ _ _
   | exact ih1 _ _ _ _ _ _ _
   | exact impl_Room_free.mono _ _ _ _
   | exact LeO.none _
   | refine LeO.ite ?_ ?_
   | refine LeO.bind ?_ (fun _ => ?_)
def impl_WhereNow.f (k : Nat) (a0_0 : Int) (a0_1 : Int) (a0_2 : LA 10) (a1 : ByteArray) : Option (Int × Int × Int × Int) := (impl_Anywhere.f k a0_0 a0_1 a0_2).bind fun bt406 => ((impl_MovesCrowd.f k a0_0 a0_1 a0_2 bt406.1 a1).bind fun bt409 => ((impl_CountCrowd.f k bt409.1).bind fun t412 => (if bt409.2 = 0 then (if t412 > 1 then (some (0, 0, 0, 4)) else (if t412 = 0 then (some (0, 0, 0, 6)) else ((impl_Crowd_only.f k bt409.1 a0_0 a0_1 a0_2).bind fun bt413 => (some (bt413.1, bt413.2.1, bt413.2.2, 0))))) else (some (0, 0, 0, bt409.2)))))
theorem impl_WhereNow.mono : ∀ a0 a1 a2 a3 k, LeO (impl_WhereNow.f k a0 a1 a2 a3) (impl_WhereNow.f (k + 1) a0 a1 a2 a3) := by
 intro a0 a1 a2 a3 k
 unfold impl_WhereNow.f
 repeat' first
   | (with_reducible exact impl_Anywhere.mono _ _ _ _)
   | (with_reducible exact impl_CountCrowd.mono _ _)
   | (with_reducible exact impl_Crowd_only.mono _ _ _ _ _)
   | (with_reducible exact impl_MovesCrowd.mono _ _ _ _ _ _)
   | (with_reducible exact LeO.refl _)
   | (with_reducible exact LeO.none _)
   | (with_reducible refine LeO.ite ?_ ?_)
   | (with_reducible refine LeO.bind ?_ (fun _ => ?_))
   | exact impl_Anywhere.mono _ _ _ _
   | exact impl_CountCrowd.mono _ _
   | exact impl_Crowd_only.mono _ _ _ _ _
   | exact impl_MovesCrowd.mono _ _ _ _ _ _
   | exact LeO.none _
   | refine LeO.ite ?_ ?_
   | refine LeO.bind ?_ (fun _ => ?_)
def laws_eqSpot.f (a0_0 : Int) (a0_1 : Int) (a1_0 : Int) (a1_1 : Int) : Option (Bool) := if a0_0 = a1_0 then (if a0_1 = a1_1 then (some true) else (some false)) else (some false)
end Go.Proofs.YtdedijjbdkoekaaDoor.PB
end
