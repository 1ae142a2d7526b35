/- The statement FnExactFewestCalls of this program: what its proof uses, part 12 of 13. The call returns true for all arguments. No condition of its own. -/
import Derived.Test.YtoiiabnnddlcbaaZFnExactFewestCalls10
section
namespace Go.Proofs.Ytoiiabnnddlcbaa.PB
open Go.RowKit Go.Proofs.YtoiiabnnddlcbaaW.PrintWords Go.Proofs.YtoiiabnnddlcbaaW.PrintLast Go.Proofs.YtoiiabnnddlcbaaW.PrintMore Go.Proofs.Ytoiiabnnddlcbaa.La Go.Proofs.Ytoiiabnnddlcbaa.Mp
attribute [local go_sem] max2_int min2_int max_two min_two max_three min_three max_four min_four   -- for this text's walks alone
set_option linter.unusedVariables false
set_option linter.unusedSimpArgs false
mutual
def laws_FnExactFewestCalls.j0 : Nat → List (S28) → Int → List (S34) → Int → List (S34) → List (S34) → Int → Bool → Int → Int → LA 10 → Option (Bool)
 | 0, _, _, _, _, _, _, _, _, _, _, _ => none
 | k + 1, x1, x2, x8, x9, x10, x11, x12, x50, x472000, x472001, x472002 => if x50 = true then (some false) else ((laws_toSpotS.f k x1).bind fun t494 => ((laws_eqSpotS.f k x10 t494).bind fun t497 => (if t497 = true then ((laws_markSpotS.f k x10 1).bind fun bt498 => (if bt498.1 < 0 then (laws_FnExactFewestCalls.j1 k x1 x2 x8 x9 x11 true x472000 x472001 x472002) else ((laws_eqSpotS.f k x11 x8).bind fun t500 => (if t500 = true then (laws_FnExactFewestCalls.j1 k x1 x2 x8 x9 x11 (x12 != x9) x472000 x472001 x472002) else (laws_FnExactFewestCalls.j1 k x1 x2 x8 x9 x11 true x472000 x472001 x472002))))) else (some false))))
def laws_FnExactFewestCalls.j1 : Nat → List (S28) → Int → List (S34) → Int → List (S34) → Bool → Int → Int → LA 10 → Option (Bool)
 | 0, _, _, _, _, _, _, _, _, _ => none
 | k + 1, x1, x2, x8, x9, x11, x71, x472000, x472001, x472002 => if x71 = true then (some false) else ((laws_markSpotS.f k x11 1).bind fun bt501 => ((laws_heldSpotS.f k bt501.2 1).bind fun t503 => (if t503 < 0 then (some false) else (if t503 = bt501.1 then ((laws_toRoom.f k x472000 x472001 x472002).bind fun bt504 => ((laws_toSpotS.f k x1).bind fun t507 => ((impl_FewestCalls.f k bt504.1 bt504.2.1 bt504.2.2 t507 x2).bind fun bt510 => ((laws_eqSpotS.f k bt510.1 x8).bind fun t514 => (if t514 = true then (laws_FnExactFewestCalls.j2 k bt501.2 bt501.1 (bt510.2 != x9)) else (laws_FnExactFewestCalls.j2 k bt501.2 bt501.1 true)))))) else (some false)))))
def laws_FnExactFewestCalls.j2 : Nat → List (S34) → Int → Bool → Option (Bool)
 | 0, _, _, _ => none
 | k + 1, x11, x14, x100 => if x100 = true then (some false) else ((laws_heldSpotS.f k x11 1).bind fun t515 => (if t515 < 0 then (some false) else (if t515 = x14 then (some true) else (some false))))
end
def laws_FnExactFewestCalls.f (k : Nat) (a0_0 : Int) (a0_1 : Int) (a0_2 : LA 10) (l1 : List (S28)) (a2 : Int) : Option (Bool) := (laws_szSpotS.f l1 1048576).bind fun t472 => (if t472 < 0 then (some true) else ((laws_toRoom.f k a0_0 a0_1 a0_2).bind fun bt473 => ((laws_toSpotS.f k l1).bind fun t476 => ((spec_FewestCalls.f k bt473.1 bt473.2.1 bt473.2.2 t476 a2).bind fun bt479 => ((laws_toSpotS.f k l1).bind fun t483 => ((laws_toRoom.f k a0_0 a0_1 a0_2).bind fun bt486 => ((impl_FewestCalls.f k bt486.1 bt486.2.1 bt486.2.2 t483 a2).bind fun bt489 => ((laws_eqSpotS.f k bt489.1 bt479.1).bind fun t493 => (if t493 = true then (laws_FnExactFewestCalls.j0 k l1 a2 bt479.1 bt479.2 t483 bt489.1 bt489.2 (bt489.2 != bt479.2) a0_0 a0_1 a0_2) else (laws_FnExactFewestCalls.j0 k l1 a2 bt479.1 bt479.2 t483 bt489.1 bt489.2 true a0_0 a0_1 a0_2))))))))))
theorem laws_FnExactFewestCalls.mono_l : ∀ k, (∀ y0 y1 y2 y3 y4 y5 y6 y7 y8 y9 y10, LeO (laws_FnExactFewestCalls.j0 k y0 y1 y2 y3 y4 y5 y6 y7 y8 y9 y10) (laws_FnExactFewestCalls.j0 (k + 1) y0 y1 y2 y3 y4 y5 y6 y7 y8 y9 y10)) ∧ (∀ y0 y1 y2 y3 y4 y5 y6 y7 y8, LeO (laws_FnExactFewestCalls.j1 k y0 y1 y2 y3 y4 y5 y6 y7 y8) (laws_FnExactFewestCalls.j1 (k + 1) y0 y1 y2 y3 y4 y5 y6 y7 y8)) ∧ (∀ y0 y1 y2, LeO (laws_FnExactFewestCalls.j2 k y0 y1 y2) (laws_FnExactFewestCalls.j2 (k + 1) y0 y1 y2))
 | 0 => ⟨fun _ _ _ _ _ _ _ _ _ _ _ r h => by simp [laws_FnExactFewestCalls.j0] at h, fun _ _ _ _ _ _ _ _ _ r h => by simp [laws_FnExactFewestCalls.j1] at h, fun _ _ _ r h => by simp [laws_FnExactFewestCalls.j2] at h⟩
 | k + 1 => by
  obtain ⟨ih0, ih1, ih2⟩ := laws_FnExactFewestCalls.mono_l k
  refine ⟨?_, ?_, ?_⟩
  ·intro y0 y1 y2 y3 y4 y5 y6 y7 y8 y9 y10
   unfold laws_FnExactFewestCalls.j0
   repeat' first
   | (with_reducible exact ih0 _ _ _ _ _ _ _ _ _ _ _)
   | (with_reducible exact ih1 _ _ _ _ _ _ _ _ _)
   | (with_reducible exact ih2 _ _ _)
   | (with_reducible exact impl_FewestCalls.mono _ _ _ _ _ _)
   | (with_reducible exact laws_eqSpotS.mono _ _ _)
   | (with_reducible exact laws_heldSpotS.mono _ _ _)
   | (with_reducible exact laws_markSpotS.mono _ _ _)
   | (with_reducible exact laws_toRoom.mono _ _ _ _)
   | (with_reducible exact laws_toSpotS.mono _ _)
   | (with_reducible exact spec_FewestCalls.mono _ _ _ _ _ _)
   | (with_reducible exact LeO.refl _)
   | (with_reducible exact LeO.none _)
   | (with_reducible refine LeO.ite ?_ ?_)
   | (with_reducible refine LeO.bind ?_ (fun _ => ?_))
   | exact ih0 _ _ _ _ _ _ _ _ _ _ _
   | exact ih1 _ _ _ _ _ _ _ _ _
   | exact ih2 _ _ _
   | exact impl_FewestCalls.mono _ _ _ _ _ _
   | exact laws_eqSpotS.mono _ _ _
   | exact laws_heldSpotS.mono _ _ _
   | exact laws_markSpotS.mono _ _ _
   | exact laws_toRoom.mono _ _ _ _
   | exact laws_toSpotS.mono _ _
   | exact spec_FewestCalls.mono _ _ _ _ _ _
   | exact LeO.none _
   | refine LeO.ite ?_ ?_
   | refine LeO.bind ?_ (fun _ => ?_)
  ·intro y0 y1 y2 y3 y4 y5 y6 y7 y8
   unfold laws_FnExactFewestCalls.j1
   repeat' first
   | (with_reducible exact ih0 _ _ _ _ _ _ _ _ _ _ _)
   | (with_reducible exact ih1 _ _ _ _ _ _ _ _ _)
   | (with_reducible exact ih2 _ _ _)
   | (with_reducible exact impl_FewestCalls.mono _ _ _ _ _ _)
   | (with_reducible exact laws_eqSpotS.mono _ _ _)
   | (with_reducible exact laws_heldSpotS.mono _ _ _)
   | (with_reducible exact laws_markSpotS.mono _ _ _)
   | (with_reducible exact laws_toRoom.mono _ _ _ _)
   | (with_reducible exact laws_toSpotS.mono _ _)
   | (with_reducible exact spec_FewestCalls.mono _ _ _ _ _ _)
   | (with_reducible exact LeO.refl _)
   | (with_reducible exact LeO.none _)
   | (with_reducible refine LeO.ite ?_ ?_)
   | (with_reducible refine LeO.bind ?_ (fun _ => ?_))
   | exact ih0 _ _ _ _ _ _ _ _ _ _ _
   | exact ih1 _ _ _ _ _ _ _ _ _
   | exact ih2 _ _ _
   | exact impl_FewestCalls.mono _ _ _ _ _ _
   | exact laws_eqSpotS.mono _ _ _
   | exact laws_heldSpotS.mono _ _ _
   | exact laws_markSpotS.mono _ _ _
   | exact laws_toRoom.mono _ _ _ _
   | exact laws_toSpotS.mono _ _
   | exact spec_FewestCalls.mono _ _ _ _ _ _
   | exact LeO.none _
   | refine LeO.ite ?_ ?_
   | refine LeO.bind ?_ (fun _ => ?_)
  ·intro y0 y1 y2
   unfold laws_FnExactFewestCalls.j2
   repeat' first
   | (with_reducible exact ih0 _ _ _ _ _ _ _ _ _ _ _)
   | (with_reducible exact ih1 _ _ _ _ _ _ _ _ _)
   | (with_reducible exact ih2 _ _ _)
   | (with_reducible exact impl_FewestCalls.mono _ _ _ _ _ _)
   | (with_reducible exact laws_eqSpotS.mono _ _ _)
   | (with_reducible exact laws_heldSpotS.mono _ _ _)
   | (with_reducible exact laws_markSpotS.mono _ _ _)
   | (with_reducible exact laws_toRoom.mono _ _ _ _)
   | (with_reducible exact laws_toSpotS.mono _ _)
   | (with_reducible exact spec_FewestCalls.mono _ _ _ _ _ _)
   | (with_reducible exact LeO.refl _)
   | (with_reducible exact LeO.none _)
   | (with_reducible refine LeO.ite ?_ ?_)
   | (with_reducible refine LeO.bind ?_ (fun _ => ?_))
   | exact ih0 _ _ _ _ _ _ _ _ _ _ _
   | exact ih1 _ _ _ _ _ _ _ _ _
   | exact ih2 _ _ _
   | exact impl_FewestCalls.mono _ _ _ _ _ _
   | exact laws_eqSpotS.mono _ _ _
   | exact laws_heldSpotS.mono _ _ _
   | exact laws_markSpotS.mono _ _ _
   | exact laws_toRoom.mono _ _ _ _
   | exact laws_toSpotS.mono _ _
   | exact spec_FewestCalls.mono _ _ _ _ _ _
   | exact LeO.none _
   | refine LeO.ite ?_ ?_
   | refine LeO.bind ?_ (fun _ => ?_)
theorem laws_FnExactFewestCalls.mono : ∀ a0 a1 a2 a3 a4 k, LeO (laws_FnExactFewestCalls.f k a0 a1 a2 a3 a4) (laws_FnExactFewestCalls.f (k + 1) a0 a1 a2 a3 a4) := by
 intro a0 a1 a2 a3 a4 k
 obtain ⟨ih0, ih1, ih2⟩ := laws_FnExactFewestCalls.mono_l k
 unfold laws_FnExactFewestCalls.f
 repeat' first
   | (with_reducible exact ih0 _ _ _ _ _ _ _ _ _ _ _)
   | (with_reducible exact ih1 _ _ _ _ _ _ _ _ _)
   | (with_reducible exact ih2 _ _ _)
   | (with_reducible exact impl_FewestCalls.mono _ _ _ _ _ _)
   | (with_reducible exact laws_eqSpotS.mono _ _ _)
   | (with_reducible exact laws_heldSpotS.mono _ _ _)
   | (with_reducible exact laws_markSpotS.mono _ _ _)
   | (with_reducible exact laws_toRoom.mono _ _ _ _)
   | (with_reducible exact laws_toSpotS.mono _ _)
   | (with_reducible exact spec_FewestCalls.mono _ _ _ _ _ _)
   | (with_reducible exact LeO.refl _)
   | (with_reducible exact LeO.none _)
   | (with_reducible refine LeO.ite ?_ ?_)
   | (with_reducible refine LeO.bind ?_ (fun _ => ?_))
   | exact ih0 _ _ _ _ _ _ _ _ _ _ _
   | exact ih1 _ _ _ _ _ _ _ _ _
   | exact ih2 _ _ _
   | exact impl_FewestCalls.mono _ _ _ _ _ _
   | exact laws_eqSpotS.mono _ _ _
   | exact laws_heldSpotS.mono _ _ _
   | exact laws_markSpotS.mono _ _ _
   | exact laws_toRoom.mono _ _ _ _
   | exact laws_toSpotS.mono _ _
   | exact spec_FewestCalls.mono _ _ _ _ _ _
   | exact LeO.none _
   | refine LeO.ite ?_ ?_
   | refine LeO.bind ?_ (fun _ => ?_)
set_option maxHeartbeats 8000000 in
set_option maxRecDepth 100000 in
theorem laws_FnExactFewestCalls.calls (k : Nat) (a0_0 : Int) (a0_1 : Int) (a0_2 : LA 10) (A1 : Option Addr) (c1 : Nat) (l1 : List (S28)) (a2 : Int) (r : Bool) (w : World) (hr1 : Kd.C k28 w A1 l1.length l1) (hc1 : l1.length ≤ c1) (h : laws_FnExactFewestCalls.f k a0_0 a0_1 a0_2 l1 a2 = some r) :
  Calls Try.prog 7 #[.agg (mixA (Value.int .u16) [.int .i8 a0_0, .int .i8 a0_1] a0_2), .slice A1 l1.length c1, .int .i64 a2] w fun e w' => e = .returned (.bool r) ∧ Below w.heap.size w w' := by
 have hu26 := Try.underlying26
 have HR1 := Aside0.mk hr1
 have HC1 := Aside0.mk hc1
 clear hr1 hc1
 have HB := Aside0.mk (Below.refl w.heap.size w)
 have H : ((laws_szSpotS.f l1 1048576).bind fun t472 => (if t472 < 0 then (some true) else ((laws_toRoom.f k a0_0 a0_1 a0_2).bind fun bt473 => ((laws_toSpotS.f k l1).bind fun t476 => ((spec_FewestCalls.f k bt473.1 bt473.2.1 bt473.2.2 t476 a2).bind fun bt479 => ((laws_toSpotS.f k l1).bind fun t483 => ((laws_toRoom.f k a0_0 a0_1 a0_2).bind fun bt486 => ((impl_FewestCalls.f k bt486.1 bt486.2.1 bt486.2.2 t483 a2).bind fun bt489 => ((laws_eqSpotS.f k bt489.1 bt479.1).bind fun t493 => (if t493 = true then (laws_FnExactFewestCalls.j0 k l1 a2 bt479.1 bt479.2 t483 bt489.1 bt489.2 (bt489.2 != bt479.2) a0_0 a0_1 a0_2) else (laws_FnExactFewestCalls.j0 k l1 a2 bt479.1 bt479.2 t483 bt489.1 bt489.2 true a0_0 a0_1 a0_2))))))))))) = some r := h
 clear h
 replace H := Option.bind_eq_some_iff.mp H
 obtain ⟨t472, A40, H⟩ := H
 replace H : (if t472 < 0 then (some true) else ((laws_toRoom.f k a0_0 a0_1 a0_2).bind fun bt473 => ((laws_toSpotS.f k l1).bind fun t476 => ((spec_FewestCalls.f k bt473.1 bt473.2.1 bt473.2.2 t476 a2).bind fun bt479 => ((laws_toSpotS.f k l1).bind fun t483 => ((laws_toRoom.f k a0_0 a0_1 a0_2).bind fun bt486 => ((impl_FewestCalls.f k bt486.1 bt486.2.1 bt486.2.2 t483 a2).bind fun bt489 => ((laws_eqSpotS.f k bt489.1 bt479.1).bind fun t493 => (if t493 = true then (laws_FnExactFewestCalls.j0 k l1 a2 bt479.1 bt479.2 t483 bt489.1 bt489.2 (bt489.2 != bt479.2) a0_0 a0_1 a0_2) else (laws_FnExactFewestCalls.j0 k l1 a2 bt479.1 bt479.2 t483 bt489.1 bt489.2 true a0_0 a0_1 a0_2)))))))))) = some r := H
 have A4 := Aside0.mk A40
 clear A40
 by_cases c5 : t472 < 0
 ·rw [if_pos c5] at H
  have c5b0 : decide (t472 < 0) = true := decide_eq_true c5
  clear c5
  obtain rfl := Option.some.inj H
  go_enter Try.func7, Try.ntmps7
  go_wp2_with (first | ((with_reducible refine gate_dst (N := 3) rfl ?_); refine box_event ?hg (N := 3) ?hd (cs := (mixA (Value.int .u16) [.int .i8 a0_0, .int .i8 a0_1] a0_2)) (t := 26) ?hr ?_; (case hd => rfl); (case hg => rfl); (case hr => first | (go_simp; done) | (go_simp; rfl)); intro gb471 hg w6 hbox hb; have n0_ := bst HB hb; have n1_ := Aside0.mk (hbox); have n2_ := gwl HB hg; have n3_ := gwl HB hg; clear HB; have HB := n0_; have BK471 := n1_; have GW471 := n2_; have GE471 := n3_; clear n0_ n1_ n2_ n3_; clear hb hbox hg) | ((with_reducible refine gate_callee (f := 20) rfl ?_); refine goesL_ (some 20) rfl rfl Try.func20 (by kernel_rfl) rfl #[.slice A1 l1.length c1, .int .i64 1048576] rfl (by (try simp only [List.map_toArray, List.map_cons, List.map_nil]); first | done | rfl | (simp only [List.length_drop, List.length_take]; rfl)) ?_; (with_reducible refine (laws_szSpotS.calls _ _ l1 1048576 t472 _ ?side1 ?side2 A4.out).mono ?_); (case side1 => repeat (first | exact (Kd.C_below HR1.out HB.out) | (with_reducible refine Kd.C_alloc ?_ _) | (with_reducible refine Kd.C_drewN ?_ _) | (with_reducible refine Kd.C_drew ?_))); (case side2 => exact HC1.out); rintro e w' ⟨rfl, ⟨nd, rfl⟩⟩; refine ⟨_, rfl, ?_⟩))
  go_ret
  exact ⟨by first | rfl | (simp [errW_none, errW_some] <;> rfl) | (simp [*, errW_none, errW_some] <;> rfl), pbs HB⟩
 ·rw [if_neg c5] at H
  have c5b0 : decide (t472 < 0) = false := decide_eq_false c5
  clear c5
  replace H := Option.bind_eq_some_iff.mp H
  obtain ⟨⟨t473, t474, t475⟩, A70, H⟩ := H
  replace H : ((laws_toSpotS.f k l1).bind fun t476 => ((spec_FewestCalls.f k t473 t474 t475 t476 a2).bind fun bt479 => ((laws_toSpotS.f k l1).bind fun t483 => ((laws_toRoom.f k a0_0 a0_1 a0_2).bind fun bt486 => ((impl_FewestCalls.f k bt486.1 bt486.2.1 bt486.2.2 t483 a2).bind fun bt489 => ((laws_eqSpotS.f k bt489.1 bt479.1).bind fun t493 => (if t493 = true then (laws_FnExactFewestCalls.j0 k l1 a2 bt479.1 bt479.2 t483 bt489.1 bt489.2 (bt489.2 != bt479.2) a0_0 a0_1 a0_2) else (laws_FnExactFewestCalls.j0 k l1 a2 bt479.1 bt479.2 t483 bt489.1 bt489.2 true a0_0 a0_1 a0_2)))))))) = some r := H
  have A7 := Aside0.mk A70
  clear A70
  replace H := Option.bind_eq_some_iff.mp H
  obtain ⟨t476, A80, H⟩ := H
  replace H : ((spec_FewestCalls.f k t473 t474 t475 t476 a2).bind fun bt479 => ((laws_toSpotS.f k l1).bind fun t483 => ((laws_toRoom.f k a0_0 a0_1 a0_2).bind fun bt486 => ((impl_FewestCalls.f k bt486.1 bt486.2.1 bt486.2.2 t483 a2).bind fun bt489 => ((laws_eqSpotS.f k bt489.1 bt479.1).bind fun t493 => (if t493 = true then (laws_FnExactFewestCalls.j0 k l1 a2 bt479.1 bt479.2 t483 bt489.1 bt489.2 (bt489.2 != bt479.2) a0_0 a0_1 a0_2) else (laws_FnExactFewestCalls.j0 k l1 a2 bt479.1 bt479.2 t483 bt489.1 bt489.2 true a0_0 a0_1 a0_2))))))) = some r := H
  have A8 := Aside0.mk A80
  clear A80
  replace H := Option.bind_eq_some_iff.mp H
  obtain ⟨⟨t479, t482⟩, A90, H⟩ := H
  replace H : ((laws_toSpotS.f k l1).bind fun t483 => ((laws_toRoom.f k a0_0 a0_1 a0_2).bind fun bt486 => ((impl_FewestCalls.f k bt486.1 bt486.2.1 bt486.2.2 t483 a2).bind fun bt489 => ((laws_eqSpotS.f k bt489.1 t479).bind fun t493 => (if t493 = true then (laws_FnExactFewestCalls.j0 k l1 a2 t479 t482 t483 bt489.1 bt489.2 (bt489.2 != t482) a0_0 a0_1 a0_2) else (laws_FnExactFewestCalls.j0 k l1 a2 t479 t482 t483 bt489.1 bt489.2 true a0_0 a0_1 a0_2)))))) = some r := H
  have A9 := Aside0.mk A90
  clear A90
  replace H := Option.bind_eq_some_iff.mp H
  obtain ⟨t483, A100, H⟩ := H
  replace H : ((laws_toRoom.f k a0_0 a0_1 a0_2).bind fun bt486 => ((impl_FewestCalls.f k bt486.1 bt486.2.1 bt486.2.2 t483 a2).bind fun bt489 => ((laws_eqSpotS.f k bt489.1 t479).bind fun t493 => (if t493 = true then (laws_FnExactFewestCalls.j0 k l1 a2 t479 t482 t483 bt489.1 bt489.2 (bt489.2 != t482) a0_0 a0_1 a0_2) else (laws_FnExactFewestCalls.j0 k l1 a2 t479 t482 t483 bt489.1 bt489.2 true a0_0 a0_1 a0_2))))) = some r := H
  have A10 := Aside0.mk A100
  clear A100
  replace H := Option.bind_eq_some_iff.mp H
  obtain ⟨⟨t486, t487, t488⟩, A110, H⟩ := H
  replace H : ((impl_FewestCalls.f k t486 t487 t488 t483 a2).bind fun bt489 => ((laws_eqSpotS.f k bt489.1 t479).bind fun t493 => (if t493 = true then (laws_FnExactFewestCalls.j0 k l1 a2 t479 t482 t483 bt489.1 bt489.2 (bt489.2 != t482) a0_0 a0_1 a0_2) else (laws_FnExactFewestCalls.j0 k l1 a2 t479 t482 t483 bt489.1 bt489.2 true a0_0 a0_1 a0_2)))) = some r := H
  have A11 := Aside0.mk A110
  clear A110
  replace H := Option.bind_eq_some_iff.mp H
  obtain ⟨⟨t489, t492⟩, A120, H⟩ := H
  replace H : ((laws_eqSpotS.f k t489 t479).bind fun t493 => (if t493 = true then (laws_FnExactFewestCalls.j0 k l1 a2 t479 t482 t483 t489 t492 (t492 != t482) a0_0 a0_1 a0_2) else (laws_FnExactFewestCalls.j0 k l1 a2 t479 t482 t483 t489 t492 true a0_0 a0_1 a0_2))) = some r := H
  have A12 := Aside0.mk A120
  clear A120
  have HC13 := Aside0.mk H
  clear H
  go_enter Try.func7, Try.ntmps7
  go_upto_region 8 with (first | ((with_reducible refine gate_dst (N := 3) rfl ?_); refine box_event ?hg (N := 3) ?hd (cs := (mixA (Value.int .u16) [.int .i8 a0_0, .int .i8 a0_1] a0_2)) (t := 26) ?hr ?_; (case hd => rfl); (case hg => rfl); (case hr => first | (go_simp; done) | (go_simp; rfl)); intro gb471 hg w14 hbox hb; have n0_ := bst HB hb; have n1_ := Aside0.mk (hbox); have n2_ := gwl HB hg; have n3_ := gwl HB hg; clear HB; have HB := n0_; have BK471 := n1_; have GW471 := n2_; have GE471 := n3_; clear n0_ n1_ n2_ n3_; clear hb hbox hg) | ((with_reducible refine gate_callee (f := 20) rfl ?_); refine goesL_ (some 20) rfl rfl Try.func20 (by kernel_rfl) rfl #[.slice A1 l1.length c1, .int .i64 1048576] rfl (by (try simp only [List.map_toArray, List.map_cons, List.map_nil]); first | done | rfl | (simp only [List.length_drop, List.length_take]; rfl)) ?_; (with_reducible refine (laws_szSpotS.calls _ _ l1 1048576 t472 _ ?side1 ?side2 A4.out).mono ?_); (case side1 => repeat (first | exact (Kd.C_below HR1.out HB.out) | (with_reducible refine Kd.C_alloc ?_ _) | (with_reducible refine Kd.C_drewN ?_ _) | (with_reducible refine Kd.C_drew ?_))); (case side2 => exact HC1.out); rintro e w' ⟨rfl, ⟨nd, rfl⟩⟩; refine ⟨_, rfl, ?_⟩) | ((with_reducible refine gate_dst (N := 24) rfl ?_); refine wpList_run0 (v := .agg (mixA (Value.int .u16) [.int .i8 a0_0, .int .i8 a0_1] a0_2)) rfl (load_mix_run (P := Try.prog) 26 (.tmp 3) rfl gb471 rfl (show World.rangeAt _ gb471 0 ([.int .i8 a0_0, .int .i8 a0_1] ++ a0_2.l.map (Value.int .u16)) from mix_range (show (World.heap _)[gb471]? = some (.cells (mixA (Value.int .u16) [.int .i8 a0_0, .int .i8 a0_1] a0_2) 26 (0, 0)) from by (with_reducible repeat (first | refine blk_drewN ?_ _ | refine blk_drew ?_ | refine blk_alloc ?_ _)); exact BK471.out)) Try.underlying26 rfl (by kernel_rfl) rfl) ?_) | ((with_reducible refine gate_callee (f := 14) rfl ?_); refine goesL_ (some 25) rfl rfl Try.func14 (by kernel_rfl) rfl #[.agg (mixA (Value.int .u16) [.int .i8 a0_0, .int .i8 a0_1] a0_2)] rfl (by (try simp only [List.map_toArray, List.map_cons, List.map_nil]); first | done | rfl | (simp only [List.length_drop, List.length_take]; rfl)) ?_; (with_reducible refine (laws_toRoom.calls k a0_0 a0_1 a0_2 t473 t474 t475 _ A7.out).mono ?_); rintro e w16 ⟨rfl, hb⟩; refine ⟨_, rfl, ?_⟩; have n0_ := bkb BK471 hb; have n1_ := bst HB hb; clear BK471; clear HB; have BK471 := n0_; have HB := n1_; clear n0_ n1_; (try clear hb); (try clear hb2); (try clear hk); (try clear hi)) | ((with_reducible refine gate_callee (f := 22) rfl ?_); refine goesL_ (some 27) rfl rfl Try.func22 (by kernel_rfl) rfl #[.slice A1 l1.length c1] rfl (by (try simp only [List.map_toArray, List.map_cons, List.map_nil]); first | done | rfl | (simp only [List.length_drop, List.length_take]; rfl)) ?_; (with_reducible refine (laws_toSpotS.calls k _ _ l1 t476 _ ?side1 ?side2 A8.out).mono ?_); (case side1 => repeat (first | exact (Kd.C_below HR1.out HB.out) | (with_reducible refine Kd.C_alloc ?_ _) | (with_reducible refine Kd.C_drewN ?_ _) | (with_reducible refine Kd.C_drew ?_))); (case side2 => exact HC1.out); rintro e w17 ⟨v477, rfl, ho0, hb⟩; refine ⟨_, rfl, ?_⟩; have n0_ := Aside0.mk (Kd.R_lower ho0 (below_size (by repeat (first | (with_reducible first | exact HB.out | apply below_alloc | apply pw_below_drewN | apply below_drew1 | refine below_set ?_ GE471.out) | exact HB.out)))); have n1_ := bkb BK471 hb; have n2_ := bst HB hb; clear BK471; clear HB; have HO478 := n0_; have BK471 := n1_; have HB := n2_; clear n0_ n1_ n2_; (try clear hb); (try clear hb2); (try clear hk); (try clear hi); (try clear ho0); obtain ⟨Ao18, co18, eo18⟩ := Kd.R_slice HO478.out; subst eo18) | ((with_reducible refine gate_callee (f := 31) rfl ?_); refine goesL_ (some 29) rfl rfl Try.func31 (by kernel_rfl) rfl #[.agg (mixA (Value.int .u16) [.int .i8 t473, .int .i8 t474] t475), .slice Ao18 t476.length co18, .int .i64 a2] rfl (by (try simp only [List.map_toArray, List.map_cons, List.map_nil]); first | done | rfl | (simp only [List.length_drop, List.length_take]; rfl)) ?_; (with_reducible refine (spec_FewestCalls.calls k t473 t474 t475 _ _ t476 a2 t479 t482 _ ?side1 ?side2 A9.out).mono ?_); (case side1 => repeat (first | exact (Kd.R_reads' HO478.out).2.2 | (with_reducible refine Kd.C_alloc ?_ _) | (with_reducible refine Kd.C_drewN ?_ _) | (with_reducible refine Kd.C_drew ?_))); (case side2 => exact (Kd.R_reads' HO478.out).2.1); rintro e w19 ⟨v480, rfl, ho0, hb⟩; refine ⟨_, rfl, ?_⟩; have n0_ := Aside0.mk (Kd.R_elder' (by (with_reducible repeat (first | apply Kd.R_alloc | apply Kd.R_drewN | apply Kd.R_drew)); exact HO478.out) (Kd.R_base ho0) hb); have n1_ := Aside0.mk (Kd.R_lower (Kd.R_new' ho0 (Kd.R_lt (by (with_reducible repeat (first | apply Kd.R_alloc | apply Kd.R_drewN | apply Kd.R_drew)); exact HO478.out))) (below_size (by repeat (first | (with_reducible first | exact HB.out | apply below_alloc | apply pw_below_drewN | apply below_drew1 | refine below_set ?_ GE471.out) | exact HB.out)))); have n2_ := bkb BK471 hb; have n3_ := bst HB hb; clear HO478; clear BK471; clear HB; have HO478 := n0_; have HO481 := n1_; have BK471 := n2_; have HB := n3_; clear n0_ n1_ n2_ n3_; (try clear hb); (try clear hb2); (try clear hk); (try clear hi); (try clear ho0)) | ((with_reducible refine gate_callee (f := 22) rfl ?_); refine goesL_ (some 33) rfl rfl Try.func22 (by kernel_rfl) rfl #[.slice A1 l1.length c1] rfl (by (try simp only [List.map_toArray, List.map_cons, List.map_nil]); first | done | rfl | (simp only [List.length_drop, List.length_take]; rfl)) ?_; (with_reducible refine (laws_toSpotS.calls k _ _ l1 t483 _ ?side1 ?side2 A10.out).mono ?_); (case side1 => repeat (first | exact (Kd.C_below HR1.out HB.out) | (with_reducible refine Kd.C_alloc ?_ _) | (with_reducible refine Kd.C_drewN ?_ _) | (with_reducible refine Kd.C_drew ?_))); (case side2 => exact HC1.out); rintro e w20 ⟨v484, rfl, ho0, hb⟩; refine ⟨_, rfl, ?_⟩; have n0_ := Aside0.mk (Kd.R_elder' (by (with_reducible repeat (first | apply Kd.R_alloc | apply Kd.R_drewN | apply Kd.R_drew)); exact HO478.out) (Kd.R_base ho0) hb); have n1_ := Aside0.mk (Kd.R_elder' (by (with_reducible repeat (first | apply Kd.R_alloc | apply Kd.R_drewN | apply Kd.R_drew)); exact HO481.out) (Kd.R_base ho0) hb); have n2_ := Aside0.mk (Kd.R_lower (Kd.R_new' (Kd.R_new' ho0 (Kd.R_lt (by (with_reducible repeat (first | apply Kd.R_alloc | apply Kd.R_drewN | apply Kd.R_drew)); exact HO478.out))) (Kd.R_lt (by (with_reducible repeat (first | apply Kd.R_alloc | apply Kd.R_drewN | apply Kd.R_drew)); exact HO481.out))) (below_size (by repeat (first | (with_reducible first | exact HB.out | apply below_alloc | apply pw_below_drewN | apply below_drew1 | refine below_set ?_ GE471.out) | exact HB.out)))); have n3_ := bkb BK471 hb; have n4_ := bst HB hb; clear HO478; clear HO481; clear BK471; clear HB; have HO478 := n0_; have HO481 := n1_; have HO485 := n2_; have BK471 := n3_; have HB := n4_; clear n0_ n1_ n2_ n3_ n4_; (try clear hb); (try clear hb2); (try clear hk); (try clear hi); (try clear ho0)) | ((with_reducible refine gate_dst (N := 35) rfl ?_); refine wpList_run0 (v := .agg (mixA (Value.int .u16) [.int .i8 a0_0, .int .i8 a0_1] a0_2)) rfl (load_mix_run (P := Try.prog) 26 (.tmp 3) rfl gb471 rfl (show World.rangeAt _ gb471 0 ([.int .i8 a0_0, .int .i8 a0_1] ++ a0_2.l.map (Value.int .u16)) from mix_range (show (World.heap _)[gb471]? = some (.cells (mixA (Value.int .u16) [.int .i8 a0_0, .int .i8 a0_1] a0_2) 26 (0, 0)) from by (with_reducible repeat (first | refine blk_drewN ?_ _ | refine blk_drew ?_ | refine blk_alloc ?_ _)); exact BK471.out)) Try.underlying26 rfl (by kernel_rfl) rfl) ?_) | ((with_reducible refine gate_callee (f := 14) rfl ?_); refine goesL_ (some 36) rfl rfl Try.func14 (by kernel_rfl) rfl #[.agg (mixA (Value.int .u16) [.int .i8 a0_0, .int .i8 a0_1] a0_2)] rfl (by (try simp only [List.map_toArray, List.map_cons, List.map_nil]); first | done | rfl | (simp only [List.length_drop, List.length_take]; rfl)) ?_; (with_reducible refine (laws_toRoom.calls k a0_0 a0_1 a0_2 t486 t487 t488 _ A11.out).mono ?_); rintro e w22 ⟨rfl, hb⟩; refine ⟨_, rfl, ?_⟩; have n0_ := krb HO478 hb; have n1_ := krb HO481 hb; have n2_ := krb HO485 hb; have n3_ := bkb BK471 hb; have n4_ := bst HB hb; clear HO478; clear HO481; clear HO485; clear BK471; clear HB; have HO478 := n0_; have HO481 := n1_; have HO485 := n2_; have BK471 := n3_; have HB := n4_; clear n0_ n1_ n2_ n3_ n4_; (try clear hb); (try clear hb2); (try clear hk); (try clear hi); obtain ⟨Ao23, co23, eo23⟩ := Kd.R_slice HO485.out; subst eo23) | ((with_reducible refine gate_callee (f := 32) rfl ?_); refine goesL_ (some 39) rfl rfl Try.func32 (by kernel_rfl) rfl #[.agg (mixA (Value.int .u16) [.int .i8 t486, .int .i8 t487] t488), .slice Ao23 t483.length co23, .int .i64 a2] rfl (by (try simp only [List.map_toArray, List.map_cons, List.map_nil]); first | done | rfl | (simp only [List.length_drop, List.length_take]; rfl)) ?_; (with_reducible refine (impl_FewestCalls.calls k t486 t487 t488 _ _ t483 a2 t489 t492 _ ?side1 ?side2 A12.out).mono ?_); (case side1 => repeat (first | exact (Kd.R_reads' HO485.out).2.2 | (with_reducible refine Kd.C_alloc ?_ _) | (with_reducible refine Kd.C_drewN ?_ _) | (with_reducible refine Kd.C_drew ?_))); (case side2 => exact (Kd.R_reads' HO485.out).2.1); rintro e w24 ⟨v490, rfl, ho0, hb⟩; refine ⟨_, rfl, ?_⟩; have n0_ := Aside0.mk (Kd.R_elder' (by (with_reducible repeat (first | apply Kd.R_alloc | apply Kd.R_drewN | apply Kd.R_drew)); exact HO478.out) (Kd.R_base ho0) hb); have n1_ := Aside0.mk (Kd.R_elder' (by (with_reducible repeat (first | apply Kd.R_alloc | apply Kd.R_drewN | apply Kd.R_drew)); exact HO481.out) (Kd.R_base ho0) hb); have n2_ := Aside0.mk (Kd.R_elder' (by (with_reducible repeat (first | apply Kd.R_alloc | apply Kd.R_drewN | apply Kd.R_drew)); exact HO485.out) (Kd.R_base ho0) hb); have n3_ := Aside0.mk (Kd.R_lower (Kd.R_new' (Kd.R_new' (Kd.R_new' ho0 (Kd.R_lt (by (with_reducible repeat (first | apply Kd.R_alloc | apply Kd.R_drewN | apply Kd.R_drew)); exact HO478.out))) (Kd.R_lt (by (with_reducible repeat (first | apply Kd.R_alloc | apply Kd.R_drewN | apply Kd.R_drew)); exact HO481.out))) (Kd.R_lt (by (with_reducible repeat (first | apply Kd.R_alloc | apply Kd.R_drewN | apply Kd.R_drew)); exact HO485.out))) (below_size (by repeat (first | (with_reducible first | exact HB.out | apply below_alloc | apply pw_below_drewN | apply below_drew1 | refine below_set ?_ GE471.out) | exact HB.out)))); have n4_ := bkb BK471 hb; have n5_ := bst HB hb; clear HO478; clear HO481; clear HO485; clear BK471; clear HB; have HO478 := n0_; have HO481 := n1_; have HO485 := n2_; have HO491 := n3_; have BK471 := n4_; have HB := n5_; clear n0_ n1_ n2_ n3_ n4_ n5_; (try clear hb); (try clear hb2); (try clear hk); (try clear hi); (try clear ho0)))
  (try simp only [Act.put, List.setIfInBounds_toArray, List.set_cons_zero, List.set_cons_succ])
  go_cut [50] (fun v50 wc => ∃ (kq : Nat) (x50_12 : Bool), v50 = .bool x50_12 ∧ Aside0 (laws_FnExactFewestCalls.j0 kq l1 a2 t479 t482 t483 t489 t492 x50_12 a0_0 a0_1 a0_2 = some r) ∧ Aside0 (kq ≤ k) ∧ Aside0 (Kd.R k34 34 wc w.heap.size (fun k_ => some k_ ≠ ((.slice Ao23 t483.length co23) : Value).ownBlock ∧ some k_ ≠ (v490 : Value).ownBlock) v480 t479) ∧ Aside0 (Kd.R k34 34 wc w.heap.size (fun k_ => some k_ ≠ (v480 : Value).ownBlock ∧ some k_ ≠ (v490 : Value).ownBlock) (.slice Ao23 t483.length co23) t483) ∧ Aside0 (Kd.R k34 34 wc w.heap.size (fun k_ => some k_ ≠ (v480 : Value).ownBlock ∧ some k_ ≠ ((.slice Ao23 t483.length co23) : Value).ownBlock) v490 t489) ∧ Aside0 (wc.heap[gb471]? = some (.cells (mixA (Value.int .u16) [.int .i8 a0_0, .int .i8 a0_1] a0_2) 26 (0, 0))) ∧ Aside0 (Below w.heap.size w wc))
  case first =>
   have H := HC13.out
   clear HC13
   replace H := Option.bind_eq_some_iff.mp H
   obtain ⟨t493, A250, H⟩ := H
   replace H : (if t493 = true then (laws_FnExactFewestCalls.j0 k l1 a2 t479 t482 t483 t489 t492 (t492 != t482) a0_0 a0_1 a0_2) else (laws_FnExactFewestCalls.j0 k l1 a2 t479 t482 t483 t489 t492 true a0_0 a0_1 a0_2)) = some r := H
   have A25 := Aside0.mk A250
   clear A250
   by_cases c26 : t493 = true
   ·subst c26
    have H1 : (laws_FnExactFewestCalls.j0 k l1 a2 t479 t482 t483 t489 t492 (t492 != t482) a0_0 a0_1 a0_2) = some r := by rw [if_pos rfl] at H; exact H
    clear H
    have H := H1
    clear H1
    have H' := Aside0.mk H
    clear H
    obtain ⟨Ao27, co27, eo27⟩ := Kd.R_slice HO491.out
    subst eo27
    obtain ⟨Ao28, co28, eo28⟩ := Kd.R_slice HO481.out
    subst eo28
    go_wp2_with (first | ((with_reducible refine gate_callee (f := 17) rfl ?_); refine goesL_ (some 44) rfl rfl Try.func17 (by kernel_rfl) rfl #[.slice Ao27 t489.length co27, .slice Ao28 t479.length co28] rfl (by (try simp only [List.map_toArray, List.map_cons, List.map_nil]); first | done | rfl | (simp only [List.length_drop, List.length_take]; rfl)) ?_; (with_reducible refine (laws_eqSpotS.calls k _ _ t489 _ _ t479 true _ ?side1 ?side2 ?side3 ?side4 A25.out).mono ?_); (case side1 => repeat (first | exact (Kd.R_reads' HO491.out).2.2 | (with_reducible refine Kd.C_alloc ?_ _) | (with_reducible refine Kd.C_drewN ?_ _) | (with_reducible refine Kd.C_drew ?_))); (case side2 => exact (Kd.R_reads' HO491.out).2.1); (case side3 => repeat (first | exact (Kd.R_reads' HO481.out).2.2 | (with_reducible refine Kd.C_alloc ?_ _) | (with_reducible refine Kd.C_drewN ?_ _) | (with_reducible refine Kd.C_drew ?_))); (case side4 => exact (Kd.R_reads' HO481.out).2.1); rintro e w29 ⟨rfl, hb⟩; refine ⟨_, rfl, ?_⟩; have n0_ := krb HO478 hb; have n1_ := krb HO481 hb; have n2_ := krb HO485 hb; have n3_ := krb HO491 hb; have n4_ := bkb BK471 hb; have n5_ := bst HB hb; clear HO478; clear HO481; clear HO485; clear HO491; clear BK471; clear HB; have HO478 := n0_; have HO481 := n1_; have HO485 := n2_; have HO491 := n3_; have BK471 := n4_; have HB := n5_; clear n0_ n1_ n2_ n3_ n4_ n5_; (try clear hb); (try clear hb2); (try clear hk); (try clear hi)))
    go_meet
    case rel => exact ⟨_, ((t492 != t482)), (by first | rfl | (simp; done) | (simp [*]; done)), H', ⟨by first | omega | exact Nat.le_refl _⟩, ⟨by (with_reducible repeat (first | apply Kd.R_alloc | apply Kd.R_drewN | apply Kd.R_drew)); exact Kd.R_mono HO481.out (fun _ hk => ⟨hk.1.2, hk.2⟩)⟩, ⟨by (with_reducible repeat (first | apply Kd.R_alloc | apply Kd.R_drewN | apply Kd.R_drew)); exact Kd.R_mono HO485.out (fun _ hk => ⟨hk.1.2, hk.2⟩)⟩, ⟨by (with_reducible repeat (first | apply Kd.R_alloc | apply Kd.R_drewN | apply Kd.R_drew)); exact Kd.R_mono HO491.out (fun _ hk => ⟨hk.1.2, hk.2⟩)⟩, ⟨pk BK471⟩, ⟨pbs HB⟩⟩
   ·replace c26 := Bool.eq_false_iff.mpr c26
    subst c26
    have H1 : (laws_FnExactFewestCalls.j0 k l1 a2 t479 t482 t483 t489 t492 true a0_0 a0_1 a0_2) = some r := by rw [if_neg (show ¬ (false = true) by decide)] at H; exact H
    clear H
    have H := H1
    clear H1
    have H' := Aside0.mk H
    clear H
    obtain ⟨Ao30, co30, eo30⟩ := Kd.R_slice HO491.out
    subst eo30
    obtain ⟨Ao31, co31, eo31⟩ := Kd.R_slice HO481.out
    subst eo31
    go_wp2_with (first | ((with_reducible refine gate_callee (f := 17) rfl ?_); refine goesL_ (some 44) rfl rfl Try.func17 (by kernel_rfl) rfl #[.slice Ao30 t489.length co30, .slice Ao31 t479.length co31] rfl (by (try simp only [List.map_toArray, List.map_cons, List.map_nil]); first | done | rfl | (simp only [List.length_drop, List.length_take]; rfl)) ?_; (with_reducible refine (laws_eqSpotS.calls k _ _ t489 _ _ t479 false _ ?side1 ?side2 ?side3 ?side4 A25.out).mono ?_); (case side1 => repeat (first | exact (Kd.R_reads' HO491.out).2.2 | (with_reducible refine Kd.C_alloc ?_ _) | (with_reducible refine Kd.C_drewN ?_ _) | (with_reducible refine Kd.C_drew ?_))); (case side2 => exact (Kd.R_reads' HO491.out).2.1); (case side3 => repeat (first | exact (Kd.R_reads' HO481.out).2.2 | (with_reducible refine Kd.C_alloc ?_ _) | (with_reducible refine Kd.C_drewN ?_ _) | (with_reducible refine Kd.C_drew ?_))); (case side4 => exact (Kd.R_reads' HO481.out).2.1); rintro e w32 ⟨rfl, hb⟩; refine ⟨_, rfl, ?_⟩; have n0_ := krb HO478 hb; have n1_ := krb HO481 hb; have n2_ := krb HO485 hb; have n3_ := krb HO491 hb; have n4_ := bkb BK471 hb; have n5_ := bst HB hb; clear HO478; clear HO481; clear HO485; clear HO491; clear BK471; clear HB; have HO478 := n0_; have HO481 := n1_; have HO485 := n2_; have HO491 := n3_; have BK471 := n4_; have HB := n5_; clear n0_ n1_ n2_ n3_ n4_ n5_; (try clear hb); (try clear hb2); (try clear hk); (try clear hi)))
    go_meet
    case rel => exact ⟨_, (true), (by first | rfl | (simp; done) | (simp [*]; done)), H', ⟨by first | omega | exact Nat.le_refl _⟩, ⟨by (with_reducible repeat (first | apply Kd.R_alloc | apply Kd.R_drewN | apply Kd.R_drew)); exact Kd.R_mono HO481.out (fun _ hk => ⟨hk.1.2, hk.2⟩)⟩, ⟨by (with_reducible repeat (first | apply Kd.R_alloc | apply Kd.R_drewN | apply Kd.R_drew)); exact Kd.R_mono HO485.out (fun _ hk => ⟨hk.1.2, hk.2⟩)⟩, ⟨by (with_reducible repeat (first | apply Kd.R_alloc | apply Kd.R_drewN | apply Kd.R_drew)); exact Kd.R_mono HO491.out (fun _ hk => ⟨hk.1.2, hk.2⟩)⟩, ⟨pk BK471⟩, ⟨pbs HB⟩⟩
  case rest =>
   clear HC13
   try clear c1
   try clear c2
   try clear p2
   try clear c3
   try clear c5
   try clear c5b0
   try clear c7
   try clear c14
   try clear c17
   try clear c20
   try clear c22
   try clear c26
   try clear c31
   try clear c32
   obtain ⟨kq, x50_12, rfl, HA, HJ12, HO_8, HO_10, HO_11, BK471, HB⟩ := hcut
   cases kq with
   | zero => exact absurd HA.out (by simp [laws_FnExactFewestCalls.j0])
   | succ kj12 =>
    have H := HA.out
    clear HA
    simp only [laws_FnExactFewestCalls.j0] at H
    by_cases c33 : x50_12 = true
    ·subst c33
     have H1 : (some false) = some r := by rw [if_pos rfl] at H; exact H
     clear H
     have H := H1
     clear H1
     obtain rfl := Option.some.inj H
     go_wp2
     go_ret
     exact ⟨by first | rfl | (simp [errW_none, errW_some] <;> rfl) | (simp [*, errW_none, errW_some] <;> rfl), pbs HB⟩
    ·replace c33 := Bool.eq_false_iff.mpr c33
     subst c33
     have H1 : ((laws_toSpotS.f kj12 l1).bind fun t494 => ((laws_eqSpotS.f kj12 t483 t494).bind fun t497 => (if t497 = true then ((laws_markSpotS.f kj12 t483 1).bind fun bt498 => (if bt498.1 < 0 then (laws_FnExactFewestCalls.j1 kj12 l1 a2 t479 t482 t489 true a0_0 a0_1 a0_2) else ((laws_eqSpotS.f kj12 t489 t479).bind fun t500 => (if t500 = true then (laws_FnExactFewestCalls.j1 kj12 l1 a2 t479 t482 t489 (t492 != t482) a0_0 a0_1 a0_2) else (laws_FnExactFewestCalls.j1 kj12 l1 a2 t479 t482 t489 true a0_0 a0_1 a0_2))))) else (some false)))) = some r := by rw [if_neg (show ¬ (false = true) by decide)] at H; exact H
     clear H
     have H := H1
     clear H1
     replace H := Option.bind_eq_some_iff.mp H
     obtain ⟨t494, A340, H⟩ := H
     replace H : ((laws_eqSpotS.f kj12 t483 t494).bind fun t497 => (if t497 = true then ((laws_markSpotS.f kj12 t483 1).bind fun bt498 => (if bt498.1 < 0 then (laws_FnExactFewestCalls.j1 kj12 l1 a2 t479 t482 t489 true a0_0 a0_1 a0_2) else ((laws_eqSpotS.f kj12 t489 t479).bind fun t500 => (if t500 = true then (laws_FnExactFewestCalls.j1 kj12 l1 a2 t479 t482 t489 (t492 != t482) a0_0 a0_1 a0_2) else (laws_FnExactFewestCalls.j1 kj12 l1 a2 t479 t482 t489 true a0_0 a0_1 a0_2))))) else (some false))) = some r := H
     have A34 := Aside0.mk A340
     clear A340
     replace H := Option.bind_eq_some_iff.mp H
     obtain ⟨t497, A350, H⟩ := H
     replace H : (if t497 = true then ((laws_markSpotS.f kj12 t483 1).bind fun bt498 => (if bt498.1 < 0 then (laws_FnExactFewestCalls.j1 kj12 l1 a2 t479 t482 t489 true a0_0 a0_1 a0_2) else ((laws_eqSpotS.f kj12 t489 t479).bind fun t500 => (if t500 = true then (laws_FnExactFewestCalls.j1 kj12 l1 a2 t479 t482 t489 (t492 != t482) a0_0 a0_1 a0_2) else (laws_FnExactFewestCalls.j1 kj12 l1 a2 t479 t482 t489 true a0_0 a0_1 a0_2))))) else (some false)) = some r := H
     have A35 := Aside0.mk A350
     clear A350
     by_cases c36 : t497 = true
     ·subst c36
      have H1 : ((laws_markSpotS.f kj12 t483 1).bind fun bt498 => (if bt498.1 < 0 then (laws_FnExactFewestCalls.j1 kj12 l1 a2 t479 t482 t489 true a0_0 a0_1 a0_2) else ((laws_eqSpotS.f kj12 t489 t479).bind fun t500 => (if t500 = true then (laws_FnExactFewestCalls.j1 kj12 l1 a2 t479 t482 t489 (t492 != t482) a0_0 a0_1 a0_2) else (laws_FnExactFewestCalls.j1 kj12 l1 a2 t479 t482 t489 true a0_0 a0_1 a0_2))))) = some r := by rw [if_pos rfl] at H; exact H
      clear H
      have H := H1
      clear H1
      replace H := Option.bind_eq_some_iff.mp H
      obtain ⟨⟨t498, t499⟩, A370, H⟩ := H
      replace H : (if t498 < 0 then (laws_FnExactFewestCalls.j1 kj12 l1 a2 t479 t482 t489 true a0_0 a0_1 a0_2) else ((laws_eqSpotS.f kj12 t489 t479).bind fun t500 => (if t500 = true then (laws_FnExactFewestCalls.j1 kj12 l1 a2 t479 t482 t489 (t492 != t482) a0_0 a0_1 a0_2) else (laws_FnExactFewestCalls.j1 kj12 l1 a2 t479 t482 t489 true a0_0 a0_1 a0_2)))) = some r := H
      have A37 := Aside0.mk A370
      clear A370
      have HC38 := Aside0.mk H
      clear H
      go_upto_region 14 with (first | ((with_reducible refine gate_callee (f := 22) rfl ?_); refine goesL_ (some 53) rfl rfl Try.func22 (by kernel_rfl) rfl #[.slice A1 l1.length c1] rfl (by (try simp only [List.map_toArray, List.map_cons, List.map_nil]); first | done | rfl | (simp only [List.length_drop, List.length_take]; rfl)) ?_; (with_reducible refine (laws_toSpotS.calls kj12 _ _ l1 t494 _ ?side1 ?side2 A34.out).mono ?_); (case side1 => repeat (first | exact (Kd.C_below HR1.out HB.out) | (with_reducible refine Kd.C_alloc ?_ _) | (with_reducible refine Kd.C_drewN ?_ _) | (with_reducible refine Kd.C_drew ?_))); (case side2 => exact HC1.out); rintro e w39 ⟨v495, rfl, ho0, hb⟩; refine ⟨_, rfl, ?_⟩; have n0_ := Aside0.mk (Kd.R_elder' (by (with_reducible repeat (first | apply Kd.R_alloc | apply Kd.R_drewN | apply Kd.R_drew)); exact HO_8.out) (Kd.R_base ho0) hb); have n1_ := Aside0.mk (Kd.R_elder' (by (with_reducible repeat (first | apply Kd.R_alloc | apply Kd.R_drewN | apply Kd.R_drew)); exact HO_10.out) (Kd.R_base ho0) hb); have n2_ := Aside0.mk (Kd.R_elder' (by (with_reducible repeat (first | apply Kd.R_alloc | apply Kd.R_drewN | apply Kd.R_drew)); exact HO_11.out) (Kd.R_base ho0) hb); have n3_ := Aside0.mk (Kd.R_lower (Kd.R_new' (Kd.R_new' (Kd.R_new' ho0 (Kd.R_lt (by (with_reducible repeat (first | apply Kd.R_alloc | apply Kd.R_drewN | apply Kd.R_drew)); exact HO_8.out))) (Kd.R_lt (by (with_reducible repeat (first | apply Kd.R_alloc | apply Kd.R_drewN | apply Kd.R_drew)); exact HO_10.out))) (Kd.R_lt (by (with_reducible repeat (first | apply Kd.R_alloc | apply Kd.R_drewN | apply Kd.R_drew)); exact HO_11.out))) (below_size (by repeat (first | (with_reducible first | exact HB.out | apply below_alloc | apply pw_below_drewN | apply below_drew1 | refine below_set ?_ GE471.out) | exact HB.out)))); have n4_ := bkb BK471 hb; have n5_ := bst HB hb; clear HO_8; clear HO_10; clear HO_11; clear BK471; clear HB; have HO_8 := n0_; have HO_10 := n1_; have HO_11 := n2_; have HO496 := n3_; have BK471 := n4_; have HB := n5_; clear n0_ n1_ n2_ n3_ n4_ n5_; (try clear hb); (try clear hb2); (try clear hk); (try clear hi); (try clear ho0); obtain ⟨Ao40, co40, eo40⟩ := Kd.R_slice HO496.out; subst eo40) | ((with_reducible refine gate_callee (f := 17) rfl ?_); refine goesL_ (some 54) rfl rfl Try.func17 (by kernel_rfl) rfl #[.slice Ao23 t483.length co23, .slice Ao40 t494.length co40] rfl (by (try simp only [List.map_toArray, List.map_cons, List.map_nil]); first | done | rfl | (simp only [List.length_drop, List.length_take]; rfl)) ?_; (with_reducible refine (laws_eqSpotS.calls kj12 _ _ t483 _ _ t494 true _ ?side1 ?side2 ?side3 ?side4 A35.out).mono ?_); (case side1 => repeat (first | exact (Kd.R_reads' HO_10.out).2.2 | (with_reducible refine Kd.C_alloc ?_ _) | (with_reducible refine Kd.C_drewN ?_ _) | (with_reducible refine Kd.C_drew ?_))); (case side2 => exact (Kd.R_reads' HO_10.out).2.1); (case side3 => repeat (first | exact (Kd.R_reads' HO496.out).2.2 | (with_reducible refine Kd.C_alloc ?_ _) | (with_reducible refine Kd.C_drewN ?_ _) | (with_reducible refine Kd.C_drew ?_))); (case side4 => exact (Kd.R_reads' HO496.out).2.1); rintro e w41 ⟨rfl, hb⟩; refine ⟨_, rfl, ?_⟩; have n0_ := krb HO_8 hb; have n1_ := krb HO_10 hb; have n2_ := krb HO_11 hb; have n3_ := krb HO496 hb; have n4_ := bkb BK471 hb; have n5_ := bst HB hb; clear HO_8; clear HO_10; clear HO_11; clear HO496; clear BK471; clear HB; have HO_8 := n0_; have HO_10 := n1_; have HO_11 := n2_; have HO496 := n3_; have BK471 := n4_; have HB := n5_; clear n0_ n1_ n2_ n3_ n4_ n5_; (try clear hb); (try clear hb2); (try clear hk); (try clear hi)) | ((with_reducible refine gate_callee (f := 18) rfl ?_); refine goesL_ (some 58) rfl rfl Try.func18 (by kernel_rfl) rfl #[.slice Ao23 t483.length co23, .int .i64 1] rfl (by (try simp only [List.map_toArray, List.map_cons, List.map_nil]); first | done | rfl | (simp only [List.length_drop, List.length_take]; rfl)) ?_; (with_reducible refine (laws_markSpotS.calls kj12 (fun k_ => some k_ = (.slice Ao23 t483.length co23 : Value).ownBlock) (.slice Ao23 t483.length co23) t483 1 t498 t499 w _ ?side1 ?side2 A37.out).mono ?_); (case side1 => repeat (first | (with_reducible first | exact HB.out | apply below_alloc | apply pw_below_drewN | apply below_drew1 | refine below_set ?_ GE471.out) | exact HB.out)); (case side2 => exact Kd.R_tight rfl HO_10.out); rintro e w42 ⟨rfl, hy0, hb, hkp⟩; refine ⟨_, rfl, ?_⟩; have n0_ := Aside0.mk (Kd.R_mono (ok' := fun k_ => some k_ ≠ (.slice Ao23 t483.length co23 : Value).ownBlock ∧ some k_ ≠ (v490 : Value).ownBlock ∧ some k_ ≠ (.slice Ao40 t494.length co40 : Value).ownBlock) (Kd.R_keptB (HO_8.out) hkp (fun k_ hk_ hs_ => (hk_.1.1) hs_)) (fun k_ hk_ => ⟨hk_.1.1.1, hk_.1.1.2, hk_.1.2⟩)); have n1_ := Aside0.mk (Kd.R_reok rfl hy0 (fun k_ e_ => HO_10.out.1 k_ e_)); have n2_ := Aside0.mk (Kd.R_mono (ok' := fun k_ => some k_ ≠ (v480 : Value).ownBlock ∧ some k_ ≠ (.slice Ao23 t483.length co23 : Value).ownBlock ∧ some k_ ≠ (.slice Ao40 t494.length co40 : Value).ownBlock) (Kd.R_keptB (HO_11.out) hkp (fun k_ hk_ hs_ => (hk_.1.2) hs_)) (fun k_ hk_ => ⟨hk_.1.1.1, hk_.1.1.2, hk_.1.2⟩)); have n3_ := Aside0.mk (blk_kept (pk BK471) hkp (fun hs_ => (fun e_ => (Kd.R_ne HO_10.out BK471.out (by decide)) e_) hs_)); have n4_ := Aside0.mk (Kd.R_mono (ok' := fun k_ => some k_ ≠ (v480 : Value).ownBlock ∧ some k_ ≠ (.slice Ao23 t483.length co23 : Value).ownBlock ∧ some k_ ≠ (v490 : Value).ownBlock) (Kd.R_keptB (HO496.out) hkp (fun k_ hk_ hs_ => (hk_.1.2) hs_)) (fun k_ hk_ => ⟨hk_.1.1.1.2, hk_.1.1.2, hk_.1.2⟩)); have n5_ := Aside0.mk (hb); clear HO_8; clear HO_10; clear HO_11; clear BK471; clear HO496; clear HB; have HO_8 := n0_; have HO_10 := n1_; have HO_11 := n2_; have BK471 := n3_; have HO496 := n4_; have HB := n5_; clear n0_ n1_ n2_ n3_ n4_ n5_; (try clear hb); (try clear hkp); (try clear hy0)))
      (try simp only [Act.put, List.setIfInBounds_toArray, List.set_cons_zero, List.set_cons_succ])
      go_cut [71] (fun v71 wc => ∃ (kq : Nat) (x71_37 : Bool), v71 = .bool x71_37 ∧ Aside0 (laws_FnExactFewestCalls.j1 kq l1 a2 t479 t482 t489 x71_37 a0_0 a0_1 a0_2 = some r) ∧ Aside0 (kq ≤ kj12) ∧ Aside0 (Kd.R k34 34 wc w.heap.size (fun k_ => some k_ ≠ (v490 : Value).ownBlock) v480 t479) ∧ Aside0 (Kd.R k34 34 wc w.heap.size (fun k_ => some k_ ≠ (v480 : Value).ownBlock) v490 t489) ∧ Aside0 (wc.heap[gb471]? = some (.cells (mixA (Value.int .u16) [.int .i8 a0_0, .int .i8 a0_1] a0_2) 26 (0, 0))) ∧ Aside0 (Below w.heap.size w wc))
      case first =>
       have H := HC38.out
       clear HC38
       by_cases c43 : t498 < 0
       ·rw [if_pos c43] at H
        have c43b0 : decide (t498 < 0) = true := decide_eq_true c43
        clear c43
        (first | rw [c43b0] | (simp only [i64_w, i32_w]; rw [c43b0]) | skip)
        have H' := Aside0.mk H
        clear H
        go_wp2
        go_meet
        case rel => exact ⟨_, (true), (by first | rfl | (simp; done) | (simp [*]; done)), H', ⟨by have := HJ12.out; first | omega | exact Nat.le_refl _⟩, ⟨by (with_reducible repeat (first | apply Kd.R_alloc | apply Kd.R_drewN | apply Kd.R_drew)); exact Kd.R_mono HO_8.out (fun _ hk => hk.2.1)⟩, ⟨by (with_reducible repeat (first | apply Kd.R_alloc | apply Kd.R_drewN | apply Kd.R_drew)); exact Kd.R_mono HO_11.out (fun _ hk => hk.1)⟩, ⟨pk BK471⟩, ⟨pbs HB⟩⟩
       ·rw [if_neg c43] at H
        have c43b0 : decide (t498 < 0) = false := decide_eq_false c43
        clear c43
        (first | rw [c43b0] | (simp only [i64_w, i32_w]; rw [c43b0]) | skip)
        replace H := Option.bind_eq_some_iff.mp H
        obtain ⟨t500, A440, H⟩ := H
        replace H : (if t500 = true then (laws_FnExactFewestCalls.j1 kj12 l1 a2 t479 t482 t489 (t492 != t482) a0_0 a0_1 a0_2) else (laws_FnExactFewestCalls.j1 kj12 l1 a2 t479 t482 t489 true a0_0 a0_1 a0_2)) = some r := H
        have A44 := Aside0.mk A440
        clear A440
        by_cases c45 : t500 = true
        ·subst c45
         have H1 : (laws_FnExactFewestCalls.j1 kj12 l1 a2 t479 t482 t489 (t492 != t482) a0_0 a0_1 a0_2) = some r := by rw [if_pos rfl] at H; exact H
         clear H
         have H := H1
         clear H1
         have H' := Aside0.mk H
         clear H
         obtain ⟨Ao46, co46, eo46⟩ := Kd.R_slice HO_11.out
         subst eo46
         obtain ⟨Ao47, co47, eo47⟩ := Kd.R_slice HO_8.out
         subst eo47
         go_wp2_with (first | (go_at_call 17; (with_reducible refine (laws_eqSpotS.calls kj12 _ _ t489 _ _ t479 true _ ?side1 ?side2 ?side3 ?side4 A44.out).mono ?_); (case side1 => repeat (first | exact (Kd.R_reads' HO_11.out).2.2 | (with_reducible refine Kd.C_alloc ?_ _) | (with_reducible refine Kd.C_drewN ?_ _) | (with_reducible refine Kd.C_drew ?_))); (case side2 => exact (Kd.R_reads' HO_11.out).2.1); (case side3 => repeat (first | exact (Kd.R_reads' HO_8.out).2.2 | (with_reducible refine Kd.C_alloc ?_ _) | (with_reducible refine Kd.C_drewN ?_ _) | (with_reducible refine Kd.C_drew ?_))); (case side4 => exact (Kd.R_reads' HO_8.out).2.1); rintro e w48 ⟨rfl, hb⟩; have n0_ := krb HO_8 hb; have n1_ := krb HO_10 hb; have n2_ := krb HO_11 hb; have n3_ := krb HO496 hb; have n4_ := bkb BK471 hb; have n5_ := bst HB hb; clear HO_8; clear HO_10; clear HO_11; clear HO496; clear BK471; clear HB; have HO_8 := n0_; have HO_10 := n1_; have HO_11 := n2_; have HO496 := n3_; have BK471 := n4_; have HB := n5_; clear n0_ n1_ n2_ n3_ n4_ n5_; (try clear hb); (try clear hb2); (try clear hk); (try clear hi)))
         go_meet
         case rel => exact ⟨_, ((t492 != t482)), (by first | rfl | (simp; done) | (simp [*]; done)), H', ⟨by have := HJ12.out; first | omega | exact Nat.le_refl _⟩, ⟨by (with_reducible repeat (first | apply Kd.R_alloc | apply Kd.R_drewN | apply Kd.R_drew)); exact Kd.R_mono HO_8.out (fun _ hk => hk.2.1)⟩, ⟨by (with_reducible repeat (first | apply Kd.R_alloc | apply Kd.R_drewN | apply Kd.R_drew)); exact Kd.R_mono HO_11.out (fun _ hk => hk.1)⟩, ⟨pk BK471⟩, ⟨pbs HB⟩⟩
        ·replace c45 := Bool.eq_false_iff.mpr c45
         subst c45
         have H1 : (laws_FnExactFewestCalls.j1 kj12 l1 a2 t479 t482 t489 true a0_0 a0_1 a0_2) = some r := by rw [if_neg (show ¬ (false = true) by decide)] at H; exact H
         clear H
         have H := H1
         clear H1
         have H' := Aside0.mk H
         clear H
         obtain ⟨Ao49, co49, eo49⟩ := Kd.R_slice HO_11.out
         subst eo49
         obtain ⟨Ao50, co50, eo50⟩ := Kd.R_slice HO_8.out
         subst eo50
         go_wp2_with (first | (go_at_call 17; (with_reducible refine (laws_eqSpotS.calls kj12 _ _ t489 _ _ t479 false _ ?side1 ?side2 ?side3 ?side4 A44.out).mono ?_); (case side1 => repeat (first | exact (Kd.R_reads' HO_11.out).2.2 | (with_reducible refine Kd.C_alloc ?_ _) | (with_reducible refine Kd.C_drewN ?_ _) | (with_reducible refine Kd.C_drew ?_))); (case side2 => exact (Kd.R_reads' HO_11.out).2.1); (case side3 => repeat (first | exact (Kd.R_reads' HO_8.out).2.2 | (with_reducible refine Kd.C_alloc ?_ _) | (with_reducible refine Kd.C_drewN ?_ _) | (with_reducible refine Kd.C_drew ?_))); (case side4 => exact (Kd.R_reads' HO_8.out).2.1); rintro e w51 ⟨rfl, hb⟩; have n0_ := krb HO_8 hb; have n1_ := krb HO_10 hb; have n2_ := krb HO_11 hb; have n3_ := krb HO496 hb; have n4_ := bkb BK471 hb; have n5_ := bst HB hb; clear HO_8; clear HO_10; clear HO_11; clear HO496; clear BK471; clear HB; have HO_8 := n0_; have HO_10 := n1_; have HO_11 := n2_; have HO496 := n3_; have BK471 := n4_; have HB := n5_; clear n0_ n1_ n2_ n3_ n4_ n5_; (try clear hb); (try clear hb2); (try clear hk); (try clear hi)))
         go_meet
         case rel => exact ⟨_, (true), (by first | rfl | (simp; done) | (simp [*]; done)), H', ⟨by have := HJ12.out; first | omega | exact Nat.le_refl _⟩, ⟨by (with_reducible repeat (first | apply Kd.R_alloc | apply Kd.R_drewN | apply Kd.R_drew)); exact Kd.R_mono HO_8.out (fun _ hk => hk.2.1)⟩, ⟨by (with_reducible repeat (first | apply Kd.R_alloc | apply Kd.R_drewN | apply Kd.R_drew)); exact Kd.R_mono HO_11.out (fun _ hk => hk.1)⟩, ⟨pk BK471⟩, ⟨pbs HB⟩⟩
      case rest =>
       clear HC38
       try clear c1
       try clear c2
       try clear p2
       try clear c3
       try clear c4
       try clear c5
       try clear c5b0
       try clear c7
       try clear c14
       try clear c17
       try clear c18
       try clear c20
       try clear c22
       try clear c26
       try clear c31
       try clear c32
       try clear c33
       try clear c36
       try clear c43
       try clear c43b0
       try clear c45
       try clear p2
       obtain ⟨kq, x71_37, rfl, HA, HJ37, HO_8, HO_11, BK471, HB⟩ := hcut
       cases kq with
       | zero => exact absurd HA.out (by simp [laws_FnExactFewestCalls.j1])
       | succ kj37 =>
        have H := HA.out
        clear HA
        simp only [laws_FnExactFewestCalls.j1] at H
        by_cases c52 : x71_37 = true
        ·subst c52
         have H1 : (some false) = some r := by rw [if_pos rfl] at H; exact H
         clear H
         have H := H1
         clear H1
         obtain rfl := Option.some.inj H
         go_wp2
         go_ret
         exact ⟨by first | rfl | (simp [errW_none, errW_some] <;> rfl) | (simp [*, errW_none, errW_some] <;> rfl), pbs HB⟩
        ·replace c52 := Bool.eq_false_iff.mpr c52
         subst c52
         have H1 : ((laws_markSpotS.f kj37 t489 1).bind fun bt501 => ((laws_heldSpotS.f kj37 bt501.2 1).bind fun t503 => (if t503 < 0 then (some false) else (if t503 = bt501.1 then ((laws_toRoom.f kj37 a0_0 a0_1 a0_2).bind fun bt504 => ((laws_toSpotS.f kj37 l1).bind fun t507 => ((impl_FewestCalls.f kj37 bt504.1 bt504.2.1 bt504.2.2 t507 a2).bind fun bt510 => ((laws_eqSpotS.f kj37 bt510.1 t479).bind fun t514 => (if t514 = true then (laws_FnExactFewestCalls.j2 kj37 bt501.2 bt501.1 (bt510.2 != t482)) else (laws_FnExactFewestCalls.j2 kj37 bt501.2 bt501.1 true)))))) else (some false))))) = some r := by rw [if_neg (show ¬ (false = true) by decide)] at H; exact H
         clear H
         have H := H1
         clear H1
         replace H := Option.bind_eq_some_iff.mp H
         obtain ⟨⟨t501, t502⟩, A530, H⟩ := H
         replace H : ((laws_heldSpotS.f kj37 t502 1).bind fun t503 => (if t503 < 0 then (some false) else (if t503 = t501 then ((laws_toRoom.f kj37 a0_0 a0_1 a0_2).bind fun bt504 => ((laws_toSpotS.f kj37 l1).bind fun t507 => ((impl_FewestCalls.f kj37 bt504.1 bt504.2.1 bt504.2.2 t507 a2).bind fun bt510 => ((laws_eqSpotS.f kj37 bt510.1 t479).bind fun t514 => (if t514 = true then (laws_FnExactFewestCalls.j2 kj37 t502 t501 (bt510.2 != t482)) else (laws_FnExactFewestCalls.j2 kj37 t502 t501 true)))))) else (some false)))) = some r := H
         have A53 := Aside0.mk A530
         clear A530
         replace H := Option.bind_eq_some_iff.mp H
         obtain ⟨t503, A540, H⟩ := H
         replace H : (if t503 < 0 then (some false) else (if t503 = t501 then ((laws_toRoom.f kj37 a0_0 a0_1 a0_2).bind fun bt504 => ((laws_toSpotS.f kj37 l1).bind fun t507 => ((impl_FewestCalls.f kj37 bt504.1 bt504.2.1 bt504.2.2 t507 a2).bind fun bt510 => ((laws_eqSpotS.f kj37 bt510.1 t479).bind fun t514 => (if t514 = true then (laws_FnExactFewestCalls.j2 kj37 t502 t501 (bt510.2 != t482)) else (laws_FnExactFewestCalls.j2 kj37 t502 t501 true)))))) else (some false))) = some r := H
         have A54 := Aside0.mk A540
         clear A540
         by_cases c55 : t503 < 0
         ·rw [if_pos c55] at H
          have c55b0 : decide (t503 < 0) = true := decide_eq_true c55
          clear c55
          obtain rfl := Option.some.inj H
          obtain ⟨Ao56, co56, eo56⟩ := Kd.R_slice HO_11.out
          subst eo56
          go_wp2_with (first | ((with_reducible refine gate_callee (f := 18) rfl ?_); refine goesL_ (some 74) rfl rfl Try.func18 (by kernel_rfl) rfl #[.slice Ao56 t489.length co56, .int .i64 1] rfl (by (try simp only [List.map_toArray, List.map_cons, List.map_nil]); first | done | rfl | (simp only [List.length_drop, List.length_take]; rfl)) ?_; (with_reducible refine (laws_markSpotS.calls kj37 (fun k_ => some k_ = (.slice Ao56 t489.length co56 : Value).ownBlock) (.slice Ao56 t489.length co56) t489 1 t501 t502 w _ ?side1 ?side2 A53.out).mono ?_); (case side1 => repeat (first | (with_reducible first | exact HB.out | apply below_alloc | apply pw_below_drewN | apply below_drew1 | refine below_set ?_ GE471.out) | exact HB.out)); (case side2 => exact Kd.R_tight rfl HO_11.out); rintro e w57 ⟨rfl, hy0, hb, hkp⟩; refine ⟨_, rfl, ?_⟩; have n0_ := Aside0.mk (Kd.R_mono (ok' := fun k_ => some k_ ≠ (.slice Ao56 t489.length co56 : Value).ownBlock) (Kd.R_keptB (HO_8.out) hkp (fun k_ hk_ hs_ => (hk_) hs_)) (fun k_ hk_ => hk_.1)); have n1_ := Aside0.mk (Kd.R_reok rfl hy0 (fun k_ e_ => HO_11.out.1 k_ e_)); have n2_ := Aside0.mk (blk_kept (pk BK471) hkp (fun hs_ => (fun e_ => (Kd.R_ne HO_11.out BK471.out (by decide)) e_) hs_)); have n3_ := Aside0.mk (hb); clear HO_8; clear HO_11; clear BK471; clear HB; have HO_8 := n0_; have HO_11 := n1_; have BK471 := n2_; have HB := n3_; clear n0_ n1_ n2_ n3_; (try clear hb); (try clear hkp); (try clear hy0)) | ((with_reducible refine gate_callee (f := 19) rfl ?_); refine goesL_ (some 77) rfl rfl Try.func19 (by kernel_rfl) rfl #[.slice Ao56 t502.length co56, .int .i64 1] rfl (by (try simp only [List.map_toArray, List.map_cons, List.map_nil]); first | done | (rw [show t502.length = t489.length from (Kd.R_reads' HO_11.out).1.symm] <;> rfl) | rfl | (simp only [List.length_drop, List.length_take]; rfl)) ?_; (with_reducible refine (laws_heldSpotS.calls kj37 _ _ t502 1 t503 _ ?side1 ?side2 A54.out).mono ?_); (case side1 => repeat (first | exact (Kd.R_reads' HO_11.out).2.2 | (with_reducible refine Kd.C_alloc ?_ _) | (with_reducible refine Kd.C_drewN ?_ _) | (with_reducible refine Kd.C_drew ?_))); (case side2 => rw [show t502.length = t489.length from (Kd.R_reads' HO_11.out).1.symm]; exact (Kd.R_reads' HO_11.out).2.1); rintro e w' ⟨rfl, ⟨nd, rfl⟩⟩; refine ⟨_, rfl, ?_⟩))
          go_ret
          exact ⟨by first | rfl | (simp [errW_none, errW_some] <;> rfl) | (simp [*, errW_none, errW_some] <;> rfl), pbs HB⟩
         ·rw [if_neg c55] at H
          have c55b0 : decide (t503 < 0) = false := decide_eq_false c55
          clear c55
          by_cases c58 : t503 = t501
          ·rw [if_pos c58] at H
           have c58b0 : (t503 == t501) = true := beq_iff_eq.mpr c58
           have c58b1 : (t503 != t501) = false := bne_eq_false_iff_eq.mpr c58
           clear c58
           replace H := Option.bind_eq_some_iff.mp H
           obtain ⟨⟨t504, t505, t506⟩, A590, H⟩ := H
           replace H : ((laws_toSpotS.f kj37 l1).bind fun t507 => ((impl_FewestCalls.f kj37 t504 t505 t506 t507 a2).bind fun bt510 => ((laws_eqSpotS.f kj37 bt510.1 t479).bind fun t514 => (if t514 = true then (laws_FnExactFewestCalls.j2 kj37 t502 t501 (bt510.2 != t482)) else (laws_FnExactFewestCalls.j2 kj37 t502 t501 true))))) = some r := H
           have A59 := Aside0.mk A590
           clear A590
           replace H := Option.bind_eq_some_iff.mp H
           obtain ⟨t507, A600, H⟩ := H
           replace H : ((impl_FewestCalls.f kj37 t504 t505 t506 t507 a2).bind fun bt510 => ((laws_eqSpotS.f kj37 bt510.1 t479).bind fun t514 => (if t514 = true then (laws_FnExactFewestCalls.j2 kj37 t502 t501 (bt510.2 != t482)) else (laws_FnExactFewestCalls.j2 kj37 t502 t501 true)))) = some r := H
           have A60 := Aside0.mk A600
           clear A600
           replace H := Option.bind_eq_some_iff.mp H
           obtain ⟨⟨t510, t513⟩, A610, H⟩ := H
           replace H : ((laws_eqSpotS.f kj37 t510 t479).bind fun t514 => (if t514 = true then (laws_FnExactFewestCalls.j2 kj37 t502 t501 (t513 != t482)) else (laws_FnExactFewestCalls.j2 kj37 t502 t501 true))) = some r := H
           have A61 := Aside0.mk A610
           clear A610
           have HC62 := Aside0.mk H
           clear H
           obtain ⟨Ao63, co63, eo63⟩ := Kd.R_slice HO_11.out
           subst eo63
           go_upto_region 25 with (first | ((with_reducible refine gate_callee (f := 18) rfl ?_); refine goesL_ (some 74) rfl rfl Try.func18 (by kernel_rfl) rfl #[.slice Ao63 t489.length co63, .int .i64 1] rfl (by (try simp only [List.map_toArray, List.map_cons, List.map_nil]); first | done | rfl | (simp only [List.length_drop, List.length_take]; rfl)) ?_; (with_reducible refine (laws_markSpotS.calls kj37 (fun k_ => some k_ = (.slice Ao63 t489.length co63 : Value).ownBlock) (.slice Ao63 t489.length co63) t489 1 t501 t502 w _ ?side1 ?side2 A53.out).mono ?_); (case side1 => repeat (first | (with_reducible first | exact HB.out | apply below_alloc | apply pw_below_drewN | apply below_drew1 | refine below_set ?_ GE471.out) | exact HB.out)); (case side2 => exact Kd.R_tight rfl HO_11.out); rintro e w64 ⟨rfl, hy0, hb, hkp⟩; refine ⟨_, rfl, ?_⟩; have n0_ := Aside0.mk (Kd.R_mono (ok' := fun k_ => some k_ ≠ (.slice Ao63 t489.length co63 : Value).ownBlock) (Kd.R_keptB (HO_8.out) hkp (fun k_ hk_ hs_ => (hk_) hs_)) (fun k_ hk_ => hk_.1)); have n1_ := Aside0.mk (Kd.R_reok rfl hy0 (fun k_ e_ => HO_11.out.1 k_ e_)); have n2_ := Aside0.mk (blk_kept (pk BK471) hkp (fun hs_ => (fun e_ => (Kd.R_ne HO_11.out BK471.out (by decide)) e_) hs_)); have n3_ := Aside0.mk (hb); clear HO_8; clear HO_11; clear BK471; clear HB; have HO_8 := n0_; have HO_11 := n1_; have BK471 := n2_; have HB := n3_; clear n0_ n1_ n2_ n3_; (try clear hb); (try clear hkp); (try clear hy0)) | ((with_reducible refine gate_callee (f := 19) rfl ?_); refine goesL_ (some 77) rfl rfl Try.func19 (by kernel_rfl) rfl #[.slice Ao63 t502.length co63, .int .i64 1] rfl (by (try simp only [List.map_toArray, List.map_cons, List.map_nil]); first | done | (rw [show t502.length = t489.length from (Kd.R_reads' HO_11.out).1.symm] <;> rfl) | rfl | (simp only [List.length_drop, List.length_take]; rfl)) ?_; (with_reducible refine (laws_heldSpotS.calls kj37 _ _ t502 1 t503 _ ?side1 ?side2 A54.out).mono ?_); (case side1 => repeat (first | exact (Kd.R_reads' HO_11.out).2.2 | (with_reducible refine Kd.C_alloc ?_ _) | (with_reducible refine Kd.C_drewN ?_ _) | (with_reducible refine Kd.C_drew ?_))); (case side2 => rw [show t502.length = t489.length from (Kd.R_reads' HO_11.out).1.symm]; exact (Kd.R_reads' HO_11.out).2.1); rintro e w' ⟨rfl, ⟨nd, rfl⟩⟩; refine ⟨_, rfl, ?_⟩) | ((with_reducible refine gate_dst (N := 84) rfl ?_); refine wpList_run0 (v := .agg (mixA (Value.int .u16) [.int .i8 a0_0, .int .i8 a0_1] a0_2)) rfl (load_mix_run (P := Try.prog) 26 (.tmp 3) rfl gb471 rfl (show World.rangeAt _ gb471 0 ([.int .i8 a0_0, .int .i8 a0_1] ++ a0_2.l.map (Value.int .u16)) from mix_range (show (World.heap _)[gb471]? = some (.cells (mixA (Value.int .u16) [.int .i8 a0_0, .int .i8 a0_1] a0_2) 26 (0, 0)) from by (with_reducible repeat (first | refine blk_drewN ?_ _ | refine blk_drew ?_ | refine blk_alloc ?_ _)); exact BK471.out)) Try.underlying26 rfl (by kernel_rfl) rfl) ?_) | ((with_reducible refine gate_callee (f := 14) rfl ?_); refine goesL_ (some 85) rfl rfl Try.func14 (by kernel_rfl) rfl #[.agg (mixA (Value.int .u16) [.int .i8 a0_0, .int .i8 a0_1] a0_2)] rfl (by (try simp only [List.map_toArray, List.map_cons, List.map_nil]); first | done | rfl | (simp only [List.length_drop, List.length_take]; rfl)) ?_; (with_reducible refine (laws_toRoom.calls kj37 a0_0 a0_1 a0_2 t504 t505 t506 _ A59.out).mono ?_); rintro e w66 ⟨rfl, hb⟩; refine ⟨_, rfl, ?_⟩; have n0_ := krb HO_8 hb; have n1_ := krb HO_11 hb; have n2_ := bkb BK471 hb; have n3_ := bst HB hb; clear HO_8; clear HO_11; clear BK471; clear HB; have HO_8 := n0_; have HO_11 := n1_; have BK471 := n2_; have HB := n3_; clear n0_ n1_ n2_ n3_; (try clear hb); (try clear hb2); (try clear hk); (try clear hi)) | ((with_reducible refine gate_callee (f := 22) rfl ?_); refine goesL_ (some 87) rfl rfl Try.func22 (by kernel_rfl) rfl #[.slice A1 l1.length c1] rfl (by (try simp only [List.map_toArray, List.map_cons, List.map_nil]); first | done | rfl | (simp only [List.length_drop, List.length_take]; rfl)) ?_; (with_reducible refine (laws_toSpotS.calls kj37 _ _ l1 t507 _ ?side1 ?side2 A60.out).mono ?_); (case side1 => repeat (first | exact (Kd.C_below HR1.out HB.out) | (with_reducible refine Kd.C_alloc ?_ _) | (with_reducible refine Kd.C_drewN ?_ _) | (with_reducible refine Kd.C_drew ?_))); (case side2 => exact HC1.out); rintro e w67 ⟨v508, rfl, ho0, hb⟩; refine ⟨_, rfl, ?_⟩; have n0_ := Aside0.mk (Kd.R_elder' (by (with_reducible repeat (first | apply Kd.R_alloc | apply Kd.R_drewN | apply Kd.R_drew)); exact HO_8.out) (Kd.R_base ho0) hb); have n1_ := Aside0.mk (Kd.R_elder' (by (with_reducible repeat (first | apply Kd.R_alloc | apply Kd.R_drewN | apply Kd.R_drew)); exact HO_11.out) (Kd.R_base ho0) hb); have n2_ := Aside0.mk (Kd.R_lower (Kd.R_new' (Kd.R_new' ho0 (Kd.R_lt (by (with_reducible repeat (first | apply Kd.R_alloc | apply Kd.R_drewN | apply Kd.R_drew)); exact HO_8.out))) (Kd.R_lt (by (with_reducible repeat (first | apply Kd.R_alloc | apply Kd.R_drewN | apply Kd.R_drew)); exact HO_11.out))) (below_size (by repeat (first | (with_reducible first | exact HB.out | apply below_alloc | apply pw_below_drewN | apply below_drew1 | refine below_set ?_ GE471.out) | exact HB.out)))); have n3_ := bkb BK471 hb; have n4_ := bst HB hb; clear HO_8; clear HO_11; clear BK471; clear HB; have HO_8 := n0_; have HO_11 := n1_; have HO509 := n2_; have BK471 := n3_; have HB := n4_; clear n0_ n1_ n2_ n3_ n4_; (try clear hb); (try clear hb2); (try clear hk); (try clear hi); (try clear ho0); obtain ⟨Ao68, co68, eo68⟩ := Kd.R_slice HO509.out; subst eo68) | ((with_reducible refine gate_callee (f := 32) rfl ?_); refine goesL_ (some 89) rfl rfl Try.func32 (by kernel_rfl) rfl #[.agg (mixA (Value.int .u16) [.int .i8 t504, .int .i8 t505] t506), .slice Ao68 t507.length co68, .int .i64 a2] rfl (by (try simp only [List.map_toArray, List.map_cons, List.map_nil]); first | done | rfl | (simp only [List.length_drop, List.length_take]; rfl)) ?_; (with_reducible refine (impl_FewestCalls.calls kj37 t504 t505 t506 _ _ t507 a2 t510 t513 _ ?side1 ?side2 A61.out).mono ?_); (case side1 => repeat (first | exact (Kd.R_reads' HO509.out).2.2 | (with_reducible refine Kd.C_alloc ?_ _) | (with_reducible refine Kd.C_drewN ?_ _) | (with_reducible refine Kd.C_drew ?_))); (case side2 => exact (Kd.R_reads' HO509.out).2.1); rintro e w69 ⟨v511, rfl, ho0, hb⟩; refine ⟨_, rfl, ?_⟩; have n0_ := Aside0.mk (Kd.R_elder' (by (with_reducible repeat (first | apply Kd.R_alloc | apply Kd.R_drewN | apply Kd.R_drew)); exact HO_8.out) (Kd.R_base ho0) hb); have n1_ := Aside0.mk (Kd.R_elder' (by (with_reducible repeat (first | apply Kd.R_alloc | apply Kd.R_drewN | apply Kd.R_drew)); exact HO_11.out) (Kd.R_base ho0) hb); have n2_ := Aside0.mk (Kd.R_elder' (by (with_reducible repeat (first | apply Kd.R_alloc | apply Kd.R_drewN | apply Kd.R_drew)); exact HO509.out) (Kd.R_base ho0) hb); have n3_ := Aside0.mk (Kd.R_lower (Kd.R_new' (Kd.R_new' (Kd.R_new' ho0 (Kd.R_lt (by (with_reducible repeat (first | apply Kd.R_alloc | apply Kd.R_drewN | apply Kd.R_drew)); exact HO_8.out))) (Kd.R_lt (by (with_reducible repeat (first | apply Kd.R_alloc | apply Kd.R_drewN | apply Kd.R_drew)); exact HO_11.out))) (Kd.R_lt (by (with_reducible repeat (first | apply Kd.R_alloc | apply Kd.R_drewN | apply Kd.R_drew)); exact HO509.out))) (below_size (by repeat (first | (with_reducible first | exact HB.out | apply below_alloc | apply pw_below_drewN | apply below_drew1 | refine below_set ?_ GE471.out) | exact HB.out)))); have n4_ := bkb BK471 hb; have n5_ := bst HB hb; clear HO_8; clear HO_11; clear HO509; clear BK471; clear HB; have HO_8 := n0_; have HO_11 := n1_; have HO509 := n2_; have HO512 := n3_; have BK471 := n4_; have HB := n5_; clear n0_ n1_ n2_ n3_ n4_ n5_; (try clear hb); (try clear hb2); (try clear hk); (try clear hi); (try clear ho0)))
           (try simp only [Act.put, List.setIfInBounds_toArray, List.set_cons_zero, List.set_cons_succ])
           go_cut [100] (fun v100 wc => ∃ (kq : Nat) (x100_61 : Bool), v100 = .bool x100_61 ∧ Aside0 (laws_FnExactFewestCalls.j2 kq t502 t501 x100_61 = some r) ∧ Aside0 (kq ≤ kj37) ∧ Aside0 (Kd.R k34 34 wc w.heap.size (fun _ => True) (.slice Ao63 t489.length co63) t502) ∧ Aside0 (wc.heap[gb471]? = some (.cells (mixA (Value.int .u16) [.int .i8 a0_0, .int .i8 a0_1] a0_2) 26 (0, 0))) ∧ Aside0 (Below w.heap.size w wc))
           case first =>
            have H := HC62.out
            clear HC62
            replace H := Option.bind_eq_some_iff.mp H
            obtain ⟨t514, A700, H⟩ := H
            replace H : (if t514 = true then (laws_FnExactFewestCalls.j2 kj37 t502 t501 (t513 != t482)) else (laws_FnExactFewestCalls.j2 kj37 t502 t501 true)) = some r := H
            have A70 := Aside0.mk A700
            clear A700
            by_cases c71 : t514 = true
            ·subst c71
             have H1 : (laws_FnExactFewestCalls.j2 kj37 t502 t501 (t513 != t482)) = some r := by rw [if_pos rfl] at H; exact H
             clear H
             have H := H1
             clear H1
             have H' := Aside0.mk H
             clear H
             obtain ⟨Ao72, co72, eo72⟩ := Kd.R_slice HO512.out
             subst eo72
             obtain ⟨Ao73, co73, eo73⟩ := Kd.R_slice HO_8.out
             subst eo73
             go_wp2_with (first | ((with_reducible refine gate_callee (f := 17) rfl ?_); refine goesL_ (some 94) rfl rfl Try.func17 (by kernel_rfl) rfl #[.slice Ao72 t510.length co72, .slice Ao73 t479.length co73] rfl (by (try simp only [List.map_toArray, List.map_cons, List.map_nil]); first | done | rfl | (simp only [List.length_drop, List.length_take]; rfl)) ?_; (with_reducible refine (laws_eqSpotS.calls kj37 _ _ t510 _ _ t479 true _ ?side1 ?side2 ?side3 ?side4 A70.out).mono ?_); (case side1 => repeat (first | exact (Kd.R_reads' HO512.out).2.2 | (with_reducible refine Kd.C_alloc ?_ _) | (with_reducible refine Kd.C_drewN ?_ _) | (with_reducible refine Kd.C_drew ?_))); (case side2 => exact (Kd.R_reads' HO512.out).2.1); (case side3 => repeat (first | exact (Kd.R_reads' HO_8.out).2.2 | (with_reducible refine Kd.C_alloc ?_ _) | (with_reducible refine Kd.C_drewN ?_ _) | (with_reducible refine Kd.C_drew ?_))); (case side4 => exact (Kd.R_reads' HO_8.out).2.1); rintro e w74 ⟨rfl, hb⟩; refine ⟨_, rfl, ?_⟩; have n0_ := krb HO_8 hb; have n1_ := krb HO_11 hb; have n2_ := krb HO509 hb; have n3_ := krb HO512 hb; have n4_ := bkb BK471 hb; have n5_ := bst HB hb; clear HO_8; clear HO_11; clear HO509; clear HO512; clear BK471; clear HB; have HO_8 := n0_; have HO_11 := n1_; have HO509 := n2_; have HO512 := n3_; have BK471 := n4_; have HB := n5_; clear n0_ n1_ n2_ n3_ n4_ n5_; (try clear hb); (try clear hb2); (try clear hk); (try clear hi)))
             go_meet
             case rel => exact ⟨_, ((t513 != t482)), (by first | rfl | (simp; done) | (simp [*]; done)), H', ⟨by have := HJ12.out; have := HJ37.out; first | omega | exact Nat.le_refl _⟩, ⟨by (with_reducible repeat (first | apply Kd.R_alloc | apply Kd.R_drewN | apply Kd.R_drew)); exact Kd.R_mono HO_11.out (fun _ hk => trivial)⟩, ⟨pk BK471⟩, ⟨pbs HB⟩⟩
            ·replace c71 := Bool.eq_false_iff.mpr c71
             subst c71
             have H1 : (laws_FnExactFewestCalls.j2 kj37 t502 t501 true) = some r := by rw [if_neg (show ¬ (false = true) by decide)] at H; exact H
             clear H
             have H := H1
             clear H1
             have H' := Aside0.mk H
             clear H
             obtain ⟨Ao75, co75, eo75⟩ := Kd.R_slice HO512.out
             subst eo75
             obtain ⟨Ao76, co76, eo76⟩ := Kd.R_slice HO_8.out
             subst eo76
             go_wp2_with (first | ((with_reducible refine gate_callee (f := 17) rfl ?_); refine goesL_ (some 94) rfl rfl Try.func17 (by kernel_rfl) rfl #[.slice Ao75 t510.length co75, .slice Ao76 t479.length co76] rfl (by (try simp only [List.map_toArray, List.map_cons, List.map_nil]); first | done | rfl | (simp only [List.length_drop, List.length_take]; rfl)) ?_; (with_reducible refine (laws_eqSpotS.calls kj37 _ _ t510 _ _ t479 false _ ?side1 ?side2 ?side3 ?side4 A70.out).mono ?_); (case side1 => repeat (first | exact (Kd.R_reads' HO512.out).2.2 | (with_reducible refine Kd.C_alloc ?_ _) | (with_reducible refine Kd.C_drewN ?_ _) | (with_reducible refine Kd.C_drew ?_))); (case side2 => exact (Kd.R_reads' HO512.out).2.1); (case side3 => repeat (first | exact (Kd.R_reads' HO_8.out).2.2 | (with_reducible refine Kd.C_alloc ?_ _) | (with_reducible refine Kd.C_drewN ?_ _) | (with_reducible refine Kd.C_drew ?_))); (case side4 => exact (Kd.R_reads' HO_8.out).2.1); rintro e w77 ⟨rfl, hb⟩; refine ⟨_, rfl, ?_⟩; have n0_ := krb HO_8 hb; have n1_ := krb HO_11 hb; have n2_ := krb HO509 hb; have n3_ := krb HO512 hb; have n4_ := bkb BK471 hb; have n5_ := bst HB hb; clear HO_8; clear HO_11; clear HO509; clear HO512; clear BK471; clear HB; have HO_8 := n0_; have HO_11 := n1_; have HO509 := n2_; have HO512 := n3_; have BK471 := n4_; have HB := n5_; clear n0_ n1_ n2_ n3_ n4_ n5_; (try clear hb); (try clear hb2); (try clear hk); (try clear hi)))
             go_meet
             case rel => exact ⟨_, (true), (by first | rfl | (simp; done) | (simp [*]; done)), H', ⟨by have := HJ12.out; have := HJ37.out; first | omega | exact Nat.le_refl _⟩, ⟨by (with_reducible repeat (first | apply Kd.R_alloc | apply Kd.R_drewN | apply Kd.R_drew)); exact Kd.R_mono HO_11.out (fun _ hk => trivial)⟩, ⟨pk BK471⟩, ⟨pbs HB⟩⟩
           case rest =>
            clear HC62
            try clear c1
            try clear c2
            try clear p2
            try clear c3
            try clear c4
            try clear c5
            try clear c5b0
            try clear c7
            try clear c14
            try clear c17
            try clear c18
            try clear c19
            try clear c20
            try clear c22
            try clear c26
            try clear c31
            try clear c32
            try clear c33
            try clear c36
            try clear c43
            try clear c43b0
            try clear c45
            try clear c52
            try clear c55
            try clear c55b0
            try clear c58
            try clear c58b0
            try clear c58b1
            try clear c71
            try clear p2
            obtain ⟨kq, x100_61, rfl, HA, HJ61, HO_11, BK471, HB⟩ := hcut
            have hl11_61 := (Kd.R_reads' HO_11.out).1
            rw [hl11_61] at HO_11
            (try simp only [hl11_61])
            (try simp only [hl11_61] at BK471)
            cases kq with
            | zero => exact absurd HA.out (by simp [laws_FnExactFewestCalls.j2])
            | succ kj61 =>
             have H := HA.out
             clear HA
             simp only [laws_FnExactFewestCalls.j2] at H
             by_cases c78 : x100_61 = true
             ·subst c78
              have H1 : (some false) = some r := by rw [if_pos rfl] at H; exact H
              clear H
              have H := H1
              clear H1
              obtain rfl := Option.some.inj H
              go_wp2
              go_ret
              exact ⟨by first | rfl | (simp [errW_none, errW_some] <;> rfl) | (simp [*, errW_none, errW_some] <;> rfl), pbs HB⟩
             ·replace c78 := Bool.eq_false_iff.mpr c78
              subst c78
              have H1 : ((laws_heldSpotS.f kj61 t502 1).bind fun t515 => (if t515 < 0 then (some false) else (if t515 = t501 then (some true) else (some false)))) = some r := by rw [if_neg (show ¬ (false = true) by decide)] at H; exact H
              clear H
              have H := H1
              clear H1
              replace H := Option.bind_eq_some_iff.mp H
              obtain ⟨t515, A790, H⟩ := H
              replace H : (if t515 < 0 then (some false) else (if t515 = t501 then (some true) else (some false))) = some r := H
              have A79 := Aside0.mk A790
              clear A790
              by_cases c80 : t515 < 0
              ·rw [if_pos c80] at H
               have c80b0 : decide (t515 < 0) = true := decide_eq_true c80
               clear c80
               obtain rfl := Option.some.inj H
               go_wp2_with (first | ((with_reducible refine gate_callee (f := 19) rfl ?_); refine goesL_ (some 103) rfl rfl Try.func19 (by kernel_rfl) rfl #[.slice Ao63 t502.length co63, .int .i64 1] rfl (by (try simp only [List.map_toArray, List.map_cons, List.map_nil]); first | done | rfl | (simp only [List.length_drop, List.length_take]; rfl)) ?_; (with_reducible refine (laws_heldSpotS.calls kj61 _ _ t502 1 t515 _ ?side1 ?side2 A79.out).mono ?_); (case side1 => repeat (first | exact (Kd.R_reads' HO_11.out).2.2 | (with_reducible refine Kd.C_alloc ?_ _) | (with_reducible refine Kd.C_drewN ?_ _) | (with_reducible refine Kd.C_drew ?_))); (case side2 => exact (Kd.R_reads' HO_11.out).2.1); rintro e w' ⟨rfl, ⟨nd, rfl⟩⟩; refine ⟨_, rfl, ?_⟩))
               go_ret
               exact ⟨by first | rfl | (simp [errW_none, errW_some] <;> rfl) | (simp [*, errW_none, errW_some] <;> rfl), pbs HB⟩
              ·rw [if_neg c80] at H
               have c80b0 : decide (t515 < 0) = false := decide_eq_false c80
               clear c80
               by_cases c81 : t515 = t501
               ·rw [if_pos c81] at H
                have c81b0 : (t515 == t501) = true := beq_iff_eq.mpr c81
                have c81b1 : (t515 != t501) = false := bne_eq_false_iff_eq.mpr c81
                clear c81
                obtain rfl := Option.some.inj H
                go_wp2_with (first | ((with_reducible refine gate_callee (f := 19) rfl ?_); refine goesL_ (some 103) rfl rfl Try.func19 (by kernel_rfl) rfl #[.slice Ao63 t502.length co63, .int .i64 1] rfl (by (try simp only [List.map_toArray, List.map_cons, List.map_nil]); first | done | rfl | (simp only [List.length_drop, List.length_take]; rfl)) ?_; (with_reducible refine (laws_heldSpotS.calls kj61 _ _ t502 1 t515 _ ?side1 ?side2 A79.out).mono ?_); (case side1 => repeat (first | exact (Kd.R_reads' HO_11.out).2.2 | (with_reducible refine Kd.C_alloc ?_ _) | (with_reducible refine Kd.C_drewN ?_ _) | (with_reducible refine Kd.C_drew ?_))); (case side2 => exact (Kd.R_reads' HO_11.out).2.1); rintro e w' ⟨rfl, ⟨nd, rfl⟩⟩; refine ⟨_, rfl, ?_⟩))
                go_ret
                exact ⟨by first | rfl | (simp [errW_none, errW_some] <;> rfl) | (simp [*, errW_none, errW_some] <;> rfl), pbs HB⟩
               ·rw [if_neg c81] at H
                have c81b0 : (t515 == t501) = false := beq_eq_false_iff_ne.mpr c81
                have c81b1 : (t515 != t501) = true := bne_iff_ne.mpr c81
                obtain rfl := Option.some.inj H
                go_wp2_with (first | ((with_reducible refine gate_callee (f := 19) rfl ?_); refine goesL_ (some 103) rfl rfl Try.func19 (by kernel_rfl) rfl #[.slice Ao63 t502.length co63, .int .i64 1] rfl (by (try simp only [List.map_toArray, List.map_cons, List.map_nil]); first | done | rfl | (simp only [List.length_drop, List.length_take]; rfl)) ?_; (with_reducible refine (laws_heldSpotS.calls kj61 _ _ t502 1 t515 _ ?side1 ?side2 A79.out).mono ?_); (case side1 => repeat (first | exact (Kd.R_reads' HO_11.out).2.2 | (with_reducible refine Kd.C_alloc ?_ _) | (with_reducible refine Kd.C_drewN ?_ _) | (with_reducible refine Kd.C_drew ?_))); (case side2 => exact (Kd.R_reads' HO_11.out).2.1); rintro e w' ⟨rfl, ⟨nd, rfl⟩⟩; refine ⟨_, rfl, ?_⟩))
                go_ret
                exact ⟨by first | rfl | (simp [errW_none, errW_some] <;> rfl) | (simp [*, errW_none, errW_some] <;> rfl), pbs HB⟩
          ·rw [if_neg c58] at H
           have c58b0 : (t503 == t501) = false := beq_eq_false_iff_ne.mpr c58
           have c58b1 : (t503 != t501) = true := bne_iff_ne.mpr c58
           obtain rfl := Option.some.inj H
           obtain ⟨Ao82, co82, eo82⟩ := Kd.R_slice HO_11.out
           subst eo82
           go_wp2_with (first | ((with_reducible refine gate_callee (f := 18) rfl ?_); refine goesL_ (some 74) rfl rfl Try.func18 (by kernel_rfl) rfl #[.slice Ao82 t489.length co82, .int .i64 1] rfl (by (try simp only [List.map_toArray, List.map_cons, List.map_nil]); first | done | rfl | (simp only [List.length_drop, List.length_take]; rfl)) ?_; (with_reducible refine (laws_markSpotS.calls kj37 (fun k_ => some k_ = (.slice Ao82 t489.length co82 : Value).ownBlock) (.slice Ao82 t489.length co82) t489 1 t501 t502 w _ ?side1 ?side2 A53.out).mono ?_); (case side1 => repeat (first | (with_reducible first | exact HB.out | apply below_alloc | apply pw_below_drewN | apply below_drew1 | refine below_set ?_ GE471.out) | exact HB.out)); (case side2 => exact Kd.R_tight rfl HO_11.out); rintro e w83 ⟨rfl, hy0, hb, hkp⟩; refine ⟨_, rfl, ?_⟩; have n0_ := Aside0.mk (Kd.R_mono (ok' := fun k_ => some k_ ≠ (.slice Ao82 t489.length co82 : Value).ownBlock) (Kd.R_keptB (HO_8.out) hkp (fun k_ hk_ hs_ => (hk_) hs_)) (fun k_ hk_ => hk_.1)); have n1_ := Aside0.mk (Kd.R_reok rfl hy0 (fun k_ e_ => HO_11.out.1 k_ e_)); have n2_ := Aside0.mk (blk_kept (pk BK471) hkp (fun hs_ => (fun e_ => (Kd.R_ne HO_11.out BK471.out (by decide)) e_) hs_)); have n3_ := Aside0.mk (hb); clear HO_8; clear HO_11; clear BK471; clear HB; have HO_8 := n0_; have HO_11 := n1_; have BK471 := n2_; have HB := n3_; clear n0_ n1_ n2_ n3_; (try clear hb); (try clear hkp); (try clear hy0)) | ((with_reducible refine gate_callee (f := 19) rfl ?_); refine goesL_ (some 77) rfl rfl Try.func19 (by kernel_rfl) rfl #[.slice Ao82 t502.length co82, .int .i64 1] rfl (by (try simp only [List.map_toArray, List.map_cons, List.map_nil]); first | done | (rw [show t502.length = t489.length from (Kd.R_reads' HO_11.out).1.symm] <;> rfl) | rfl | (simp only [List.length_drop, List.length_take]; rfl)) ?_; (with_reducible refine (laws_heldSpotS.calls kj37 _ _ t502 1 t503 _ ?side1 ?side2 A54.out).mono ?_); (case side1 => repeat (first | exact (Kd.R_reads' HO_11.out).2.2 | (with_reducible refine Kd.C_alloc ?_ _) | (with_reducible refine Kd.C_drewN ?_ _) | (with_reducible refine Kd.C_drew ?_))); (case side2 => rw [show t502.length = t489.length from (Kd.R_reads' HO_11.out).1.symm]; exact (Kd.R_reads' HO_11.out).2.1); rintro e w' ⟨rfl, ⟨nd, rfl⟩⟩; refine ⟨_, rfl, ?_⟩))
           go_ret
           exact ⟨by first | rfl | (simp [errW_none, errW_some] <;> rfl) | (simp [*, errW_none, errW_some] <;> rfl), pbs HB⟩
     ·replace c36 := Bool.eq_false_iff.mpr c36
      subst c36
      have H1 : (some false) = some r := by rw [if_neg (show ¬ (false = true) by decide)] at H; exact H
      clear H
      have H := H1
      clear H1
      obtain rfl := Option.some.inj H
      go_wp2_with (first | ((with_reducible refine gate_callee (f := 22) rfl ?_); refine goesL_ (some 53) rfl rfl Try.func22 (by kernel_rfl) rfl #[.slice A1 l1.length c1] rfl (by (try simp only [List.map_toArray, List.map_cons, List.map_nil]); first | done | rfl | (simp only [List.length_drop, List.length_take]; rfl)) ?_; (with_reducible refine (laws_toSpotS.calls kj12 _ _ l1 t494 _ ?side1 ?side2 A34.out).mono ?_); (case side1 => repeat (first | exact (Kd.C_below HR1.out HB.out) | (with_reducible refine Kd.C_alloc ?_ _) | (with_reducible refine Kd.C_drewN ?_ _) | (with_reducible refine Kd.C_drew ?_))); (case side2 => exact HC1.out); rintro e w84 ⟨v495, rfl, ho0, hb⟩; refine ⟨_, rfl, ?_⟩; have n0_ := Aside0.mk (Kd.R_elder' (by (with_reducible repeat (first | apply Kd.R_alloc | apply Kd.R_drewN | apply Kd.R_drew)); exact HO_8.out) (Kd.R_base ho0) hb); have n1_ := Aside0.mk (Kd.R_elder' (by (with_reducible repeat (first | apply Kd.R_alloc | apply Kd.R_drewN | apply Kd.R_drew)); exact HO_10.out) (Kd.R_base ho0) hb); have n2_ := Aside0.mk (Kd.R_elder' (by (with_reducible repeat (first | apply Kd.R_alloc | apply Kd.R_drewN | apply Kd.R_drew)); exact HO_11.out) (Kd.R_base ho0) hb); have n3_ := Aside0.mk (Kd.R_lower (Kd.R_new' (Kd.R_new' (Kd.R_new' ho0 (Kd.R_lt (by (with_reducible repeat (first | apply Kd.R_alloc | apply Kd.R_drewN | apply Kd.R_drew)); exact HO_8.out))) (Kd.R_lt (by (with_reducible repeat (first | apply Kd.R_alloc | apply Kd.R_drewN | apply Kd.R_drew)); exact HO_10.out))) (Kd.R_lt (by (with_reducible repeat (first | apply Kd.R_alloc | apply Kd.R_drewN | apply Kd.R_drew)); exact HO_11.out))) (below_size (by repeat (first | (with_reducible first | exact HB.out | apply below_alloc | apply pw_below_drewN | apply below_drew1 | refine below_set ?_ GE471.out) | exact HB.out)))); have n4_ := bkb BK471 hb; have n5_ := bst HB hb; clear HO_8; clear HO_10; clear HO_11; clear BK471; clear HB; have HO_8 := n0_; have HO_10 := n1_; have HO_11 := n2_; have HO496 := n3_; have BK471 := n4_; have HB := n5_; clear n0_ n1_ n2_ n3_ n4_ n5_; (try clear hb); (try clear hb2); (try clear hk); (try clear hi); (try clear ho0); obtain ⟨Ao85, co85, eo85⟩ := Kd.R_slice HO496.out; subst eo85) | ((with_reducible refine gate_callee (f := 17) rfl ?_); refine goesL_ (some 54) rfl rfl Try.func17 (by kernel_rfl) rfl #[.slice Ao23 t483.length co23, .slice Ao85 t494.length co85] rfl (by (try simp only [List.map_toArray, List.map_cons, List.map_nil]); first | done | rfl | (simp only [List.length_drop, List.length_take]; rfl)) ?_; (with_reducible refine (laws_eqSpotS.calls kj12 _ _ t483 _ _ t494 false _ ?side1 ?side2 ?side3 ?side4 A35.out).mono ?_); (case side1 => repeat (first | exact (Kd.R_reads' HO_10.out).2.2 | (with_reducible refine Kd.C_alloc ?_ _) | (with_reducible refine Kd.C_drewN ?_ _) | (with_reducible refine Kd.C_drew ?_))); (case side2 => exact (Kd.R_reads' HO_10.out).2.1); (case side3 => repeat (first | exact (Kd.R_reads' HO496.out).2.2 | (with_reducible refine Kd.C_alloc ?_ _) | (with_reducible refine Kd.C_drewN ?_ _) | (with_reducible refine Kd.C_drew ?_))); (case side4 => exact (Kd.R_reads' HO496.out).2.1); rintro e w86 ⟨rfl, hb⟩; refine ⟨_, rfl, ?_⟩; have n0_ := krb HO_8 hb; have n1_ := krb HO_10 hb; have n2_ := krb HO_11 hb; have n3_ := krb HO496 hb; have n4_ := bkb BK471 hb; have n5_ := bst HB hb; clear HO_8; clear HO_10; clear HO_11; clear HO496; clear BK471; clear HB; have HO_8 := n0_; have HO_10 := n1_; have HO_11 := n2_; have HO496 := n3_; have BK471 := n4_; have HB := n5_; clear n0_ n1_ n2_ n3_ n4_ n5_; (try clear hb); (try clear hb2); (try clear hk); (try clear hi)))
      go_ret
      exact ⟨by first | rfl | (simp [errW_none, errW_some] <;> rfl) | (simp [*, errW_none, errW_some] <;> rfl), pbs HB⟩
end Go.Proofs.Ytoiiabnnddlcbaa.PB
end
section
namespace Go.Proofs.Ytoiiabnnddlcbaa.PB
open Go.RowKit Go.Proofs.YtoiiabnnddlcbaaW.PrintWords Go.Proofs.YtoiiabnnddlcbaaW.PrintLast Go.Proofs.YtoiiabnnddlcbaaW.PrintMore Go.Proofs.Ytoiiabnnddlcbaa.La Go.Proofs.Ytoiiabnnddlcbaa.Mp
attribute [local go_sem] max2_int min2_int max_two min_two max_three min_three max_four min_four   -- for this text's walks alone
set_option linter.unusedVariables false
set_option linter.unusedSimpArgs false
def spec_l01Near.l0 : Nat → Int → List (S34) → List (S34) → Int → LA 100 → Option ((List (S34)))
 | 0, _, _, _, _, _ => none
 | k + 1, x2, x8, x9, x10, x177000 => if x10 < (x9.length : Int) then (if 0 ≤ x10 then (if 0 ≤ ((rd_T34 x9 x10).f1) then (if ((rd_T34 x9 x10).f1) < 10 then (if 0 ≤ ((rd_T34 x9 x10).f0) then (if ((rd_T34 x9 x10).f0) < 10 then ((spec_l00In.f (rd x177000.l (((rd_T34 x9 x10).f1) * 10 + ((rd_T34 x9 x10).f0))) 0 x2).bind fun t185 => (if t185 = true then (if x8.length < 70368744177664 then (spec_l01Near.l0 k x2 (x8 ++ [(⟨(rd_T34 x9 x10).f0, (rd_T34 x9 x10).f1⟩ : S34)]) x9 (wrap64 (x10 + 1)) x177000) else (none)) else (spec_l01Near.l0 k x2 x8 x9 (wrap64 (x10 + 1)) x177000))) else (none)) else (none)) else (none)) else (none)) else (none)) else (some x8)
def spec_l01Near.f (k : Nat) (s0_0 : Int) (s0_1 : Int) (s0_2 : LA 10) (a1_0 : Int) (a1_1 : Int) (a2 : Int) : Option ((List (S34))) := (spec_l01Steps.f k s0_0 s0_1 s0_2 a1_0 a1_1).bind fun t175 => ((spec_l01All.f k s0_0 s0_1 s0_2).bind fun t180 => (spec_l01Near.l0 k a2 (([] : List (S34))) t180 0 t175))
theorem spec_l01Near.mono_l : ∀ k, (∀ y0 y1 y2 y3 y4, LeO (spec_l01Near.l0 k y0 y1 y2 y3 y4) (spec_l01Near.l0 (k + 1) y0 y1 y2 y3 y4))
 | 0 => fun _ _ _ _ _ r h => by simp [spec_l01Near.l0] at h
 | k + 1 => by
  have ih0 := spec_l01Near.mono_l k
  ·intro y0 y1 y2 y3 y4
   unfold spec_l01Near.l0
   repeat' first
   | (with_reducible exact ih0 _ _ _ _ _)
   | (with_reducible exact spec_l01All.mono _ _ _ _)
   | (with_reducible exact spec_l01Steps.mono _ _ _ _ _ _)
   | (with_reducible exact LeO.refl _)
   | (with_reducible exact LeO.none _)
   | (with_reducible refine LeO.ite ?_ ?_)
   | (with_reducible refine LeO.bind ?_ (fun _ => ?_))
   | exact ih0 _ _ _ _ _
   | exact spec_l01All.mono _ _ _ _
   | exact spec_l01Steps.mono _ _ _ _ _ _
   | exact LeO.none _
   | refine LeO.ite ?_ ?_
   | refine LeO.bind ?_ (fun _ => ?_)
theorem spec_l01Near.mono : ∀ a0 a1 a2 a3 a4 a5 k, LeO (spec_l01Near.f k a0 a1 a2 a3 a4 a5) (spec_l01Near.f (k + 1) a0 a1 a2 a3 a4 a5) := by
 intro a0 a1 a2 a3 a4 a5 k
 have ih0 := spec_l01Near.mono_l k
 unfold spec_l01Near.f
 repeat' first
   | (with_reducible exact ih0 _ _ _ _ _)
   | (with_reducible exact spec_l01All.mono _ _ _ _)
   | (with_reducible exact spec_l01Steps.mono _ _ _ _ _ _)
   | (with_reducible exact LeO.refl _)
   | (with_reducible exact LeO.none _)
   | (with_reducible refine LeO.ite ?_ ?_)
   | (with_reducible refine LeO.bind ?_ (fun _ => ?_))
   | exact ih0 _ _ _ _ _
   | exact spec_l01All.mono _ _ _ _
   | exact spec_l01Steps.mono _ _ _ _ _ _
   | exact LeO.none _
   | refine LeO.ite ?_ ?_
   | refine LeO.bind ?_ (fun _ => ?_)
def spec_CalledFrom.f (k : Nat) (a0_0 : Int) (a0_1 : Int) (a0_2 : LA 10) (a1_0 : Int) (a1_1 : Int) (a2 : Int) : Option ((List (S34)) × Int) := (spec_l06Loud.f a2).bind fun t195 => ((spec_l06Asked.f k a0_0 a0_1 a0_2 (([(⟨a1_0, a1_1⟩ : S34)] : List (S34))) t195).bind fun t196 => (if t196 = 0 then ((spec_l01Near.f k a0_0 a0_1 a0_2 a1_0 a1_1 a2).bind fun t197 => (some (t197, 0))) else (some ((([] : List (S34))), t196))))
theorem spec_CalledFrom.mono : ∀ a0 a1 a2 a3 a4 a5 k, LeO (spec_CalledFrom.f k a0 a1 a2 a3 a4 a5) (spec_CalledFrom.f (k + 1) a0 a1 a2 a3 a4 a5) := by
 intro a0 a1 a2 a3 a4 a5 k
 unfold spec_CalledFrom.f
 repeat' first
   | (with_reducible exact spec_l01Near.mono _ _ _ _ _ _ _)
   | (with_reducible exact spec_l06Asked.mono _ _ _ _ _ _)
   | (with_reducible exact LeO.refl _)
   | (with_reducible exact LeO.none _)
   | (with_reducible refine LeO.ite ?_ ?_)
   | (with_reducible refine LeO.bind ?_ (fun _ => ?_))
   | exact spec_l01Near.mono _ _ _ _ _ _ _
   | exact spec_l06Asked.mono _ _ _ _ _ _
   | exact LeO.none _
   | refine LeO.ite ?_ ?_
   | refine LeO.bind ?_ (fun _ => ?_)
def impl_Room_near_1.f (a0_0 : Int) (a0_1 : Int) (s1_0 : MP) (s2_0 : Int) : Option (Bool) := if mhas s1_0 a0_0 a0_1 = true then (some (decide ((mval s1_0 a0_0 a0_1) ≤ s2_0))) else (some false)
end Go.Proofs.Ytoiiabnnddlcbaa.PB
end
section
namespace Go.Proofs.Ytoiiabnnddlcbaa.PB
open Go.RowKit Go.Proofs.YtoiiabnnddlcbaaW.PrintWords Go.Proofs.YtoiiabnnddlcbaaW.PrintLast Go.Proofs.YtoiiabnnddlcbaaW.PrintMore Go.Proofs.Ytoiiabnnddlcbaa.La Go.Proofs.Ytoiiabnnddlcbaa.Mp
attribute [local go_sem] max2_int min2_int max_two min_two max_three min_three max_four min_four   -- for this text's walks alone
set_option linter.unusedVariables false
set_option linter.unusedSimpArgs false
mutual
def impl_Room_cells__111.l0 : Nat → List (S34) → Int → Int → Int → MP → Int → Int → LA 10 → Option ((List (S34)))
 | 0, _, _, _, _, _, _, _, _ => none
 | k + 1, x5, x11, x12, x3000, x264000, x265000, x265001, x265002 => if x12 < x11 then (impl_Room_cells__111.l1 k x5 x12 x11 x12 x265000 0 x3000 x264000 x265000 x265001 x265002) else (some x5)
def impl_Room_cells__111.l1 : Nat → List (S34) → Int → Int → Int → Int → Int → Int → MP → Int → Int → LA 10 → Option ((List (S34)))
 | 0, _, _, _, _, _, _, _, _, _, _, _ => none
 | k + 1, x5, x6, x11, x12, x16, x17, x3000, x264000, x265000, x265001, x265002 => if x17 < x16 then ((impl_Room_near_1.f x17 x6 x264000 x3000).bind fun t269 => (if t269 = true then (if x5.length < 70368744177664 then (impl_Room_cells__111.l1 k (x5 ++ [(⟨x17, x6⟩ : S34)]) x6 x11 x12 x16 (IntKind.i8.wrap (x17 + 1)) x3000 x264000 x265000 x265001 x265002) else (none)) else (impl_Room_cells__111.l1 k x5 x6 x11 x12 x16 (IntKind.i8.wrap (x17 + 1)) x3000 x264000 x265000 x265001 x265002))) else (impl_Room_cells__111.l0 k x5 x11 (IntKind.i8.wrap (x12 + 1)) x3000 x264000 x265000 x265001 x265002)
end
def impl_Room_cells__111.f (k : Nat) (a0_0 : Int) (a0_1 : Int) (a0_2 : LA 10) (s1_0 : MP) (s2_0 : Int) : Option ((List (S34))) := impl_Room_cells__111.l0 k (([] : List (S34))) a0_1 0 s2_0 s1_0 a0_0 a0_1 a0_2
theorem impl_Room_cells__111.mono_l : ∀ k, (∀ y0 y1 y2 y3 y4 y5 y6 y7, LeO (impl_Room_cells__111.l0 k y0 y1 y2 y3 y4 y5 y6 y7) (impl_Room_cells__111.l0 (k + 1) y0 y1 y2 y3 y4 y5 y6 y7)) ∧ (∀ y0 y1 y2 y3 y4 y5 y6 y7 y8 y9 y10, LeO (impl_Room_cells__111.l1 k y0 y1 y2 y3 y4 y5 y6 y7 y8 y9 y10) (impl_Room_cells__111.l1 (k + 1) y0 y1 y2 y3 y4 y5 y6 y7 y8 y9 y10))
 | 0 => ⟨fun _ _ _ _ _ _ _ _ r h => by simp [impl_Room_cells__111.l0] at h, fun _ _ _ _ _ _ _ _ _ _ _ r h => by simp [impl_Room_cells__111.l1] at h⟩
 | k + 1 => by
  obtain ⟨ih0, ih1⟩ := impl_Room_cells__111.mono_l k
  refine ⟨?_, ?_⟩
  ·intro y0 y1 y2 y3 y4 y5 y6 y7
   unfold impl_Room_cells__111.l0
   repeat' first
   | (with_reducible exact ih0 _ _ _ _ _ _ _ _)
   | (with_reducible exact ih1 _ _ _ _ _ _ _ _ _ _ _)
   | (with_reducible exact LeO.refl _)
   | (with_reducible exact LeO.none _)
   | (with_reducible refine LeO.ite ?_ ?_)
   | (with_reducible refine LeO.bind ?_ (fun _ => ?_))
   | exact ih0 _ _ _ _ _ _ _ _
   | exact ih1 _ _ _ _ _ _ _ _ _ _ _
   | exact LeO.none _
   | refine LeO.ite ?_ ?_
   | refine LeO.bind ?_ (fun _ => ?_)
  ·intro y0 y1 y2 y3 y4 y5 y6 y7 y8 y9 y10
   unfold impl_Room_cells__111.l1
   repeat' first
   | (with_reducible exact ih0 _ _ _ _ _ _ _ _)
   | (with_reducible exact ih1 _ _ _ _ _ _ _ _ _ _ _)
   | (with_reducible exact LeO.refl _)
   | (with_reducible exact LeO.none _)
   | (with_reducible refine LeO.ite ?_ ?_)
   | (with_reducible refine LeO.bind ?_ (fun _ => ?_))
   | exact ih0 _ _ _ _ _ _ _ _
   | exact ih1 _ _ _ _ _ _ _ _ _ _ _
   | exact LeO.none _
   | refine LeO.ite ?_ ?_
   | refine LeO.bind ?_ (fun _ => ?_)
theorem impl_Room_cells__111.mono : ∀ a0 a1 a2 a3 a4 k, LeO (impl_Room_cells__111.f k a0 a1 a2 a3 a4) (impl_Room_cells__111.f (k + 1) a0 a1 a2 a3 a4) := by
 intro a0 a1 a2 a3 a4 k
 obtain ⟨ih0, ih1⟩ := impl_Room_cells__111.mono_l k
 unfold impl_Room_cells__111.f
 repeat' first
   | (with_reducible exact ih0 _ _ _ _ _ _ _ _)
   | (with_reducible exact ih1 _ _ _ _ _ _ _ _ _ _ _)
   | (with_reducible exact LeO.refl _)
   | (with_reducible exact LeO.none _)
   | (with_reducible refine LeO.ite ?_ ?_)
   | (with_reducible refine LeO.bind ?_ (fun _ => ?_))
   | exact ih0 _ _ _ _ _ _ _ _
   | exact ih1 _ _ _ _ _ _ _ _ _ _ _
   | exact LeO.none _
   | refine LeO.ite ?_ ?_
   | refine LeO.bind ?_ (fun _ => ?_)
def impl_Room_near.f (k : Nat) (a0_0 : Int) (a0_1 : Int) (a0_2 : LA 10) (a1_0 : Int) (a1_1 : Int) (a2 : Int) : Option ((List (S34))) := (impl_Room_steps.f k a0_0 a0_1 a0_2 a1_0 a1_1).bind fun t276 => ((impl_Room_cells__111.f k a0_0 a0_1 a0_2 t276 a2).bind fun t279 => (some t279))
theorem impl_Room_near.mono : ∀ a0 a1 a2 a3 a4 a5 k, LeO (impl_Room_near.f k a0 a1 a2 a3 a4 a5) (impl_Room_near.f (k + 1) a0 a1 a2 a3 a4 a5) := by
 intro a0 a1 a2 a3 a4 a5 k
 unfold impl_Room_near.f
 repeat' first
   | (with_reducible exact impl_Room_cells__111.mono _ _ _ _ _ _)
   | (with_reducible exact impl_Room_steps.mono _ _ _ _ _ _)
   | (with_reducible exact LeO.refl _)
   | (with_reducible exact LeO.none _)
   | (with_reducible refine LeO.ite ?_ ?_)
   | (with_reducible refine LeO.bind ?_ (fun _ => ?_))
   | exact impl_Room_cells__111.mono _ _ _ _ _ _
   | exact impl_Room_steps.mono _ _ _ _ _ _
   | exact LeO.none _
   | refine LeO.ite ?_ ?_
   | refine LeO.bind ?_ (fun _ => ?_)
end Go.Proofs.Ytoiiabnnddlcbaa.PB
end
