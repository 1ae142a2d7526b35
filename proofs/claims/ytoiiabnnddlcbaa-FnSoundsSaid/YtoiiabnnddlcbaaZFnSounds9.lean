/- The statement FnSounds of this program: what its proof uses, part 10 of 11. The call returns true for all arguments. No condition of its own. -/
import Derived.Test.YtoiiabnnddlcbaaZFnSounds8
section
namespace Go.Proofs.Ytoiiabnnddlcbaa.PB
open Go.RowKit Go.Proofs.YtoiiabnnddlcbaaW.PrintWords Go.Proofs.YtoiiabnnddlcbaaW.PrintLast Go.Proofs.YtoiiabnnddlcbaaW.PrintMore Go.Proofs.Ytoiiabnnddlcbaa.La
attribute [local go_sem] max2_int min2_int max_two min_two max_three min_three max_four min_four   -- for this text's walks alone
set_option linter.unusedVariables false
set_option linter.unusedSimpArgs false
attribute [local go_sem high] eqA34
mutual
def laws_FnSounds.j0 : Nat → List Int → List Int → Bool → Option (Bool)
 | 0, _, _, _ => none
 | k + 1, x0, x1, x32 => if x32 = true then (some true) else ((spec_P6Room.f k x0).bind fun bt282 => ((spec_P6Free.f k bt282.1 bt282.2.1 bt282.2.2).bind fun t286 => (if (t286.length : Int) = 0 then (some true) else ((spec_P6Pick.f x0 (t286.length : Int)).bind fun t289 => (if 0 ≤ t289 then (if t289 < (t286.length : Int) then ((spec_P6Pick.f x1 (t286.length : Int)).bind fun t292 => (if 0 ≤ t292 then (if t292 < (t286.length : Int) then ((impl_SoundFrom.f ((rd_T34 t286 t289).f0) ((rd_T34 t286 t289).f1) ((rd_T34 t286 t292).f0) ((rd_T34 t286 t292).f1)).bind fun t295 => ((spec_SoundFrom.f k ((rd_T34 t286 t289).f0) ((rd_T34 t286 t289).f1) ((rd_T34 t286 t292).f0) ((rd_T34 t286 t292).f1)).bind fun t296 => ((impl_SoundFrom.f ((rd_T34 t286 t292).f0) ((rd_T34 t286 t292).f1) ((rd_T34 t286 t289).f0) ((rd_T34 t286 t289).f1)).bind fun t297 => (if t295 = t296 then (if t296 < 0 then (none) else (if t296 > 8 then (none) else (if ((t296 == 8) != (((rd_T34 t286 t289).f0) == ((rd_T34 t286 t292).f0) && (((rd_T34 t286 t289).f1) == ((rd_T34 t286 t292).f1)))) = true then (none) else (if t296 < 8 then (if t297 = (Int.tmod (wrap64 (t296 + 4)) 8) then (if t296 = 8 then (laws_FnSounds.j1 k x1 t286 t296 (t297 != 8) bt282.1 bt282.2.1 bt282.2.2 ((rd_T34 t286 t289).f0) ((rd_T34 t286 t289).f1) ((rd_T34 t286 t292).f0) ((rd_T34 t286 t292).f1)) else (laws_FnSounds.j1 k x1 t286 t296 false bt282.1 bt282.2.1 bt282.2.2 ((rd_T34 t286 t289).f0) ((rd_T34 t286 t289).f1) ((rd_T34 t286 t292).f0) ((rd_T34 t286 t292).f1))) else (none)) else (if t296 = 8 then (laws_FnSounds.j1 k x1 t286 t296 (t297 != 8) bt282.1 bt282.2.1 bt282.2.2 ((rd_T34 t286 t289).f0) ((rd_T34 t286 t289).f1) ((rd_T34 t286 t292).f0) ((rd_T34 t286 t292).f1)) else (laws_FnSounds.j1 k x1 t286 t296 false bt282.1 bt282.2.1 bt282.2.2 ((rd_T34 t286 t289).f0) ((rd_T34 t286 t289).f1) ((rd_T34 t286 t292).f0) ((rd_T34 t286 t292).f1))))))) else (none))))) else (none)) else (none))) else (none)) else (none))))))
def laws_FnSounds.j1 : Nat → List Int → List (S34) → Int → Bool → Int → Int → LA 10 → Int → Int → Int → Int → Option (Bool)
 | 0, _, _, _, _, _, _, _, _, _, _, _ => none
 | k + 1, x1, x6, x10, x100, x286000, x286001, x286002, x292000, x292001, x295000, x295001 => if x100 = true then (none) else (laws_FnSounds.l0 k x1 x6 x10 0 0 x286000 x286001 x286002 x292000 x292001 x295000 x295001)
def laws_FnSounds.l0 : Nat → List Int → List (S34) → Int → Int → Int → Int → Int → LA 10 → Int → Int → Int → Int → Option (Bool)
 | 0, _, _, _, _, _, _, _, _, _, _, _, _ => none
 | k + 1, x1, x6, x10, x12, x13, x286000, x286001, x286002, x292000, x292001, x295000, x295001 => if x13 < 9 then ((impl_HearingAt.f k x286000 x286001 x286002 x295000 x295001 x13).bind fun bt298 => ((spec_HearingAt.f k x286000 x286001 x286002 x295000 x295001 x13).bind fun bt302 => (if bt298.2 = bt302.2 then (if bt298.2 = 0 then ((spec_SameSpots.f k bt298.1 bt302.1).bind fun t306 => (if t306 = true then ((spec_HasSpot.f k bt302.1 x292000 x292001).bind fun t307 => (if (t307 != (x13 == x10)) = true then (none) else (laws_FnSounds.l1 k x1 x6 x10 x12 x13 bt302.1 0 x286000 x286001 x286002 x292000 x292001 x295000 x295001))) else (none))) else (none)) else (none)))) else ((some (([7] : List Int) : List Int)).bind fun y310 => (if y310.length + x1.length < 140737488355328 then ((spec_P6Pick.f (y310 ++ x1) (x6.length : Int)).bind fun t316 => (if 0 ≤ t316 then (if t316 < (x6.length : Int) then ((spec_SoundFrom.f k x292000 x292001 ((rd_T34 x6 t316).f0) ((rd_T34 x6 t316).f1)).bind fun t319 => ((some (([x10, t319] : List Int) : List Int)).bind fun y320 => ((impl_HearingAll.f k x286000 x286001 x286002 (([(⟨x295000, x295001⟩ : S34), (⟨(rd_T34 x6 t316).f0, (rd_T34 x6 t316).f1⟩ : S34)] : List (S34))) y320).bind fun bt326 => ((spec_HearingAll.f k x286000 x286001 x286002 (([(⟨x295000, x295001⟩ : S34), (⟨(rd_T34 x6 t316).f0, (rd_T34 x6 t316).f1⟩ : S34)] : List (S34))) y320).bind fun bt333 => ((spec_HearingAt.f k x286000 x286001 x286002 x295000 x295001 x10).bind fun bt337 => (if x12 = (x6.length : Int) then (if bt326.2 = bt333.2 then (if bt326.2 = 0 then ((spec_SameSpots.f k bt326.1 bt333.1).bind fun t341 => (if t341 = true then ((spec_HasSpot.f k bt333.1 x292000 x292001).bind fun t342 => (if t342 = true then (if bt337.2 = 0 then (some (decide ((bt333.1.length : Int) ≤ (bt337.1.length : Int)))) else (none)) else (none))) else (none))) else (none)) else (none)) else (none))))))) else (none)) else (none))) else (none)))
def laws_FnSounds.l1 : Nat → List Int → List (S34) → Int → Int → Int → List (S34) → Int → Int → Int → LA 10 → Int → Int → Int → Int → Option (Bool)
 | 0, _, _, _, _, _, _, _, _, _, _, _, _, _, _ => none
 | k + 1, x1, x6, x10, x12, x13, x16, x18, x286000, x286001, x286002, x292000, x292001, x295000, x295001 => if x18 < (x16.length : Int) then (if 0 ≤ x18 then ((impl_SoundFrom.f ((rd_T34 x16 x18).f0) ((rd_T34 x16 x18).f1) x295000 x295001).bind fun t309 => (if t309 = x13 then (laws_FnSounds.l1 k x1 x6 x10 x12 x13 x16 (wrap64 (x18 + 1)) x286000 x286001 x286002 x292000 x292001 x295000 x295001) else (none))) else (none)) else (laws_FnSounds.l0 k x1 x6 x10 (wrap64 (x12 + (x16.length : Int))) (wrap64 (x13 + 1)) x286000 x286001 x286002 x292000 x292001 x295000 x295001)
end
def laws_FnSounds.f (k : Nat) (l0 : List Int) (l1 : List Int) : Option (Bool) := (laws_f6big.f l0).bind fun t280 => (if t280 = true then (laws_FnSounds.j0 k l0 l1 true) else ((laws_f6big.f l1).bind fun t281 => (laws_FnSounds.j0 k l0 l1 t281)))
theorem laws_FnSounds.mono_l : ∀ k, (∀ y0 y1 y2, LeO (laws_FnSounds.j0 k y0 y1 y2) (laws_FnSounds.j0 (k + 1) y0 y1 y2)) ∧ (∀ y0 y1 y2 y3 y4 y5 y6 y7 y8 y9 y10, LeO (laws_FnSounds.j1 k y0 y1 y2 y3 y4 y5 y6 y7 y8 y9 y10) (laws_FnSounds.j1 (k + 1) y0 y1 y2 y3 y4 y5 y6 y7 y8 y9 y10)) ∧ (∀ y0 y1 y2 y3 y4 y5 y6 y7 y8 y9 y10 y11, LeO (laws_FnSounds.l0 k y0 y1 y2 y3 y4 y5 y6 y7 y8 y9 y10 y11) (laws_FnSounds.l0 (k + 1) y0 y1 y2 y3 y4 y5 y6 y7 y8 y9 y10 y11)) ∧ (∀ y0 y1 y2 y3 y4 y5 y6 y7 y8 y9 y10 y11 y12 y13, LeO (laws_FnSounds.l1 k y0 y1 y2 y3 y4 y5 y6 y7 y8 y9 y10 y11 y12 y13) (laws_FnSounds.l1 (k + 1) y0 y1 y2 y3 y4 y5 y6 y7 y8 y9 y10 y11 y12 y13))
 | 0 => ⟨fun _ _ _ r h => by simp [laws_FnSounds.j0] at h, fun _ _ _ _ _ _ _ _ _ _ _ r h => by simp [laws_FnSounds.j1] at h, fun _ _ _ _ _ _ _ _ _ _ _ _ r h => by simp [laws_FnSounds.l0] at h, fun _ _ _ _ _ _ _ _ _ _ _ _ _ _ r h => by simp [laws_FnSounds.l1] at h⟩
 | k + 1 => by
  obtain ⟨ih0, ih1, ih2, ih3⟩ := laws_FnSounds.mono_l k
  refine ⟨?_, ?_, ?_, ?_⟩
  ·intro y0 y1 y2
   unfold laws_FnSounds.j0
   repeat' first
   | (with_reducible exact ih0 _ _ _)
   | (with_reducible exact ih1 _ _ _ _ _ _ _ _ _ _ _)
   | (with_reducible exact ih2 _ _ _ _ _ _ _ _ _ _ _ _)
   | (with_reducible exact ih3 _ _ _ _ _ _ _ _ _ _ _ _ _ _)
   | (with_reducible exact impl_HearingAll.mono _ _ _ _ _ _)
   | (with_reducible exact impl_HearingAt.mono _ _ _ _ _ _ _)
   | (with_reducible exact spec_HasSpot.mono _ _ _ _)
   | (with_reducible exact spec_HearingAll.mono _ _ _ _ _ _)
   | (with_reducible exact spec_HearingAt.mono _ _ _ _ _ _ _)
   | (with_reducible exact spec_P6Free.mono _ _ _ _)
   | (with_reducible exact spec_P6Room.mono _ _)
   | (with_reducible exact spec_SameSpots.mono _ _ _)
   | (with_reducible exact spec_SoundFrom.mono _ _ _ _ _)
   | (with_reducible exact LeO.refl _)
   | (with_reducible exact LeO.none _)
   | (with_reducible refine LeO.ite ?_ ?_)
   | (with_reducible refine LeO.bind ?_ (fun _ => ?_))
   | exact ih0 _ _ _
   | exact ih1 _ _ _ _ _ _ _ _ _ _ _
   | exact ih2 _ _ _ _ _ _ _ _ _ _ _ _
   | exact ih3 _ _ _ _ _ _ _ _ _ _ _ _ _ _
   | exact impl_HearingAll.mono _ _ _ _ _ _
   | exact impl_HearingAt.mono _ _ _ _ _ _ _
   | exact spec_HasSpot.mono _ _ _ _
   | exact spec_HearingAll.mono _ _ _ _ _ _
   | exact spec_HearingAt.mono _ _ _ _ _ _ _
   | exact spec_P6Free.mono _ _ _ _
   | exact spec_P6Room.mono _ _
   | exact spec_SameSpots.mono _ _ _
   | exact spec_SoundFrom.mono _ _ _ _ _
   | exact LeO.none _
   | refine LeO.ite ?_ ?_
   | refine LeO.bind ?_ (fun _ => ?_)
  ·intro y0 y1 y2 y3 y4 y5 y6 y7 y8 y9 y10
   unfold laws_FnSounds.j1
   repeat' first
   | (with_reducible exact ih0 _ _ _)
   | (with_reducible exact ih1 _ _ _ _ _ _ _ _ _ _ _)
   | (with_reducible exact ih2 _ _ _ _ _ _ _ _ _ _ _ _)
   | (with_reducible exact ih3 _ _ _ _ _ _ _ _ _ _ _ _ _ _)
   | (with_reducible exact impl_HearingAll.mono _ _ _ _ _ _)
   | (with_reducible exact impl_HearingAt.mono _ _ _ _ _ _ _)
   | (with_reducible exact spec_HasSpot.mono _ _ _ _)
   | (with_reducible exact spec_HearingAll.mono _ _ _ _ _ _)
   | (with_reducible exact spec_HearingAt.mono _ _ _ _ _ _ _)
   | (with_reducible exact spec_P6Free.mono _ _ _ _)
   | (with_reducible exact spec_P6Room.mono _ _)
   | (with_reducible exact spec_SameSpots.mono _ _ _)
   | (with_reducible exact spec_SoundFrom.mono _ _ _ _ _)
   | (with_reducible exact LeO.refl _)
   | (with_reducible exact LeO.none _)
   | (with_reducible refine LeO.ite ?_ ?_)
   | (with_reducible refine LeO.bind ?_ (fun _ => ?_))
   | exact ih0 _ _ _
   | exact ih1 _ _ _ _ _ _ _ _ _ _ _
   | exact ih2 _ _ _ _ _ _ _ _ _ _ _ _
   | exact ih3 _ _ _ _ _ _ _ _ _ _ _ _ _ _
   | exact impl_HearingAll.mono _ _ _ _ _ _
   | exact impl_HearingAt.mono _ _ _ _ _ _ _
   | exact spec_HasSpot.mono _ _ _ _
   | exact spec_HearingAll.mono _ _ _ _ _ _
   | exact spec_HearingAt.mono _ _ _ _ _ _ _
   | exact spec_P6Free.mono _ _ _ _
   | exact spec_P6Room.mono _ _
   | exact spec_SameSpots.mono _ _ _
   | exact spec_SoundFrom.mono _ _ _ _ _
   | exact LeO.none _
   | refine LeO.ite ?_ ?_
   | refine LeO.bind ?_ (fun _ => ?_)
  ·intro y0 y1 y2 y3 y4 y5 y6 y7 y8 y9 y10 y11
   unfold laws_FnSounds.l0
   repeat' first
   | (with_reducible exact ih0 _ _ _)
   | (with_reducible exact ih1 _ _ _ _ _ _ _ _ _ _ _)
   | (with_reducible exact ih2 _ _ _ _ _ _ _ _ _ _ _ _)
   | (with_reducible exact ih3 _ _ _ _ _ _ _ _ _ _ _ _ _ _)
   | (with_reducible exact impl_HearingAll.mono _ _ _ _ _ _)
   | (with_reducible exact impl_HearingAt.mono _ _ _ _ _ _ _)
   | (with_reducible exact spec_HasSpot.mono _ _ _ _)
   | (with_reducible exact spec_HearingAll.mono _ _ _ _ _ _)
   | (with_reducible exact spec_HearingAt.mono _ _ _ _ _ _ _)
   | (with_reducible exact spec_P6Free.mono _ _ _ _)
   | (with_reducible exact spec_P6Room.mono _ _)
   | (with_reducible exact spec_SameSpots.mono _ _ _)
   | (with_reducible exact spec_SoundFrom.mono _ _ _ _ _)
   | (with_reducible exact LeO.refl _)
   | (with_reducible exact LeO.none _)
   | (with_reducible refine LeO.ite ?_ ?_)
   | (with_reducible refine LeO.bind ?_ (fun _ => ?_))
   | exact ih0 _ _ _
   | exact ih1 _ _ _ _ _ _ _ _ _ _ _
   | exact ih2 _ _ _ _ _ _ _ _ _ _ _ _
   | exact ih3 _ _ _ _ _ _ _ _ _ _ _ _ _ _
   | exact impl_HearingAll.mono _ _ _ _ _ _
   | exact impl_HearingAt.mono _ _ _ _ _ _ _
   | exact spec_HasSpot.mono _ _ _ _
   | exact spec_HearingAll.mono _ _ _ _ _ _
   | exact spec_HearingAt.mono _ _ _ _ _ _ _
   | exact spec_P6Free.mono _ _ _ _
   | exact spec_P6Room.mono _ _
   | exact spec_SameSpots.mono _ _ _
   | exact spec_SoundFrom.mono _ _ _ _ _
   | exact LeO.none _
   | refine LeO.ite ?_ ?_
   | refine LeO.bind ?_ (fun _ => ?_)
  ·intro y0 y1 y2 y3 y4 y5 y6 y7 y8 y9 y10 y11 y12 y13
   unfold laws_FnSounds.l1
   repeat' first
   | (with_reducible exact ih0 _ _ _)
   | (with_reducible exact ih1 _ _ _ _ _ _ _ _ _ _ _)
   | (with_reducible exact ih2 _ _ _ _ _ _ _ _ _ _ _ _)
   | (with_reducible exact ih3 _ _ _ _ _ _ _ _ _ _ _ _ _ _)
   | (with_reducible exact impl_HearingAll.mono _ _ _ _ _ _)
   | (with_reducible exact impl_HearingAt.mono _ _ _ _ _ _ _)
   | (with_reducible exact spec_HasSpot.mono _ _ _ _)
   | (with_reducible exact spec_HearingAll.mono _ _ _ _ _ _)
   | (with_reducible exact spec_HearingAt.mono _ _ _ _ _ _ _)
   | (with_reducible exact spec_P6Free.mono _ _ _ _)
   | (with_reducible exact spec_P6Room.mono _ _)
   | (with_reducible exact spec_SameSpots.mono _ _ _)
   | (with_reducible exact spec_SoundFrom.mono _ _ _ _ _)
   | (with_reducible exact LeO.refl _)
   | (with_reducible exact LeO.none _)
   | (with_reducible refine LeO.ite ?_ ?_)
   | (with_reducible refine LeO.bind ?_ (fun _ => ?_))
   | exact ih0 _ _ _
   | exact ih1 _ _ _ _ _ _ _ _ _ _ _
   | exact ih2 _ _ _ _ _ _ _ _ _ _ _ _
   | exact ih3 _ _ _ _ _ _ _ _ _ _ _ _ _ _
   | exact impl_HearingAll.mono _ _ _ _ _ _
   | exact impl_HearingAt.mono _ _ _ _ _ _ _
   | exact spec_HasSpot.mono _ _ _ _
   | exact spec_HearingAll.mono _ _ _ _ _ _
   | exact spec_HearingAt.mono _ _ _ _ _ _ _
   | exact spec_P6Free.mono _ _ _ _
   | exact spec_P6Room.mono _ _
   | exact spec_SameSpots.mono _ _ _
   | exact spec_SoundFrom.mono _ _ _ _ _
   | exact LeO.none _
   | refine LeO.ite ?_ ?_
   | refine LeO.bind ?_ (fun _ => ?_)
theorem laws_FnSounds.mono : ∀ a0 a1 k, LeO (laws_FnSounds.f k a0 a1) (laws_FnSounds.f (k + 1) a0 a1) := by
 intro a0 a1 k
 obtain ⟨ih0, ih1, ih2, ih3⟩ := laws_FnSounds.mono_l k
 unfold laws_FnSounds.f
 repeat' first
   | (with_reducible exact ih0 _ _ _)
   | (with_reducible exact ih1 _ _ _ _ _ _ _ _ _ _ _)
   | (with_reducible exact ih2 _ _ _ _ _ _ _ _ _ _ _ _)
   | (with_reducible exact ih3 _ _ _ _ _ _ _ _ _ _ _ _ _ _)
   | (with_reducible exact impl_HearingAll.mono _ _ _ _ _ _)
   | (with_reducible exact impl_HearingAt.mono _ _ _ _ _ _ _)
   | (with_reducible exact spec_HasSpot.mono _ _ _ _)
   | (with_reducible exact spec_HearingAll.mono _ _ _ _ _ _)
   | (with_reducible exact spec_HearingAt.mono _ _ _ _ _ _ _)
   | (with_reducible exact spec_P6Free.mono _ _ _ _)
   | (with_reducible exact spec_P6Room.mono _ _)
   | (with_reducible exact spec_SameSpots.mono _ _ _)
   | (with_reducible exact spec_SoundFrom.mono _ _ _ _ _)
   | (with_reducible exact LeO.refl _)
   | (with_reducible exact LeO.none _)
   | (with_reducible refine LeO.ite ?_ ?_)
   | (with_reducible refine LeO.bind ?_ (fun _ => ?_))
   | exact ih0 _ _ _
   | exact ih1 _ _ _ _ _ _ _ _ _ _ _
   | exact ih2 _ _ _ _ _ _ _ _ _ _ _ _
   | exact ih3 _ _ _ _ _ _ _ _ _ _ _ _ _ _
   | exact impl_HearingAll.mono _ _ _ _ _ _
   | exact impl_HearingAt.mono _ _ _ _ _ _ _
   | exact spec_HasSpot.mono _ _ _ _
   | exact spec_HearingAll.mono _ _ _ _ _ _
   | exact spec_HearingAt.mono _ _ _ _ _ _ _
   | exact spec_P6Free.mono _ _ _ _
   | exact spec_P6Room.mono _ _
   | exact spec_SameSpots.mono _ _ _
   | exact spec_SoundFrom.mono _ _ _ _ _
   | exact LeO.none _
   | refine LeO.ite ?_ ?_
   | refine LeO.bind ?_ (fun _ => ?_)
def laws_FnSounds.T25 : Bool × List (List Nat × List Nat) := (true, [([], []), ([], []), ([0, 1], [0, 1]), ([2], [2]), ([], []), ([3, 4], [3, 4]), ([], []), ([5, 6], [5, 6])])
def laws_FnSounds.B25 : List Nat := [0, 0, 3, 7, 0, 31, 0, 127]
theorem laws_FnSounds.tab25 : rtab .any (opsOf Try.f11 25) = laws_FnSounds.T25 := by kernel_rfl
theorem laws_FnSounds.bits25 : waitsOk laws_FnSounds.T25.2 laws_FnSounds.B25 = true := by kernel_rfl
set_option maxHeartbeats 8000000 in
set_option maxRecDepth 100000 in
theorem laws_FnSounds.calls (k : Nat) (A0 : Option Addr) (c0 : Nat) (l0 : List Int) (A1 : Option Addr) (c1 : Nat) (l1 : List Int) (r : Bool) (w : World) (hr0 : Kd.C (Kd.int .u8) w A0 l0.length l0) (hc0 : l0.length ≤ c0) (hr1 : Kd.C (Kd.int .u8) w A1 l1.length l1) (hc1 : l1.length ≤ c1) (h : laws_FnSounds.f k l0 l1 = some r) :
  Calls Try.prog 11 #[.slice A0 l0.length c0, .slice A1 l1.length c1] w fun e w' => e = .returned (.bool r) ∧ Below w.heap.size w w' := by
 have hu32 := Try.underlying32
 have hu34 := Try.underlying34
 have HR0 := Aside0.mk hr0
 have HC0 := Aside0.mk hc0
 clear hr0 hc0
 have HR1 := Aside0.mk hr1
 have HC1 := Aside0.mk hc1
 clear hr1 hc1
 have HB := Aside0.mk (Below.refl w.heap.size w)
 have H : ((laws_f6big.f l0).bind fun t280 => (if t280 = true then (laws_FnSounds.j0 k l0 l1 true) else ((laws_f6big.f l1).bind fun t281 => (laws_FnSounds.j0 k l0 l1 t281)))) = some r := h
 clear h
 have HC3 := Aside0.mk H
 clear H
 go_enter Try.func11, Try.ntmps11
 go_upto_region 1 with (fail)
 go_cut [32] (fun v32 wc => ∃ (kq : Nat) (x32_2 : Bool), v32 = .bool x32_2 ∧ Aside0 (laws_FnSounds.j0 kq l0 l1 x32_2 = some r) ∧ Aside0 (kq ≤ k) ∧ Aside0 (Below w.heap.size w wc))
 case first =>
  have H := HC3.out
  clear HC3
  replace H := Option.bind_eq_some_iff.mp H
  obtain ⟨t280, A40, H⟩ := H
  replace H : (if t280 = true then (laws_FnSounds.j0 k l0 l1 true) else ((laws_f6big.f l1).bind fun t281 => (laws_FnSounds.j0 k l0 l1 t281))) = some r := H
  have A4 := Aside0.mk A40
  clear A40
  by_cases c5 : t280 = true
  ·subst c5
   have H1 : (laws_FnSounds.j0 k l0 l1 true) = some r := by rw [if_pos rfl] at H; exact H
   clear H
   have H := H1
   clear H1
   have H' := Aside0.mk H
   clear H
   go_wp2_with (first | ((with_reducible refine gate_callee (f := 40) rfl ?_); refine goesL_ (some 28) rfl rfl Try.func40 (by kernel_rfl) rfl #[.slice A0 l0.length c0] rfl (by (try simp only [List.map_toArray, List.map_cons, List.map_nil]); first | done | rfl | (simp only [List.length_drop, List.length_take]; rfl)) ?_; (with_reducible refine (laws_f6big.calls _ _ l0 true _ ?side1 ?side2 A4.out).mono ?_); (case side1 => repeat (first | exact (Kd.C_below HR0.out HB.out) | (with_reducible refine Kd.C_alloc ?_ _) | (with_reducible refine Kd.C_drewN ?_ _) | (with_reducible refine Kd.C_drew ?_))); (case side2 => exact HC0.out); rintro e w' ⟨rfl, ⟨nd, rfl⟩⟩; refine ⟨_, rfl, ?_⟩))
   go_meet
   case rel => exact ⟨_, (true), (by first | rfl | (simp; done) | (simp [*]; done)), H', ⟨by first | omega | exact Nat.le_refl _⟩, ⟨pb HB⟩⟩
  ·replace c5 := Bool.eq_false_iff.mpr c5
   subst c5
   have H1 : ((laws_f6big.f l1).bind fun t281 => (laws_FnSounds.j0 k l0 l1 t281)) = some r := by rw [if_neg (show ¬ (false = true) by decide)] at H; exact H
   clear H
   have H := H1
   clear H1
   replace H := Option.bind_eq_some_iff.mp H
   obtain ⟨t281, A60, H⟩ := H
   replace H : (laws_FnSounds.j0 k l0 l1 t281) = some r := H
   have A6 := Aside0.mk A60
   clear A60
   have H' := Aside0.mk H
   clear H
   go_wp2_with (first | ((with_reducible refine gate_callee (f := 40) rfl ?_); refine goesL_ (some 28) rfl rfl Try.func40 (by kernel_rfl) rfl #[.slice A0 l0.length c0] rfl (by (try simp only [List.map_toArray, List.map_cons, List.map_nil]); first | done | rfl | (simp only [List.length_drop, List.length_take]; rfl)) ?_; (with_reducible refine (laws_f6big.calls _ _ l0 false _ ?side1 ?side2 A4.out).mono ?_); (case side1 => repeat (first | exact (Kd.C_below HR0.out HB.out) | (with_reducible refine Kd.C_alloc ?_ _) | (with_reducible refine Kd.C_drewN ?_ _) | (with_reducible refine Kd.C_drew ?_))); (case side2 => exact HC0.out); rintro e w' ⟨rfl, ⟨nd, rfl⟩⟩; refine ⟨_, rfl, ?_⟩) | (go_at_call 40; (with_reducible refine (laws_f6big.calls _ _ l1 t281 _ ?side1 ?side2 A6.out).mono ?_); (case side1 => repeat (first | exact (Kd.C_below HR1.out (pb HB)) | (with_reducible refine Kd.C_alloc ?_ _) | (with_reducible refine Kd.C_drewN ?_ _) | (with_reducible refine Kd.C_drew ?_))); (case side2 => exact HC1.out); rintro e w' ⟨rfl, ⟨nd, rfl⟩⟩))
   go_meet
   case rel => exact ⟨_, (t281), (by first | rfl | (simp; done) | (simp [*]; done)), H', ⟨by first | omega | exact Nat.le_refl _⟩, ⟨pb HB⟩⟩
 case rest =>
  clear HC3
  try clear c1
  try clear p2
  try clear c4
  try clear c5
  obtain ⟨kq, x32_2, rfl, HA, HJ2, HB⟩ := hcut
  cases kq with
  | zero => exact absurd HA.out (by simp [laws_FnSounds.j0])
  | succ kj2 =>
   have H := HA.out
   clear HA
   simp only [laws_FnSounds.j0] at H
   by_cases c7 : x32_2 = true
   ·subst c7
    have H1 : (some true) = some r := by rw [if_pos rfl] at H; exact H
    clear H
    have H := H1
    clear H1
    obtain rfl := Option.some.inj H
    go_wp2
    go_ret
    exact ⟨by first | rfl | (simp [errW_none, errW_some] <;> rfl) | (simp [*, errW_none, errW_some] <;> rfl), pb HB⟩
   ·replace c7 := Bool.eq_false_iff.mpr c7
    subst c7
    have H1 : ((spec_P6Room.f kj2 l0).bind fun bt282 => ((spec_P6Free.f kj2 bt282.1 bt282.2.1 bt282.2.2).bind fun t286 => (if (t286.length : Int) = 0 then (some true) else ((spec_P6Pick.f l0 (t286.length : Int)).bind fun t289 => (if 0 ≤ t289 then (if t289 < (t286.length : Int) then ((spec_P6Pick.f l1 (t286.length : Int)).bind fun t292 => (if 0 ≤ t292 then (if t292 < (t286.length : Int) then ((impl_SoundFrom.f ((rd_T34 t286 t289).f0) ((rd_T34 t286 t289).f1) ((rd_T34 t286 t292).f0) ((rd_T34 t286 t292).f1)).bind fun t295 => ((spec_SoundFrom.f kj2 ((rd_T34 t286 t289).f0) ((rd_T34 t286 t289).f1) ((rd_T34 t286 t292).f0) ((rd_T34 t286 t292).f1)).bind fun t296 => ((impl_SoundFrom.f ((rd_T34 t286 t292).f0) ((rd_T34 t286 t292).f1) ((rd_T34 t286 t289).f0) ((rd_T34 t286 t289).f1)).bind fun t297 => (if t295 = t296 then (if t296 < 0 then (none) else (if t296 > 8 then (none) else (if ((t296 == 8) != (((rd_T34 t286 t289).f0) == ((rd_T34 t286 t292).f0) && (((rd_T34 t286 t289).f1) == ((rd_T34 t286 t292).f1)))) = true then (none) else (if t296 < 8 then (if t297 = (Int.tmod (wrap64 (t296 + 4)) 8) then (if t296 = 8 then (laws_FnSounds.j1 kj2 l1 t286 t296 (t297 != 8) bt282.1 bt282.2.1 bt282.2.2 ((rd_T34 t286 t289).f0) ((rd_T34 t286 t289).f1) ((rd_T34 t286 t292).f0) ((rd_T34 t286 t292).f1)) else (laws_FnSounds.j1 kj2 l1 t286 t296 false bt282.1 bt282.2.1 bt282.2.2 ((rd_T34 t286 t289).f0) ((rd_T34 t286 t289).f1) ((rd_T34 t286 t292).f0) ((rd_T34 t286 t292).f1))) else (none)) else (if t296 = 8 then (laws_FnSounds.j1 kj2 l1 t286 t296 (t297 != 8) bt282.1 bt282.2.1 bt282.2.2 ((rd_T34 t286 t289).f0) ((rd_T34 t286 t289).f1) ((rd_T34 t286 t292).f0) ((rd_T34 t286 t292).f1)) else (laws_FnSounds.j1 kj2 l1 t286 t296 false bt282.1 bt282.2.1 bt282.2.2 ((rd_T34 t286 t289).f0) ((rd_T34 t286 t289).f1) ((rd_T34 t286 t292).f0) ((rd_T34 t286 t292).f1))))))) else (none))))) else (none)) else (none))) else (none)) else (none)))))) = some r := by rw [if_neg (show ¬ (false = true) by decide)] at H; exact H
    clear H
    have H := H1
    clear H1
    replace H := Option.bind_eq_some_iff.mp H
    obtain ⟨⟨t282, t283, t284⟩, A80, H⟩ := H
    replace H : ((spec_P6Free.f kj2 t282 t283 t284).bind fun t286 => (if (t286.length : Int) = 0 then (some true) else ((spec_P6Pick.f l0 (t286.length : Int)).bind fun t289 => (if 0 ≤ t289 then (if t289 < (t286.length : Int) then ((spec_P6Pick.f l1 (t286.length : Int)).bind fun t292 => (if 0 ≤ t292 then (if t292 < (t286.length : Int) then ((impl_SoundFrom.f ((rd_T34 t286 t289).f0) ((rd_T34 t286 t289).f1) ((rd_T34 t286 t292).f0) ((rd_T34 t286 t292).f1)).bind fun t295 => ((spec_SoundFrom.f kj2 ((rd_T34 t286 t289).f0) ((rd_T34 t286 t289).f1) ((rd_T34 t286 t292).f0) ((rd_T34 t286 t292).f1)).bind fun t296 => ((impl_SoundFrom.f ((rd_T34 t286 t292).f0) ((rd_T34 t286 t292).f1) ((rd_T34 t286 t289).f0) ((rd_T34 t286 t289).f1)).bind fun t297 => (if t295 = t296 then (if t296 < 0 then (none) else (if t296 > 8 then (none) else (if ((t296 == 8) != (((rd_T34 t286 t289).f0) == ((rd_T34 t286 t292).f0) && (((rd_T34 t286 t289).f1) == ((rd_T34 t286 t292).f1)))) = true then (none) else (if t296 < 8 then (if t297 = (Int.tmod (wrap64 (t296 + 4)) 8) then (if t296 = 8 then (laws_FnSounds.j1 kj2 l1 t286 t296 (t297 != 8) t282 t283 t284 ((rd_T34 t286 t289).f0) ((rd_T34 t286 t289).f1) ((rd_T34 t286 t292).f0) ((rd_T34 t286 t292).f1)) else (laws_FnSounds.j1 kj2 l1 t286 t296 false t282 t283 t284 ((rd_T34 t286 t289).f0) ((rd_T34 t286 t289).f1) ((rd_T34 t286 t292).f0) ((rd_T34 t286 t292).f1))) else (none)) else (if t296 = 8 then (laws_FnSounds.j1 kj2 l1 t286 t296 (t297 != 8) t282 t283 t284 ((rd_T34 t286 t289).f0) ((rd_T34 t286 t289).f1) ((rd_T34 t286 t292).f0) ((rd_T34 t286 t292).f1)) else (laws_FnSounds.j1 kj2 l1 t286 t296 false t282 t283 t284 ((rd_T34 t286 t289).f0) ((rd_T34 t286 t289).f1) ((rd_T34 t286 t292).f0) ((rd_T34 t286 t292).f1))))))) else (none))))) else (none)) else (none))) else (none)) else (none))))) = some r := H
    have A8 := Aside0.mk A80
    clear A80
    replace H := Option.bind_eq_some_iff.mp H
    obtain ⟨t286, A90, H⟩ := H
    replace H : (if (t286.length : Int) = 0 then (some true) else ((spec_P6Pick.f l0 (t286.length : Int)).bind fun t289 => (if 0 ≤ t289 then (if t289 < (t286.length : Int) then ((spec_P6Pick.f l1 (t286.length : Int)).bind fun t292 => (if 0 ≤ t292 then (if t292 < (t286.length : Int) then ((impl_SoundFrom.f ((rd_T34 t286 t289).f0) ((rd_T34 t286 t289).f1) ((rd_T34 t286 t292).f0) ((rd_T34 t286 t292).f1)).bind fun t295 => ((spec_SoundFrom.f kj2 ((rd_T34 t286 t289).f0) ((rd_T34 t286 t289).f1) ((rd_T34 t286 t292).f0) ((rd_T34 t286 t292).f1)).bind fun t296 => ((impl_SoundFrom.f ((rd_T34 t286 t292).f0) ((rd_T34 t286 t292).f1) ((rd_T34 t286 t289).f0) ((rd_T34 t286 t289).f1)).bind fun t297 => (if t295 = t296 then (if t296 < 0 then (none) else (if t296 > 8 then (none) else (if ((t296 == 8) != (((rd_T34 t286 t289).f0) == ((rd_T34 t286 t292).f0) && (((rd_T34 t286 t289).f1) == ((rd_T34 t286 t292).f1)))) = true then (none) else (if t296 < 8 then (if t297 = (Int.tmod (wrap64 (t296 + 4)) 8) then (if t296 = 8 then (laws_FnSounds.j1 kj2 l1 t286 t296 (t297 != 8) t282 t283 t284 ((rd_T34 t286 t289).f0) ((rd_T34 t286 t289).f1) ((rd_T34 t286 t292).f0) ((rd_T34 t286 t292).f1)) else (laws_FnSounds.j1 kj2 l1 t286 t296 false t282 t283 t284 ((rd_T34 t286 t289).f0) ((rd_T34 t286 t289).f1) ((rd_T34 t286 t292).f0) ((rd_T34 t286 t292).f1))) else (none)) else (if t296 = 8 then (laws_FnSounds.j1 kj2 l1 t286 t296 (t297 != 8) t282 t283 t284 ((rd_T34 t286 t289).f0) ((rd_T34 t286 t289).f1) ((rd_T34 t286 t292).f0) ((rd_T34 t286 t292).f1)) else (laws_FnSounds.j1 kj2 l1 t286 t296 false t282 t283 t284 ((rd_T34 t286 t289).f0) ((rd_T34 t286 t289).f1) ((rd_T34 t286 t292).f0) ((rd_T34 t286 t292).f1))))))) else (none))))) else (none)) else (none))) else (none)) else (none)))) = some r := H
    have A9 := Aside0.mk A90
    clear A90
    by_cases c10 : (t286.length : Int) = 0
    ·rw [if_pos c10] at H
     have c10b0 : ((t286.length : Int) == 0) = true := beq_iff_eq.mpr c10
     have c10b1 : ((t286.length : Int) != 0) = false := bne_eq_false_iff_eq.mpr c10
     clear c10
     obtain rfl := Option.some.inj H
     go_wp2_with (first | ((with_reducible refine gate_callee (f := 41) rfl ?_); refine goesL_ (some 34) rfl rfl Try.func41 (by kernel_rfl) rfl #[.slice A0 l0.length c0] rfl (by (try simp only [List.map_toArray, List.map_cons, List.map_nil]); first | done | rfl | (simp only [List.length_drop, List.length_take]; rfl)) ?_; (with_reducible refine (spec_P6Room.calls kj2 _ _ l0 t282 t283 t284 _ ?side1 ?side2 A8.out).mono ?_); (case side1 => repeat (first | exact (Kd.C_below HR0.out HB.out) | (with_reducible refine Kd.C_alloc ?_ _) | (with_reducible refine Kd.C_drewN ?_ _) | (with_reducible refine Kd.C_drew ?_))); (case side2 => exact HC0.out); rintro e w11 ⟨rfl, hb⟩; refine ⟨_, rfl, ?_⟩; have n0_ := bst HB hb; clear HB; have HB := n0_; clear n0_; (try clear hb); (try clear hb2); (try clear hk); (try clear hi)) | ((with_reducible refine gate_dst (N := 5) rfl ?_); (try (refine gate_guard (by rfl) ?_; dsimp only)); refine box_event ?hg (N := 5) ?hd (cs := (mixA (Value.int .u16) [.int .i8 0, .int .i8 0] (LA.zero 10))) (t := 32) ?hr ?_; (case hd => rfl); (case hg => rfl); (case hr => first | (go_simp; done) | (go_simp; rfl)); intro gb285 hg w12 hbox hb; have n0_ := bst HB hb; have n1_ := Aside0.mk (hbox); have n2_ := gwl HB hg; have n3_ := gwl HB hg; clear HB; have HB := n0_; have BK285 := n1_; have GW285 := n2_; have GE285 := n3_; clear n0_ n1_ n2_ n3_; clear hb hbox hg) | ((with_reducible refine gate_store (p := 5) rfl ?_); refine wpList_store_lmix rfl 32 _ _ rfl gb285 (e := (Value.int .u16)) (cs' := [.int .i8 t282, .int .i8 t283]) (W' := t284) (cs := [.int .i8 0, .int .i8 0]) (W := (LA.zero 10)) (T := 32) rfl rfl (pk BK285) rfl (by kernel_rfl) rfl (fun _ => rfl) rfl ?_; intro w13 hi hk hbl; have n0_ := Aside0.mk (hbl _ _ (pbs HB) GE285.out); have n1_ := Aside0.mk (hi); clear HB; clear BK285; have HB := n0_; have BK285 := n1_; clear n0_ n1_; clear hi hk hbl) | ((with_reducible refine gate_dst (N := 35) rfl ?_); (try (refine gate_guard (by rfl) ?_; dsimp only)); refine wpList_run0 (v := .agg (mixA (Value.int .u16) [.int .i8 t282, .int .i8 t283] t284)) rfl (load_mix_run (P := Try.prog) 32 (.tmp 5) rfl gb285 rfl (show World.rangeAt _ gb285 0 ([.int .i8 t282, .int .i8 t283] ++ t284.l.map (Value.int .u16)) from mix_range (show (World.heap _)[gb285]? = some (.cells (mixA (Value.int .u16) [.int .i8 t282, .int .i8 t283] t284) 32 (0, 0)) from by (with_reducible repeat (first | refine blk_drewN ?_ _ | refine blk_drew ?_ | refine blk_alloc ?_ _)); exact BK285.out)) Try.underlying32 rfl (by kernel_rfl) rfl) ?_) | ((with_reducible refine gate_callee (f := 42) rfl ?_); refine goesL_ (some 36) rfl rfl Try.func42 (by kernel_rfl) rfl #[.agg (mixA (Value.int .u16) [.int .i8 t282, .int .i8 t283] t284)] rfl (by (try simp only [List.map_toArray, List.map_cons, List.map_nil]); first | done | rfl | (simp only [List.length_drop, List.length_take]; rfl)) ?_; (with_reducible refine (spec_P6Free.calls kj2 t282 t283 t284 t286 _ A9.out).mono ?_); rintro e w15 ⟨v287, rfl, ho0, hb⟩; refine ⟨_, rfl, ?_⟩; have n0_ := Aside0.mk (Kd.R_lower ho0 (below_size (by repeat (first | (with_reducible first | exact HB.out | apply below_alloc | apply pw_below_drewN | apply below_drew1 | refine below_set ?_ GE285.out) | exact HB.out)))); have n1_ := bkb BK285 hb; have n2_ := bst HB hb; clear BK285; clear HB; have HO288 := n0_; have BK285 := n1_; have HB := n2_; clear n0_ n1_ n2_; (try clear hb); (try clear hb2); (try clear hk); (try clear hi); (try clear ho0); obtain ⟨Ao16, co16, eo16⟩ := Kd.R_slice HO288.out; subst eo16))
     go_ret
     exact ⟨by first | rfl | (simp [errW_none, errW_some] <;> rfl) | (simp [*, errW_none, errW_some] <;> rfl), pbs HB⟩
    ·rw [if_neg c10] at H
     have c10b0 : ((t286.length : Int) == 0) = false := beq_eq_false_iff_ne.mpr c10
     have c10b1 : ((t286.length : Int) != 0) = true := bne_iff_ne.mpr c10
     have c10b2 : ¬ (t286 = []) := fun h_ => c10 (by rw [h_]; rfl)
     replace H := Option.bind_eq_some_iff.mp H
     obtain ⟨t289, A170, H⟩ := H
     replace H : (if 0 ≤ t289 then (if t289 < (t286.length : Int) then ((spec_P6Pick.f l1 (t286.length : Int)).bind fun t292 => (if 0 ≤ t292 then (if t292 < (t286.length : Int) then ((impl_SoundFrom.f ((rd_T34 t286 t289).f0) ((rd_T34 t286 t289).f1) ((rd_T34 t286 t292).f0) ((rd_T34 t286 t292).f1)).bind fun t295 => ((spec_SoundFrom.f kj2 ((rd_T34 t286 t289).f0) ((rd_T34 t286 t289).f1) ((rd_T34 t286 t292).f0) ((rd_T34 t286 t292).f1)).bind fun t296 => ((impl_SoundFrom.f ((rd_T34 t286 t292).f0) ((rd_T34 t286 t292).f1) ((rd_T34 t286 t289).f0) ((rd_T34 t286 t289).f1)).bind fun t297 => (if t295 = t296 then (if t296 < 0 then (none) else (if t296 > 8 then (none) else (if ((t296 == 8) != (((rd_T34 t286 t289).f0) == ((rd_T34 t286 t292).f0) && (((rd_T34 t286 t289).f1) == ((rd_T34 t286 t292).f1)))) = true then (none) else (if t296 < 8 then (if t297 = (Int.tmod (wrap64 (t296 + 4)) 8) then (if t296 = 8 then (laws_FnSounds.j1 kj2 l1 t286 t296 (t297 != 8) t282 t283 t284 ((rd_T34 t286 t289).f0) ((rd_T34 t286 t289).f1) ((rd_T34 t286 t292).f0) ((rd_T34 t286 t292).f1)) else (laws_FnSounds.j1 kj2 l1 t286 t296 false t282 t283 t284 ((rd_T34 t286 t289).f0) ((rd_T34 t286 t289).f1) ((rd_T34 t286 t292).f0) ((rd_T34 t286 t292).f1))) else (none)) else (if t296 = 8 then (laws_FnSounds.j1 kj2 l1 t286 t296 (t297 != 8) t282 t283 t284 ((rd_T34 t286 t289).f0) ((rd_T34 t286 t289).f1) ((rd_T34 t286 t292).f0) ((rd_T34 t286 t292).f1)) else (laws_FnSounds.j1 kj2 l1 t286 t296 false t282 t283 t284 ((rd_T34 t286 t289).f0) ((rd_T34 t286 t289).f1) ((rd_T34 t286 t292).f0) ((rd_T34 t286 t292).f1))))))) else (none))))) else (none)) else (none))) else (none)) else (none)) = some r := H
     have A17 := Aside0.mk A170
     clear A170
     by_cases c18 : 0 ≤ t289
     ·rw [if_pos c18] at H
      have c18b0 : decide (0 ≤ t289) = true := decide_eq_true c18
      clear c18
      by_cases c19 : t289 < (t286.length : Int)
      ·rw [if_pos c19] at H
       have c19b0 : decide (t289 < (t286.length : Int)) = true := decide_eq_true c19
       clear c19
       replace H := Option.bind_eq_some_iff.mp H
       obtain ⟨t292, A200, H⟩ := H
       replace H : (if 0 ≤ t292 then (if t292 < (t286.length : Int) then ((impl_SoundFrom.f ((rd_T34 t286 t289).f0) ((rd_T34 t286 t289).f1) ((rd_T34 t286 t292).f0) ((rd_T34 t286 t292).f1)).bind fun t295 => ((spec_SoundFrom.f kj2 ((rd_T34 t286 t289).f0) ((rd_T34 t286 t289).f1) ((rd_T34 t286 t292).f0) ((rd_T34 t286 t292).f1)).bind fun t296 => ((impl_SoundFrom.f ((rd_T34 t286 t292).f0) ((rd_T34 t286 t292).f1) ((rd_T34 t286 t289).f0) ((rd_T34 t286 t289).f1)).bind fun t297 => (if t295 = t296 then (if t296 < 0 then (none) else (if t296 > 8 then (none) else (if ((t296 == 8) != (((rd_T34 t286 t289).f0) == ((rd_T34 t286 t292).f0) && (((rd_T34 t286 t289).f1) == ((rd_T34 t286 t292).f1)))) = true then (none) else (if t296 < 8 then (if t297 = (Int.tmod (wrap64 (t296 + 4)) 8) then (if t296 = 8 then (laws_FnSounds.j1 kj2 l1 t286 t296 (t297 != 8) t282 t283 t284 ((rd_T34 t286 t289).f0) ((rd_T34 t286 t289).f1) ((rd_T34 t286 t292).f0) ((rd_T34 t286 t292).f1)) else (laws_FnSounds.j1 kj2 l1 t286 t296 false t282 t283 t284 ((rd_T34 t286 t289).f0) ((rd_T34 t286 t289).f1) ((rd_T34 t286 t292).f0) ((rd_T34 t286 t292).f1))) else (none)) else (if t296 = 8 then (laws_FnSounds.j1 kj2 l1 t286 t296 (t297 != 8) t282 t283 t284 ((rd_T34 t286 t289).f0) ((rd_T34 t286 t289).f1) ((rd_T34 t286 t292).f0) ((rd_T34 t286 t292).f1)) else (laws_FnSounds.j1 kj2 l1 t286 t296 false t282 t283 t284 ((rd_T34 t286 t289).f0) ((rd_T34 t286 t289).f1) ((rd_T34 t286 t292).f0) ((rd_T34 t286 t292).f1))))))) else (none))))) else (none)) else (none)) = some r := H
       have A20 := Aside0.mk A200
       clear A200
       by_cases c21 : 0 ≤ t292
       ·rw [if_pos c21] at H
        have c21b0 : decide (0 ≤ t292) = true := decide_eq_true c21
        clear c21
        by_cases c22 : t292 < (t286.length : Int)
        ·rw [if_pos c22] at H
         have c22b0 : decide (t292 < (t286.length : Int)) = true := decide_eq_true c22
         clear c22
         replace H := Option.bind_eq_some_iff.mp H
         obtain ⟨t295, A230, H⟩ := H
         replace H : ((spec_SoundFrom.f kj2 ((rd_T34 t286 t289).f0) ((rd_T34 t286 t289).f1) ((rd_T34 t286 t292).f0) ((rd_T34 t286 t292).f1)).bind fun t296 => ((impl_SoundFrom.f ((rd_T34 t286 t292).f0) ((rd_T34 t286 t292).f1) ((rd_T34 t286 t289).f0) ((rd_T34 t286 t289).f1)).bind fun t297 => (if t295 = t296 then (if t296 < 0 then (none) else (if t296 > 8 then (none) else (if ((t296 == 8) != (((rd_T34 t286 t289).f0) == ((rd_T34 t286 t292).f0) && (((rd_T34 t286 t289).f1) == ((rd_T34 t286 t292).f1)))) = true then (none) else (if t296 < 8 then (if t297 = (Int.tmod (wrap64 (t296 + 4)) 8) then (if t296 = 8 then (laws_FnSounds.j1 kj2 l1 t286 t296 (t297 != 8) t282 t283 t284 ((rd_T34 t286 t289).f0) ((rd_T34 t286 t289).f1) ((rd_T34 t286 t292).f0) ((rd_T34 t286 t292).f1)) else (laws_FnSounds.j1 kj2 l1 t286 t296 false t282 t283 t284 ((rd_T34 t286 t289).f0) ((rd_T34 t286 t289).f1) ((rd_T34 t286 t292).f0) ((rd_T34 t286 t292).f1))) else (none)) else (if t296 = 8 then (laws_FnSounds.j1 kj2 l1 t286 t296 (t297 != 8) t282 t283 t284 ((rd_T34 t286 t289).f0) ((rd_T34 t286 t289).f1) ((rd_T34 t286 t292).f0) ((rd_T34 t286 t292).f1)) else (laws_FnSounds.j1 kj2 l1 t286 t296 false t282 t283 t284 ((rd_T34 t286 t289).f0) ((rd_T34 t286 t289).f1) ((rd_T34 t286 t292).f0) ((rd_T34 t286 t292).f1))))))) else (none)))) = some r := H
         have A23 := Aside0.mk A230
         clear A230
         replace H := Option.bind_eq_some_iff.mp H
         obtain ⟨t296, A240, H⟩ := H
         replace H : ((impl_SoundFrom.f ((rd_T34 t286 t292).f0) ((rd_T34 t286 t292).f1) ((rd_T34 t286 t289).f0) ((rd_T34 t286 t289).f1)).bind fun t297 => (if t295 = t296 then (if t296 < 0 then (none) else (if t296 > 8 then (none) else (if ((t296 == 8) != (((rd_T34 t286 t289).f0) == ((rd_T34 t286 t292).f0) && (((rd_T34 t286 t289).f1) == ((rd_T34 t286 t292).f1)))) = true then (none) else (if t296 < 8 then (if t297 = (Int.tmod (wrap64 (t296 + 4)) 8) then (if t296 = 8 then (laws_FnSounds.j1 kj2 l1 t286 t296 (t297 != 8) t282 t283 t284 ((rd_T34 t286 t289).f0) ((rd_T34 t286 t289).f1) ((rd_T34 t286 t292).f0) ((rd_T34 t286 t292).f1)) else (laws_FnSounds.j1 kj2 l1 t286 t296 false t282 t283 t284 ((rd_T34 t286 t289).f0) ((rd_T34 t286 t289).f1) ((rd_T34 t286 t292).f0) ((rd_T34 t286 t292).f1))) else (none)) else (if t296 = 8 then (laws_FnSounds.j1 kj2 l1 t286 t296 (t297 != 8) t282 t283 t284 ((rd_T34 t286 t289).f0) ((rd_T34 t286 t289).f1) ((rd_T34 t286 t292).f0) ((rd_T34 t286 t292).f1)) else (laws_FnSounds.j1 kj2 l1 t286 t296 false t282 t283 t284 ((rd_T34 t286 t289).f0) ((rd_T34 t286 t289).f1) ((rd_T34 t286 t292).f0) ((rd_T34 t286 t292).f1))))))) else (none))) = some r := H
         have A24 := Aside0.mk A240
         clear A240
         replace H := Option.bind_eq_some_iff.mp H
         obtain ⟨t297, A250, H⟩ := H
         replace H : (if t295 = t296 then (if t296 < 0 then (none) else (if t296 > 8 then (none) else (if ((t296 == 8) != (((rd_T34 t286 t289).f0) == ((rd_T34 t286 t292).f0) && (((rd_T34 t286 t289).f1) == ((rd_T34 t286 t292).f1)))) = true then (none) else (if t296 < 8 then (if t297 = (Int.tmod (wrap64 (t296 + 4)) 8) then (if t296 = 8 then (laws_FnSounds.j1 kj2 l1 t286 t296 (t297 != 8) t282 t283 t284 ((rd_T34 t286 t289).f0) ((rd_T34 t286 t289).f1) ((rd_T34 t286 t292).f0) ((rd_T34 t286 t292).f1)) else (laws_FnSounds.j1 kj2 l1 t286 t296 false t282 t283 t284 ((rd_T34 t286 t289).f0) ((rd_T34 t286 t289).f1) ((rd_T34 t286 t292).f0) ((rd_T34 t286 t292).f1))) else (none)) else (if t296 = 8 then (laws_FnSounds.j1 kj2 l1 t286 t296 (t297 != 8) t282 t283 t284 ((rd_T34 t286 t289).f0) ((rd_T34 t286 t289).f1) ((rd_T34 t286 t292).f0) ((rd_T34 t286 t292).f1)) else (laws_FnSounds.j1 kj2 l1 t286 t296 false t282 t283 t284 ((rd_T34 t286 t289).f0) ((rd_T34 t286 t289).f1) ((rd_T34 t286 t292).f0) ((rd_T34 t286 t292).f1))))))) else (none)) = some r := H
         have A25 := Aside0.mk A250
         clear A250
         have HC26 := Aside0.mk H
         clear H
         go_upto_region 12 with (first | ((with_reducible refine gate_callee (f := 41) rfl ?_); refine goesL_ (some 34) rfl rfl Try.func41 (by kernel_rfl) rfl #[.slice A0 l0.length c0] rfl (by (try simp only [List.map_toArray, List.map_cons, List.map_nil]); first | done | rfl | (simp only [List.length_drop, List.length_take]; rfl)) ?_; (with_reducible refine (spec_P6Room.calls kj2 _ _ l0 t282 t283 t284 _ ?side1 ?side2 A8.out).mono ?_); (case side1 => repeat (first | exact (Kd.C_below HR0.out HB.out) | (with_reducible refine Kd.C_alloc ?_ _) | (with_reducible refine Kd.C_drewN ?_ _) | (with_reducible refine Kd.C_drew ?_))); (case side2 => exact HC0.out); rintro e w27 ⟨rfl, hb⟩; refine ⟨_, rfl, ?_⟩; have n0_ := bst HB hb; clear HB; have HB := n0_; clear n0_; (try clear hb); (try clear hb2); (try clear hk); (try clear hi)) | ((with_reducible refine gate_dst (N := 5) rfl ?_); (try (refine gate_guard (by rfl) ?_; dsimp only)); refine box_event ?hg (N := 5) ?hd (cs := (mixA (Value.int .u16) [.int .i8 0, .int .i8 0] (LA.zero 10))) (t := 32) ?hr ?_; (case hd => rfl); (case hg => rfl); (case hr => first | (go_simp; done) | (go_simp; rfl)); intro gb285 hg w28 hbox hb; have n0_ := bst HB hb; have n1_ := Aside0.mk (hbox); have n2_ := gwl HB hg; have n3_ := gwl HB hg; clear HB; have HB := n0_; have BK285 := n1_; have GW285 := n2_; have GE285 := n3_; clear n0_ n1_ n2_ n3_; clear hb hbox hg) | ((with_reducible refine gate_store (p := 5) rfl ?_); refine wpList_store_lmix rfl 32 _ _ rfl gb285 (e := (Value.int .u16)) (cs' := [.int .i8 t282, .int .i8 t283]) (W' := t284) (cs := [.int .i8 0, .int .i8 0]) (W := (LA.zero 10)) (T := 32) rfl rfl (pk BK285) rfl (by kernel_rfl) rfl (fun _ => rfl) rfl ?_; intro w29 hi hk hbl; have n0_ := Aside0.mk (hbl _ _ (pbs HB) GE285.out); have n1_ := Aside0.mk (hi); clear HB; clear BK285; have HB := n0_; have BK285 := n1_; clear n0_ n1_; clear hi hk hbl) | ((with_reducible refine gate_dst (N := 35) rfl ?_); (try (refine gate_guard (by rfl) ?_; dsimp only)); refine wpList_run0 (v := .agg (mixA (Value.int .u16) [.int .i8 t282, .int .i8 t283] t284)) rfl (load_mix_run (P := Try.prog) 32 (.tmp 5) rfl gb285 rfl (show World.rangeAt _ gb285 0 ([.int .i8 t282, .int .i8 t283] ++ t284.l.map (Value.int .u16)) from mix_range (show (World.heap _)[gb285]? = some (.cells (mixA (Value.int .u16) [.int .i8 t282, .int .i8 t283] t284) 32 (0, 0)) from by (with_reducible repeat (first | refine blk_drewN ?_ _ | refine blk_drew ?_ | refine blk_alloc ?_ _)); exact BK285.out)) Try.underlying32 rfl (by kernel_rfl) rfl) ?_) | ((with_reducible refine gate_callee (f := 42) rfl ?_); refine goesL_ (some 36) rfl rfl Try.func42 (by kernel_rfl) rfl #[.agg (mixA (Value.int .u16) [.int .i8 t282, .int .i8 t283] t284)] rfl (by (try simp only [List.map_toArray, List.map_cons, List.map_nil]); first | done | rfl | (simp only [List.length_drop, List.length_take]; rfl)) ?_; (with_reducible refine (spec_P6Free.calls kj2 t282 t283 t284 t286 _ A9.out).mono ?_); rintro e w31 ⟨v287, rfl, ho0, hb⟩; refine ⟨_, rfl, ?_⟩; have n0_ := Aside0.mk (Kd.R_lower ho0 (below_size (by repeat (first | (with_reducible first | exact HB.out | apply below_alloc | apply pw_below_drewN | apply below_drew1 | refine below_set ?_ GE285.out) | exact HB.out)))); have n1_ := bkb BK285 hb; have n2_ := bst HB hb; clear BK285; clear HB; have HO288 := n0_; have BK285 := n1_; have HB := n2_; clear n0_ n1_ n2_; (try clear hb); (try clear hb2); (try clear hk); (try clear hi); (try clear ho0); obtain ⟨Ao32, co32, eo32⟩ := Kd.R_slice HO288.out; subst eo32) | ((with_reducible refine gate_callee (f := 43) rfl ?_); refine goesL_ (some 44) rfl rfl Try.func43 (by kernel_rfl) rfl #[.slice A0 l0.length c0, .int .i64 (t286.length : Int)] rfl (by (try simp only [List.map_toArray, List.map_cons, List.map_nil]); first | done | rfl | (simp only [List.length_drop, List.length_take]; rfl)) ?_; (with_reducible refine (spec_P6Pick.calls _ _ l0 (t286.length : Int) t289 _ ?side1 ?side2 A17.out).mono ?_); (case side1 => repeat (first | exact (Kd.C_below HR0.out HB.out) | (with_reducible refine Kd.C_alloc ?_ _) | (with_reducible refine Kd.C_drewN ?_ _) | (with_reducible refine Kd.C_drew ?_))); (case side2 => exact HC0.out); rintro e w33 ⟨rfl, hb⟩; refine ⟨_, rfl, ?_⟩; have n0_ := krb HO288 hb; have n1_ := bkb BK285 hb; have n2_ := bst HB hb; clear HO288; clear BK285; clear HB; have HO288 := n0_; have BK285 := n1_; have HB := n2_; clear n0_ n1_ n2_; (try clear hb); (try clear hb2); (try clear hk); (try clear hi); have p290 : 0 ≤ (t289 : Int) := of_decide_eq_true (by first | (with_reducible assumption) | assumption); have q290 : t289 < (t286.length : Int) := of_decide_eq_true (by first | (with_reducible assumption) | assumption); obtain ⟨ad290, e290, hx290_0, hx290_1⟩ := at_T34 (Kd.R_reads' HO288.out).2.2 t289 p290 q290; cases e290; replace p290 := eq_true p290; replace q290 := eq_true q290) | ((with_reducible refine gate_dst (N := 7) rfl ?_); (try (refine gate_guard (by rfl) ?_; dsimp only)); refine box_event ?hg (N := 7) ?hd (cs := #[.int .i8 0, .int .i8 0]) (t := 34) ?hr ?_; (case hd => rfl); (case hg => rfl); (case hr => first | (go_simp; done) | (go_simp; rfl)); intro gb291 hg w34 hbox hb; have n0_ := Aside0.mk (Kd.R_below (Kd.R_elderB (by (with_reducible repeat (first | apply Kd.R_alloc | apply Kd.R_drewN | apply Kd.R_drew)); exact HO288.out) gb291 (Nat.le_of_eq hg.symm)) hb); have n1_ := bkb BK285 hb; have n2_ := bst HB hb; have n3_ := Aside0.mk (hbox); have n4_ := gwl HB hg; have n5_ := gwl HB hg; have n6_ := nbl BK285 hg; have n7_ := nbg BK285 hg; clear HO288; clear BK285; clear HB; have HO288 := n0_; have BK285 := n1_; have HB := n2_; have BK291 := n3_; have GW291 := n4_; have GE291 := n5_; have NB285_291 := n6_; have NB291_285 := n7_; clear n0_ n1_ n2_ n3_ n4_ n5_ n6_ n7_; clear hb hbox hg; have hnb35 := NB291_285.out; have hnc35 := NB285_291.out; have hcz36_0 : w34.cell? ⟨gb291, 0, none⟩ = some (.int .i8 0) := (blk_cell BK291.out 0).trans rfl; have hcz36_1 : w34.cell? ⟨gb291, 1, none⟩ = some (.int .i8 0) := (blk_cell BK291.out 1).trans rfl; have hfz36_0 := blk_frozen BK291.out 0; have hfz36_1 := blk_frozen BK291.out 1) | ((with_reducible refine gate_callee (f := 43) rfl ?_); refine goesL_ (some 51) rfl rfl Try.func43 (by kernel_rfl) rfl #[.slice A1 l1.length c1, .int .i64 (t286.length : Int)] rfl (by (try simp only [List.map_toArray, List.map_cons, List.map_nil]); first | done | rfl | (simp only [List.length_drop, List.length_take]; rfl)) ?_; (with_reducible refine (spec_P6Pick.calls _ _ l1 (t286.length : Int) t292 _ ?side1 ?side2 A20.out).mono ?_); (case side1 => exact Kd.C_below HR1.out (pbs HB)); (case side2 => exact HC1.out); rintro e w37 ⟨rfl, hb⟩; refine ⟨_, rfl, ?_⟩; have n0_ := Aside0.mk (Kd.R_below (by (with_reducible repeat (first | apply Kd.R_alloc | apply Kd.R_drewN | apply Kd.R_drew)); exact (Kd.R_mono (Kd.R_far (p := ⟨gb291, 1, none⟩) (Kd.R_far (p := ⟨gb291, 0, none⟩) (Kd.R_mono HO288.out (fun k_ hk => (⟨hk, hk.2⟩ : _ ∧ k_ ≠ gb291))) (fun _ hk => hk.2) (.int .i8 ((rd_T34 t286 t289).f0))) (fun _ hk => hk.2) (.int .i8 ((rd_T34 t286 t289).f1))) (fun _ h_ => h_.1))) hb); have n1_ := Aside0.mk (blk_below (g := gb285) (o := .cells (mixA (Value.int .u16) [.int .i8 t282, .int .i8 t283] t284) 32 (0, 0)) (by (with_reducible repeat (first | refine blk_drewN ?_ _ | refine blk_drew ?_ | refine blk_alloc ?_ _)); refine blk_far ?_ NB285_291.out _; (with_reducible repeat (first | refine blk_drewN ?_ _ | refine blk_drew ?_ | refine blk_alloc ?_ _)); refine blk_far ?_ NB285_291.out _; (with_reducible repeat (first | refine blk_drewN ?_ _ | refine blk_drew ?_ | refine blk_alloc ?_ _)); exact BK285.out) hb); have n2_ := Aside0.mk (blk_below (g := gb291) (o := .cells #[.int .i8 ((rd_T34 t286 t289).f0), .int .i8 ((rd_T34 t286 t289).f1)] 34 (0, 0)) (by (with_reducible repeat (first | refine blk_drewN ?_ _ | refine blk_drew ?_ | refine blk_alloc ?_ _)); refine blk_put (cs := #[.int .i8 ((rd_T34 t286 t289).f0), .int .i8 0]) ?_ 1 _ rfl; (with_reducible repeat (first | refine blk_drewN ?_ _ | refine blk_drew ?_ | refine blk_alloc ?_ _)); refine blk_put (cs := #[.int .i8 0, .int .i8 0]) ?_ 0 _ rfl; (with_reducible repeat (first | refine blk_drewN ?_ _ | refine blk_drew ?_ | refine blk_alloc ?_ _)); exact BK291.out) hb); have n3_ := bst HB hb; clear HO288; clear BK285; clear BK291; clear HB; have HO288 := n0_; have BK285 := n1_; have BK291 := n2_; have HB := n3_; clear n0_ n1_ n2_ n3_; (try clear hb); (try clear hb2); (try clear hk); (try clear hi); have p293 : 0 ≤ (t292 : Int) := of_decide_eq_true (by first | (with_reducible assumption) | assumption); have q293 : t292 < (t286.length : Int) := of_decide_eq_true (by first | (with_reducible assumption) | assumption); obtain ⟨ad293, e293, hx293_0, hx293_1⟩ := at_T34 (Kd.R_reads' HO288.out).2.2 t292 p293 q293; obtain rfl : ad290 = ad293 := (by injection e293); replace p293 := eq_true p293; replace q293 := eq_true q293) | ((with_reducible refine gate_dst (N := 8) rfl ?_); (try (refine gate_guard (by rfl) ?_; dsimp only)); refine box_event ?hg (N := 8) ?hd (cs := #[.int .i8 0, .int .i8 0]) (t := 34) ?hr ?_; (case hd => rfl); (case hg => rfl); (case hr => first | (go_simp; done) | (go_simp; rfl)); intro gb294 hg w38 hbox hb; have n0_ := Aside0.mk (Kd.R_below (Kd.R_elderB (by (with_reducible repeat (first | apply Kd.R_alloc | apply Kd.R_drewN | apply Kd.R_drew)); exact HO288.out) gb294 (Nat.le_of_eq hg.symm)) hb); have n1_ := bkb BK285 hb; have n2_ := bkb BK291 hb; have n3_ := bst HB hb; have n4_ := Aside0.mk (hbox); have n5_ := gwl HB hg; have n6_ := gwl HB hg; have n7_ := nbl BK285 hg; have n8_ := nbg BK285 hg; have n9_ := nbl BK291 hg; have n10_ := nbg BK291 hg; clear HO288; clear BK285; clear BK291; clear HB; have HO288 := n0_; have BK285 := n1_; have BK291 := n2_; have HB := n3_; have BK294 := n4_; have GW294 := n5_; have GE294 := n6_; have NB285_294 := n7_; have NB294_285 := n8_; have NB291_294 := n9_; have NB294_291 := n10_; clear n0_ n1_ n2_ n3_ n4_ n5_ n6_ n7_ n8_ n9_ n10_; clear hb hbox hg; have hnb39 := NB294_285.out; have hnc39 := NB285_294.out; have hnb40 := NB294_291.out; have hnc40 := NB291_294.out; have hcz41_0 : w38.cell? ⟨gb294, 0, none⟩ = some (.int .i8 0) := (blk_cell BK294.out 0).trans rfl; have hcz41_1 : w38.cell? ⟨gb294, 1, none⟩ = some (.int .i8 0) := (blk_cell BK294.out 1).trans rfl; have hfz41_0 := blk_frozen BK294.out 0; have hfz41_1 := blk_frozen BK294.out 1; have hcz42_0 : w38.cell? ⟨gb291, 0, none⟩ = some (.int .i8 ((rd_T34 t286 t289).f0)) := (blk_cell BK291.out 0).trans rfl; have hcz42_1 : w38.cell? ⟨gb291, 1, none⟩ = some (.int .i8 ((rd_T34 t286 t289).f1)) := (blk_cell BK291.out 1).trans rfl; have hfz42_0 := blk_frozen BK291.out 0; have hfz42_1 := blk_frozen BK291.out 1) | ((with_reducible refine gate_callee (f := 44) rfl ?_); refine goesL_ (some 56) rfl rfl Try.func44 (by kernel_rfl) rfl #[.agg #[.int .i8 ((rd_T34 t286 t289).f0), .int .i8 ((rd_T34 t286 t289).f1)], .agg #[.int .i8 ((rd_T34 t286 t292).f0), .int .i8 ((rd_T34 t286 t292).f1)]] rfl (by (try simp only [List.map_toArray, List.map_cons, List.map_nil]); first | done | rfl | (simp only [List.length_drop, List.length_take]; rfl)) ?_; (with_reducible refine (impl_SoundFrom.calls ((rd_T34 t286 t289).f0) ((rd_T34 t286 t289).f1) ((rd_T34 t286 t292).f0) ((rd_T34 t286 t292).f1) t295 _ A23.out).mono ?_); rintro e w43 ⟨rfl, hb⟩; refine ⟨_, rfl, ?_⟩; have n0_ := Aside0.mk (Kd.R_below (by (with_reducible repeat (first | apply Kd.R_alloc | apply Kd.R_drewN | apply Kd.R_drew)); exact (Kd.R_mono (Kd.R_far (p := ⟨gb294, 1, none⟩) (Kd.R_far (p := ⟨gb294, 0, none⟩) (Kd.R_mono HO288.out (fun k_ hk => (⟨hk, hk.2⟩ : _ ∧ k_ ≠ gb294))) (fun _ hk => hk.2) (.int .i8 ((rd_T34 t286 t292).f0))) (fun _ hk => hk.2) (.int .i8 ((rd_T34 t286 t292).f1))) (fun _ h_ => h_.1))) hb); have n1_ := Aside0.mk (blk_below (g := gb285) (o := .cells (mixA (Value.int .u16) [.int .i8 t282, .int .i8 t283] t284) 32 (0, 0)) (by (with_reducible repeat (first | refine blk_drewN ?_ _ | refine blk_drew ?_ | refine blk_alloc ?_ _)); refine blk_far ?_ NB285_294.out _; (with_reducible repeat (first | refine blk_drewN ?_ _ | refine blk_drew ?_ | refine blk_alloc ?_ _)); refine blk_far ?_ NB285_294.out _; (with_reducible repeat (first | refine blk_drewN ?_ _ | refine blk_drew ?_ | refine blk_alloc ?_ _)); exact BK285.out) hb); have n2_ := Aside0.mk (blk_below (g := gb291) (o := .cells #[.int .i8 ((rd_T34 t286 t289).f0), .int .i8 ((rd_T34 t286 t289).f1)] 34 (0, 0)) (by (with_reducible repeat (first | refine blk_drewN ?_ _ | refine blk_drew ?_ | refine blk_alloc ?_ _)); refine blk_far ?_ NB291_294.out _; (with_reducible repeat (first | refine blk_drewN ?_ _ | refine blk_drew ?_ | refine blk_alloc ?_ _)); refine blk_far ?_ NB291_294.out _; (with_reducible repeat (first | refine blk_drewN ?_ _ | refine blk_drew ?_ | refine blk_alloc ?_ _)); exact BK291.out) hb); have n3_ := Aside0.mk (blk_below (g := gb294) (o := .cells #[.int .i8 ((rd_T34 t286 t292).f0), .int .i8 ((rd_T34 t286 t292).f1)] 34 (0, 0)) (by (with_reducible repeat (first | refine blk_drewN ?_ _ | refine blk_drew ?_ | refine blk_alloc ?_ _)); refine blk_put (cs := #[.int .i8 ((rd_T34 t286 t292).f0), .int .i8 0]) ?_ 1 _ rfl; (with_reducible repeat (first | refine blk_drewN ?_ _ | refine blk_drew ?_ | refine blk_alloc ?_ _)); refine blk_put (cs := #[.int .i8 0, .int .i8 0]) ?_ 0 _ rfl; (with_reducible repeat (first | refine blk_drewN ?_ _ | refine blk_drew ?_ | refine blk_alloc ?_ _)); exact BK294.out) hb); have n4_ := bst HB hb; clear HO288; clear BK285; clear BK291; clear BK294; clear HB; have HO288 := n0_; have BK285 := n1_; have BK291 := n2_; have BK294 := n3_; have HB := n4_; clear n0_ n1_ n2_ n3_ n4_; (try clear hb); (try clear hb2); (try clear hk); (try clear hi); have hcz44_0 : w43.cell? ⟨gb291, 0, none⟩ = some (.int .i8 ((rd_T34 t286 t289).f0)) := (blk_cell BK291.out 0).trans rfl; have hcz44_1 : w43.cell? ⟨gb291, 1, none⟩ = some (.int .i8 ((rd_T34 t286 t289).f1)) := (blk_cell BK291.out 1).trans rfl; have hfz44_0 := blk_frozen BK291.out 0; have hfz44_1 := blk_frozen BK291.out 1; have hcz45_0 : w43.cell? ⟨gb294, 0, none⟩ = some (.int .i8 ((rd_T34 t286 t292).f0)) := (blk_cell BK294.out 0).trans rfl; have hcz45_1 : w43.cell? ⟨gb294, 1, none⟩ = some (.int .i8 ((rd_T34 t286 t292).f1)) := (blk_cell BK294.out 1).trans rfl; have hfz45_0 := blk_frozen BK294.out 0; have hfz45_1 := blk_frozen BK294.out 1) | ((with_reducible refine gate_callee (f := 45) rfl ?_); refine goesL_ (some 59) rfl rfl Try.func45 (by kernel_rfl) rfl #[.agg #[.int .i8 ((rd_T34 t286 t289).f0), .int .i8 ((rd_T34 t286 t289).f1)], .agg #[.int .i8 ((rd_T34 t286 t292).f0), .int .i8 ((rd_T34 t286 t292).f1)]] rfl (by (try simp only [List.map_toArray, List.map_cons, List.map_nil]); first | done | rfl | (simp only [List.length_drop, List.length_take]; rfl)) ?_; (with_reducible refine (spec_SoundFrom.calls kj2 ((rd_T34 t286 t289).f0) ((rd_T34 t286 t289).f1) ((rd_T34 t286 t292).f0) ((rd_T34 t286 t292).f1) t296 _ A24.out).mono ?_); rintro e w46 ⟨rfl, hb⟩; refine ⟨_, rfl, ?_⟩; have n0_ := krb HO288 hb; have n1_ := bkb BK285 hb; have n2_ := bkb BK291 hb; have n3_ := bkb BK294 hb; have n4_ := bst HB hb; clear HO288; clear BK285; clear BK291; clear BK294; clear HB; have HO288 := n0_; have BK285 := n1_; have BK291 := n2_; have BK294 := n3_; have HB := n4_; clear n0_ n1_ n2_ n3_ n4_; (try clear hb); (try clear hb2); (try clear hk); (try clear hi); have hcz47_0 : w46.cell? ⟨gb294, 0, none⟩ = some (.int .i8 ((rd_T34 t286 t292).f0)) := (blk_cell BK294.out 0).trans rfl; have hcz47_1 : w46.cell? ⟨gb294, 1, none⟩ = some (.int .i8 ((rd_T34 t286 t292).f1)) := (blk_cell BK294.out 1).trans rfl; have hfz47_0 := blk_frozen BK294.out 0; have hfz47_1 := blk_frozen BK294.out 1; have hcz48_0 : w46.cell? ⟨gb291, 0, none⟩ = some (.int .i8 ((rd_T34 t286 t289).f0)) := (blk_cell BK291.out 0).trans rfl; have hcz48_1 : w46.cell? ⟨gb291, 1, none⟩ = some (.int .i8 ((rd_T34 t286 t289).f1)) := (blk_cell BK291.out 1).trans rfl; have hfz48_0 := blk_frozen BK291.out 0; have hfz48_1 := blk_frozen BK291.out 1) | ((with_reducible refine gate_callee (f := 44) rfl ?_); refine goesL_ (some 62) rfl rfl Try.func44 (by kernel_rfl) rfl #[.agg #[.int .i8 ((rd_T34 t286 t292).f0), .int .i8 ((rd_T34 t286 t292).f1)], .agg #[.int .i8 ((rd_T34 t286 t289).f0), .int .i8 ((rd_T34 t286 t289).f1)]] rfl (by (try simp only [List.map_toArray, List.map_cons, List.map_nil]); first | done | rfl | (simp only [List.length_drop, List.length_take]; rfl)) ?_; (with_reducible refine (impl_SoundFrom.calls ((rd_T34 t286 t292).f0) ((rd_T34 t286 t292).f1) ((rd_T34 t286 t289).f0) ((rd_T34 t286 t289).f1) t297 _ A25.out).mono ?_); rintro e w49 ⟨rfl, hb⟩; refine ⟨_, rfl, ?_⟩; have n0_ := krb HO288 hb; have n1_ := bkb BK285 hb; have n2_ := bkb BK291 hb; have n3_ := bkb BK294 hb; have n4_ := bst HB hb; clear HO288; clear BK285; clear BK291; clear BK294; clear HB; have HO288 := n0_; have BK285 := n1_; have BK291 := n2_; have BK294 := n3_; have HB := n4_; clear n0_ n1_ n2_ n3_ n4_; (try clear hb); (try clear hb2); (try clear hk); (try clear hi)))
         (try simp only [Act.put, List.setIfInBounds_toArray, List.set_cons_zero, List.set_cons_succ])
         go_cut [100] (fun v100 wc => ∃ (kq : Nat) (x100_25 : Bool), v100 = .bool x100_25 ∧ Aside0 (laws_FnSounds.j1 kq l1 t286 t296 x100_25 t282 t283 t284 ((rd_T34 t286 t289).f0) ((rd_T34 t286 t289).f1) ((rd_T34 t286 t292).f0) ((rd_T34 t286 t292).f1) = some r) ∧ Aside0 (kq ≤ kj2) ∧ Aside0 (Kd.R k34 34 wc w.heap.size (fun k_ => k_ ≠ gb291 ∧ k_ ≠ gb294) (.slice (some ad290) t286.length co32) t286) ∧ Aside0 (wc.heap[gb285]? = some (.cells (mixA (Value.int .u16) [.int .i8 t282, .int .i8 t283] t284) 32 (0, 0))) ∧ Aside0 (wc.heap[gb291]? = some (.cells #[.int .i8 ((rd_T34 t286 t289).f0), .int .i8 ((rd_T34 t286 t289).f1)] 34 (0, 0))) ∧ Aside0 (wc.heap[gb294]? = some (.cells #[.int .i8 ((rd_T34 t286 t292).f0), .int .i8 ((rd_T34 t286 t292).f1)] 34 (0, 0))) ∧ Aside0 (Below w.heap.size w wc))
         case first =>
          have H := HC26.out
          clear HC26
          by_cases c50 : t295 = t296
          ·rw [if_pos c50] at H
           have c50b0 : (t295 == t296) = true := beq_iff_eq.mpr c50
           have c50b1 : (t295 != t296) = false := bne_eq_false_iff_eq.mpr c50
           clear c50
           (first | rw [c50b0] | (simp only [i64_w, i32_w]; rw [c50b0]) | skip)
           by_cases c51 : t296 < 0
           ·rw [if_pos c51] at H
            exact absurd H (by simp)
           ·rw [if_neg c51] at H
            have c51b0 : decide (t296 < 0) = false := decide_eq_false c51
            clear c51
            by_cases c52 : t296 > 8
            ·rw [if_pos c52] at H
             exact absurd H (by simp)
            ·rw [if_neg c52] at H
             have c52b0 : decide (8 < t296) = false := decide_eq_false c52
             clear c52
             by_cases c53 : ((t296 == 8) != (((rd_T34 t286 t289).f0) == ((rd_T34 t286 t292).f0) && (((rd_T34 t286 t289).f1) == ((rd_T34 t286 t292).f1)))) = true
             ·rw [if_pos c53] at H
              exact absurd H (by simp)
             ·rw [if_neg c53] at H
              have c53b0 : ((t296 == 8) != (((rd_T34 t286 t289).f0) == ((rd_T34 t286 t292).f0) && (((rd_T34 t286 t289).f1) == ((rd_T34 t286 t292).f1)))) = false := by simpa using c53
              (try (have c53b1 : decide ((t296 == 8) = (((rd_T34 t286 t289).f0) == ((rd_T34 t286 t292).f0) && (((rd_T34 t286 t289).f1) == ((rd_T34 t286 t292).f1)))) = true := by simpa using c53))
              (try (have c53b2 : ((t296 == 8) == (((rd_T34 t286 t289).f0) == ((rd_T34 t286 t292).f0) && (((rd_T34 t286 t289).f1) == ((rd_T34 t286 t292).f1)))) = true := by simpa using c53))
              clear c53
              by_cases c54 : t296 < 8
              ·rw [if_pos c54] at H
               have c54b0 : decide (t296 < 8) = true := decide_eq_true c54
               clear c54
               by_cases c55 : t297 = (Int.tmod (wrap64 (t296 + 4)) 8)
               ·rw [if_pos c55] at H
                have c55b0 : (t297 == (Int.tmod (wrap64 (t296 + 4)) 8)) = true := beq_iff_eq.mpr c55
                have c55b1 : (t297 != (Int.tmod (wrap64 (t296 + 4)) 8)) = false := bne_eq_false_iff_eq.mpr c55
                clear c55
                by_cases c56 : t296 = 8
                ·rw [if_pos c56] at H
                 have c56b0 : (t296 == 8) = true := beq_iff_eq.mpr c56
                 have c56b1 : (t296 != 8) = false := bne_eq_false_iff_eq.mpr c56
                 have hqa : (((rd_T34 t286 t289).f0) == ((rd_T34 t286 t292).f0)) = true ∧ (((rd_T34 t286 t289).f1) == ((rd_T34 t286 t292).f1)) = true := by have hqb := c53b0; rw [c56b0] at hqb; revert hqb; cases (((rd_T34 t286 t289).f0) == ((rd_T34 t286 t292).f0)) <;> cases (((rd_T34 t286 t289).f1) == ((rd_T34 t286 t292).f1)) <;> decide
                 obtain ⟨hqx, hqy⟩ := hqa
                 have hqx1 : ((rd_T34 t286 t289).f0) = ((rd_T34 t286 t292).f0) := beq_iff_eq.mp hqx
                 have hqy1 : ((rd_T34 t286 t289).f1) = ((rd_T34 t286 t292).f1) := beq_iff_eq.mp hqy
                 clear c56
                 have H' := Aside0.mk H
                 clear H
                 have hnb57 := NB291_285.out
                 have hnc57 := NB285_291.out
                 have hnb58 := NB291_294.out
                 have hnc58 := NB294_291.out
                 have hcz59_0 : w49.cell? ⟨gb291, 0, none⟩ = some (.int .i8 ((rd_T34 t286 t289).f0)) := bc_ BK291.out 0
                 have hcz59_1 : w49.cell? ⟨gb291, 1, none⟩ = some (.int .i8 ((rd_T34 t286 t289).f1)) := bc_ BK291.out 1
                 have hfz59_0 := blk_frozen BK291.out 0
                 have hfz59_1 := blk_frozen BK291.out 1
                 have hnb60 := NB294_285.out
                 have hnc60 := NB285_294.out
                 have hcz61_0 : w49.cell? ⟨gb294, 0, none⟩ = some (.int .i8 ((rd_T34 t286 t292).f0)) := bc_ BK294.out 0
                 have hcz61_1 : w49.cell? ⟨gb294, 1, none⟩ = some (.int .i8 ((rd_T34 t286 t292).f1)) := bc_ BK294.out 1
                 have hfz61_0 := blk_frozen BK294.out 0
                 have hfz61_1 := blk_frozen BK294.out 1
                 go_wp2
                 go_meet
                 case rel => exact ⟨_, ((t297 != 8)), (by first | rfl | (simp; done) | (simp [*]; done)), H', ⟨by have := HJ2.out; first | omega | exact Nat.le_refl _⟩, ⟨by (with_reducible repeat (first | apply Kd.R_alloc | apply Kd.R_drewN | apply Kd.R_drew)); exact Kd.R_mono HO288.out (fun _ hk => ⟨hk.1.2, hk.2⟩)⟩, ⟨pk BK285⟩, ⟨pk BK291⟩, ⟨pk BK294⟩, ⟨pbs HB⟩⟩
                ·rw [if_neg c56] at H
                 have c56b0 : (t296 == 8) = false := beq_eq_false_iff_ne.mpr c56
                 have c56b1 : (t296 != 8) = true := bne_iff_ne.mpr c56
                 have hqa : ((((rd_T34 t286 t289).f0) == ((rd_T34 t286 t292).f0)) = false) ∨ ((((rd_T34 t286 t289).f0) == ((rd_T34 t286 t292).f0)) = true ∧ (((rd_T34 t286 t289).f1) == ((rd_T34 t286 t292).f1)) = false) := by have hqb := c53b0; rw [c56b0] at hqb; revert hqb; cases (((rd_T34 t286 t289).f0) == ((rd_T34 t286 t292).f0)) <;> cases (((rd_T34 t286 t289).f1) == ((rd_T34 t286 t292).f1)) <;> decide
                 rcases hqa with hqx | ⟨hqx, hqy⟩
                 all_goals
                  have H' := Aside0.mk H
                  clear H
                  have hnb62 := NB291_285.out
                  have hnc62 := NB285_291.out
                  have hnb63 := NB291_294.out
                  have hnc63 := NB294_291.out
                  have hcz64_0 : w49.cell? ⟨gb291, 0, none⟩ = some (.int .i8 ((rd_T34 t286 t289).f0)) := bc_ BK291.out 0
                  have hcz64_1 : w49.cell? ⟨gb291, 1, none⟩ = some (.int .i8 ((rd_T34 t286 t289).f1)) := bc_ BK291.out 1
                  have hfz64_0 := blk_frozen BK291.out 0
                  have hfz64_1 := blk_frozen BK291.out 1
                  have hnb65 := NB294_285.out
                  have hnc65 := NB285_294.out
                  have hcz66_0 : w49.cell? ⟨gb294, 0, none⟩ = some (.int .i8 ((rd_T34 t286 t292).f0)) := bc_ BK294.out 0
                  have hcz66_1 : w49.cell? ⟨gb294, 1, none⟩ = some (.int .i8 ((rd_T34 t286 t292).f1)) := bc_ BK294.out 1
                  have hfz66_0 := blk_frozen BK294.out 0
                  have hfz66_1 := blk_frozen BK294.out 1
                  go_wp2
                  go_meet
                  case rel => exact ⟨_, (false), (by first | rfl | (simp; done) | (simp [*]; done)), H', ⟨by have := HJ2.out; first | omega | exact Nat.le_refl _⟩, ⟨by (with_reducible repeat (first | apply Kd.R_alloc | apply Kd.R_drewN | apply Kd.R_drew)); exact Kd.R_mono HO288.out (fun _ hk => ⟨hk.1.2, hk.2⟩)⟩, ⟨pk BK285⟩, ⟨pk BK291⟩, ⟨pk BK294⟩, ⟨pbs HB⟩⟩
               ·rw [if_neg c55] at H
                exact absurd H (by simp)
              ·rw [if_neg c54] at H
               have c54b0 : decide (t296 < 8) = false := decide_eq_false c54
               clear c54
               by_cases c67 : t296 = 8
               ·rw [if_pos c67] at H
                have c67b0 : (t296 == 8) = true := beq_iff_eq.mpr c67
                have c67b1 : (t296 != 8) = false := bne_eq_false_iff_eq.mpr c67
                have hqa : (((rd_T34 t286 t289).f0) == ((rd_T34 t286 t292).f0)) = true ∧ (((rd_T34 t286 t289).f1) == ((rd_T34 t286 t292).f1)) = true := by have hqb := c53b0; rw [c67b0] at hqb; revert hqb; cases (((rd_T34 t286 t289).f0) == ((rd_T34 t286 t292).f0)) <;> cases (((rd_T34 t286 t289).f1) == ((rd_T34 t286 t292).f1)) <;> decide
                obtain ⟨hqx, hqy⟩ := hqa
                have hqx1 : ((rd_T34 t286 t289).f0) = ((rd_T34 t286 t292).f0) := beq_iff_eq.mp hqx
                have hqy1 : ((rd_T34 t286 t289).f1) = ((rd_T34 t286 t292).f1) := beq_iff_eq.mp hqy
                clear c67
                have H' := Aside0.mk H
                clear H
                have hnb68 := NB291_285.out
                have hnc68 := NB285_291.out
                have hnb69 := NB291_294.out
                have hnc69 := NB294_291.out
                have hcz70_0 : w49.cell? ⟨gb291, 0, none⟩ = some (.int .i8 ((rd_T34 t286 t289).f0)) := bc_ BK291.out 0
                have hcz70_1 : w49.cell? ⟨gb291, 1, none⟩ = some (.int .i8 ((rd_T34 t286 t289).f1)) := bc_ BK291.out 1
                have hfz70_0 := blk_frozen BK291.out 0
                have hfz70_1 := blk_frozen BK291.out 1
                have hnb71 := NB294_285.out
                have hnc71 := NB285_294.out
                have hcz72_0 : w49.cell? ⟨gb294, 0, none⟩ = some (.int .i8 ((rd_T34 t286 t292).f0)) := bc_ BK294.out 0
                have hcz72_1 : w49.cell? ⟨gb294, 1, none⟩ = some (.int .i8 ((rd_T34 t286 t292).f1)) := bc_ BK294.out 1
                have hfz72_0 := blk_frozen BK294.out 0
                have hfz72_1 := blk_frozen BK294.out 1
                go_wp2
                go_meet
                case rel => exact ⟨_, ((t297 != 8)), (by first | rfl | (simp; done) | (simp [*]; done)), H', ⟨by have := HJ2.out; first | omega | exact Nat.le_refl _⟩, ⟨by (with_reducible repeat (first | apply Kd.R_alloc | apply Kd.R_drewN | apply Kd.R_drew)); exact Kd.R_mono HO288.out (fun _ hk => ⟨hk.1.2, hk.2⟩)⟩, ⟨pk BK285⟩, ⟨pk BK291⟩, ⟨pk BK294⟩, ⟨pbs HB⟩⟩
               ·rw [if_neg c67] at H
                have c67b0 : (t296 == 8) = false := beq_eq_false_iff_ne.mpr c67
                have c67b1 : (t296 != 8) = true := bne_iff_ne.mpr c67
                have hqa : ((((rd_T34 t286 t289).f0) == ((rd_T34 t286 t292).f0)) = false) ∨ ((((rd_T34 t286 t289).f0) == ((rd_T34 t286 t292).f0)) = true ∧ (((rd_T34 t286 t289).f1) == ((rd_T34 t286 t292).f1)) = false) := by have hqb := c53b0; rw [c67b0] at hqb; revert hqb; cases (((rd_T34 t286 t289).f0) == ((rd_T34 t286 t292).f0)) <;> cases (((rd_T34 t286 t289).f1) == ((rd_T34 t286 t292).f1)) <;> decide
                rcases hqa with hqx | ⟨hqx, hqy⟩
                all_goals
                 have H' := Aside0.mk H
                 clear H
                 have hnb73 := NB291_285.out
                 have hnc73 := NB285_291.out
                 have hnb74 := NB291_294.out
                 have hnc74 := NB294_291.out
                 have hcz75_0 : w49.cell? ⟨gb291, 0, none⟩ = some (.int .i8 ((rd_T34 t286 t289).f0)) := bc_ BK291.out 0
                 have hcz75_1 : w49.cell? ⟨gb291, 1, none⟩ = some (.int .i8 ((rd_T34 t286 t289).f1)) := bc_ BK291.out 1
                 have hfz75_0 := blk_frozen BK291.out 0
                 have hfz75_1 := blk_frozen BK291.out 1
                 have hnb76 := NB294_285.out
                 have hnc76 := NB285_294.out
                 have hcz77_0 : w49.cell? ⟨gb294, 0, none⟩ = some (.int .i8 ((rd_T34 t286 t292).f0)) := bc_ BK294.out 0
                 have hcz77_1 : w49.cell? ⟨gb294, 1, none⟩ = some (.int .i8 ((rd_T34 t286 t292).f1)) := bc_ BK294.out 1
                 have hfz77_0 := blk_frozen BK294.out 0
                 have hfz77_1 := blk_frozen BK294.out 1
                 go_wp2
                 go_meet
                 case rel => exact ⟨_, (false), (by first | rfl | (simp; done) | (simp [*]; done)), H', ⟨by have := HJ2.out; first | omega | exact Nat.le_refl _⟩, ⟨by (with_reducible repeat (first | apply Kd.R_alloc | apply Kd.R_drewN | apply Kd.R_drew)); exact Kd.R_mono HO288.out (fun _ hk => ⟨hk.1.2, hk.2⟩)⟩, ⟨pk BK285⟩, ⟨pk BK291⟩, ⟨pk BK294⟩, ⟨pbs HB⟩⟩
          ·rw [if_neg c50] at H
           exact absurd H (by simp)
         case rest =>
          clear HC26
          try clear c1
          try clear c2
          try clear p2
          try clear q2
          try clear hx2
          try clear c3
          try clear c4
          try clear c5
          try clear c6
          try clear p6
          try clear c7
          try clear c10
          try clear c10b0
          try clear c10b1
          try clear c10b2
          try clear c11
          try clear c18
          try clear c18b0
          try clear c19
          try clear c19b0
          try clear c21
          try clear c21b0
          try clear c22
          try clear c22b0
          try clear p29
          try clear q29
          try clear hx29
          try clear c35
          try clear c39
          try clear c40
          try clear c41
          try clear c42
          try clear c43
          try clear c44
          try clear c45
          try clear c50
          try clear c50b0
          try clear c50b1
          try clear c51
          try clear c51b0
          try clear c52
          try clear c52b0
          try clear c53
          try clear c53b0
          try clear c53b1
          try clear c53b2
          try clear c54
          try clear c54b0
          try clear c55
          try clear c55b0
          try clear c55b1
          try clear c56
          try clear c56b0
          try clear c56b1
          try clear c57
          try clear c58
          try clear c60
          try clear c62
          try clear c63
          try clear p64
          try clear c65
          try clear c67
          try clear c67b0
          try clear c67b1
          try clear c68
          try clear c69
          try clear c71
          try clear c73
          try clear c74
          try clear c76
          try clear hcz36_0
          try clear hcz36_1
          try clear hcz41_0
          try clear hcz41_1
          try clear hcz42_0
          try clear hcz42_1
          try clear hcz44_0
          try clear hcz44_1
          try clear hcz45_0
          try clear hcz45_1
          try clear hcz47_0
          try clear hcz47_1
          try clear hcz48_0
          try clear hcz48_1
          try clear hcz59_0
          try clear hcz59_1
          try clear hcz61_0
          try clear hcz61_1
          try clear hcz64_0
          try clear hcz64_1
          try clear hcz66_0
          try clear hcz66_1
          try clear hcz70_0
          try clear hcz70_1
          try clear hcz72_0
          try clear hcz72_1
          try clear hcz75_0
          try clear hcz75_1
          try clear hcz77_0
          try clear hcz77_1
          try clear hfz36_0
          try clear hfz36_1
          try clear hfz41_0
          try clear hfz41_1
          try clear hfz42_0
          try clear hfz42_1
          try clear hfz44_0
          try clear hfz44_1
          try clear hfz45_0
          try clear hfz45_1
          try clear hfz47_0
          try clear hfz47_1
          try clear hfz48_0
          try clear hfz48_1
          try clear hfz59_0
          try clear hfz59_1
          try clear hfz61_0
          try clear hfz61_1
          try clear hfz64_0
          try clear hfz64_1
          try clear hfz66_0
          try clear hfz66_1
          try clear hfz70_0
          try clear hfz70_1
          try clear hfz72_0
          try clear hfz72_1
          try clear hfz75_0
          try clear hfz75_1
          try clear hfz77_0
          try clear hfz77_1
          try clear hx290_0
          try clear hx290_1
          try clear hx293_0
          try clear hx293_1
          try clear p2
          try clear p290
          try clear p293
          try clear q290
          try clear q293
          obtain ⟨kq, x100_25, rfl, HA, HJ25, HO_6, BK285, BK291, BK294, HB⟩ := hcut
          cases kq with
          | zero => exact absurd HA.out (by simp [laws_FnSounds.j1])
          | succ kj25 =>
           have H := HA.out
           clear HA
           simp only [laws_FnSounds.j1] at H
           by_cases c78 : x100_25 = true
           ·subst c78
            have H1 : (none) = some r := by rw [if_pos rfl] at H; exact H
            clear H
            have H := H1
            clear H1
            exact absurd H (by simp)
           ·replace c78 := Bool.eq_false_iff.mpr c78
            subst c78
            have H1 : (laws_FnSounds.l0 kj25 l1 t286 t296 0 0 t282 t283 t284 ((rd_T34 t286 t289).f0) ((rd_T34 t286 t289).f1) ((rd_T34 t286 t292).f0) ((rd_T34 t286 t292).f1)) = some r := by rw [if_neg (show ¬ (false = true) by decide)] at H; exact H
            clear H
            have H := H1
            clear H1
            have H' := Aside0.mk H
            clear H
            go_wp2
            go_loopg [12, 13] kj25 (fun kq v12 v13 w' => ∃ (x12_3 : Int) (x13_3 : Int), v12 = .int .i64 x12_3 ∧ v13 = .int .i64 x13_3 ∧ Aside0 (laws_FnSounds.l0 kq l1 t286 t296 x12_3 x13_3 t282 t283 t284 ((rd_T34 t286 t289).f0) ((rd_T34 t286 t289).f1) ((rd_T34 t286 t292).f0) ((rd_T34 t286 t292).f1) = some r) ∧ Aside0 (kq ≤ kj25) ∧ Aside0 (Kd.R k34 34 w' w.heap.size (fun k_ => k_ ≠ gb291 ∧ k_ ≠ gb294) (.slice (some ad290) t286.length co32) t286) ∧ Aside0 (w'.heap[gb285]? = some (.cells (mixA (Value.int .u16) [.int .i8 t282, .int .i8 t283] t284) 32 (0, 0))) ∧ Aside0 (w'.heap[gb291]? = some (.cells #[.int .i8 ((rd_T34 t286 t289).f0), .int .i8 ((rd_T34 t286 t289).f1)] 34 (0, 0))) ∧ Aside0 (w'.heap[gb294]? = some (.cells #[.int .i8 ((rd_T34 t286 t292).f0), .int .i8 ((rd_T34 t286 t292).f1)] 34 (0, 0))) ∧ Aside0 (Below w.heap.size w w'))
            case atStart => exact ⟨(0), (0), (by first | rfl | (simp; done) | (simp [*]; done)), (by first | rfl | (simp; done) | (simp [*]; done)), H', ⟨Nat.le_refl _⟩, ⟨by (with_reducible repeat (first | apply Kd.R_alloc | apply Kd.R_drewN | apply Kd.R_drew)); exact HO_6.out⟩, ⟨pk BK285⟩, ⟨pk BK291⟩, ⟨pk BK294⟩, ⟨pbs HB⟩⟩
            case round =>
             clear H'
             try clear c1
             try clear c2
             try clear p2
             try clear q2
             try clear hx2
             try clear c3
             try clear c4
             try clear c5
             try clear c6
             try clear p6
             try clear c7
             try clear c10
             try clear c10b0
             try clear c10b1
             try clear c10b2
             try clear c11
             try clear c18
             try clear c18b0
             try clear c19
             try clear c19b0
             try clear c21
             try clear c21b0
             try clear c22
             try clear c22b0
             try clear p29
             try clear q29
             try clear hx29
             try clear c35
             try clear c39
             try clear c40
             try clear c41
             try clear c42
             try clear c43
             try clear c44
             try clear c45
             try clear c50
             try clear c50b0
             try clear c50b1
             try clear c51
             try clear c51b0
             try clear c52
             try clear c52b0
             try clear c53
             try clear c53b0
             try clear c53b1
             try clear c53b2
             try clear c54
             try clear c54b0
             try clear c55
             try clear c55b0
             try clear c55b1
             try clear c56
             try clear c56b0
             try clear c56b1
             try clear c57
             try clear c58
             try clear c60
             try clear c62
             try clear c63
             try clear p64
             try clear c65
             try clear c67
             try clear c67b0
             try clear c67b1
             try clear c68
             try clear c69
             try clear c71
             try clear c73
             try clear c74
             try clear c76
             try clear c78
             try clear hcz36_0
             try clear hcz36_1
             try clear hcz41_0
             try clear hcz41_1
             try clear hcz42_0
             try clear hcz42_1
             try clear hcz44_0
             try clear hcz44_1
             try clear hcz45_0
             try clear hcz45_1
             try clear hcz47_0
             try clear hcz47_1
             try clear hcz48_0
             try clear hcz48_1
             try clear hcz59_0
             try clear hcz59_1
             try clear hcz61_0
             try clear hcz61_1
             try clear hcz64_0
             try clear hcz64_1
             try clear hcz66_0
             try clear hcz66_1
             try clear hcz70_0
             try clear hcz70_1
             try clear hcz72_0
             try clear hcz72_1
             try clear hcz75_0
             try clear hcz75_1
             try clear hcz77_0
             try clear hcz77_1
             try clear hfz36_0
             try clear hfz36_1
             try clear hfz41_0
             try clear hfz41_1
             try clear hfz42_0
             try clear hfz42_1
             try clear hfz44_0
             try clear hfz44_1
             try clear hfz45_0
             try clear hfz45_1
             try clear hfz47_0
             try clear hfz47_1
             try clear hfz48_0
             try clear hfz48_1
             try clear hfz59_0
             try clear hfz59_1
             try clear hfz61_0
             try clear hfz61_1
             try clear hfz64_0
             try clear hfz64_1
             try clear hfz66_0
             try clear hfz66_1
             try clear hfz70_0
             try clear hfz70_1
             try clear hfz72_0
             try clear hfz72_1
             try clear hfz75_0
             try clear hfz75_1
             try clear hfz77_0
             try clear hfz77_1
             try clear hx290_0
             try clear hx290_1
             try clear hx293_0
             try clear hx293_1
             try clear p2
             try clear p29
             try clear p290
             try clear p293
             try clear p6
             try clear p64
             try clear q2
             try clear q29
             try clear q290
             try clear q293
             obtain ⟨x12_3, x13_3, rfl, rfl, HA, HK3, HO_6, BK285, BK291, BK294, HB⟩ := hrel
             cases gk with
             | zero => exact absurd HA.out (by simp [laws_FnSounds.l0])
             | succ k3 =>
              have H := HA.out
              clear HA
              simp only [laws_FnSounds.l0] at H
              by_cases c79 : x13_3 < 9
              ·rw [if_pos c79] at H
               have c79b0 : decide (x13_3 < 9) = true := decide_eq_true c79
               clear c79
               replace H := Option.bind_eq_some_iff.mp H
               obtain ⟨⟨t298, t301⟩, A800, H⟩ := H
               replace H : ((spec_HearingAt.f k3 t282 t283 t284 ((rd_T34 t286 t292).f0) ((rd_T34 t286 t292).f1) x13_3).bind fun bt302 => (if t301 = bt302.2 then (if t301 = 0 then ((spec_SameSpots.f k3 t298 bt302.1).bind fun t306 => (if t306 = true then ((spec_HasSpot.f k3 bt302.1 ((rd_T34 t286 t289).f0) ((rd_T34 t286 t289).f1)).bind fun t307 => (if (t307 != (x13_3 == t296)) = true then (none) else (laws_FnSounds.l1 k3 l1 t286 t296 x12_3 x13_3 bt302.1 0 t282 t283 t284 ((rd_T34 t286 t289).f0) ((rd_T34 t286 t289).f1) ((rd_T34 t286 t292).f0) ((rd_T34 t286 t292).f1)))) else (none))) else (none)) else (none))) = some r := H
               have A80 := Aside0.mk A800
               clear A800
               replace H := Option.bind_eq_some_iff.mp H
               obtain ⟨⟨t302, t305⟩, A810, H⟩ := H
               replace H : (if t301 = t305 then (if t301 = 0 then ((spec_SameSpots.f k3 t298 t302).bind fun t306 => (if t306 = true then ((spec_HasSpot.f k3 t302 ((rd_T34 t286 t289).f0) ((rd_T34 t286 t289).f1)).bind fun t307 => (if (t307 != (x13_3 == t296)) = true then (none) else (laws_FnSounds.l1 k3 l1 t286 t296 x12_3 x13_3 t302 0 t282 t283 t284 ((rd_T34 t286 t289).f0) ((rd_T34 t286 t289).f1) ((rd_T34 t286 t292).f0) ((rd_T34 t286 t292).f1)))) else (none))) else (none)) else (none)) = some r := H
               have A81 := Aside0.mk A810
               clear A810
               by_cases c82 : t301 = t305
               ·rw [if_pos c82] at H
                have c82b0 : (t301 == t305) = true := beq_iff_eq.mpr c82
                have c82b1 : (t301 != t305) = false := bne_eq_false_iff_eq.mpr c82
                clear c82
                by_cases c83 : t301 = 0
                ·rw [if_pos c83] at H
                 have c83b0 : (t301 == 0) = true := beq_iff_eq.mpr c83
                 have c83b1 : (t301 != 0) = false := bne_eq_false_iff_eq.mpr c83
                 clear c83
                 replace H := Option.bind_eq_some_iff.mp H
                 obtain ⟨t306, A840, H⟩ := H
                 replace H : (if t306 = true then ((spec_HasSpot.f k3 t302 ((rd_T34 t286 t289).f0) ((rd_T34 t286 t289).f1)).bind fun t307 => (if (t307 != (x13_3 == t296)) = true then (none) else (laws_FnSounds.l1 k3 l1 t286 t296 x12_3 x13_3 t302 0 t282 t283 t284 ((rd_T34 t286 t289).f0) ((rd_T34 t286 t289).f1) ((rd_T34 t286 t292).f0) ((rd_T34 t286 t292).f1)))) else (none)) = some r := H
                 have A84 := Aside0.mk A840
                 clear A840
                 by_cases c85 : t306 = true
                 ·subst c85
                  have H1 : ((spec_HasSpot.f k3 t302 ((rd_T34 t286 t289).f0) ((rd_T34 t286 t289).f1)).bind fun t307 => (if (t307 != (x13_3 == t296)) = true then (none) else (laws_FnSounds.l1 k3 l1 t286 t296 x12_3 x13_3 t302 0 t282 t283 t284 ((rd_T34 t286 t289).f0) ((rd_T34 t286 t289).f1) ((rd_T34 t286 t292).f0) ((rd_T34 t286 t292).f1)))) = some r := by rw [if_pos rfl] at H; exact H
                  clear H
                  have H := H1
                  clear H1
                  replace H := Option.bind_eq_some_iff.mp H
                  obtain ⟨t307, A860, H⟩ := H
                  replace H : (if (t307 != (x13_3 == t296)) = true then (none) else (laws_FnSounds.l1 k3 l1 t286 t296 x12_3 x13_3 t302 0 t282 t283 t284 ((rd_T34 t286 t289).f0) ((rd_T34 t286 t289).f1) ((rd_T34 t286 t292).f0) ((rd_T34 t286 t292).f1))) = some r := H
                  have A86 := Aside0.mk A860
                  clear A860
                  by_cases c87 : (t307 != (x13_3 == t296)) = true
                  ·rw [if_pos c87] at H
                   exact absurd H (by simp)
                  ·rw [if_neg c87] at H
                   have c87b0 : (t307 != (x13_3 == t296)) = false := by simpa using c87
                   (try (have c87b1 : decide (t307 = (x13_3 == t296)) = true := by simpa using c87))
                   (try (have c87b2 : (t307 == (x13_3 == t296)) = true := by simpa using c87))
                   clear c87
                   have H' := Aside0.mk H
                   clear H
                   go_wp2_with (first | ((with_reducible refine gate_dst (N := 106) rfl ?_); (try (refine gate_guard (by rfl) ?_; dsimp only)); refine wpList_run0 (v := .agg (mixA (Value.int .u16) [.int .i8 t282, .int .i8 t283] t284)) rfl (load_mix_run (P := Try.prog) 32 (.tmp 5) rfl gb285 rfl (show World.rangeAt _ gb285 0 ([.int .i8 t282, .int .i8 t283] ++ t284.l.map (Value.int .u16)) from mix_range (show (World.heap _)[gb285]? = some (.cells (mixA (Value.int .u16) [.int .i8 t282, .int .i8 t283] t284) 32 (0, 0)) from by (with_reducible repeat (first | refine blk_drewN ?_ _ | refine blk_drew ?_ | refine blk_alloc ?_ _)); exact BK285.out)) Try.underlying32 rfl (by kernel_rfl) rfl) ?_; have hnb89 := NB294_285.out; have hnc89 := NB285_294.out; have hnb90 := NB294_291.out; have hnc90 := NB291_294.out; have hcz91_0 : wr.cell? ⟨gb294, 0, none⟩ = some (.int .i8 ((rd_T34 t286 t292).f0)) := (blk_cell BK294.out 0).trans rfl; have hcz91_1 : wr.cell? ⟨gb294, 1, none⟩ = some (.int .i8 ((rd_T34 t286 t292).f1)) := (blk_cell BK294.out 1).trans rfl; have hfz91_0 := blk_frozen BK294.out 0; have hfz91_1 := blk_frozen BK294.out 1) | ((with_reducible refine gate_callee (f := 16) rfl ?_); refine goesL_ (some 109) rfl rfl Try.func16 (by kernel_rfl) rfl #[.agg (mixA (Value.int .u16) [.int .i8 t282, .int .i8 t283] t284), .agg #[.int .i8 ((rd_T34 t286 t292).f0), .int .i8 ((rd_T34 t286 t292).f1)], .int .i64 x13_3] rfl (by (try simp only [List.map_toArray, List.map_cons, List.map_nil]); first | done | rfl | (simp only [List.length_drop, List.length_take]; rfl)) ?_; (with_reducible refine (impl_HearingAt.calls k3 t282 t283 t284 ((rd_T34 t286 t292).f0) ((rd_T34 t286 t292).f1) x13_3 t298 t301 _ A80.out).mono ?_); rintro e w92 ⟨v299, rfl, ho0, hb⟩; refine ⟨_, rfl, ?_⟩; have n0_ := Aside0.mk (Kd.R_elder' (by (with_reducible repeat (first | apply Kd.R_alloc | apply Kd.R_drewN | apply Kd.R_drew)); exact HO_6.out) (Kd.R_base ho0) hb); have n1_ := Aside0.mk (Kd.R_lower (Kd.R_newB (Kd.R_newB (Kd.R_new' ho0 (Kd.R_lt (by (with_reducible repeat (first | apply Kd.R_alloc | apply Kd.R_drewN | apply Kd.R_drew)); exact HO_6.out))) (g := gb291) (o := .cells #[.int .i8 ((rd_T34 t286 t289).f0), .int .i8 ((rd_T34 t286 t289).f1)] 34 (0, 0)) (pk BK291)) (g := gb294) (o := .cells #[.int .i8 ((rd_T34 t286 t292).f0), .int .i8 ((rd_T34 t286 t292).f1)] 34 (0, 0)) (pk BK294)) (below_size (by repeat (first | (with_reducible first | exact HB.out | apply below_alloc | apply pw_below_drewN | apply below_drew1 | refine below_set ?_ GE285.out | refine below_set ?_ GE291.out | refine below_set ?_ GE294.out) | exact HB.out)))); have n2_ := bkb BK285 hb; have n3_ := bkb BK291 hb; have n4_ := bkb BK294 hb; have n5_ := bst HB hb; clear HO_6; clear BK285; clear BK291; clear BK294; clear HB; have HO_6 := n0_; have HO300 := n1_; have BK285 := n2_; have BK291 := n3_; have BK294 := n4_; have HB := n5_; clear n0_ n1_ n2_ n3_ n4_ n5_; (try clear hb); (try clear hb2); (try clear hk); (try clear hi); (try clear ho0)) | ((with_reducible refine gate_dst (N := 113) rfl ?_); (try (refine gate_guard (by rfl) ?_; dsimp only)); refine wpList_run0 (v := .agg (mixA (Value.int .u16) [.int .i8 t282, .int .i8 t283] t284)) rfl (load_mix_run (P := Try.prog) 32 (.tmp 5) rfl gb285 rfl (show World.rangeAt _ gb285 0 ([.int .i8 t282, .int .i8 t283] ++ t284.l.map (Value.int .u16)) from mix_range (show (World.heap _)[gb285]? = some (.cells (mixA (Value.int .u16) [.int .i8 t282, .int .i8 t283] t284) 32 (0, 0)) from by (with_reducible repeat (first | refine blk_drewN ?_ _ | refine blk_drew ?_ | refine blk_alloc ?_ _)); exact BK285.out)) Try.underlying32 rfl (by kernel_rfl) rfl) ?_; have hcz94_0 : w92.cell? ⟨gb294, 0, none⟩ = some (.int .i8 ((rd_T34 t286 t292).f0)) := (blk_cell BK294.out 0).trans rfl; have hcz94_1 : w92.cell? ⟨gb294, 1, none⟩ = some (.int .i8 ((rd_T34 t286 t292).f1)) := (blk_cell BK294.out 1).trans rfl; have hfz94_0 := blk_frozen BK294.out 0; have hfz94_1 := blk_frozen BK294.out 1) | ((with_reducible refine gate_callee (f := 13) rfl ?_); refine goesL_ (some 116) rfl rfl Try.func13 (by kernel_rfl) rfl #[.agg (mixA (Value.int .u16) [.int .i8 t282, .int .i8 t283] t284), .agg #[.int .i8 ((rd_T34 t286 t292).f0), .int .i8 ((rd_T34 t286 t292).f1)], .int .i64 x13_3] rfl (by (try simp only [List.map_toArray, List.map_cons, List.map_nil]); first | done | rfl | (simp only [List.length_drop, List.length_take]; rfl)) ?_; (with_reducible refine (spec_HearingAt.calls k3 t282 t283 t284 ((rd_T34 t286 t292).f0) ((rd_T34 t286 t292).f1) x13_3 t302 t305 _ A81.out).mono ?_); rintro e w95 ⟨v303, rfl, ho0, hb⟩; refine ⟨_, rfl, ?_⟩; have n0_ := Aside0.mk (Kd.R_elder' (by (with_reducible repeat (first | apply Kd.R_alloc | apply Kd.R_drewN | apply Kd.R_drew)); exact HO_6.out) (Kd.R_base ho0) hb); have n1_ := Aside0.mk (Kd.R_elder' (by (with_reducible repeat (first | apply Kd.R_alloc | apply Kd.R_drewN | apply Kd.R_drew)); exact HO300.out) (Kd.R_base ho0) hb); have n2_ := Aside0.mk (Kd.R_lower (Kd.R_newB (Kd.R_newB (Kd.R_new' (Kd.R_new' ho0 (Kd.R_lt (by (with_reducible repeat (first | apply Kd.R_alloc | apply Kd.R_drewN | apply Kd.R_drew)); exact HO_6.out))) (Kd.R_lt (by (with_reducible repeat (first | apply Kd.R_alloc | apply Kd.R_drewN | apply Kd.R_drew)); exact HO300.out))) (g := gb291) (o := .cells #[.int .i8 ((rd_T34 t286 t289).f0), .int .i8 ((rd_T34 t286 t289).f1)] 34 (0, 0)) (pk BK291)) (g := gb294) (o := .cells #[.int .i8 ((rd_T34 t286 t292).f0), .int .i8 ((rd_T34 t286 t292).f1)] 34 (0, 0)) (pk BK294)) (below_size (by repeat (first | (with_reducible first | exact HB.out | apply below_alloc | apply pw_below_drewN | apply below_drew1 | refine below_set ?_ GE285.out | refine below_set ?_ GE291.out | refine below_set ?_ GE294.out) | exact HB.out)))); have n3_ := bkb BK285 hb; have n4_ := bkb BK291 hb; have n5_ := bkb BK294 hb; have n6_ := bst HB hb; clear HO_6; clear HO300; clear BK285; clear BK291; clear BK294; clear HB; have HO_6 := n0_; have HO300 := n1_; have HO304 := n2_; have BK285 := n3_; have BK291 := n4_; have BK294 := n5_; have HB := n6_; clear n0_ n1_ n2_ n3_ n4_ n5_ n6_; (try clear hb); (try clear hb2); (try clear hk); (try clear hi); (try clear ho0); obtain ⟨Ao96, co96, eo96⟩ := Kd.R_slice HO300.out; subst eo96; obtain ⟨Ao97, co97, eo97⟩ := Kd.R_slice HO304.out; subst eo97) | (go_at_call 46; (with_reducible refine (spec_SameSpots.calls k3 _ _ t298 _ _ t302 true _ ?side1 ?side2 ?side3 ?side4 A84.out).mono ?_); (case side1 => repeat (first | exact (Kd.R_reads' HO300.out).2.2 | (with_reducible refine Kd.C_alloc ?_ _) | (with_reducible refine Kd.C_drewN ?_ _) | (with_reducible refine Kd.C_drew ?_))); (case side2 => exact (Kd.R_reads' HO300.out).2.1); (case side3 => repeat (first | exact (Kd.R_reads' HO304.out).2.2 | (with_reducible refine Kd.C_alloc ?_ _) | (with_reducible refine Kd.C_drewN ?_ _) | (with_reducible refine Kd.C_drew ?_))); (case side4 => exact (Kd.R_reads' HO304.out).2.1); rintro e w' ⟨rfl, ⟨nd, rfl⟩⟩; have hnb98 := NB291_285.out; have hnc98 := NB285_291.out; have hcz99_0 : w95.cell? ⟨gb291, 0, none⟩ = some (.int .i8 ((rd_T34 t286 t289).f0)) := (blk_cell BK291.out 0).trans rfl; have hcz99_1 : w95.cell? ⟨gb291, 1, none⟩ = some (.int .i8 ((rd_T34 t286 t289).f1)) := (blk_cell BK291.out 1).trans rfl; have hfz99_0 := blk_frozen BK291.out 0; have hfz99_1 := blk_frozen BK291.out 1) | (go_at_call 47; (with_reducible refine (spec_HasSpot.calls k3 _ _ t302 ((rd_T34 t286 t289).f0) ((rd_T34 t286 t289).f1) t307 _ ?side1 ?side2 A86.out).mono ?_); (case side1 => repeat (first | exact (Kd.R_reads' HO304.out).2.2 | (with_reducible refine Kd.C_alloc ?_ _) | (with_reducible refine Kd.C_drewN ?_ _) | (with_reducible refine Kd.C_drew ?_))); (case side2 => exact (Kd.R_reads' HO304.out).2.1); rintro e w100 ⟨rfl, hb⟩; have n0_ := krb HO_6 hb; have n1_ := krb HO300 hb; have n2_ := krb HO304 hb; have n3_ := bkb BK285 hb; have n4_ := bkb BK291 hb; have n5_ := bkb BK294 hb; have n6_ := bst HB hb; clear HO_6; clear HO300; clear HO304; clear BK285; clear BK291; clear BK294; clear HB; have HO_6 := n0_; have HO300 := n1_; have HO304 := n2_; have BK285 := n3_; have BK291 := n4_; have BK294 := n5_; have HB := n6_; clear n0_ n1_ n2_ n3_ n4_ n5_ n6_; (try clear hb); (try clear hb2); (try clear hk); (try clear hi)))
                   go_loopg [18] k3 (fun kq v18 w' => ∃ (x18_4 : Int), v18 = .int .i64 x18_4 ∧ Aside0 (laws_FnSounds.l1 kq l1 t286 t296 x12_3 x13_3 t302 x18_4 t282 t283 t284 ((rd_T34 t286 t289).f0) ((rd_T34 t286 t289).f1) ((rd_T34 t286 t292).f0) ((rd_T34 t286 t292).f1) = some r) ∧ Aside0 (kq ≤ k3) ∧ Aside0 (Kd.R k34 34 w' w.heap.size (fun k_ => some k_ ≠ ((.slice Ao97 t302.length co97) : Value).ownBlock ∧ k_ ≠ gb291 ∧ k_ ≠ gb294) (.slice (some ad290) t286.length co32) t286) ∧ Aside0 (Kd.R k34 34 w' w.heap.size (fun k_ => some k_ ≠ ((.slice (some ad290) t286.length co32) : Value).ownBlock ∧ k_ ≠ gb291 ∧ k_ ≠ gb294) (.slice Ao97 t302.length co97) t302) ∧ Aside0 (w'.heap[gb285]? = some (.cells (mixA (Value.int .u16) [.int .i8 t282, .int .i8 t283] t284) 32 (0, 0))) ∧ Aside0 (w'.heap[gb291]? = some (.cells #[.int .i8 ((rd_T34 t286 t289).f0), .int .i8 ((rd_T34 t286 t289).f1)] 34 (0, 0))) ∧ Aside0 (w'.heap[gb294]? = some (.cells #[.int .i8 ((rd_T34 t286 t292).f0), .int .i8 ((rd_T34 t286 t292).f1)] 34 (0, 0))) ∧ Aside0 (Below w.heap.size w w'))
                   case atStart => exact ⟨(0), (by first | rfl | (simp; done) | (simp [*]; done)), H', ⟨Nat.le_refl _⟩, ⟨by (with_reducible repeat (first | apply Kd.R_alloc | apply Kd.R_drewN | apply Kd.R_drew)); exact Kd.R_mono HO_6.out (fun _ hk => ⟨hk.2, ⟨hk.1.1.1, hk.1.1.2⟩⟩)⟩, ⟨by (with_reducible repeat (first | apply Kd.R_alloc | apply Kd.R_drewN | apply Kd.R_drew)); exact Kd.R_mono HO304.out (fun _ hk => ⟨hk.1.1.1.2, ⟨hk.1.2, hk.2⟩⟩)⟩, ⟨pk BK285⟩, ⟨pk BK291⟩, ⟨pk BK294⟩, ⟨pbs HB⟩⟩
                   case round =>
                    clear H'
                    try clear c1
                    try clear c2
                    try clear p2
                    try clear q2
                    try clear hx2
                    try clear c3
                    try clear c4
                    try clear c5
                    try clear c6
                    try clear p6
                    try clear c7
                    try clear c8
                    try clear c9
                    try clear c10
                    try clear c10b0
                    try clear c10b1
                    try clear c10b2
                    try clear c11
                    try clear c13
                    try clear c16
                    try clear c18
                    try clear c18b0
                    try clear c19
                    try clear c19b0
                    try clear c21
                    try clear c21b0
                    try clear c22
                    try clear c22b0
                    try clear p29
                    try clear q29
                    try clear hx29
                    try clear c35
                    try clear c39
                    try clear c40
                    try clear c41
                    try clear c42
                    try clear c43
                    try clear c44
                    try clear c45
                    try clear c50
                    try clear c50b0
                    try clear c50b1
                    try clear c51
                    try clear c51b0
                    try clear c52
                    try clear c52b0
                    try clear c53
                    try clear c53b0
                    try clear c53b1
                    try clear c53b2
                    try clear c54
                    try clear c54b0
                    try clear c55
                    try clear c55b0
                    try clear c55b1
                    try clear c56
                    try clear c56b0
                    try clear c56b1
                    try clear c57
                    try clear c58
                    try clear c60
                    try clear c62
                    try clear c63
                    try clear p64
                    try clear c65
                    try clear c67
                    try clear c67b0
                    try clear c67b1
                    try clear c68
                    try clear c69
                    try clear c71
                    try clear c73
                    try clear c74
                    try clear c76
                    try clear c78
                    try clear c79
                    try clear c79b0
                    try clear c82
                    try clear c82b0
                    try clear c82b1
                    try clear c83
                    try clear c83b0
                    try clear c83b1
                    try clear c85
                    try clear c87
                    try clear c87b0
                    try clear c87b1
                    try clear c87b2
                    try clear c89
                    try clear c90
                    try clear c98
                    try clear hcz36_0
                    try clear hcz36_1
                    try clear hcz41_0
                    try clear hcz41_1
                    try clear hcz42_0
                    try clear hcz42_1
                    try clear hcz44_0
                    try clear hcz44_1
                    try clear hcz45_0
                    try clear hcz45_1
                    try clear hcz47_0
                    try clear hcz47_1
                    try clear hcz48_0
                    try clear hcz48_1
                    try clear hcz59_0
                    try clear hcz59_1
                    try clear hcz61_0
                    try clear hcz61_1
                    try clear hcz64_0
                    try clear hcz64_1
                    try clear hcz66_0
                    try clear hcz66_1
                    try clear hcz70_0
                    try clear hcz70_1
                    try clear hcz72_0
                    try clear hcz72_1
                    try clear hcz75_0
                    try clear hcz75_1
                    try clear hcz77_0
                    try clear hcz77_1
                    try clear hcz91_0
                    try clear hcz91_1
                    try clear hcz94_0
                    try clear hcz94_1
                    try clear hcz99_0
                    try clear hcz99_1
                    try clear hfz36_0
                    try clear hfz36_1
                    try clear hfz41_0
                    try clear hfz41_1
                    try clear hfz42_0
                    try clear hfz42_1
                    try clear hfz44_0
                    try clear hfz44_1
                    try clear hfz45_0
                    try clear hfz45_1
                    try clear hfz47_0
                    try clear hfz47_1
                    try clear hfz48_0
                    try clear hfz48_1
                    try clear hfz59_0
                    try clear hfz59_1
                    try clear hfz61_0
                    try clear hfz61_1
                    try clear hfz64_0
                    try clear hfz64_1
                    try clear hfz66_0
                    try clear hfz66_1
                    try clear hfz70_0
                    try clear hfz70_1
                    try clear hfz72_0
                    try clear hfz72_1
                    try clear hfz75_0
                    try clear hfz75_1
                    try clear hfz77_0
                    try clear hfz77_1
                    try clear hfz91_0
                    try clear hfz91_1
                    try clear hfz94_0
                    try clear hfz94_1
                    try clear hfz99_0
                    try clear hfz99_1
                    try clear hx290_0
                    try clear hx290_1
                    try clear hx293_0
                    try clear hx293_1
                    try clear p2
                    try clear p29
                    try clear p290
                    try clear p293
                    try clear p6
                    try clear p64
                    try clear q2
                    try clear q29
                    try clear q290
                    try clear q293
                    obtain ⟨x18_4, rfl, HA, HK4, HO_6, HO_16, BK285, BK291, BK294, HB⟩ := hrel
                    cases gk with
                    | zero => exact absurd HA.out (by simp [laws_FnSounds.l1])
                    | succ k4 =>
                     have H := HA.out
                     clear HA
                     simp only [laws_FnSounds.l1] at H
                     by_cases c101 : x18_4 < (t302.length : Int)
                     ·rw [if_pos c101] at H
                      have c101b0 : decide (x18_4 < (t302.length : Int)) = true := decide_eq_true c101
                      clear c101
                      by_cases c102 : 0 ≤ x18_4
                      ·rw [if_pos c102] at H
                       have c102b0 : decide (0 ≤ x18_4) = true := decide_eq_true c102
                       clear c102
                       replace H := Option.bind_eq_some_iff.mp H
                       obtain ⟨t309, A1030, H⟩ := H
                       replace H : (if t309 = x13_3 then (laws_FnSounds.l1 k4 l1 t286 t296 x12_3 x13_3 t302 (wrap64 (x18_4 + 1)) t282 t283 t284 ((rd_T34 t286 t289).f0) ((rd_T34 t286 t289).f1) ((rd_T34 t286 t292).f0) ((rd_T34 t286 t292).f1)) else (none)) = some r := H
                       have A103 := Aside0.mk A1030
                       clear A1030
                       by_cases c104 : t309 = x13_3
                       ·rw [if_pos c104] at H
                        have c104b0 : (t309 == x13_3) = true := beq_iff_eq.mpr c104
                        have c104b1 : (t309 != x13_3) = false := bne_eq_false_iff_eq.mpr c104
                        clear c104
                        have H' := Aside0.mk H
                        clear H
                        try go_wp2
                        have n0_ := Aside0.mk (Kd.R_drew HO_6.out)
                        have n1_ := Aside0.mk (Kd.R_drew HO_16.out)
                        have n2_ := Aside0.mk (blk_drew BK285.out)
                        have n3_ := Aside0.mk (blk_drew BK291.out)
                        have n4_ := Aside0.mk (blk_drew BK294.out)
                        have n5_ := Aside0.mk (below_drew1 HB.out)
                        clear HO_6
                        clear HO_16
                        clear BK285
                        clear BK291
                        clear BK294
                        clear HB
                        have HO_6 := n0_
                        have HO_16 := n1_
                        have BK285 := n2_
                        have BK291 := n3_
                        have BK294 := n4_
                        have HB := n5_
                        clear n0_ n1_ n2_ n3_ n4_ n5_
                        have p308 : 0 ≤ (x18_4 : Int) := of_decide_eq_true (by first | (with_reducible assumption) | assumption)
                        have q308 : x18_4 < (t302.length : Int) := of_decide_eq_true (by first | (with_reducible assumption) | assumption)
                        obtain ⟨ad308, e308, hx308_0, hx308_1⟩ := at_T34 (Kd.R_reads' HO_16.out).2.2 x18_4 p308 q308
                        cases e308
                        replace p308 := eq_true p308
                        replace q308 := eq_true q308
                        refine start_ (n := 8) (S := fun w' => w'.cell? ⟨gb294, 0, none⟩ = some (.int .i8 ((rd_T34 t286 t292).f0)) ∧ w'.cell? ⟨gb294, 1, none⟩ = some (.int .i8 ((rd_T34 t286 t292).f1)) ∧ w'.cell? (ad308.add ((x18_4).toNat * 2)) = some (.int .i8 ((rd_T34 t302 x18_4).f0)) ∧ w'.cell? ⟨(ad308.add ((x18_4).toNat * 2)).block, (ad308.add ((x18_4).toNat * 2)).off + 1, none⟩ = some (.int .i8 ((rd_T34 t302 x18_4).f1))) (ds := []) #[false, false, false, false, false, false, false, false] (by kernel_rfl) rfl rfl ⟨(blk_cell BK294.out 0).trans rfl, (blk_cell BK294.out 1).trans rfl, hx308_0, hx308_1⟩ (fun hHeld => ?_); refine with_tabW laws_FnSounds.tab25 laws_FnSounds.bits25 (fun HT_ HW_ => ?_)
                        generalize wr.drew = w105 at HO_6 HO_16 BK285 BK291 BK294 HB hx308_0 hx308_1 hHeld ⊢
                        refine pure_ (i := 0) (N := some 147) (v := ?_) (a' := ?_) #[true, false, false, false, false, false, false, false] rfl rfl (any_of HT_.out (by kernel_rfl)) (fun _ _ _ h => h) (Or.inl ⟨by rfl, ?_⟩) ?_ ?_
                        rotate_left
                        ·intro w'
                         go_simp
                         with_reducible rfl
                        rotate_left
                        ·simp only [Act.put, List.setIfInBounds_toArray, List.set_cons_zero, List.set_cons_succ, i64_w, i32_w]
                         rfl
                        refine pure_ (i := 1) (N := some 148) (v := ?_) (a' := ?_) #[true, true, false, false, false, false, false, false] rfl rfl (any_of HT_.out (by kernel_rfl)) (fun _ _ _ h => h) (Or.inl ⟨by rfl, ?_⟩) ?_ ?_
                        rotate_left
                        ·intro w'
                         go_simp
                         with_reducible rfl
                        rotate_left
                        ·simp only [Act.put, List.setIfInBounds_toArray, List.set_cons_zero, List.set_cons_succ, i64_w, i32_w]
                         rfl
                        refine pure_ (i := 2) (N := some 149) (v := ?_) (a' := ?_) #[true, true, true, false, false, false, false, false] rfl rfl (any_of HT_.out (by kernel_rfl)) (fun _ _ _ h => h) (Or.inl ⟨by rfl, ?_⟩) ?_ ?_
                        rotate_left
                        ·intro w'
                         go_simp
                         with_reducible rfl
                        rotate_left
                        ·simp only [Act.put, List.setIfInBounds_toArray, List.set_cons_zero, List.set_cons_succ, i64_w, i32_w]
                         rfl
                        refine pure_ (i := 6) (N := some 153) (v := ?_) (a' := ?_) #[true, true, true, false, false, false, true, false] rfl rfl (any_of HT_.out (by kernel_rfl)) (fun _ _ _ h => h) (Or.inl ⟨by rfl, ?_⟩) ?_ ?_
                        rotate_left
                        ·intro w'
                         go_simp
                         with_reducible rfl
                        rotate_left
                        ·simp only [Act.put, List.setIfInBounds_toArray, List.set_cons_zero, List.set_cons_succ, i64_w, i32_w]
                         rfl
                        refine take_ (i := 3) (N := some 150) (v := ?_) (a' := ?_) #[true, true, true, true, false, false, true, false] rfl rfl (take_ofW HT_.out HW_.out (by kernel_rfl)) (fun _ _ _ h => h) (Or.inl ⟨by rfl, ?_⟩) hHeld ?_ ?_
                        rotate_left
                        ·rintro w' ⟨s0, s1, s2, s3⟩
                         go_simp
                         with_reducible rfl
                        rotate_left
                        ·simp only [Act.put, List.setIfInBounds_toArray, List.set_cons_zero, List.set_cons_succ, i64_w, i32_w]
                         rfl
                        refine take_ (i := 4) (N := some 151) (v := ?_) (a' := ?_) #[true, true, true, true, true, false, true, false] rfl rfl (take_ofW HT_.out HW_.out (by kernel_rfl)) (fun _ _ _ h => h) (Or.inl ⟨by rfl, ?_⟩) hHeld ?_ ?_
                        rotate_left
                        ·rintro w' ⟨s0, s1, s2, s3⟩
                         go_simp
                         with_reducible rfl
                        rotate_left
                        ·simp only [Act.put, List.setIfInBounds_toArray, List.set_cons_zero, List.set_cons_succ, i64_w, i32_w]
                         rfl
                        refine one_ (i := 5) (N := some 152) #[true, true, true, true, true, true, true, false] rfl rfl (one_of HT_.out (by kernel_rfl)) (by decide) (fun K hK => ?_)
                        refine goes_ Try.func44 (by kernel_rfl) rfl #[.agg #[.int .i8 ((rd_T34 t302 x18_4).f0), .int .i8 ((rd_T34 t302 x18_4).f1)], .agg #[.int .i8 ((rd_T34 t286 t292).f0), .int .i8 ((rd_T34 t286 t292).f1)]] (by rfl) rfl rfl (by (try simp only [List.map_toArray, List.map_cons, List.map_nil]); first | done | rfl | (simp only [List.length_drop, List.length_take]; rfl)) ?_
                        with_reducible refine (impl_SoundFrom.calls ((rd_T34 t302 x18_4).f0) ((rd_T34 t302 x18_4).f1) ((rd_T34 t286 t292).f0) ((rd_T34 t286 t292).f1) t309 _ A103.out).mono ?_
                        rintro e w106 ⟨rfl, hb⟩
                        have HS2_ := (hb.cell (World.block_lt_of_cell? _ _ (hHeld.2.2.1))).trans (hHeld.2.2.1)
                        have HS3_ := (hb.cell (World.block_lt_of_cell? _ _ (hHeld.2.2.2))).trans (hHeld.2.2.2)
                        refine ⟨_, rfl, ?_⟩
                        have n0_ := krb HO_6 hb
                        have n1_ := krb HO_16 hb
                        have n2_ := bkb BK285 hb
                        have n3_ := bkb BK291 hb
                        have n4_ := bkb BK294 hb
                        have n5_ := bst HB hb
                        clear HO_6
                        clear HO_16
                        clear BK285
                        clear BK291
                        clear BK294
                        clear HB
                        have HO_6 := n0_
                        have HO_16 := n1_
                        have BK285 := n2_
                        have BK291 := n3_
                        have BK294 := n4_
                        have HB := n5_
                        clear n0_ n1_ n2_ n3_ n4_ n5_
                        (try clear hb)
                        (try clear hb2)
                        (try clear hk)
                        (try clear hi)
                        refine hK.out _ _ ⟨(blk_cell BK294.out 0).trans rfl, (blk_cell BK294.out 1).trans rfl, HS2_, HS3_⟩ (fun hHeld => ?_)
                        clear hK K
                        refine norm_ (a' := ?_) ?_ ?_
                        rotate_left
                        ·show Act.put _ (some 152) _ = _
                         simp only [Act.put, List.setIfInBounds_toArray, List.set_cons_zero, List.set_cons_succ, i64_w, i32_w]
                         rfl
                        refine pure_ (i := 7) (N := some 154) (v := ?_) (a' := ?_) #[true, true, true, true, true, true, true, true] rfl rfl (any_of HT_.out (by kernel_rfl)) (fun _ _ _ h => h) (Or.inl ⟨by rfl, ?_⟩) ?_ ?_
                        rotate_left
                        ·intro w'
                         go_simp
                         with_reducible rfl
                        rotate_left
                        ·simp only [Act.put, List.setIfInBounds_toArray, List.set_cons_zero, List.set_cons_succ, i64_w, i32_w]
                         rfl
                        refine done_ (done_of HT_.out (by kernel_rfl)) ?_
                        try go_wp2
                        go_roundg k4
                        case measure => have := HJ2.out; have := HJ25.out; have := HK3.out; have := HK4.out; omega
                        case rel => exact ⟨(wrap64 (x18_4 + 1)), (by first | rfl | (simp; done) | (simp [*]; done)), H', ⟨by have := HJ2.out; have := HJ25.out; have := HK3.out; have := HK4.out; omega⟩, ⟨by (with_reducible repeat (first | apply Kd.R_alloc | apply Kd.R_drewN | apply Kd.R_drew)); exact HO_6.out⟩, ⟨by (with_reducible repeat (first | apply Kd.R_alloc | apply Kd.R_drewN | apply Kd.R_drew)); exact HO_16.out⟩, ⟨pk BK285⟩, ⟨pk BK291⟩, ⟨pk BK294⟩, ⟨pbs HB⟩⟩
                       ·rw [if_neg c104] at H
                        exact absurd H (by simp)
                      ·rw [if_neg c102] at H
                       exact absurd H (by simp)
                     ·rw [if_neg c101] at H
                      have c101b0 : decide (x18_4 < (t302.length : Int)) = false := decide_eq_false c101
                      clear c101
                      have H' := Aside0.mk H
                      clear H
                      go_wp2
                      go_roundg k4
                      case measure => have := HJ2.out; have := HJ25.out; have := HK3.out; have := HK4.out; omega
                      case rel => exact ⟨(wrap64 (x12_3 + (t302.length : Int))), (wrap64 (x13_3 + 1)), (by first | rfl | (simp; done) | (simp [*]; done)), (by first | rfl | (simp; done) | (simp [*]; done)), H', ⟨by have := HJ2.out; have := HJ25.out; have := HK3.out; have := HK4.out; omega⟩, ⟨by (with_reducible repeat (first | apply Kd.R_alloc | apply Kd.R_drewN | apply Kd.R_drew)); exact Kd.R_mono HO_6.out (fun _ hk => ⟨hk.2.1, hk.2.2⟩)⟩, ⟨pk BK285⟩, ⟨pk BK291⟩, ⟨pk BK294⟩, ⟨pbs HB⟩⟩
                 ·replace c85 := Bool.eq_false_iff.mpr c85
                  subst c85
                  have H1 : (none) = some r := by rw [if_neg (show ¬ (false = true) by decide)] at H; exact H
                  clear H
                  have H := H1
                  clear H1
                  exact absurd H (by simp)
                ·rw [if_neg c83] at H
                 exact absurd H (by simp)
               ·rw [if_neg c82] at H
                exact absurd H (by simp)
              ·rw [if_neg c79] at H
               have c79b0 : decide (x13_3 < 9) = false := decide_eq_false c79
               clear c79
               obtain ⟨y310, hy310⟩ : ∃ y_ : List Int, y_ = (([7] : List Int)) := ⟨_, rfl⟩
               replace H : (if y310.length + l1.length < 140737488355328 then ((spec_P6Pick.f (y310 ++ l1) (t286.length : Int)).bind fun t316 => (if 0 ≤ t316 then (if t316 < (t286.length : Int) then ((spec_SoundFrom.f k3 ((rd_T34 t286 t289).f0) ((rd_T34 t286 t289).f1) ((rd_T34 t286 t316).f0) ((rd_T34 t286 t316).f1)).bind fun t319 => ((some (([t296, t319] : List Int) : List Int)).bind fun y320 => ((impl_HearingAll.f k3 t282 t283 t284 (([(⟨((rd_T34 t286 t292).f0), ((rd_T34 t286 t292).f1)⟩ : S34), (⟨(rd_T34 t286 t316).f0, (rd_T34 t286 t316).f1⟩ : S34)] : List (S34))) y320).bind fun bt326 => ((spec_HearingAll.f k3 t282 t283 t284 (([(⟨((rd_T34 t286 t292).f0), ((rd_T34 t286 t292).f1)⟩ : S34), (⟨(rd_T34 t286 t316).f0, (rd_T34 t286 t316).f1⟩ : S34)] : List (S34))) y320).bind fun bt333 => ((spec_HearingAt.f k3 t282 t283 t284 ((rd_T34 t286 t292).f0) ((rd_T34 t286 t292).f1) t296).bind fun bt337 => (if x12_3 = (t286.length : Int) then (if bt326.2 = bt333.2 then (if bt326.2 = 0 then ((spec_SameSpots.f k3 bt326.1 bt333.1).bind fun t341 => (if t341 = true then ((spec_HasSpot.f k3 bt333.1 ((rd_T34 t286 t289).f0) ((rd_T34 t286 t289).f1)).bind fun t342 => (if t342 = true then (if bt337.2 = 0 then (some (decide ((bt333.1.length : Int) ≤ (bt337.1.length : Int)))) else (none)) else (none))) else (none))) else (none)) else (none)) else (none))))))) else (none)) else (none))) else (none)) = some r := by first | (rw [hy310]; with_reducible exact H) | (have H2_ := (Option.bind_some _ _).symm.trans H; rw [hy310]; with_reducible exact H2_) | (have H2_ := (Option.bind_some _ _).symm.trans H; with_reducible exact H2_) | with_reducible exact H | (rw [hy310]; exact H) | exact H
               have Ny310 := Aside0.mk hy310
               clear hy310
               by_cases c107 : y310.length + l1.length < 140737488355328
               ·rw [if_pos c107] at H
                have LMc107 := Aside0.mk c107
                clear c107
                obtain ⟨y313, hy313⟩ : ∃ y_ : List Int, y_ = (y310 ++ l1) := ⟨_, rfl⟩
                replace H : ((spec_P6Pick.f y313 (t286.length : Int)).bind fun t316 => (if 0 ≤ t316 then (if t316 < (t286.length : Int) then ((spec_SoundFrom.f k3 ((rd_T34 t286 t289).f0) ((rd_T34 t286 t289).f1) ((rd_T34 t286 t316).f0) ((rd_T34 t286 t316).f1)).bind fun t319 => ((some (([t296, t319] : List Int) : List Int)).bind fun y320 => ((impl_HearingAll.f k3 t282 t283 t284 (([(⟨((rd_T34 t286 t292).f0), ((rd_T34 t286 t292).f1)⟩ : S34), (⟨(rd_T34 t286 t316).f0, (rd_T34 t286 t316).f1⟩ : S34)] : List (S34))) y320).bind fun bt326 => ((spec_HearingAll.f k3 t282 t283 t284 (([(⟨((rd_T34 t286 t292).f0), ((rd_T34 t286 t292).f1)⟩ : S34), (⟨(rd_T34 t286 t316).f0, (rd_T34 t286 t316).f1⟩ : S34)] : List (S34))) y320).bind fun bt333 => ((spec_HearingAt.f k3 t282 t283 t284 ((rd_T34 t286 t292).f0) ((rd_T34 t286 t292).f1) t296).bind fun bt337 => (if x12_3 = (t286.length : Int) then (if bt326.2 = bt333.2 then (if bt326.2 = 0 then ((spec_SameSpots.f k3 bt326.1 bt333.1).bind fun t341 => (if t341 = true then ((spec_HasSpot.f k3 bt333.1 ((rd_T34 t286 t289).f0) ((rd_T34 t286 t289).f1)).bind fun t342 => (if t342 = true then (if bt337.2 = 0 then (some (decide ((bt333.1.length : Int) ≤ (bt337.1.length : Int)))) else (none)) else (none))) else (none))) else (none)) else (none)) else (none))))))) else (none)) else (none))) = some r := by first | (rw [hy313]; with_reducible exact H) | (have H2_ := (Option.bind_some _ _).symm.trans H; rw [hy313]; with_reducible exact H2_) | (have H2_ := (Option.bind_some _ _).symm.trans H; with_reducible exact H2_) | with_reducible exact H | (rw [hy313]; exact H) | exact H
                have Ny313 := Aside0.mk hy313
                clear hy313
                replace H := Option.bind_eq_some_iff.mp H
                obtain ⟨t316, A1080, H⟩ := H
                replace H : (if 0 ≤ t316 then (if t316 < (t286.length : Int) then ((spec_SoundFrom.f k3 ((rd_T34 t286 t289).f0) ((rd_T34 t286 t289).f1) ((rd_T34 t286 t316).f0) ((rd_T34 t286 t316).f1)).bind fun t319 => ((some (([t296, t319] : List Int) : List Int)).bind fun y320 => ((impl_HearingAll.f k3 t282 t283 t284 (([(⟨((rd_T34 t286 t292).f0), ((rd_T34 t286 t292).f1)⟩ : S34), (⟨(rd_T34 t286 t316).f0, (rd_T34 t286 t316).f1⟩ : S34)] : List (S34))) y320).bind fun bt326 => ((spec_HearingAll.f k3 t282 t283 t284 (([(⟨((rd_T34 t286 t292).f0), ((rd_T34 t286 t292).f1)⟩ : S34), (⟨(rd_T34 t286 t316).f0, (rd_T34 t286 t316).f1⟩ : S34)] : List (S34))) y320).bind fun bt333 => ((spec_HearingAt.f k3 t282 t283 t284 ((rd_T34 t286 t292).f0) ((rd_T34 t286 t292).f1) t296).bind fun bt337 => (if x12_3 = (t286.length : Int) then (if bt326.2 = bt333.2 then (if bt326.2 = 0 then ((spec_SameSpots.f k3 bt326.1 bt333.1).bind fun t341 => (if t341 = true then ((spec_HasSpot.f k3 bt333.1 ((rd_T34 t286 t289).f0) ((rd_T34 t286 t289).f1)).bind fun t342 => (if t342 = true then (if bt337.2 = 0 then (some (decide ((bt333.1.length : Int) ≤ (bt337.1.length : Int)))) else (none)) else (none))) else (none))) else (none)) else (none)) else (none))))))) else (none)) else (none)) = some r := H
                have A108 := Aside0.mk A1080
                clear A1080
                by_cases c109 : 0 ≤ t316
                ·rw [if_pos c109] at H
                 have c109b0 : decide (0 ≤ t316) = true := decide_eq_true c109
                 clear c109
                 by_cases c110 : t316 < (t286.length : Int)
                 ·rw [if_pos c110] at H
                  have c110b0 : decide (t316 < (t286.length : Int)) = true := decide_eq_true c110
                  clear c110
                  replace H := Option.bind_eq_some_iff.mp H
                  obtain ⟨t319, A1110, H⟩ := H
                  replace H : ((some (([t296, t319] : List Int) : List Int)).bind fun y320 => ((impl_HearingAll.f k3 t282 t283 t284 (([(⟨((rd_T34 t286 t292).f0), ((rd_T34 t286 t292).f1)⟩ : S34), (⟨(rd_T34 t286 t316).f0, (rd_T34 t286 t316).f1⟩ : S34)] : List (S34))) y320).bind fun bt326 => ((spec_HearingAll.f k3 t282 t283 t284 (([(⟨((rd_T34 t286 t292).f0), ((rd_T34 t286 t292).f1)⟩ : S34), (⟨(rd_T34 t286 t316).f0, (rd_T34 t286 t316).f1⟩ : S34)] : List (S34))) y320).bind fun bt333 => ((spec_HearingAt.f k3 t282 t283 t284 ((rd_T34 t286 t292).f0) ((rd_T34 t286 t292).f1) t296).bind fun bt337 => (if x12_3 = (t286.length : Int) then (if bt326.2 = bt333.2 then (if bt326.2 = 0 then ((spec_SameSpots.f k3 bt326.1 bt333.1).bind fun t341 => (if t341 = true then ((spec_HasSpot.f k3 bt333.1 ((rd_T34 t286 t289).f0) ((rd_T34 t286 t289).f1)).bind fun t342 => (if t342 = true then (if bt337.2 = 0 then (some (decide ((bt333.1.length : Int) ≤ (bt337.1.length : Int)))) else (none)) else (none))) else (none))) else (none)) else (none)) else (none)))))) = some r := H
                  have A111 := Aside0.mk A1110
                  clear A1110
                  obtain ⟨y320, hy320⟩ : ∃ y_ : List Int, y_ = (([t296, t319] : List Int)) := ⟨_, rfl⟩
                  replace H : ((impl_HearingAll.f k3 t282 t283 t284 (([(⟨((rd_T34 t286 t292).f0), ((rd_T34 t286 t292).f1)⟩ : S34), (⟨(rd_T34 t286 t316).f0, (rd_T34 t286 t316).f1⟩ : S34)] : List (S34))) y320).bind fun bt326 => ((spec_HearingAll.f k3 t282 t283 t284 (([(⟨((rd_T34 t286 t292).f0), ((rd_T34 t286 t292).f1)⟩ : S34), (⟨(rd_T34 t286 t316).f0, (rd_T34 t286 t316).f1⟩ : S34)] : List (S34))) y320).bind fun bt333 => ((spec_HearingAt.f k3 t282 t283 t284 ((rd_T34 t286 t292).f0) ((rd_T34 t286 t292).f1) t296).bind fun bt337 => (if x12_3 = (t286.length : Int) then (if bt326.2 = bt333.2 then (if bt326.2 = 0 then ((spec_SameSpots.f k3 bt326.1 bt333.1).bind fun t341 => (if t341 = true then ((spec_HasSpot.f k3 bt333.1 ((rd_T34 t286 t289).f0) ((rd_T34 t286 t289).f1)).bind fun t342 => (if t342 = true then (if bt337.2 = 0 then (some (decide ((bt333.1.length : Int) ≤ (bt337.1.length : Int)))) else (none)) else (none))) else (none))) else (none)) else (none)) else (none))))) = some r := by first | (rw [hy320]; with_reducible exact H) | (have H2_ := (Option.bind_some _ _).symm.trans H; rw [hy320]; with_reducible exact H2_) | (have H2_ := (Option.bind_some _ _).symm.trans H; with_reducible exact H2_) | with_reducible exact H | (rw [hy320]; exact H) | exact H
                  have Ny320 := Aside0.mk hy320
                  clear hy320
                  obtain ⟨y323, hy323⟩ : ∃ y_ : List (S34), y_ = (([(⟨((rd_T34 t286 t292).f0), ((rd_T34 t286 t292).f1)⟩ : S34), (⟨(rd_T34 t286 t316).f0, (rd_T34 t286 t316).f1⟩ : S34)] : List (S34))) := ⟨_, rfl⟩
                  replace H : ((impl_HearingAll.f k3 t282 t283 t284 y323 y320).bind fun bt326 => ((spec_HearingAll.f k3 t282 t283 t284 (([(⟨((rd_T34 t286 t292).f0), ((rd_T34 t286 t292).f1)⟩ : S34), (⟨(rd_T34 t286 t316).f0, (rd_T34 t286 t316).f1⟩ : S34)] : List (S34))) y320).bind fun bt333 => ((spec_HearingAt.f k3 t282 t283 t284 ((rd_T34 t286 t292).f0) ((rd_T34 t286 t292).f1) t296).bind fun bt337 => (if x12_3 = (t286.length : Int) then (if bt326.2 = bt333.2 then (if bt326.2 = 0 then ((spec_SameSpots.f k3 bt326.1 bt333.1).bind fun t341 => (if t341 = true then ((spec_HasSpot.f k3 bt333.1 ((rd_T34 t286 t289).f0) ((rd_T34 t286 t289).f1)).bind fun t342 => (if t342 = true then (if bt337.2 = 0 then (some (decide ((bt333.1.length : Int) ≤ (bt337.1.length : Int)))) else (none)) else (none))) else (none))) else (none)) else (none)) else (none))))) = some r := by first | (rw [hy323]; with_reducible exact H) | (have H2_ := (Option.bind_some _ _).symm.trans H; rw [hy323]; with_reducible exact H2_) | (have H2_ := (Option.bind_some _ _).symm.trans H; with_reducible exact H2_) | with_reducible exact H | (rw [hy323]; exact H) | exact H
                  have Ny323 := Aside0.mk hy323
                  clear hy323
                  replace H := Option.bind_eq_some_iff.mp H
                  obtain ⟨⟨t326, t329⟩, A1120, H⟩ := H
                  replace H : ((spec_HearingAll.f k3 t282 t283 t284 (([(⟨((rd_T34 t286 t292).f0), ((rd_T34 t286 t292).f1)⟩ : S34), (⟨(rd_T34 t286 t316).f0, (rd_T34 t286 t316).f1⟩ : S34)] : List (S34))) y320).bind fun bt333 => ((spec_HearingAt.f k3 t282 t283 t284 ((rd_T34 t286 t292).f0) ((rd_T34 t286 t292).f1) t296).bind fun bt337 => (if x12_3 = (t286.length : Int) then (if t329 = bt333.2 then (if t329 = 0 then ((spec_SameSpots.f k3 t326 bt333.1).bind fun t341 => (if t341 = true then ((spec_HasSpot.f k3 bt333.1 ((rd_T34 t286 t289).f0) ((rd_T34 t286 t289).f1)).bind fun t342 => (if t342 = true then (if bt337.2 = 0 then (some (decide ((bt333.1.length : Int) ≤ (bt337.1.length : Int)))) else (none)) else (none))) else (none))) else (none)) else (none)) else (none)))) = some r := H
                  have A112 := Aside0.mk A1120
                  clear A1120
                  obtain ⟨y330, hy330⟩ : ∃ y_ : List (S34), y_ = (([(⟨((rd_T34 t286 t292).f0), ((rd_T34 t286 t292).f1)⟩ : S34), (⟨(rd_T34 t286 t316).f0, (rd_T34 t286 t316).f1⟩ : S34)] : List (S34))) := ⟨_, rfl⟩
                  replace H : ((spec_HearingAll.f k3 t282 t283 t284 y330 y320).bind fun bt333 => ((spec_HearingAt.f k3 t282 t283 t284 ((rd_T34 t286 t292).f0) ((rd_T34 t286 t292).f1) t296).bind fun bt337 => (if x12_3 = (t286.length : Int) then (if t329 = bt333.2 then (if t329 = 0 then ((spec_SameSpots.f k3 t326 bt333.1).bind fun t341 => (if t341 = true then ((spec_HasSpot.f k3 bt333.1 ((rd_T34 t286 t289).f0) ((rd_T34 t286 t289).f1)).bind fun t342 => (if t342 = true then (if bt337.2 = 0 then (some (decide ((bt333.1.length : Int) ≤ (bt337.1.length : Int)))) else (none)) else (none))) else (none))) else (none)) else (none)) else (none)))) = some r := by first | (rw [hy330]; with_reducible exact H) | (have H2_ := (Option.bind_some _ _).symm.trans H; rw [hy330]; with_reducible exact H2_) | (have H2_ := (Option.bind_some _ _).symm.trans H; with_reducible exact H2_) | with_reducible exact H | (rw [hy330]; exact H) | exact H
                  have Ny330 := Aside0.mk hy330
                  clear hy330
                  replace H := Option.bind_eq_some_iff.mp H
                  obtain ⟨⟨t333, t336⟩, A1130, H⟩ := H
                  replace H : ((spec_HearingAt.f k3 t282 t283 t284 ((rd_T34 t286 t292).f0) ((rd_T34 t286 t292).f1) t296).bind fun bt337 => (if x12_3 = (t286.length : Int) then (if t329 = t336 then (if t329 = 0 then ((spec_SameSpots.f k3 t326 t333).bind fun t341 => (if t341 = true then ((spec_HasSpot.f k3 t333 ((rd_T34 t286 t289).f0) ((rd_T34 t286 t289).f1)).bind fun t342 => (if t342 = true then (if bt337.2 = 0 then (some (decide ((t333.length : Int) ≤ (bt337.1.length : Int)))) else (none)) else (none))) else (none))) else (none)) else (none)) else (none))) = some r := H
                  have A113 := Aside0.mk A1130
                  clear A1130
                  replace H := Option.bind_eq_some_iff.mp H
                  obtain ⟨⟨t337, t340⟩, A1140, H⟩ := H
                  replace H : (if x12_3 = (t286.length : Int) then (if t329 = t336 then (if t329 = 0 then ((spec_SameSpots.f k3 t326 t333).bind fun t341 => (if t341 = true then ((spec_HasSpot.f k3 t333 ((rd_T34 t286 t289).f0) ((rd_T34 t286 t289).f1)).bind fun t342 => (if t342 = true then (if t340 = 0 then (some (decide ((t333.length : Int) ≤ (t337.length : Int)))) else (none)) else (none))) else (none))) else (none)) else (none)) else (none)) = some r := H
                  have A114 := Aside0.mk A1140
                  clear A1140
                  by_cases c115 : x12_3 = (t286.length : Int)
                  ·rw [if_pos c115] at H
                   have c115b0 : (x12_3 == (t286.length : Int)) = true := beq_iff_eq.mpr c115
                   have c115b1 : (x12_3 != (t286.length : Int)) = false := bne_eq_false_iff_eq.mpr c115
                   clear c115
                   by_cases c116 : t329 = t336
                   ·rw [if_pos c116] at H
                    have c116b0 : (t329 == t336) = true := beq_iff_eq.mpr c116
                    have c116b1 : (t329 != t336) = false := bne_eq_false_iff_eq.mpr c116
                    clear c116
                    by_cases c117 : t329 = 0
                    ·rw [if_pos c117] at H
                     have c117b0 : (t329 == 0) = true := beq_iff_eq.mpr c117
                     have c117b1 : (t329 != 0) = false := bne_eq_false_iff_eq.mpr c117
                     clear c117
                     replace H := Option.bind_eq_some_iff.mp H
                     obtain ⟨t341, A1180, H⟩ := H
                     replace H : (if t341 = true then ((spec_HasSpot.f k3 t333 ((rd_T34 t286 t289).f0) ((rd_T34 t286 t289).f1)).bind fun t342 => (if t342 = true then (if t340 = 0 then (some (decide ((t333.length : Int) ≤ (t337.length : Int)))) else (none)) else (none))) else (none)) = some r := H
                     have A118 := Aside0.mk A1180
                     clear A1180
                     by_cases c119 : t341 = true
                     ·subst c119
                      have H1 : ((spec_HasSpot.f k3 t333 ((rd_T34 t286 t289).f0) ((rd_T34 t286 t289).f1)).bind fun t342 => (if t342 = true then (if t340 = 0 then (some (decide ((t333.length : Int) ≤ (t337.length : Int)))) else (none)) else (none))) = some r := by rw [if_pos rfl] at H; exact H
                      clear H
                      have H := H1
                      clear H1
                      replace H := Option.bind_eq_some_iff.mp H
                      obtain ⟨t342, A1200, H⟩ := H
                      replace H : (if t342 = true then (if t340 = 0 then (some (decide ((t333.length : Int) ≤ (t337.length : Int)))) else (none)) else (none)) = some r := H
                      have A120 := Aside0.mk A1200
                      clear A1200
                      by_cases c121 : t342 = true
                      ·subst c121
                       have H1 : (if t340 = 0 then (some (decide ((t333.length : Int) ≤ (t337.length : Int)))) else (none)) = some r := by rw [if_pos rfl] at H; exact H
                       clear H
                       have H := H1
                       clear H1
                       by_cases c122 : t340 = 0
                       ·rw [if_pos c122] at H
                        have c122b0 : (t340 == 0) = true := beq_iff_eq.mpr c122
                        have c122b1 : (t340 != 0) = false := bne_eq_false_iff_eq.mpr c122
                        clear c122
                        obtain rfl := Option.some.inj H
                        go_wp2_with (first | ((with_reducible refine gate_dst (N := 160) rfl ?_); (try (refine gate_guard (by rfl) ?_; dsimp only)); refine Kd.R_lit (Kd.int .u8) _ 5 ?hg (N := 160) ?hd (xs := ([7] : List Int)) (inner := [.int .u8 7]) (ok := fun _ => True) (okp := fun _ => True) ?hr ?hp (fun _ hk => hk) trivial (Below.refl _ _) (Nat.le_refl _) (by simp) ?_; (case hd => rfl); (case hg => rfl); (case hr => first | (go_simp; done) | (go_simp; rfl)); (case hp => exact (Reps.one (show Kd.M (Kd.int .u8) _ _ _ 7 [.int .u8 7] from rfl) (Reps.none _ _))); intro v311 w123 ho124 hb hg_ hnew_; clear hg_ hnew_; (first | rw [← Ny310.out] at ho124 | (simp only [Int.reduceToNat] at ho124; rw [← Ny310.out] at ho124)); have n0_ := krb HO_6 hb; have n1_ := Aside0.mk (Kd.R_lower ho124 (below_size (by repeat (first | (with_reducible first | exact HB.out | apply below_alloc | apply pw_below_drewN | apply below_drew1 | refine below_set ?_ GE285.out | refine below_set ?_ GE291.out | refine below_set ?_ GE294.out) | exact HB.out)))); have n2_ := bkb BK285 hb; have n3_ := bkb BK291 hb; have n4_ := bkb BK294 hb; have n5_ := bst HB hb; clear HO_6; clear BK285; clear BK291; clear BK294; clear HB; have HO_6 := n0_; have HO312 := n1_; have BK285 := n2_; have BK291 := n3_; have BK294 := n4_; have HB := n5_; clear n0_ n1_ n2_ n3_ n4_ n5_; clear hb ho124) | ((with_reducible refine gate_builtin (b := .append) (xs := #[.tmp 160, .tmp 161]) rfl ?_); (try (refine gate_guard (by rfl) ?_; dsimp only)); at_builtin; refine Kd.R_append_rows (Kd.int .u8) (w0 := w) w.heap.size rfl (.tmp 160) (.tmp 161) 56 5 (.int .u8 0) 1 rfl Try.underlying56 info5 rfl (by decide) (by omega) v311 y310 l1 _ _ _ (fun _ => True) (fun _ => False) rfl rfl ?aO ?aR (fun _ _ h => h) (fun _ h => h.elim) ?aF ?aB ?aS ?aL ?_; (case aR => repeat (first | exact (Kd.C_below HR1.out HB.out) | (with_reducible refine Kd.C_alloc ?_ _) | (with_reducible refine Kd.C_drewN ?_ _) | (with_reducible refine Kd.C_drew ?_))); (case aB => exact (pbs HB)); (case aF => exact (fun _ _ => trivial)); (case aO => exact (by (with_reducible repeat (first | apply Kd.R_alloc | apply Kd.R_drewN | apply Kd.R_drew)); exact HO312.out)); (case aS => exact (below_size (by repeat (first | (with_reducible first | exact HB.out | apply below_alloc | apply pw_below_drewN | apply below_drew1 | refine below_set ?_ GE285.out | refine below_set ?_ GE291.out | refine below_set ?_ GE294.out) | exact HB.out)))); (case aL => have := LMc107.out; omega); intro v314 w125 ho hb hg hat; rw [← Ny313.out] at ho; have n0_ := Aside0.mk (Kd.R_over' (by (with_reducible repeat (first | apply Kd.R_alloc | apply Kd.R_drewN | apply Kd.R_drew)); exact HO_6.out) (Kd.R_typed (by (with_reducible repeat (first | apply Kd.R_alloc | apply Kd.R_drewN | apply Kd.R_drew)); exact HO312.out)) (by decide) hg); have n1_ := Aside0.mk (blk_grown (g := gb285) (o := .cells (mixA (Value.int .u16) [.int .i8 t282, .int .i8 t283] t284) 32 (0, 0)) (pk BK285) hg (Kd.R_ne HO312.out BK285.out (by decide))); have n2_ := Aside0.mk (blk_grown (g := gb291) (o := .cells #[.int .i8 ((rd_T34 t286 t289).f0), .int .i8 ((rd_T34 t286 t289).f1)] 34 (0, 0)) (pk BK291) hg (Kd.R_ne HO312.out BK291.out (by decide))); have n3_ := Aside0.mk (blk_grown (g := gb294) (o := .cells #[.int .i8 ((rd_T34 t286 t292).f0), .int .i8 ((rd_T34 t286 t292).f1)] 34 (0, 0)) (pk BK294) hg (Kd.R_ne HO312.out BK294.out (by decide))); have n4_ := Aside0.mk (hb); have n5_ := Aside0.mk (ho); clear HO_6; clear BK285; clear BK291; clear BK294; clear HB; clear HO312; have HO_6 := n0_; have BK285 := n1_; have BK291 := n2_; have BK294 := n3_; have HB := n4_; have HO315 := n5_; clear n0_ n1_ n2_ n3_ n4_ n5_; clear ho hb hg hat; obtain ⟨Ao126, co126, eo126⟩ := Kd.R_slice HO315.out; subst eo126) | ((with_reducible refine gate_callee (f := 43) rfl ?_); refine goesL_ (some 165) rfl rfl Try.func43 (by kernel_rfl) rfl #[.slice Ao126 y313.length co126, .int .i64 (t286.length : Int)] rfl (by (try simp only [List.map_toArray, List.map_cons, List.map_nil]); first | done | rfl | (simp only [List.length_drop, List.length_take]; rfl)) ?_; (with_reducible refine (spec_P6Pick.calls _ _ y313 (t286.length : Int) t316 _ ?side1 ?side2 A108.out).mono ?_); (case side1 => repeat (first | exact (Kd.R_reads' HO315.out).2.2 | (with_reducible refine Kd.C_alloc ?_ _) | (with_reducible refine Kd.C_drewN ?_ _) | (with_reducible refine Kd.C_drew ?_))); (case side2 => exact (Kd.R_reads' HO315.out).2.1); rintro e w127 ⟨rfl, hb⟩; refine ⟨_, rfl, ?_⟩; have n0_ := krb HO_6 hb; have n1_ := krb HO315 hb; have n2_ := bkb BK285 hb; have n3_ := bkb BK291 hb; have n4_ := bkb BK294 hb; have n5_ := bst HB hb; clear HO_6; clear HO315; clear BK285; clear BK291; clear BK294; clear HB; have HO_6 := n0_; have HO315 := n1_; have BK285 := n2_; have BK291 := n3_; have BK294 := n4_; have HB := n5_; clear n0_ n1_ n2_ n3_ n4_ n5_; (try clear hb); (try clear hb2); (try clear hk); (try clear hi); have p317 : 0 ≤ (t316 : Int) := of_decide_eq_true (by first | (with_reducible assumption) | assumption); have q317 : t316 < (t286.length : Int) := of_decide_eq_true (by first | (with_reducible assumption) | assumption); obtain ⟨ad317, e317, hx317_0, hx317_1⟩ := at_T34 (Kd.R_reads' HO_6.out).2.2 t316 p317 q317; obtain rfl : ad290 = ad317 := (by injection e317); replace p317 := eq_true p317; replace q317 := eq_true q317) | ((with_reducible refine gate_dst (N := 19) rfl ?_); (try (refine gate_guard (by rfl) ?_; dsimp only)); refine box_event ?hg (N := 19) ?hd (cs := #[.int .i8 0, .int .i8 0]) (t := 34) ?hr ?_; (case hd => rfl); (case hg => rfl); (case hr => first | (go_simp; done) | (go_simp; rfl)); intro gb318 hg w128 hbox hb; have n0_ := Aside0.mk (Kd.R_below (Kd.R_elderB (by (with_reducible repeat (first | apply Kd.R_alloc | apply Kd.R_drewN | apply Kd.R_drew)); exact HO_6.out) gb318 (Nat.le_of_eq hg.symm)) hb); have n1_ := krb HO315 hb; have n2_ := bkb BK285 hb; have n3_ := bkb BK291 hb; have n4_ := bkb BK294 hb; have n5_ := bst HB hb; have n6_ := Aside0.mk (hbox); have n7_ := gwl HB hg; have n8_ := gwl HB hg; have n9_ := nbl BK285 hg; have n10_ := nbg BK285 hg; have n11_ := nbl BK291 hg; have n12_ := nbg BK291 hg; have n13_ := nbl BK294 hg; have n14_ := nbg BK294 hg; clear HO_6; clear HO315; clear BK285; clear BK291; clear BK294; clear HB; have HO_6 := n0_; have HO315 := n1_; have BK285 := n2_; have BK291 := n3_; have BK294 := n4_; have HB := n5_; have BK318 := n6_; have GW318 := n7_; have GE318 := n8_; have NB285_318 := n9_; have NB318_285 := n10_; have NB291_318 := n11_; have NB318_291 := n12_; have NB294_318 := n13_; have NB318_294 := n14_; clear n0_ n1_ n2_ n3_ n4_ n5_ n6_ n7_ n8_ n9_ n10_ n11_ n12_ n13_ n14_; clear hb hbox hg; have hnb129 := NB318_285.out; have hnc129 := NB285_318.out; have hnb130 := NB318_291.out; have hnc130 := NB291_318.out; have hnb131 := NB318_294.out; have hnc131 := NB294_318.out; have hcz132_0 : w128.cell? ⟨gb318, 0, none⟩ = some (.int .i8 0) := (blk_cell BK318.out 0).trans rfl; have hcz132_1 : w128.cell? ⟨gb318, 1, none⟩ = some (.int .i8 0) := (blk_cell BK318.out 1).trans rfl; have hfz132_0 := blk_frozen BK318.out 0; have hfz132_1 := blk_frozen BK318.out 1; have hnb133 := NB291_285.out; have hnc133 := NB285_291.out; have hnb134 := NB291_294.out; have hnc134 := NB294_291.out; have hcz135_0 : w128.cell? ⟨gb291, 0, none⟩ = some (.int .i8 ((rd_T34 t286 t289).f0)) := (blk_cell BK291.out 0).trans rfl; have hcz135_1 : w128.cell? ⟨gb291, 1, none⟩ = some (.int .i8 ((rd_T34 t286 t289).f1)) := (blk_cell BK291.out 1).trans rfl; have hfz135_0 := blk_frozen BK291.out 0; have hfz135_1 := blk_frozen BK291.out 1) | ((with_reducible refine gate_callee (f := 45) rfl ?_); refine goesL_ (some 171) rfl rfl Try.func45 (by kernel_rfl) rfl #[.agg #[.int .i8 ((rd_T34 t286 t289).f0), .int .i8 ((rd_T34 t286 t289).f1)], .agg #[.int .i8 ((rd_T34 t286 t316).f0), .int .i8 ((rd_T34 t286 t316).f1)]] rfl (by (try simp only [List.map_toArray, List.map_cons, List.map_nil]); first | done | rfl | (simp only [List.length_drop, List.length_take]; rfl)) ?_; (with_reducible refine (spec_SoundFrom.calls k3 ((rd_T34 t286 t289).f0) ((rd_T34 t286 t289).f1) ((rd_T34 t286 t316).f0) ((rd_T34 t286 t316).f1) t319 _ A111.out).mono ?_); rintro e w136 ⟨rfl, hb⟩; refine ⟨_, rfl, ?_⟩; have n0_ := Aside0.mk (Kd.R_below (by (with_reducible repeat (first | apply Kd.R_alloc | apply Kd.R_drewN | apply Kd.R_drew)); exact (Kd.R_mono (Kd.R_far (p := ⟨gb318, 1, none⟩) (Kd.R_far (p := ⟨gb318, 0, none⟩) (Kd.R_mono HO_6.out (fun k_ hk => (⟨hk, hk.2⟩ : _ ∧ k_ ≠ gb318))) (fun _ hk => hk.2) (.int .i8 ((rd_T34 t286 t316).f0))) (fun _ hk => hk.2) (.int .i8 ((rd_T34 t286 t316).f1))) (fun _ h_ => h_.1))) hb); have n1_ := Aside0.mk (Kd.R_below (by (with_reducible repeat (first | apply Kd.R_alloc | apply Kd.R_drewN | apply Kd.R_drew)); exact (Kd.R_mono (Kd.R_far (p := ⟨gb318, 1, none⟩) (Kd.R_far (p := ⟨gb318, 0, none⟩) (Kd.R_types HO315.out BK318.out (by decide)) (fun _ hk => hk.2) (.int .i8 ((rd_T34 t286 t316).f0))) (fun _ hk => hk.2) (.int .i8 ((rd_T34 t286 t316).f1))) (fun _ h_ => h_.1))) hb); have n2_ := Aside0.mk (blk_below (g := gb285) (o := .cells (mixA (Value.int .u16) [.int .i8 t282, .int .i8 t283] t284) 32 (0, 0)) (by (with_reducible repeat (first | refine blk_drewN ?_ _ | refine blk_drew ?_ | refine blk_alloc ?_ _)); refine blk_far ?_ NB285_318.out _; (with_reducible repeat (first | refine blk_drewN ?_ _ | refine blk_drew ?_ | refine blk_alloc ?_ _)); refine blk_far ?_ NB285_318.out _; (with_reducible repeat (first | refine blk_drewN ?_ _ | refine blk_drew ?_ | refine blk_alloc ?_ _)); exact BK285.out) hb); have n3_ := Aside0.mk (blk_below (g := gb291) (o := .cells #[.int .i8 ((rd_T34 t286 t289).f0), .int .i8 ((rd_T34 t286 t289).f1)] 34 (0, 0)) (by (with_reducible repeat (first | refine blk_drewN ?_ _ | refine blk_drew ?_ | refine blk_alloc ?_ _)); refine blk_far ?_ NB291_318.out _; (with_reducible repeat (first | refine blk_drewN ?_ _ | refine blk_drew ?_ | refine blk_alloc ?_ _)); refine blk_far ?_ NB291_318.out _; (with_reducible repeat (first | refine blk_drewN ?_ _ | refine blk_drew ?_ | refine blk_alloc ?_ _)); exact BK291.out) hb); have n4_ := Aside0.mk (blk_below (g := gb294) (o := .cells #[.int .i8 ((rd_T34 t286 t292).f0), .int .i8 ((rd_T34 t286 t292).f1)] 34 (0, 0)) (by (with_reducible repeat (first | refine blk_drewN ?_ _ | refine blk_drew ?_ | refine blk_alloc ?_ _)); refine blk_far ?_ NB294_318.out _; (with_reducible repeat (first | refine blk_drewN ?_ _ | refine blk_drew ?_ | refine blk_alloc ?_ _)); refine blk_far ?_ NB294_318.out _; (with_reducible repeat (first | refine blk_drewN ?_ _ | refine blk_drew ?_ | refine blk_alloc ?_ _)); exact BK294.out) hb); have n5_ := Aside0.mk (blk_below (g := gb318) (o := .cells #[.int .i8 ((rd_T34 t286 t316).f0), .int .i8 ((rd_T34 t286 t316).f1)] 34 (0, 0)) (by (with_reducible repeat (first | refine blk_drewN ?_ _ | refine blk_drew ?_ | refine blk_alloc ?_ _)); refine blk_put (cs := #[.int .i8 ((rd_T34 t286 t316).f0), .int .i8 0]) ?_ 1 _ rfl; (with_reducible repeat (first | refine blk_drewN ?_ _ | refine blk_drew ?_ | refine blk_alloc ?_ _)); refine blk_put (cs := #[.int .i8 0, .int .i8 0]) ?_ 0 _ rfl; (with_reducible repeat (first | refine blk_drewN ?_ _ | refine blk_drew ?_ | refine blk_alloc ?_ _)); exact BK318.out) hb); have n6_ := bst HB hb; clear HO_6; clear HO315; clear BK285; clear BK291; clear BK294; clear BK318; clear HB; have HO_6 := n0_; have HO315 := n1_; have BK285 := n2_; have BK291 := n3_; have BK294 := n4_; have BK318 := n5_; have HB := n6_; clear n0_ n1_ n2_ n3_ n4_ n5_ n6_; (try clear hb); (try clear hb2); (try clear hk); (try clear hi)) | ((with_reducible refine gate_dst (N := 172) rfl ?_); (try (refine gate_guard (by rfl) ?_; dsimp only)); refine Kd.R_lit (Kd.int .i64) _ 2 ?hg (N := 172) ?hd (xs := ([t296, t319] : List Int)) (inner := [.int .i64 t296, .int .i64 t319]) (ok := fun _ => True) (okp := fun _ => True) ?hr ?hp (fun _ hk => hk) trivial (Below.refl _ _) (Nat.le_refl _) (by simp) ?_; (case hd => rfl); (case hg => rfl); (case hr => first | (go_simp; done) | (go_simp; rfl)); (case hp => exact (Reps.one (show Kd.M (Kd.int .i64) _ _ _ t296 [.int .i64 t296] from rfl) (Reps.one (show Kd.M (Kd.int .i64) _ _ _ t319 [.int .i64 t319] from rfl) (Reps.none _ _)))); intro v321 w137 ho138 hb hg_ hnew_; clear hg_ hnew_; (first | rw [← Ny320.out] at ho138 | (simp only [Int.reduceToNat] at ho138; rw [← Ny320.out] at ho138)); have n0_ := krb HO_6 hb; have n1_ := krb HO315 hb; have n2_ := Aside0.mk (Kd.R_lower ho138 (below_size (by repeat (first | (with_reducible first | exact HB.out | apply below_alloc | apply pw_below_drewN | apply below_drew1 | refine below_set ?_ GE285.out | refine below_set ?_ GE291.out | refine below_set ?_ GE294.out | refine below_set ?_ GE318.out) | exact HB.out)))); have n3_ := bkb BK285 hb; have n4_ := bkb BK291 hb; have n5_ := bkb BK294 hb; have n6_ := bkb BK318 hb; have n7_ := bst HB hb; clear HO_6; clear HO315; clear BK285; clear BK291; clear BK294; clear BK318; clear HB; have HO_6 := n0_; have HO315 := n1_; have HO322 := n2_; have BK285 := n3_; have BK291 := n4_; have BK294 := n5_; have BK318 := n6_; have HB := n7_; clear n0_ n1_ n2_ n3_ n4_ n5_ n6_ n7_; clear hb ho138) | ((with_reducible refine gate_dst (N := 174) rfl ?_); (try (refine gate_guard (by rfl) ?_; dsimp only)); refine wpList_run0 (v := .agg (mixA (Value.int .u16) [.int .i8 t282, .int .i8 t283] t284)) rfl (load_mix_run (P := Try.prog) 32 (.tmp 5) rfl gb285 rfl (show World.rangeAt _ gb285 0 ([.int .i8 t282, .int .i8 t283] ++ t284.l.map (Value.int .u16)) from mix_range (show (World.heap _)[gb285]? = some (.cells (mixA (Value.int .u16) [.int .i8 t282, .int .i8 t283] t284) 32 (0, 0)) from by (with_reducible repeat (first | refine blk_drewN ?_ _ | refine blk_drew ?_ | refine blk_alloc ?_ _)); exact BK285.out)) Try.underlying32 rfl (by kernel_rfl) rfl) ?_; have hnb140 := NB294_285.out; have hnc140 := NB285_294.out; have hcz141_0 : w137.cell? ⟨gb294, 0, none⟩ = some (.int .i8 ((rd_T34 t286 t292).f0)) := (blk_cell BK294.out 0).trans rfl; have hcz141_1 : w137.cell? ⟨gb294, 1, none⟩ = some (.int .i8 ((rd_T34 t286 t292).f1)) := (blk_cell BK294.out 1).trans rfl; have hfz141_0 := blk_frozen BK294.out 0; have hfz141_1 := blk_frozen BK294.out 1; have hcz142_0 : w137.cell? ⟨gb318, 0, none⟩ = some (.int .i8 ((rd_T34 t286 t316).f0)) := (blk_cell BK318.out 0).trans rfl; have hcz142_1 : w137.cell? ⟨gb318, 1, none⟩ = some (.int .i8 ((rd_T34 t286 t316).f1)) := (blk_cell BK318.out 1).trans rfl; have hfz142_0 := blk_frozen BK318.out 0; have hfz142_1 := blk_frozen BK318.out 1) | ((with_reducible refine gate_dst (N := 177) rfl ?_); (try (refine gate_guard (by rfl) ?_; dsimp only)); refine Kd.R_lit k34 _ 34 ?hg (N := 177) ?hd (xs := ([(⟨((rd_T34 t286 t292).f0), ((rd_T34 t286 t292).f1)⟩ : S34), (⟨(rd_T34 t286 t316).f0, (rd_T34 t286 t316).f1⟩ : S34)] : List (S34))) (inner := [.int .i8 ((rd_T34 t286 t292).f0), .int .i8 ((rd_T34 t286 t292).f1), .int .i8 ((rd_T34 t286 t316).f0), .int .i8 ((rd_T34 t286 t316).f1)]) (ok := fun _ => True) (okp := fun _ => True) ?hr ?hp (fun _ hk => hk) trivial (Below.refl _ _) (Nat.le_refl _) (by simp) ?_; (case hd => rfl); (case hg => rfl); (case hr => first | (go_simp; done) | (go_simp; rfl)); (case hp => exact (Reps.c2 (show Kd.M k34 _ _ _ (⟨((rd_T34 t286 t292).f0), ((rd_T34 t286 t292).f1)⟩ : S34) [.int .i8 ((rd_T34 t286 t292).f0), .int .i8 ((rd_T34 t286 t292).f1)] from (k34_mkM _ _ _ (⟨((rd_T34 t286 t292).f0), ((rd_T34 t286 t292).f1)⟩ : S34) )) (Reps.c2 (show Kd.M k34 _ _ _ (⟨(rd_T34 t286 t316).f0, (rd_T34 t286 t316).f1⟩ : S34) [.int .i8 ((rd_T34 t286 t316).f0), .int .i8 ((rd_T34 t286 t316).f1)] from (k34_mkM _ _ _ (⟨(rd_T34 t286 t316).f0, (rd_T34 t286 t316).f1⟩ : S34) )) (Reps.none _ _)))); intro v324 w143 ho144 hb hg_ hnew_; clear hg_ hnew_; (first | rw [← Ny323.out] at ho144 | (simp only [Int.reduceToNat] at ho144; rw [← Ny323.out] at ho144)); have n0_ := Aside0.mk (Kd.R_elder' (by (with_reducible repeat (first | apply Kd.R_alloc | apply Kd.R_drewN | apply Kd.R_drew)); exact HO_6.out) (Kd.R_base ho144) hb); have n1_ := krb HO315 hb; have n2_ := krb HO322 hb; have n3_ := Aside0.mk (Kd.R_lower (Kd.R_newB (Kd.R_newB (Kd.R_newB (Kd.R_new' ho144 (Kd.R_lt (by (with_reducible repeat (first | apply Kd.R_alloc | apply Kd.R_drewN | apply Kd.R_drew)); exact HO_6.out))) (g := gb291) (o := .cells #[.int .i8 ((rd_T34 t286 t289).f0), .int .i8 ((rd_T34 t286 t289).f1)] 34 (0, 0)) (pk BK291)) (g := gb294) (o := .cells #[.int .i8 ((rd_T34 t286 t292).f0), .int .i8 ((rd_T34 t286 t292).f1)] 34 (0, 0)) (pk BK294)) (g := gb318) (o := .cells #[.int .i8 ((rd_T34 t286 t316).f0), .int .i8 ((rd_T34 t286 t316).f1)] 34 (0, 0)) (pk BK318)) (below_size (by repeat (first | (with_reducible first | exact HB.out | apply below_alloc | apply pw_below_drewN | apply below_drew1 | refine below_set ?_ GE285.out | refine below_set ?_ GE291.out | refine below_set ?_ GE294.out | refine below_set ?_ GE318.out) | exact HB.out)))); have n4_ := bkb BK285 hb; have n5_ := bkb BK291 hb; have n6_ := bkb BK294 hb; have n7_ := bkb BK318 hb; have n8_ := bst HB hb; clear HO_6; clear HO315; clear HO322; clear BK285; clear BK291; clear BK294; clear BK318; clear HB; have HO_6 := n0_; have HO315 := n1_; have HO322 := n2_; have HO325 := n3_; have BK285 := n4_; have BK291 := n5_; have BK294 := n6_; have BK318 := n7_; have HB := n8_; clear n0_ n1_ n2_ n3_ n4_ n5_ n6_ n7_ n8_; clear hb ho144; obtain ⟨Ao145, co145, eo145⟩ := Kd.R_slice HO325.out; subst eo145; obtain ⟨Ao146, co146, eo146⟩ := Kd.R_slice HO322.out; subst eo146) | ((with_reducible refine gate_callee (f := 24) rfl ?_); refine goesL_ (some 179) rfl rfl Try.func24 (by kernel_rfl) rfl #[.agg (mixA (Value.int .u16) [.int .i8 t282, .int .i8 t283] t284), .slice Ao145 y323.length co145, .slice Ao146 y320.length co146] rfl (by (try simp only [List.map_toArray, List.map_cons, List.map_nil]); first | done | rfl | (simp only [List.length_drop, List.length_take]; rfl)) ?_; (with_reducible refine (impl_HearingAll.calls k3 t282 t283 t284 _ _ y323 _ _ y320 t326 t329 _ ?side1 ?side2 ?side3 ?side4 A112.out).mono ?_); (case side1 => repeat (first | exact (Kd.R_reads' HO325.out).2.2 | (with_reducible refine Kd.C_alloc ?_ _) | (with_reducible refine Kd.C_drewN ?_ _) | (with_reducible refine Kd.C_drew ?_))); (case side2 => exact (Kd.R_reads' HO325.out).2.1); (case side3 => repeat (first | exact (Kd.R_reads' HO322.out).2.2 | (with_reducible refine Kd.C_alloc ?_ _) | (with_reducible refine Kd.C_drewN ?_ _) | (with_reducible refine Kd.C_drew ?_))); (case side4 => exact (Kd.R_reads' HO322.out).2.1); rintro e w147 ⟨v327, rfl, ho0, hb⟩; refine ⟨_, rfl, ?_⟩; have n0_ := Aside0.mk (Kd.R_elder' (by (with_reducible repeat (first | apply Kd.R_alloc | apply Kd.R_drewN | apply Kd.R_drew)); exact HO_6.out) (Kd.R_base ho0) hb); have n1_ := krb HO315 hb; have n2_ := krb HO322 hb; have n3_ := Aside0.mk (Kd.R_elder' (by (with_reducible repeat (first | apply Kd.R_alloc | apply Kd.R_drewN | apply Kd.R_drew)); exact HO325.out) (Kd.R_base ho0) hb); have n4_ := Aside0.mk (Kd.R_lower (Kd.R_newB (Kd.R_newB (Kd.R_newB (Kd.R_new' (Kd.R_new' ho0 (Kd.R_lt (by (with_reducible repeat (first | apply Kd.R_alloc | apply Kd.R_drewN | apply Kd.R_drew)); exact HO_6.out))) (Kd.R_lt (by (with_reducible repeat (first | apply Kd.R_alloc | apply Kd.R_drewN | apply Kd.R_drew)); exact HO325.out))) (g := gb291) (o := .cells #[.int .i8 ((rd_T34 t286 t289).f0), .int .i8 ((rd_T34 t286 t289).f1)] 34 (0, 0)) (pk BK291)) (g := gb294) (o := .cells #[.int .i8 ((rd_T34 t286 t292).f0), .int .i8 ((rd_T34 t286 t292).f1)] 34 (0, 0)) (pk BK294)) (g := gb318) (o := .cells #[.int .i8 ((rd_T34 t286 t316).f0), .int .i8 ((rd_T34 t286 t316).f1)] 34 (0, 0)) (pk BK318)) (below_size (by repeat (first | (with_reducible first | exact HB.out | apply below_alloc | apply pw_below_drewN | apply below_drew1 | refine below_set ?_ GE285.out | refine below_set ?_ GE291.out | refine below_set ?_ GE294.out | refine below_set ?_ GE318.out) | exact HB.out)))); have n5_ := bkb BK285 hb; have n6_ := bkb BK291 hb; have n7_ := bkb BK294 hb; have n8_ := bkb BK318 hb; have n9_ := bst HB hb; clear HO_6; clear HO315; clear HO322; clear HO325; clear BK285; clear BK291; clear BK294; clear BK318; clear HB; have HO_6 := n0_; have HO315 := n1_; have HO322 := n2_; have HO325 := n3_; have HO328 := n4_; have BK285 := n5_; have BK291 := n6_; have BK294 := n7_; have BK318 := n8_; have HB := n9_; clear n0_ n1_ n2_ n3_ n4_ n5_ n6_ n7_ n8_ n9_; (try clear hb); (try clear hb2); (try clear hk); (try clear hi); (try clear ho0)) | ((with_reducible refine gate_dst (N := 183) rfl ?_); (try (refine gate_guard (by rfl) ?_; dsimp only)); refine wpList_run0 (v := .agg (mixA (Value.int .u16) [.int .i8 t282, .int .i8 t283] t284)) rfl (load_mix_run (P := Try.prog) 32 (.tmp 5) rfl gb285 rfl (show World.rangeAt _ gb285 0 ([.int .i8 t282, .int .i8 t283] ++ t284.l.map (Value.int .u16)) from mix_range (show (World.heap _)[gb285]? = some (.cells (mixA (Value.int .u16) [.int .i8 t282, .int .i8 t283] t284) 32 (0, 0)) from by (with_reducible repeat (first | refine blk_drewN ?_ _ | refine blk_drew ?_ | refine blk_alloc ?_ _)); exact BK285.out)) Try.underlying32 rfl (by kernel_rfl) rfl) ?_; have hcz149_0 : w147.cell? ⟨gb294, 0, none⟩ = some (.int .i8 ((rd_T34 t286 t292).f0)) := (blk_cell BK294.out 0).trans rfl; have hcz149_1 : w147.cell? ⟨gb294, 1, none⟩ = some (.int .i8 ((rd_T34 t286 t292).f1)) := (blk_cell BK294.out 1).trans rfl; have hfz149_0 := blk_frozen BK294.out 0; have hfz149_1 := blk_frozen BK294.out 1; have hcz150_0 : w147.cell? ⟨gb318, 0, none⟩ = some (.int .i8 ((rd_T34 t286 t316).f0)) := (blk_cell BK318.out 0).trans rfl; have hcz150_1 : w147.cell? ⟨gb318, 1, none⟩ = some (.int .i8 ((rd_T34 t286 t316).f1)) := (blk_cell BK318.out 1).trans rfl; have hfz150_0 := blk_frozen BK318.out 0; have hfz150_1 := blk_frozen BK318.out 1) | ((with_reducible refine gate_dst (N := 186) rfl ?_); (try (refine gate_guard (by rfl) ?_; dsimp only)); refine Kd.R_lit k34 _ 34 ?hg (N := 186) ?hd (xs := ([(⟨((rd_T34 t286 t292).f0), ((rd_T34 t286 t292).f1)⟩ : S34), (⟨(rd_T34 t286 t316).f0, (rd_T34 t286 t316).f1⟩ : S34)] : List (S34))) (inner := [.int .i8 ((rd_T34 t286 t292).f0), .int .i8 ((rd_T34 t286 t292).f1), .int .i8 ((rd_T34 t286 t316).f0), .int .i8 ((rd_T34 t286 t316).f1)]) (ok := fun _ => True) (okp := fun _ => True) ?hr ?hp (fun _ hk => hk) trivial (Below.refl _ _) (Nat.le_refl _) (by simp) ?_; (case hd => rfl); (case hg => rfl); (case hr => first | (go_simp; done) | (go_simp; rfl)); (case hp => exact (Reps.c2 (show Kd.M k34 _ _ _ (⟨((rd_T34 t286 t292).f0), ((rd_T34 t286 t292).f1)⟩ : S34) [.int .i8 ((rd_T34 t286 t292).f0), .int .i8 ((rd_T34 t286 t292).f1)] from (k34_mkM _ _ _ (⟨((rd_T34 t286 t292).f0), ((rd_T34 t286 t292).f1)⟩ : S34) )) (Reps.c2 (show Kd.M k34 _ _ _ (⟨(rd_T34 t286 t316).f0, (rd_T34 t286 t316).f1⟩ : S34) [.int .i8 ((rd_T34 t286 t316).f0), .int .i8 ((rd_T34 t286 t316).f1)] from (k34_mkM _ _ _ (⟨(rd_T34 t286 t316).f0, (rd_T34 t286 t316).f1⟩ : S34) )) (Reps.none _ _)))); intro v331 w151 ho152 hb hg_ hnew_; clear hg_ hnew_; (first | rw [← Ny330.out] at ho152 | (simp only [Int.reduceToNat] at ho152; rw [← Ny330.out] at ho152)); have n0_ := Aside0.mk (Kd.R_elder' (by (with_reducible repeat (first | apply Kd.R_alloc | apply Kd.R_drewN | apply Kd.R_drew)); exact HO_6.out) (Kd.R_base ho152) hb); have n1_ := krb HO315 hb; have n2_ := krb HO322 hb; have n3_ := Aside0.mk (Kd.R_elder' (by (with_reducible repeat (first | apply Kd.R_alloc | apply Kd.R_drewN | apply Kd.R_drew)); exact HO325.out) (Kd.R_base ho152) hb); have n4_ := Aside0.mk (Kd.R_elder' (by (with_reducible repeat (first | apply Kd.R_alloc | apply Kd.R_drewN | apply Kd.R_drew)); exact HO328.out) (Kd.R_base ho152) hb); have n5_ := Aside0.mk (Kd.R_lower (Kd.R_newB (Kd.R_newB (Kd.R_newB (Kd.R_new' (Kd.R_new' (Kd.R_new' ho152 (Kd.R_lt (by (with_reducible repeat (first | apply Kd.R_alloc | apply Kd.R_drewN | apply Kd.R_drew)); exact HO_6.out))) (Kd.R_lt (by (with_reducible repeat (first | apply Kd.R_alloc | apply Kd.R_drewN | apply Kd.R_drew)); exact HO325.out))) (Kd.R_lt (by (with_reducible repeat (first | apply Kd.R_alloc | apply Kd.R_drewN | apply Kd.R_drew)); exact HO328.out))) (g := gb291) (o := .cells #[.int .i8 ((rd_T34 t286 t289).f0), .int .i8 ((rd_T34 t286 t289).f1)] 34 (0, 0)) (pk BK291)) (g := gb294) (o := .cells #[.int .i8 ((rd_T34 t286 t292).f0), .int .i8 ((rd_T34 t286 t292).f1)] 34 (0, 0)) (pk BK294)) (g := gb318) (o := .cells #[.int .i8 ((rd_T34 t286 t316).f0), .int .i8 ((rd_T34 t286 t316).f1)] 34 (0, 0)) (pk BK318)) (below_size (by repeat (first | (with_reducible first | exact HB.out | apply below_alloc | apply pw_below_drewN | apply below_drew1 | refine below_set ?_ GE285.out | refine below_set ?_ GE291.out | refine below_set ?_ GE294.out | refine below_set ?_ GE318.out) | exact HB.out)))); have n6_ := bkb BK285 hb; have n7_ := bkb BK291 hb; have n8_ := bkb BK294 hb; have n9_ := bkb BK318 hb; have n10_ := bst HB hb; clear HO_6; clear HO315; clear HO322; clear HO325; clear HO328; clear BK285; clear BK291; clear BK294; clear BK318; clear HB; have HO_6 := n0_; have HO315 := n1_; have HO322 := n2_; have HO325 := n3_; have HO328 := n4_; have HO332 := n5_; have BK285 := n6_; have BK291 := n7_; have BK294 := n8_; have BK318 := n9_; have HB := n10_; clear n0_ n1_ n2_ n3_ n4_ n5_ n6_ n7_ n8_ n9_ n10_; clear hb ho152; obtain ⟨Ao153, co153, eo153⟩ := Kd.R_slice HO332.out; subst eo153) | ((with_reducible refine gate_callee (f := 21) rfl ?_); refine goesL_ (some 188) rfl rfl Try.func21 (by kernel_rfl) rfl #[.agg (mixA (Value.int .u16) [.int .i8 t282, .int .i8 t283] t284), .slice Ao153 y330.length co153, .slice Ao146 y320.length co146] rfl (by (try simp only [List.map_toArray, List.map_cons, List.map_nil]); first | done | rfl | (simp only [List.length_drop, List.length_take]; rfl)) ?_; (with_reducible refine (spec_HearingAll.calls k3 t282 t283 t284 _ _ y330 _ _ y320 t333 t336 _ ?side1 ?side2 ?side3 ?side4 A113.out).mono ?_); (case side1 => repeat (first | exact (Kd.R_reads' HO332.out).2.2 | (with_reducible refine Kd.C_alloc ?_ _) | (with_reducible refine Kd.C_drewN ?_ _) | (with_reducible refine Kd.C_drew ?_))); (case side2 => exact (Kd.R_reads' HO332.out).2.1); (case side3 => repeat (first | exact (Kd.R_reads' HO322.out).2.2 | (with_reducible refine Kd.C_alloc ?_ _) | (with_reducible refine Kd.C_drewN ?_ _) | (with_reducible refine Kd.C_drew ?_))); (case side4 => exact (Kd.R_reads' HO322.out).2.1); rintro e w154 ⟨v334, rfl, ho0, hb⟩; refine ⟨_, rfl, ?_⟩; have n0_ := Aside0.mk (Kd.R_elder' (by (with_reducible repeat (first | apply Kd.R_alloc | apply Kd.R_drewN | apply Kd.R_drew)); exact HO_6.out) (Kd.R_base ho0) hb); have n1_ := krb HO315 hb; have n2_ := krb HO322 hb; have n3_ := Aside0.mk (Kd.R_elder' (by (with_reducible repeat (first | apply Kd.R_alloc | apply Kd.R_drewN | apply Kd.R_drew)); exact HO325.out) (Kd.R_base ho0) hb); have n4_ := Aside0.mk (Kd.R_elder' (by (with_reducible repeat (first | apply Kd.R_alloc | apply Kd.R_drewN | apply Kd.R_drew)); exact HO328.out) (Kd.R_base ho0) hb); have n5_ := Aside0.mk (Kd.R_elder' (by (with_reducible repeat (first | apply Kd.R_alloc | apply Kd.R_drewN | apply Kd.R_drew)); exact HO332.out) (Kd.R_base ho0) hb); have n6_ := Aside0.mk (Kd.R_lower (Kd.R_newB (Kd.R_newB (Kd.R_newB (Kd.R_new' (Kd.R_new' (Kd.R_new' (Kd.R_new' ho0 (Kd.R_lt (by (with_reducible repeat (first | apply Kd.R_alloc | apply Kd.R_drewN | apply Kd.R_drew)); exact HO_6.out))) (Kd.R_lt (by (with_reducible repeat (first | apply Kd.R_alloc | apply Kd.R_drewN | apply Kd.R_drew)); exact HO325.out))) (Kd.R_lt (by (with_reducible repeat (first | apply Kd.R_alloc | apply Kd.R_drewN | apply Kd.R_drew)); exact HO328.out))) (Kd.R_lt (by (with_reducible repeat (first | apply Kd.R_alloc | apply Kd.R_drewN | apply Kd.R_drew)); exact HO332.out))) (g := gb291) (o := .cells #[.int .i8 ((rd_T34 t286 t289).f0), .int .i8 ((rd_T34 t286 t289).f1)] 34 (0, 0)) (pk BK291)) (g := gb294) (o := .cells #[.int .i8 ((rd_T34 t286 t292).f0), .int .i8 ((rd_T34 t286 t292).f1)] 34 (0, 0)) (pk BK294)) (g := gb318) (o := .cells #[.int .i8 ((rd_T34 t286 t316).f0), .int .i8 ((rd_T34 t286 t316).f1)] 34 (0, 0)) (pk BK318)) (below_size (by repeat (first | (with_reducible first | exact HB.out | apply below_alloc | apply pw_below_drewN | apply below_drew1 | refine below_set ?_ GE285.out | refine below_set ?_ GE291.out | refine below_set ?_ GE294.out | refine below_set ?_ GE318.out) | exact HB.out)))); have n7_ := bkb BK285 hb; have n8_ := bkb BK291 hb; have n9_ := bkb BK294 hb; have n10_ := bkb BK318 hb; have n11_ := bst HB hb; clear HO_6; clear HO315; clear HO322; clear HO325; clear HO328; clear HO332; clear BK285; clear BK291; clear BK294; clear BK318; clear HB; have HO_6 := n0_; have HO315 := n1_; have HO322 := n2_; have HO325 := n3_; have HO328 := n4_; have HO332 := n5_; have HO335 := n6_; have BK285 := n7_; have BK291 := n8_; have BK294 := n9_; have BK318 := n10_; have HB := n11_; clear n0_ n1_ n2_ n3_ n4_ n5_ n6_ n7_ n8_ n9_ n10_ n11_; (try clear hb); (try clear hb2); (try clear hk); (try clear hi); (try clear ho0)) | ((with_reducible refine gate_dst (N := 192) rfl ?_); (try (refine gate_guard (by rfl) ?_; dsimp only)); refine wpList_run0 (v := .agg (mixA (Value.int .u16) [.int .i8 t282, .int .i8 t283] t284)) rfl (load_mix_run (P := Try.prog) 32 (.tmp 5) rfl gb285 rfl (show World.rangeAt _ gb285 0 ([.int .i8 t282, .int .i8 t283] ++ t284.l.map (Value.int .u16)) from mix_range (show (World.heap _)[gb285]? = some (.cells (mixA (Value.int .u16) [.int .i8 t282, .int .i8 t283] t284) 32 (0, 0)) from by (with_reducible repeat (first | refine blk_drewN ?_ _ | refine blk_drew ?_ | refine blk_alloc ?_ _)); exact BK285.out)) Try.underlying32 rfl (by kernel_rfl) rfl) ?_; have hcz156_0 : w154.cell? ⟨gb294, 0, none⟩ = some (.int .i8 ((rd_T34 t286 t292).f0)) := (blk_cell BK294.out 0).trans rfl; have hcz156_1 : w154.cell? ⟨gb294, 1, none⟩ = some (.int .i8 ((rd_T34 t286 t292).f1)) := (blk_cell BK294.out 1).trans rfl; have hfz156_0 := blk_frozen BK294.out 0; have hfz156_1 := blk_frozen BK294.out 1) | ((with_reducible refine gate_callee (f := 13) rfl ?_); refine goesL_ (some 195) rfl rfl Try.func13 (by kernel_rfl) rfl #[.agg (mixA (Value.int .u16) [.int .i8 t282, .int .i8 t283] t284), .agg #[.int .i8 ((rd_T34 t286 t292).f0), .int .i8 ((rd_T34 t286 t292).f1)], .int .i64 t296] rfl (by (try simp only [List.map_toArray, List.map_cons, List.map_nil]); first | done | rfl | (simp only [List.length_drop, List.length_take]; rfl)) ?_; (with_reducible refine (spec_HearingAt.calls k3 t282 t283 t284 ((rd_T34 t286 t292).f0) ((rd_T34 t286 t292).f1) t296 t337 t340 _ A114.out).mono ?_); rintro e w157 ⟨v338, rfl, ho0, hb⟩; refine ⟨_, rfl, ?_⟩; have n0_ := Aside0.mk (Kd.R_elder' (by (with_reducible repeat (first | apply Kd.R_alloc | apply Kd.R_drewN | apply Kd.R_drew)); exact HO_6.out) (Kd.R_base ho0) hb); have n1_ := krb HO315 hb; have n2_ := krb HO322 hb; have n3_ := Aside0.mk (Kd.R_elder' (by (with_reducible repeat (first | apply Kd.R_alloc | apply Kd.R_drewN | apply Kd.R_drew)); exact HO325.out) (Kd.R_base ho0) hb); have n4_ := Aside0.mk (Kd.R_elder' (by (with_reducible repeat (first | apply Kd.R_alloc | apply Kd.R_drewN | apply Kd.R_drew)); exact HO328.out) (Kd.R_base ho0) hb); have n5_ := Aside0.mk (Kd.R_elder' (by (with_reducible repeat (first | apply Kd.R_alloc | apply Kd.R_drewN | apply Kd.R_drew)); exact HO332.out) (Kd.R_base ho0) hb); have n6_ := Aside0.mk (Kd.R_elder' (by (with_reducible repeat (first | apply Kd.R_alloc | apply Kd.R_drewN | apply Kd.R_drew)); exact HO335.out) (Kd.R_base ho0) hb); have n7_ := Aside0.mk (Kd.R_lower (Kd.R_newB (Kd.R_newB (Kd.R_newB (Kd.R_new' (Kd.R_new' (Kd.R_new' (Kd.R_new' (Kd.R_new' ho0 (Kd.R_lt (by (with_reducible repeat (first | apply Kd.R_alloc | apply Kd.R_drewN | apply Kd.R_drew)); exact HO_6.out))) (Kd.R_lt (by (with_reducible repeat (first | apply Kd.R_alloc | apply Kd.R_drewN | apply Kd.R_drew)); exact HO325.out))) (Kd.R_lt (by (with_reducible repeat (first | apply Kd.R_alloc | apply Kd.R_drewN | apply Kd.R_drew)); exact HO328.out))) (Kd.R_lt (by (with_reducible repeat (first | apply Kd.R_alloc | apply Kd.R_drewN | apply Kd.R_drew)); exact HO332.out))) (Kd.R_lt (by (with_reducible repeat (first | apply Kd.R_alloc | apply Kd.R_drewN | apply Kd.R_drew)); exact HO335.out))) (g := gb291) (o := .cells #[.int .i8 ((rd_T34 t286 t289).f0), .int .i8 ((rd_T34 t286 t289).f1)] 34 (0, 0)) (pk BK291)) (g := gb294) (o := .cells #[.int .i8 ((rd_T34 t286 t292).f0), .int .i8 ((rd_T34 t286 t292).f1)] 34 (0, 0)) (pk BK294)) (g := gb318) (o := .cells #[.int .i8 ((rd_T34 t286 t316).f0), .int .i8 ((rd_T34 t286 t316).f1)] 34 (0, 0)) (pk BK318)) (below_size (by repeat (first | (with_reducible first | exact HB.out | apply below_alloc | apply pw_below_drewN | apply below_drew1 | refine below_set ?_ GE285.out | refine below_set ?_ GE291.out | refine below_set ?_ GE294.out | refine below_set ?_ GE318.out) | exact HB.out)))); have n8_ := bkb BK285 hb; have n9_ := bkb BK291 hb; have n10_ := bkb BK294 hb; have n11_ := bkb BK318 hb; have n12_ := bst HB hb; clear HO_6; clear HO315; clear HO322; clear HO325; clear HO328; clear HO332; clear HO335; clear BK285; clear BK291; clear BK294; clear BK318; clear HB; have HO_6 := n0_; have HO315 := n1_; have HO322 := n2_; have HO325 := n3_; have HO328 := n4_; have HO332 := n5_; have HO335 := n6_; have HO339 := n7_; have BK285 := n8_; have BK291 := n9_; have BK294 := n10_; have BK318 := n11_; have HB := n12_; clear n0_ n1_ n2_ n3_ n4_ n5_ n6_ n7_ n8_ n9_ n10_ n11_ n12_; (try clear hb); (try clear hb2); (try clear hk); (try clear hi); (try clear ho0); obtain ⟨Ao158, co158, eo158⟩ := Kd.R_slice HO328.out; subst eo158; obtain ⟨Ao159, co159, eo159⟩ := Kd.R_slice HO335.out; subst eo159) | (go_at_call 46; (with_reducible refine (spec_SameSpots.calls k3 _ _ t326 _ _ t333 true _ ?side1 ?side2 ?side3 ?side4 A118.out).mono ?_); (case side1 => repeat (first | exact (Kd.R_reads' HO328.out).2.2 | (with_reducible refine Kd.C_alloc ?_ _) | (with_reducible refine Kd.C_drewN ?_ _) | (with_reducible refine Kd.C_drew ?_))); (case side2 => exact (Kd.R_reads' HO328.out).2.1); (case side3 => repeat (first | exact (Kd.R_reads' HO335.out).2.2 | (with_reducible refine Kd.C_alloc ?_ _) | (with_reducible refine Kd.C_drewN ?_ _) | (with_reducible refine Kd.C_drew ?_))); (case side4 => exact (Kd.R_reads' HO335.out).2.1); rintro e w' ⟨rfl, ⟨nd, rfl⟩⟩; have hcz160_0 : w157.cell? ⟨gb291, 0, none⟩ = some (.int .i8 ((rd_T34 t286 t289).f0)) := (blk_cell BK291.out 0).trans rfl; have hcz160_1 : w157.cell? ⟨gb291, 1, none⟩ = some (.int .i8 ((rd_T34 t286 t289).f1)) := (blk_cell BK291.out 1).trans rfl; have hfz160_0 := blk_frozen BK291.out 0; have hfz160_1 := blk_frozen BK291.out 1) | (go_at_call 47; (with_reducible refine (spec_HasSpot.calls k3 _ _ t333 ((rd_T34 t286 t289).f0) ((rd_T34 t286 t289).f1) true _ ?side1 ?side2 A120.out).mono ?_); (case side1 => repeat (first | exact (Kd.R_reads' HO335.out).2.2 | (with_reducible refine Kd.C_alloc ?_ _) | (with_reducible refine Kd.C_drewN ?_ _) | (with_reducible refine Kd.C_drew ?_))); (case side2 => exact (Kd.R_reads' HO335.out).2.1); rintro e w161 ⟨rfl, hb⟩; have n0_ := krb HO_6 hb; have n1_ := krb HO315 hb; have n2_ := krb HO322 hb; have n3_ := krb HO325 hb; have n4_ := krb HO328 hb; have n5_ := krb HO332 hb; have n6_ := krb HO335 hb; have n7_ := krb HO339 hb; have n8_ := bkb BK285 hb; have n9_ := bkb BK291 hb; have n10_ := bkb BK294 hb; have n11_ := bkb BK318 hb; have n12_ := bst HB hb; clear HO_6; clear HO315; clear HO322; clear HO325; clear HO328; clear HO332; clear HO335; clear HO339; clear BK285; clear BK291; clear BK294; clear BK318; clear HB; have HO_6 := n0_; have HO315 := n1_; have HO322 := n2_; have HO325 := n3_; have HO328 := n4_; have HO332 := n5_; have HO335 := n6_; have HO339 := n7_; have BK285 := n8_; have BK291 := n9_; have BK294 := n10_; have BK318 := n11_; have HB := n12_; clear n0_ n1_ n2_ n3_ n4_ n5_ n6_ n7_ n8_ n9_ n10_ n11_ n12_; (try clear hb); (try clear hb2); (try clear hk); (try clear hi); obtain ⟨Ao162, co162, eo162⟩ := Kd.R_slice HO339.out; subst eo162))
                        go_ret
                        exact ⟨by first | rfl | (simp [errW_none, errW_some] <;> rfl) | (simp [*, errW_none, errW_some] <;> rfl), pbs HB⟩
                       ·rw [if_neg c122] at H
                        exact absurd H (by simp)
                      ·replace c121 := Bool.eq_false_iff.mpr c121
                       subst c121
                       have H1 : (none) = some r := by rw [if_neg (show ¬ (false = true) by decide)] at H; exact H
                       clear H
                       have H := H1
                       clear H1
                       exact absurd H (by simp)
                     ·replace c119 := Bool.eq_false_iff.mpr c119
                      subst c119
                      have H1 : (none) = some r := by rw [if_neg (show ¬ (false = true) by decide)] at H; exact H
                      clear H
                      have H := H1
                      clear H1
                      exact absurd H (by simp)
                    ·rw [if_neg c117] at H
                     exact absurd H (by simp)
                   ·rw [if_neg c116] at H
                    exact absurd H (by simp)
                  ·rw [if_neg c115] at H
                   exact absurd H (by simp)
                 ·rw [if_neg c110] at H
                  exact absurd H (by simp)
                ·rw [if_neg c109] at H
                 exact absurd H (by simp)
               ·rw [if_neg c107] at H
                exact absurd H (by simp)
        ·rw [if_neg c22] at H
         exact absurd H (by simp)
       ·rw [if_neg c21] at H
        exact absurd H (by simp)
      ·rw [if_neg c19] at H
       exact absurd H (by simp)
     ·rw [if_neg c18] at H
      exact absurd H (by simp)
end Go.Proofs.Ytoiiabnnddlcbaa.PB
end
