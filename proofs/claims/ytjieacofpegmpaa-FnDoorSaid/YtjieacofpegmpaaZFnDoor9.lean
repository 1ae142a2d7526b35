/- The statement FnDoor of this program: what its proof uses, part 10 of 11. The call returns true for all arguments. No condition of its own. -/
import Derived.Test.YtjieacofpegmpaaZFnDoor8
section
namespace Go.Proofs.Ytjieacofpegmpaa.PD
open Go.RowKit Go.Proofs.YtjieacofpegmpaaW.PrintWords Go.Proofs.YtjieacofpegmpaaW.PrintLast Go.Proofs.YtjieacofpegmpaaW.PrintMore Go.Proofs.Ytjieacofpegmpaa.La
attribute [local go_sem] max2_int min2_int max_two min_two max_three min_three max_four min_four   -- for this text's walks alone
set_option linter.unusedVariables false
set_option linter.unusedSimpArgs false
mutual
def laws_FnDoor.l0 : Nat → List (S55) → List Int → List Int → Int → List Int → Int → Int → Int → Option (Bool)
 | 0, _, _, _, _, _, _, _, _ => none
 | k + 1, x5, x6, x9, x13, x23, x29, x30, x31 => if x31 < (x6.length : Int) then (if 0 ≤ x31 then (if 0 ≤ (rd x6 x31) then (if (rd x6 x31) < (x5.length : Int) then (if (rd x6 x31) < (x9.length : Int) then (if (rd x9 (rd x6 x31)) = (mx x30 (wrap64 ((rd_T55 x5 (rd x6 x31)).f0))) then (laws_FnDoor.l0 k x5 x6 x9 x13 x23 (wrap64 (x29 + (wrap64 ((wrap64 ((rd_T55 x5 (rd x6 x31)).f1)) * (wrap64 ((rd x9 (rd x6 x31)) - (wrap64 ((rd_T55 x5 (rd x6 x31)).f0)))))))) (wrap64 ((rd x9 (rd x6 x31)) + (wrap64 ((rd_T55 x5 (rd x6 x31)).f1)))) (wrap64 (x31 + 1))) else (none)) else (none)) else (none)) else (none)) else (none)) else (if x29 = x13 then (laws_FnDoor.l1 k x5 x6 x9 x23 1) else (none))
def laws_FnDoor.l1 : Nat → List (S55) → List Int → List Int → List Int → Int → Option (Bool)
 | 0, _, _, _, _, _ => none
 | k + 1, x5, x6, x9, x23, x34 => if x34 < (x23.length : Int) then (if 0 ≤ (wrap64 (x34 - 1)) then (if (wrap64 (x34 - 1)) < (x23.length : Int) then (if 0 ≤ (rd x23 (wrap64 (x34 - 1))) then (if (rd x23 (wrap64 (x34 - 1))) < (x5.length : Int) then (if 0 ≤ x34 then (if 0 ≤ (rd x23 x34) then (if (rd x23 x34) < (x5.length : Int) then (if ((rd_T55 x5 (rd x23 (wrap64 (x34 - 1)))).f0) > ((rd_T55 x5 (rd x23 x34)).f0) then (none) else (if ((rd_T55 x5 (rd x23 (wrap64 (x34 - 1)))).f0) = ((rd_T55 x5 (rd x23 x34)).f0) then (if (rd x23 (wrap64 (x34 - 1))) > (rd x23 x34) then (none) else (laws_FnDoor.l1 k x5 x6 x9 x23 (wrap64 (x34 + 1)))) else (laws_FnDoor.l1 k x5 x6 x9 x23 (wrap64 (x34 + 1))))) else (none)) else (none)) else (none)) else (none)) else (none)) else (none)) else (none)) else ((impl_LongestWait.f k x5 x6).bind fun bt436 => ((spec_LongestWait.f k x5 x6).bind fun bt439 => (if bt436.2.2 = bt439.2.2 then (if bt436.1 = bt439.1 then (if bt436.2.1 = bt439.2.1 then (if ((bt436.2.2 == 0) != (decide ((x5.length : Int) > 0))) = true then (none) else (laws_FnDoor.l2 k x5 x9 bt439.1 bt439.2.1 0)) else (none)) else (none)) else (none))))
def laws_FnDoor.l2 : Nat → List (S55) → List Int → Int → Int → Int → Option (Bool)
 | 0, _, _, _, _, _ => none
 | k + 1, x5, x9, x40, x41, x43 => if x43 < (x5.length : Int) then (if 0 ≤ x43 then (if x43 < (x9.length : Int) then (if (wrap64 ((rd x9 x43) - (wrap64 ((rd_T55 x5 x43).f0)))) > x41 then (none) else (if (wrap64 ((rd x9 x43) - (wrap64 ((rd_T55 x5 x43).f0)))) = x41 then (if x43 < x40 then (none) else (if x43 = x40 then (laws_FnDoor.l2 k x5 x9 x40 x41 (wrap64 (x43 + 1))) else (laws_FnDoor.l2 k x5 x9 x40 x41 (wrap64 (x43 + 1))))) else (if x43 = x40 then (none) else (laws_FnDoor.l2 k x5 x9 x40 x41 (wrap64 (x43 + 1)))))) else (none)) else (none)) else (some true)
end
def laws_FnDoor.f (k : Nat) (l0 : List Int) (l1 : List Int) : Option (Bool) := (laws_a2Long.f l0 l1).bind fun t380 => (if t380 = true then (some true) else ((spec_A2Parties.f k l0).bind fun t381 => ((spec_A2Order.f k l1 (t381.length : Int)).bind fun t384 => ((impl_DoorTimes.f k t381 t384).bind fun bt387 => ((spec_DoorTimes.f k t381 t384).bind fun bt391 => ((impl_WaitingOf.f k t381 t384).bind fun bt395 => ((spec_WaitingOf.f k t381 t384).bind fun bt397 => ((impl_BestDoor.f k t381).bind fun bt399 => ((spec_BestDoor.f k t381).bind fun bt404 => ((impl_FirstCome.f k t381).bind fun bt409 => ((spec_FirstCome.f k t381).bind fun bt413 => ((impl_WaitingOf.f k t381 bt413.1).bind fun bt417 => ((impl_WaitingOf.f k t381 bt404.1).bind fun bt419 => (if bt387.2 = bt391.2 then (if bt387.2 = 0 then ((spec_A2Same.f k bt387.1 bt391.1).bind fun t421 => (if t421 = true then (if (bt391.1.length : Int) = (t381.length : Int) then (if bt395.2 = bt397.2 then (if bt395.2 = 0 then (if bt395.1 = bt397.1 then (if bt399.2.2 = bt404.2.2 then (if bt399.2.2 = 0 then ((spec_A2Same.f k bt399.1 bt404.1).bind fun t422 => (if t422 = true then (if bt399.2.1 = bt404.2.1 then (if bt404.2.1 > bt397.1 then (none) else (if bt409.2 = bt413.2 then (if bt409.2 = 0 then ((spec_A2Same.f k bt409.1 bt413.1).bind fun t423 => (if t423 = true then (if bt417.2 = 0 then (if bt417.1 < bt404.2.1 then (none) else (if bt419.2 = 0 then (if bt419.1 = bt404.2.1 then ((impl_ValidParties.f t381).bind fun t424 => (if t424 = true then (laws_FnDoor.l0 k t381 t384 bt391.1 bt397.1 bt413.1 0 0 0) else (none))) else (none)) else (none))) else (none)) else (none))) else (none)) else (none))) else (none)) else (none))) else (none)) else (none)) else (none)) else (none)) else (none)) else (none)) else (none))) else (none)) else (none)))))))))))))))
theorem laws_FnDoor.mono_l : ∀ k, (∀ y0 y1 y2 y3 y4 y5 y6 y7, LeO (laws_FnDoor.l0 k y0 y1 y2 y3 y4 y5 y6 y7) (laws_FnDoor.l0 (k + 1) y0 y1 y2 y3 y4 y5 y6 y7)) ∧ (∀ y0 y1 y2 y3 y4, LeO (laws_FnDoor.l1 k y0 y1 y2 y3 y4) (laws_FnDoor.l1 (k + 1) y0 y1 y2 y3 y4)) ∧ (∀ y0 y1 y2 y3 y4, LeO (laws_FnDoor.l2 k y0 y1 y2 y3 y4) (laws_FnDoor.l2 (k + 1) y0 y1 y2 y3 y4))
 | 0 => ⟨fun _ _ _ _ _ _ _ _ r h => by simp [laws_FnDoor.l0] at h, fun _ _ _ _ _ r h => by simp [laws_FnDoor.l1] at h, fun _ _ _ _ _ r h => by simp [laws_FnDoor.l2] at h⟩
 | k + 1 => by
  obtain ⟨ih0, ih1, ih2⟩ := laws_FnDoor.mono_l k
  refine ⟨?_, ?_, ?_⟩
  ·intro y0 y1 y2 y3 y4 y5 y6 y7
   unfold laws_FnDoor.l0
   repeat' first
   | (with_reducible exact ih0 _ _ _ _ _ _ _ _)
   | (with_reducible exact ih1 _ _ _ _ _)
   | (with_reducible exact ih2 _ _ _ _ _)
   | (with_reducible exact impl_BestDoor.mono _ _)
   | (with_reducible exact impl_DoorTimes.mono _ _ _)
   | (with_reducible exact impl_FirstCome.mono _ _)
   | (with_reducible exact impl_LongestWait.mono _ _ _)
   | (with_reducible exact impl_WaitingOf.mono _ _ _)
   | (with_reducible exact spec_A2Order.mono _ _ _)
   | (with_reducible exact spec_A2Parties.mono _ _)
   | (with_reducible exact spec_A2Same.mono _ _ _)
   | (with_reducible exact spec_BestDoor.mono _ _)
   | (with_reducible exact spec_DoorTimes.mono _ _ _)
   | (with_reducible exact spec_FirstCome.mono _ _)
   | (with_reducible exact spec_LongestWait.mono _ _ _)
   | (with_reducible exact spec_WaitingOf.mono _ _ _)
   | (with_reducible exact LeO.refl _)
   | (with_reducible exact LeO.none _)
   | (with_reducible refine LeO.ite ?_ ?_)
   | (with_reducible refine LeO.bind ?_ (fun _ => ?_))
   | exact ih0 _ _ _ _ _ _ _ _
   | exact ih1 _ _ _ _ _
   | exact ih2 _ _ _ _ _
   | exact impl_BestDoor.mono _ _
   | exact impl_DoorTimes.mono _ _ _
   | exact impl_FirstCome.mono _ _
   | exact impl_LongestWait.mono _ _ _
   | exact impl_WaitingOf.mono _ _ _
   | exact spec_A2Order.mono _ _ _
   | exact spec_A2Parties.mono _ _
   | exact spec_A2Same.mono _ _ _
   | exact spec_BestDoor.mono _ _
   | exact spec_DoorTimes.mono _ _ _
   | exact spec_FirstCome.mono _ _
   | exact spec_LongestWait.mono _ _ _
   | exact spec_WaitingOf.mono _ _ _
   | exact LeO.none _
   | refine LeO.ite ?_ ?_
   | refine LeO.bind ?_ (fun _ => ?_)
  ·intro y0 y1 y2 y3 y4
   unfold laws_FnDoor.l1
   repeat' first
   | (with_reducible exact ih0 _ _ _ _ _ _ _ _)
   | (with_reducible exact ih1 _ _ _ _ _)
   | (with_reducible exact ih2 _ _ _ _ _)
   | (with_reducible exact impl_BestDoor.mono _ _)
   | (with_reducible exact impl_DoorTimes.mono _ _ _)
   | (with_reducible exact impl_FirstCome.mono _ _)
   | (with_reducible exact impl_LongestWait.mono _ _ _)
   | (with_reducible exact impl_WaitingOf.mono _ _ _)
   | (with_reducible exact spec_A2Order.mono _ _ _)
   | (with_reducible exact spec_A2Parties.mono _ _)
   | (with_reducible exact spec_A2Same.mono _ _ _)
   | (with_reducible exact spec_BestDoor.mono _ _)
   | (with_reducible exact spec_DoorTimes.mono _ _ _)
   | (with_reducible exact spec_FirstCome.mono _ _)
   | (with_reducible exact spec_LongestWait.mono _ _ _)
   | (with_reducible exact spec_WaitingOf.mono _ _ _)
   | (with_reducible exact LeO.refl _)
   | (with_reducible exact LeO.none _)
   | (with_reducible refine LeO.ite ?_ ?_)
   | (with_reducible refine LeO.bind ?_ (fun _ => ?_))
   | exact ih0 _ _ _ _ _ _ _ _
   | exact ih1 _ _ _ _ _
   | exact ih2 _ _ _ _ _
   | exact impl_BestDoor.mono _ _
   | exact impl_DoorTimes.mono _ _ _
   | exact impl_FirstCome.mono _ _
   | exact impl_LongestWait.mono _ _ _
   | exact impl_WaitingOf.mono _ _ _
   | exact spec_A2Order.mono _ _ _
   | exact spec_A2Parties.mono _ _
   | exact spec_A2Same.mono _ _ _
   | exact spec_BestDoor.mono _ _
   | exact spec_DoorTimes.mono _ _ _
   | exact spec_FirstCome.mono _ _
   | exact spec_LongestWait.mono _ _ _
   | exact spec_WaitingOf.mono _ _ _
   | exact LeO.none _
   | refine LeO.ite ?_ ?_
   | refine LeO.bind ?_ (fun _ => ?_)
  ·intro y0 y1 y2 y3 y4
   unfold laws_FnDoor.l2
   repeat' first
   | (with_reducible exact ih0 _ _ _ _ _ _ _ _)
   | (with_reducible exact ih1 _ _ _ _ _)
   | (with_reducible exact ih2 _ _ _ _ _)
   | (with_reducible exact impl_BestDoor.mono _ _)
   | (with_reducible exact impl_DoorTimes.mono _ _ _)
   | (with_reducible exact impl_FirstCome.mono _ _)
   | (with_reducible exact impl_LongestWait.mono _ _ _)
   | (with_reducible exact impl_WaitingOf.mono _ _ _)
   | (with_reducible exact spec_A2Order.mono _ _ _)
   | (with_reducible exact spec_A2Parties.mono _ _)
   | (with_reducible exact spec_A2Same.mono _ _ _)
   | (with_reducible exact spec_BestDoor.mono _ _)
   | (with_reducible exact spec_DoorTimes.mono _ _ _)
   | (with_reducible exact spec_FirstCome.mono _ _)
   | (with_reducible exact spec_LongestWait.mono _ _ _)
   | (with_reducible exact spec_WaitingOf.mono _ _ _)
   | (with_reducible exact LeO.refl _)
   | (with_reducible exact LeO.none _)
   | (with_reducible refine LeO.ite ?_ ?_)
   | (with_reducible refine LeO.bind ?_ (fun _ => ?_))
   | exact ih0 _ _ _ _ _ _ _ _
   | exact ih1 _ _ _ _ _
   | exact ih2 _ _ _ _ _
   | exact impl_BestDoor.mono _ _
   | exact impl_DoorTimes.mono _ _ _
   | exact impl_FirstCome.mono _ _
   | exact impl_LongestWait.mono _ _ _
   | exact impl_WaitingOf.mono _ _ _
   | exact spec_A2Order.mono _ _ _
   | exact spec_A2Parties.mono _ _
   | exact spec_A2Same.mono _ _ _
   | exact spec_BestDoor.mono _ _
   | exact spec_DoorTimes.mono _ _ _
   | exact spec_FirstCome.mono _ _
   | exact spec_LongestWait.mono _ _ _
   | exact spec_WaitingOf.mono _ _ _
   | exact LeO.none _
   | refine LeO.ite ?_ ?_
   | refine LeO.bind ?_ (fun _ => ?_)
theorem laws_FnDoor.mono : ∀ a0 a1 k, LeO (laws_FnDoor.f k a0 a1) (laws_FnDoor.f (k + 1) a0 a1) := by
 intro a0 a1 k
 obtain ⟨ih0, ih1, ih2⟩ := laws_FnDoor.mono_l k
 unfold laws_FnDoor.f
 repeat' first
   | (with_reducible exact ih0 _ _ _ _ _ _ _ _)
   | (with_reducible exact ih1 _ _ _ _ _)
   | (with_reducible exact ih2 _ _ _ _ _)
   | (with_reducible exact impl_BestDoor.mono _ _)
   | (with_reducible exact impl_DoorTimes.mono _ _ _)
   | (with_reducible exact impl_FirstCome.mono _ _)
   | (with_reducible exact impl_LongestWait.mono _ _ _)
   | (with_reducible exact impl_WaitingOf.mono _ _ _)
   | (with_reducible exact spec_A2Order.mono _ _ _)
   | (with_reducible exact spec_A2Parties.mono _ _)
   | (with_reducible exact spec_A2Same.mono _ _ _)
   | (with_reducible exact spec_BestDoor.mono _ _)
   | (with_reducible exact spec_DoorTimes.mono _ _ _)
   | (with_reducible exact spec_FirstCome.mono _ _)
   | (with_reducible exact spec_LongestWait.mono _ _ _)
   | (with_reducible exact spec_WaitingOf.mono _ _ _)
   | (with_reducible exact LeO.refl _)
   | (with_reducible exact LeO.none _)
   | (with_reducible refine LeO.ite ?_ ?_)
   | (with_reducible refine LeO.bind ?_ (fun _ => ?_))
   | exact ih0 _ _ _ _ _ _ _ _
   | exact ih1 _ _ _ _ _
   | exact ih2 _ _ _ _ _
   | exact impl_BestDoor.mono _ _
   | exact impl_DoorTimes.mono _ _ _
   | exact impl_FirstCome.mono _ _
   | exact impl_LongestWait.mono _ _ _
   | exact impl_WaitingOf.mono _ _ _
   | exact spec_A2Order.mono _ _ _
   | exact spec_A2Parties.mono _ _
   | exact spec_A2Same.mono _ _ _
   | exact spec_BestDoor.mono _ _
   | exact spec_DoorTimes.mono _ _ _
   | exact spec_FirstCome.mono _ _
   | exact spec_LongestWait.mono _ _ _
   | exact spec_WaitingOf.mono _ _ _
   | exact LeO.none _
   | refine LeO.ite ?_ ?_
   | refine LeO.bind ?_ (fun _ => ?_)
set_option maxHeartbeats 8000000 in
set_option maxRecDepth 100000 in
theorem laws_FnDoor.calls (k : Nat) (A0 : Option Addr) (c0 : Nat) (l0 : List Int) (A1 : Option Addr) (c1 : Nat) (l1 : List Int) (r : Bool) (w : World) (hr0 : Kd.C (Kd.int .u8) w A0 l0.length l0) (hc0 : l0.length ≤ c0) (hr1 : Kd.C (Kd.int .u8) w A1 l1.length l1) (hc1 : l1.length ≤ c1) (h : laws_FnDoor.f k l0 l1 = some r) :
  Calls Try.prog 5 #[.slice A0 l0.length c0, .slice A1 l1.length c1] w fun e w' => e = .returned (.bool r) ∧ Below w.heap.size w w' := by
 have hu55 := Try.underlying55
 have HR0 := Aside0.mk hr0
 have HC0 := Aside0.mk hc0
 clear hr0 hc0
 have HR1 := Aside0.mk hr1
 have HC1 := Aside0.mk hc1
 clear hr1 hc1
 have HB := Aside0.mk (Below.refl w.heap.size w)
 have H : ((laws_a2Long.f l0 l1).bind fun t380 => (if t380 = true then (some true) else ((spec_A2Parties.f k l0).bind fun t381 => ((spec_A2Order.f k l1 (t381.length : Int)).bind fun t384 => ((impl_DoorTimes.f k t381 t384).bind fun bt387 => ((spec_DoorTimes.f k t381 t384).bind fun bt391 => ((impl_WaitingOf.f k t381 t384).bind fun bt395 => ((spec_WaitingOf.f k t381 t384).bind fun bt397 => ((impl_BestDoor.f k t381).bind fun bt399 => ((spec_BestDoor.f k t381).bind fun bt404 => ((impl_FirstCome.f k t381).bind fun bt409 => ((spec_FirstCome.f k t381).bind fun bt413 => ((impl_WaitingOf.f k t381 bt413.1).bind fun bt417 => ((impl_WaitingOf.f k t381 bt404.1).bind fun bt419 => (if bt387.2 = bt391.2 then (if bt387.2 = 0 then ((spec_A2Same.f k bt387.1 bt391.1).bind fun t421 => (if t421 = true then (if (bt391.1.length : Int) = (t381.length : Int) then (if bt395.2 = bt397.2 then (if bt395.2 = 0 then (if bt395.1 = bt397.1 then (if bt399.2.2 = bt404.2.2 then (if bt399.2.2 = 0 then ((spec_A2Same.f k bt399.1 bt404.1).bind fun t422 => (if t422 = true then (if bt399.2.1 = bt404.2.1 then (if bt404.2.1 > bt397.1 then (none) else (if bt409.2 = bt413.2 then (if bt409.2 = 0 then ((spec_A2Same.f k bt409.1 bt413.1).bind fun t423 => (if t423 = true then (if bt417.2 = 0 then (if bt417.1 < bt404.2.1 then (none) else (if bt419.2 = 0 then (if bt419.1 = bt404.2.1 then ((impl_ValidParties.f t381).bind fun t424 => (if t424 = true then (laws_FnDoor.l0 k t381 t384 bt391.1 bt397.1 bt413.1 0 0 0) else (none))) else (none)) else (none))) else (none)) else (none))) else (none)) else (none))) else (none)) else (none))) else (none)) else (none)) else (none)) else (none)) else (none)) else (none)) else (none))) else (none)) else (none)))))))))))))))) = some r := h
 clear h
 replace H := Option.bind_eq_some_iff.mp H
 obtain ⟨t380, A30, H⟩ := H
 replace H : (if t380 = true then (some true) else ((spec_A2Parties.f k l0).bind fun t381 => ((spec_A2Order.f k l1 (t381.length : Int)).bind fun t384 => ((impl_DoorTimes.f k t381 t384).bind fun bt387 => ((spec_DoorTimes.f k t381 t384).bind fun bt391 => ((impl_WaitingOf.f k t381 t384).bind fun bt395 => ((spec_WaitingOf.f k t381 t384).bind fun bt397 => ((impl_BestDoor.f k t381).bind fun bt399 => ((spec_BestDoor.f k t381).bind fun bt404 => ((impl_FirstCome.f k t381).bind fun bt409 => ((spec_FirstCome.f k t381).bind fun bt413 => ((impl_WaitingOf.f k t381 bt413.1).bind fun bt417 => ((impl_WaitingOf.f k t381 bt404.1).bind fun bt419 => (if bt387.2 = bt391.2 then (if bt387.2 = 0 then ((spec_A2Same.f k bt387.1 bt391.1).bind fun t421 => (if t421 = true then (if (bt391.1.length : Int) = (t381.length : Int) then (if bt395.2 = bt397.2 then (if bt395.2 = 0 then (if bt395.1 = bt397.1 then (if bt399.2.2 = bt404.2.2 then (if bt399.2.2 = 0 then ((spec_A2Same.f k bt399.1 bt404.1).bind fun t422 => (if t422 = true then (if bt399.2.1 = bt404.2.1 then (if bt404.2.1 > bt397.1 then (none) else (if bt409.2 = bt413.2 then (if bt409.2 = 0 then ((spec_A2Same.f k bt409.1 bt413.1).bind fun t423 => (if t423 = true then (if bt417.2 = 0 then (if bt417.1 < bt404.2.1 then (none) else (if bt419.2 = 0 then (if bt419.1 = bt404.2.1 then ((impl_ValidParties.f t381).bind fun t424 => (if t424 = true then (laws_FnDoor.l0 k t381 t384 bt391.1 bt397.1 bt413.1 0 0 0) else (none))) else (none)) else (none))) else (none)) else (none))) else (none)) else (none))) else (none)) else (none))) else (none)) else (none)) else (none)) else (none)) else (none)) else (none)) else (none))) else (none)) else (none))))))))))))))) = some r := H
 have A3 := Aside0.mk A30
 clear A30
 by_cases c4 : t380 = true
 ·subst c4
  have H1 : (some true) = some r := by rw [if_pos rfl] at H; exact H
  clear H
  have H := H1
  clear H1
  obtain rfl := Option.some.inj H
  go_enter Try.func5, Try.ntmps5
  have hwr_ : ∀ z_ : Int, IntKind.i64.wrap z_ = wrap64 z_ := IntWalk.i64_left
  go_wp2_with (first | (go_at_call 22; (with_reducible refine (laws_a2Long.calls _ _ l0 _ _ l1 true _ ?side1 ?side2 ?side3 ?side4 A3.out).mono ?_); (case side1 => repeat (first | exact HR0.out | (with_reducible refine Kd.C_alloc ?_ _) | (with_reducible refine Kd.C_drewN ?_ _) | (with_reducible refine Kd.C_drew ?_))); (case side2 => exact HC0.out); (case side3 => repeat (first | exact HR1.out | (with_reducible refine Kd.C_alloc ?_ _) | (with_reducible refine Kd.C_drewN ?_ _) | (with_reducible refine Kd.C_drew ?_))); (case side4 => exact HC1.out); rintro e w' ⟨rfl, ⟨nd, rfl⟩⟩; (try first | exact ⟨rfl, _, World.drewN_drewN _ _ _⟩ | exact ⟨rfl, _, Eq.trans (World.drewN_drewN _ _ _) (congrArg (World.drewN _) (Nat.add_assoc _ _ _))⟩)))
  repeat (go_quiet (first | (go_at_call 22; (with_reducible refine (laws_a2Long.calls _ _ l0 _ _ l1 true _ ?side1 ?side2 ?side3 ?side4 A3.out).mono ?_); (case side1 => repeat (first | exact HR0.out | (with_reducible refine Kd.C_alloc ?_ _) | (with_reducible refine Kd.C_drewN ?_ _) | (with_reducible refine Kd.C_drew ?_))); (case side2 => exact HC0.out); (case side3 => repeat (first | exact HR1.out | (with_reducible refine Kd.C_alloc ?_ _) | (with_reducible refine Kd.C_drewN ?_ _) | (with_reducible refine Kd.C_drew ?_))); (case side4 => exact HC1.out); rintro e w' ⟨rfl, ⟨nd, rfl⟩⟩; (try first | exact ⟨rfl, _, World.drewN_drewN _ _ _⟩ | exact ⟨rfl, _, Eq.trans (World.drewN_drewN _ _ _) (congrArg (World.drewN _) (Nat.add_assoc _ _ _))⟩))); try go_wp2_with (first | (go_at_call 22; (with_reducible refine (laws_a2Long.calls _ _ l0 _ _ l1 true _ ?side1 ?side2 ?side3 ?side4 A3.out).mono ?_); (case side1 => repeat (first | exact HR0.out | (with_reducible refine Kd.C_alloc ?_ _) | (with_reducible refine Kd.C_drewN ?_ _) | (with_reducible refine Kd.C_drew ?_))); (case side2 => exact HC0.out); (case side3 => repeat (first | exact HR1.out | (with_reducible refine Kd.C_alloc ?_ _) | (with_reducible refine Kd.C_drewN ?_ _) | (with_reducible refine Kd.C_drew ?_))); (case side4 => exact HC1.out); rintro e w' ⟨rfl, ⟨nd, rfl⟩⟩; (try first | exact ⟨rfl, _, World.drewN_drewN _ _ _⟩ | exact ⟨rfl, _, Eq.trans (World.drewN_drewN _ _ _) (congrArg (World.drewN _) (Nat.add_assoc _ _ _))⟩))))
  go_ret
  exact ⟨by first | rfl | (simp [errW_none, errW_some] <;> rfl) | (simp [*, errW_none, errW_some] <;> rfl), pb HB⟩
 ·replace c4 := Bool.eq_false_iff.mpr c4
  subst c4
  have H1 : ((spec_A2Parties.f k l0).bind fun t381 => ((spec_A2Order.f k l1 (t381.length : Int)).bind fun t384 => ((impl_DoorTimes.f k t381 t384).bind fun bt387 => ((spec_DoorTimes.f k t381 t384).bind fun bt391 => ((impl_WaitingOf.f k t381 t384).bind fun bt395 => ((spec_WaitingOf.f k t381 t384).bind fun bt397 => ((impl_BestDoor.f k t381).bind fun bt399 => ((spec_BestDoor.f k t381).bind fun bt404 => ((impl_FirstCome.f k t381).bind fun bt409 => ((spec_FirstCome.f k t381).bind fun bt413 => ((impl_WaitingOf.f k t381 bt413.1).bind fun bt417 => ((impl_WaitingOf.f k t381 bt404.1).bind fun bt419 => (if bt387.2 = bt391.2 then (if bt387.2 = 0 then ((spec_A2Same.f k bt387.1 bt391.1).bind fun t421 => (if t421 = true then (if (bt391.1.length : Int) = (t381.length : Int) then (if bt395.2 = bt397.2 then (if bt395.2 = 0 then (if bt395.1 = bt397.1 then (if bt399.2.2 = bt404.2.2 then (if bt399.2.2 = 0 then ((spec_A2Same.f k bt399.1 bt404.1).bind fun t422 => (if t422 = true then (if bt399.2.1 = bt404.2.1 then (if bt404.2.1 > bt397.1 then (none) else (if bt409.2 = bt413.2 then (if bt409.2 = 0 then ((spec_A2Same.f k bt409.1 bt413.1).bind fun t423 => (if t423 = true then (if bt417.2 = 0 then (if bt417.1 < bt404.2.1 then (none) else (if bt419.2 = 0 then (if bt419.1 = bt404.2.1 then ((impl_ValidParties.f t381).bind fun t424 => (if t424 = true then (laws_FnDoor.l0 k t381 t384 bt391.1 bt397.1 bt413.1 0 0 0) else (none))) else (none)) else (none))) else (none)) else (none))) else (none)) else (none))) else (none)) else (none))) else (none)) else (none)) else (none)) else (none)) else (none)) else (none)) else (none))) else (none)) else (none)))))))))))))) = some r := by rw [if_neg (show ¬ (false = true) by decide)] at H; exact H
  clear H
  have H := H1
  clear H1
  replace H := Option.bind_eq_some_iff.mp H
  obtain ⟨t381, A50, H⟩ := H
  replace H : ((spec_A2Order.f k l1 (t381.length : Int)).bind fun t384 => ((impl_DoorTimes.f k t381 t384).bind fun bt387 => ((spec_DoorTimes.f k t381 t384).bind fun bt391 => ((impl_WaitingOf.f k t381 t384).bind fun bt395 => ((spec_WaitingOf.f k t381 t384).bind fun bt397 => ((impl_BestDoor.f k t381).bind fun bt399 => ((spec_BestDoor.f k t381).bind fun bt404 => ((impl_FirstCome.f k t381).bind fun bt409 => ((spec_FirstCome.f k t381).bind fun bt413 => ((impl_WaitingOf.f k t381 bt413.1).bind fun bt417 => ((impl_WaitingOf.f k t381 bt404.1).bind fun bt419 => (if bt387.2 = bt391.2 then (if bt387.2 = 0 then ((spec_A2Same.f k bt387.1 bt391.1).bind fun t421 => (if t421 = true then (if (bt391.1.length : Int) = (t381.length : Int) then (if bt395.2 = bt397.2 then (if bt395.2 = 0 then (if bt395.1 = bt397.1 then (if bt399.2.2 = bt404.2.2 then (if bt399.2.2 = 0 then ((spec_A2Same.f k bt399.1 bt404.1).bind fun t422 => (if t422 = true then (if bt399.2.1 = bt404.2.1 then (if bt404.2.1 > bt397.1 then (none) else (if bt409.2 = bt413.2 then (if bt409.2 = 0 then ((spec_A2Same.f k bt409.1 bt413.1).bind fun t423 => (if t423 = true then (if bt417.2 = 0 then (if bt417.1 < bt404.2.1 then (none) else (if bt419.2 = 0 then (if bt419.1 = bt404.2.1 then ((impl_ValidParties.f t381).bind fun t424 => (if t424 = true then (laws_FnDoor.l0 k t381 t384 bt391.1 bt397.1 bt413.1 0 0 0) else (none))) else (none)) else (none))) else (none)) else (none))) else (none)) else (none))) else (none)) else (none))) else (none)) else (none)) else (none)) else (none)) else (none)) else (none)) else (none))) else (none)) else (none))))))))))))) = some r := H
  have A5 := Aside0.mk A50
  clear A50
  replace H := Option.bind_eq_some_iff.mp H
  obtain ⟨t384, A60, H⟩ := H
  replace H : ((impl_DoorTimes.f k t381 t384).bind fun bt387 => ((spec_DoorTimes.f k t381 t384).bind fun bt391 => ((impl_WaitingOf.f k t381 t384).bind fun bt395 => ((spec_WaitingOf.f k t381 t384).bind fun bt397 => ((impl_BestDoor.f k t381).bind fun bt399 => ((spec_BestDoor.f k t381).bind fun bt404 => ((impl_FirstCome.f k t381).bind fun bt409 => ((spec_FirstCome.f k t381).bind fun bt413 => ((impl_WaitingOf.f k t381 bt413.1).bind fun bt417 => ((impl_WaitingOf.f k t381 bt404.1).bind fun bt419 => (if bt387.2 = bt391.2 then (if bt387.2 = 0 then ((spec_A2Same.f k bt387.1 bt391.1).bind fun t421 => (if t421 = true then (if (bt391.1.length : Int) = (t381.length : Int) then (if bt395.2 = bt397.2 then (if bt395.2 = 0 then (if bt395.1 = bt397.1 then (if bt399.2.2 = bt404.2.2 then (if bt399.2.2 = 0 then ((spec_A2Same.f k bt399.1 bt404.1).bind fun t422 => (if t422 = true then (if bt399.2.1 = bt404.2.1 then (if bt404.2.1 > bt397.1 then (none) else (if bt409.2 = bt413.2 then (if bt409.2 = 0 then ((spec_A2Same.f k bt409.1 bt413.1).bind fun t423 => (if t423 = true then (if bt417.2 = 0 then (if bt417.1 < bt404.2.1 then (none) else (if bt419.2 = 0 then (if bt419.1 = bt404.2.1 then ((impl_ValidParties.f t381).bind fun t424 => (if t424 = true then (laws_FnDoor.l0 k t381 t384 bt391.1 bt397.1 bt413.1 0 0 0) else (none))) else (none)) else (none))) else (none)) else (none))) else (none)) else (none))) else (none)) else (none))) else (none)) else (none)) else (none)) else (none)) else (none)) else (none)) else (none))) else (none)) else (none)))))))))))) = some r := H
  have A6 := Aside0.mk A60
  clear A60
  replace H := Option.bind_eq_some_iff.mp H
  obtain ⟨⟨t387, t388⟩, A70, H⟩ := H
  replace H : ((spec_DoorTimes.f k t381 t384).bind fun bt391 => ((impl_WaitingOf.f k t381 t384).bind fun bt395 => ((spec_WaitingOf.f k t381 t384).bind fun bt397 => ((impl_BestDoor.f k t381).bind fun bt399 => ((spec_BestDoor.f k t381).bind fun bt404 => ((impl_FirstCome.f k t381).bind fun bt409 => ((spec_FirstCome.f k t381).bind fun bt413 => ((impl_WaitingOf.f k t381 bt413.1).bind fun bt417 => ((impl_WaitingOf.f k t381 bt404.1).bind fun bt419 => (if t388 = bt391.2 then (if t388 = 0 then ((spec_A2Same.f k t387 bt391.1).bind fun t421 => (if t421 = true then (if (bt391.1.length : Int) = (t381.length : Int) then (if bt395.2 = bt397.2 then (if bt395.2 = 0 then (if bt395.1 = bt397.1 then (if bt399.2.2 = bt404.2.2 then (if bt399.2.2 = 0 then ((spec_A2Same.f k bt399.1 bt404.1).bind fun t422 => (if t422 = true then (if bt399.2.1 = bt404.2.1 then (if bt404.2.1 > bt397.1 then (none) else (if bt409.2 = bt413.2 then (if bt409.2 = 0 then ((spec_A2Same.f k bt409.1 bt413.1).bind fun t423 => (if t423 = true then (if bt417.2 = 0 then (if bt417.1 < bt404.2.1 then (none) else (if bt419.2 = 0 then (if bt419.1 = bt404.2.1 then ((impl_ValidParties.f t381).bind fun t424 => (if t424 = true then (laws_FnDoor.l0 k t381 t384 bt391.1 bt397.1 bt413.1 0 0 0) else (none))) else (none)) else (none))) else (none)) else (none))) else (none)) else (none))) else (none)) else (none))) else (none)) else (none)) else (none)) else (none)) else (none)) else (none)) else (none))) else (none)) else (none))))))))))) = some r := H
  have A7 := Aside0.mk A70
  clear A70
  replace H := Option.bind_eq_some_iff.mp H
  obtain ⟨⟨t391, t392⟩, A80, H⟩ := H
  replace H : ((impl_WaitingOf.f k t381 t384).bind fun bt395 => ((spec_WaitingOf.f k t381 t384).bind fun bt397 => ((impl_BestDoor.f k t381).bind fun bt399 => ((spec_BestDoor.f k t381).bind fun bt404 => ((impl_FirstCome.f k t381).bind fun bt409 => ((spec_FirstCome.f k t381).bind fun bt413 => ((impl_WaitingOf.f k t381 bt413.1).bind fun bt417 => ((impl_WaitingOf.f k t381 bt404.1).bind fun bt419 => (if t388 = t392 then (if t388 = 0 then ((spec_A2Same.f k t387 t391).bind fun t421 => (if t421 = true then (if (t391.length : Int) = (t381.length : Int) then (if bt395.2 = bt397.2 then (if bt395.2 = 0 then (if bt395.1 = bt397.1 then (if bt399.2.2 = bt404.2.2 then (if bt399.2.2 = 0 then ((spec_A2Same.f k bt399.1 bt404.1).bind fun t422 => (if t422 = true then (if bt399.2.1 = bt404.2.1 then (if bt404.2.1 > bt397.1 then (none) else (if bt409.2 = bt413.2 then (if bt409.2 = 0 then ((spec_A2Same.f k bt409.1 bt413.1).bind fun t423 => (if t423 = true then (if bt417.2 = 0 then (if bt417.1 < bt404.2.1 then (none) else (if bt419.2 = 0 then (if bt419.1 = bt404.2.1 then ((impl_ValidParties.f t381).bind fun t424 => (if t424 = true then (laws_FnDoor.l0 k t381 t384 t391 bt397.1 bt413.1 0 0 0) else (none))) else (none)) else (none))) else (none)) else (none))) else (none)) else (none))) else (none)) else (none))) else (none)) else (none)) else (none)) else (none)) else (none)) else (none)) else (none))) else (none)) else (none)))))))))) = some r := H
  have A8 := Aside0.mk A80
  clear A80
  replace H := Option.bind_eq_some_iff.mp H
  obtain ⟨⟨t395, t396⟩, A90, H⟩ := H
  replace H : ((spec_WaitingOf.f k t381 t384).bind fun bt397 => ((impl_BestDoor.f k t381).bind fun bt399 => ((spec_BestDoor.f k t381).bind fun bt404 => ((impl_FirstCome.f k t381).bind fun bt409 => ((spec_FirstCome.f k t381).bind fun bt413 => ((impl_WaitingOf.f k t381 bt413.1).bind fun bt417 => ((impl_WaitingOf.f k t381 bt404.1).bind fun bt419 => (if t388 = t392 then (if t388 = 0 then ((spec_A2Same.f k t387 t391).bind fun t421 => (if t421 = true then (if (t391.length : Int) = (t381.length : Int) then (if t396 = bt397.2 then (if t396 = 0 then (if t395 = bt397.1 then (if bt399.2.2 = bt404.2.2 then (if bt399.2.2 = 0 then ((spec_A2Same.f k bt399.1 bt404.1).bind fun t422 => (if t422 = true then (if bt399.2.1 = bt404.2.1 then (if bt404.2.1 > bt397.1 then (none) else (if bt409.2 = bt413.2 then (if bt409.2 = 0 then ((spec_A2Same.f k bt409.1 bt413.1).bind fun t423 => (if t423 = true then (if bt417.2 = 0 then (if bt417.1 < bt404.2.1 then (none) else (if bt419.2 = 0 then (if bt419.1 = bt404.2.1 then ((impl_ValidParties.f t381).bind fun t424 => (if t424 = true then (laws_FnDoor.l0 k t381 t384 t391 bt397.1 bt413.1 0 0 0) else (none))) else (none)) else (none))) else (none)) else (none))) else (none)) else (none))) else (none)) else (none))) else (none)) else (none)) else (none)) else (none)) else (none)) else (none)) else (none))) else (none)) else (none))))))))) = some r := H
  have A9 := Aside0.mk A90
  clear A90
  replace H := Option.bind_eq_some_iff.mp H
  obtain ⟨⟨t397, t398⟩, A100, H⟩ := H
  replace H : ((impl_BestDoor.f k t381).bind fun bt399 => ((spec_BestDoor.f k t381).bind fun bt404 => ((impl_FirstCome.f k t381).bind fun bt409 => ((spec_FirstCome.f k t381).bind fun bt413 => ((impl_WaitingOf.f k t381 bt413.1).bind fun bt417 => ((impl_WaitingOf.f k t381 bt404.1).bind fun bt419 => (if t388 = t392 then (if t388 = 0 then ((spec_A2Same.f k t387 t391).bind fun t421 => (if t421 = true then (if (t391.length : Int) = (t381.length : Int) then (if t396 = t398 then (if t396 = 0 then (if t395 = t397 then (if bt399.2.2 = bt404.2.2 then (if bt399.2.2 = 0 then ((spec_A2Same.f k bt399.1 bt404.1).bind fun t422 => (if t422 = true then (if bt399.2.1 = bt404.2.1 then (if bt404.2.1 > t397 then (none) else (if bt409.2 = bt413.2 then (if bt409.2 = 0 then ((spec_A2Same.f k bt409.1 bt413.1).bind fun t423 => (if t423 = true then (if bt417.2 = 0 then (if bt417.1 < bt404.2.1 then (none) else (if bt419.2 = 0 then (if bt419.1 = bt404.2.1 then ((impl_ValidParties.f t381).bind fun t424 => (if t424 = true then (laws_FnDoor.l0 k t381 t384 t391 t397 bt413.1 0 0 0) else (none))) else (none)) else (none))) else (none)) else (none))) else (none)) else (none))) else (none)) else (none))) else (none)) else (none)) else (none)) else (none)) else (none)) else (none)) else (none))) else (none)) else (none)))))))) = some r := H
  have A10 := Aside0.mk A100
  clear A100
  replace H := Option.bind_eq_some_iff.mp H
  obtain ⟨⟨t399, t400, t401⟩, A110, H⟩ := H
  replace H : ((spec_BestDoor.f k t381).bind fun bt404 => ((impl_FirstCome.f k t381).bind fun bt409 => ((spec_FirstCome.f k t381).bind fun bt413 => ((impl_WaitingOf.f k t381 bt413.1).bind fun bt417 => ((impl_WaitingOf.f k t381 bt404.1).bind fun bt419 => (if t388 = t392 then (if t388 = 0 then ((spec_A2Same.f k t387 t391).bind fun t421 => (if t421 = true then (if (t391.length : Int) = (t381.length : Int) then (if t396 = t398 then (if t396 = 0 then (if t395 = t397 then (if t401 = bt404.2.2 then (if t401 = 0 then ((spec_A2Same.f k t399 bt404.1).bind fun t422 => (if t422 = true then (if t400 = bt404.2.1 then (if bt404.2.1 > t397 then (none) else (if bt409.2 = bt413.2 then (if bt409.2 = 0 then ((spec_A2Same.f k bt409.1 bt413.1).bind fun t423 => (if t423 = true then (if bt417.2 = 0 then (if bt417.1 < bt404.2.1 then (none) else (if bt419.2 = 0 then (if bt419.1 = bt404.2.1 then ((impl_ValidParties.f t381).bind fun t424 => (if t424 = true then (laws_FnDoor.l0 k t381 t384 t391 t397 bt413.1 0 0 0) else (none))) else (none)) else (none))) else (none)) else (none))) else (none)) else (none))) else (none)) else (none))) else (none)) else (none)) else (none)) else (none)) else (none)) else (none)) else (none))) else (none)) else (none))))))) = some r := H
  have A11 := Aside0.mk A110
  clear A110
  replace H := Option.bind_eq_some_iff.mp H
  obtain ⟨⟨t404, t407, t408⟩, A120, H⟩ := H
  replace H : ((impl_FirstCome.f k t381).bind fun bt409 => ((spec_FirstCome.f k t381).bind fun bt413 => ((impl_WaitingOf.f k t381 bt413.1).bind fun bt417 => ((impl_WaitingOf.f k t381 t404).bind fun bt419 => (if t388 = t392 then (if t388 = 0 then ((spec_A2Same.f k t387 t391).bind fun t421 => (if t421 = true then (if (t391.length : Int) = (t381.length : Int) then (if t396 = t398 then (if t396 = 0 then (if t395 = t397 then (if t401 = t408 then (if t401 = 0 then ((spec_A2Same.f k t399 t404).bind fun t422 => (if t422 = true then (if t400 = t407 then (if t407 > t397 then (none) else (if bt409.2 = bt413.2 then (if bt409.2 = 0 then ((spec_A2Same.f k bt409.1 bt413.1).bind fun t423 => (if t423 = true then (if bt417.2 = 0 then (if bt417.1 < t407 then (none) else (if bt419.2 = 0 then (if bt419.1 = t407 then ((impl_ValidParties.f t381).bind fun t424 => (if t424 = true then (laws_FnDoor.l0 k t381 t384 t391 t397 bt413.1 0 0 0) else (none))) else (none)) else (none))) else (none)) else (none))) else (none)) else (none))) else (none)) else (none))) else (none)) else (none)) else (none)) else (none)) else (none)) else (none)) else (none))) else (none)) else (none)))))) = some r := H
  have A12 := Aside0.mk A120
  clear A120
  replace H := Option.bind_eq_some_iff.mp H
  obtain ⟨⟨t409, t410⟩, A130, H⟩ := H
  replace H : ((spec_FirstCome.f k t381).bind fun bt413 => ((impl_WaitingOf.f k t381 bt413.1).bind fun bt417 => ((impl_WaitingOf.f k t381 t404).bind fun bt419 => (if t388 = t392 then (if t388 = 0 then ((spec_A2Same.f k t387 t391).bind fun t421 => (if t421 = true then (if (t391.length : Int) = (t381.length : Int) then (if t396 = t398 then (if t396 = 0 then (if t395 = t397 then (if t401 = t408 then (if t401 = 0 then ((spec_A2Same.f k t399 t404).bind fun t422 => (if t422 = true then (if t400 = t407 then (if t407 > t397 then (none) else (if t410 = bt413.2 then (if t410 = 0 then ((spec_A2Same.f k t409 bt413.1).bind fun t423 => (if t423 = true then (if bt417.2 = 0 then (if bt417.1 < t407 then (none) else (if bt419.2 = 0 then (if bt419.1 = t407 then ((impl_ValidParties.f t381).bind fun t424 => (if t424 = true then (laws_FnDoor.l0 k t381 t384 t391 t397 bt413.1 0 0 0) else (none))) else (none)) else (none))) else (none)) else (none))) else (none)) else (none))) else (none)) else (none))) else (none)) else (none)) else (none)) else (none)) else (none)) else (none)) else (none))) else (none)) else (none))))) = some r := H
  have A13 := Aside0.mk A130
  clear A130
  replace H := Option.bind_eq_some_iff.mp H
  obtain ⟨⟨t413, t414⟩, A140, H⟩ := H
  replace H : ((impl_WaitingOf.f k t381 t413).bind fun bt417 => ((impl_WaitingOf.f k t381 t404).bind fun bt419 => (if t388 = t392 then (if t388 = 0 then ((spec_A2Same.f k t387 t391).bind fun t421 => (if t421 = true then (if (t391.length : Int) = (t381.length : Int) then (if t396 = t398 then (if t396 = 0 then (if t395 = t397 then (if t401 = t408 then (if t401 = 0 then ((spec_A2Same.f k t399 t404).bind fun t422 => (if t422 = true then (if t400 = t407 then (if t407 > t397 then (none) else (if t410 = t414 then (if t410 = 0 then ((spec_A2Same.f k t409 t413).bind fun t423 => (if t423 = true then (if bt417.2 = 0 then (if bt417.1 < t407 then (none) else (if bt419.2 = 0 then (if bt419.1 = t407 then ((impl_ValidParties.f t381).bind fun t424 => (if t424 = true then (laws_FnDoor.l0 k t381 t384 t391 t397 t413 0 0 0) else (none))) else (none)) else (none))) else (none)) else (none))) else (none)) else (none))) else (none)) else (none))) else (none)) else (none)) else (none)) else (none)) else (none)) else (none)) else (none))) else (none)) else (none)))) = some r := H
  have A14 := Aside0.mk A140
  clear A140
  replace H := Option.bind_eq_some_iff.mp H
  obtain ⟨⟨t417, t418⟩, A150, H⟩ := H
  replace H : ((impl_WaitingOf.f k t381 t404).bind fun bt419 => (if t388 = t392 then (if t388 = 0 then ((spec_A2Same.f k t387 t391).bind fun t421 => (if t421 = true then (if (t391.length : Int) = (t381.length : Int) then (if t396 = t398 then (if t396 = 0 then (if t395 = t397 then (if t401 = t408 then (if t401 = 0 then ((spec_A2Same.f k t399 t404).bind fun t422 => (if t422 = true then (if t400 = t407 then (if t407 > t397 then (none) else (if t410 = t414 then (if t410 = 0 then ((spec_A2Same.f k t409 t413).bind fun t423 => (if t423 = true then (if t418 = 0 then (if t417 < t407 then (none) else (if bt419.2 = 0 then (if bt419.1 = t407 then ((impl_ValidParties.f t381).bind fun t424 => (if t424 = true then (laws_FnDoor.l0 k t381 t384 t391 t397 t413 0 0 0) else (none))) else (none)) else (none))) else (none)) else (none))) else (none)) else (none))) else (none)) else (none))) else (none)) else (none)) else (none)) else (none)) else (none)) else (none)) else (none))) else (none)) else (none))) = some r := H
  have A15 := Aside0.mk A150
  clear A150
  replace H := Option.bind_eq_some_iff.mp H
  obtain ⟨⟨t419, t420⟩, A160, H⟩ := H
  replace H : (if t388 = t392 then (if t388 = 0 then ((spec_A2Same.f k t387 t391).bind fun t421 => (if t421 = true then (if (t391.length : Int) = (t381.length : Int) then (if t396 = t398 then (if t396 = 0 then (if t395 = t397 then (if t401 = t408 then (if t401 = 0 then ((spec_A2Same.f k t399 t404).bind fun t422 => (if t422 = true then (if t400 = t407 then (if t407 > t397 then (none) else (if t410 = t414 then (if t410 = 0 then ((spec_A2Same.f k t409 t413).bind fun t423 => (if t423 = true then (if t418 = 0 then (if t417 < t407 then (none) else (if t420 = 0 then (if t419 = t407 then ((impl_ValidParties.f t381).bind fun t424 => (if t424 = true then (laws_FnDoor.l0 k t381 t384 t391 t397 t413 0 0 0) else (none))) else (none)) else (none))) else (none)) else (none))) else (none)) else (none))) else (none)) else (none))) else (none)) else (none)) else (none)) else (none)) else (none)) else (none)) else (none))) else (none)) else (none)) = some r := H
  have A16 := Aside0.mk A160
  clear A160
  by_cases c17 : t388 = t392
  ·rw [if_pos c17] at H
   have c17b0 : (t388 == t392) = true := beq_iff_eq.mpr c17
   have c17b1 : (t388 != t392) = false := bne_eq_false_iff_eq.mpr c17
   clear c17
   by_cases c18 : t388 = 0
   ·rw [if_pos c18] at H
    have c18b0 : (t388 == 0) = true := beq_iff_eq.mpr c18
    have c18b1 : (t388 != 0) = false := bne_eq_false_iff_eq.mpr c18
    clear c18
    replace H := Option.bind_eq_some_iff.mp H
    obtain ⟨t421, A190, H⟩ := H
    replace H : (if t421 = true then (if (t391.length : Int) = (t381.length : Int) then (if t396 = t398 then (if t396 = 0 then (if t395 = t397 then (if t401 = t408 then (if t401 = 0 then ((spec_A2Same.f k t399 t404).bind fun t422 => (if t422 = true then (if t400 = t407 then (if t407 > t397 then (none) else (if t410 = t414 then (if t410 = 0 then ((spec_A2Same.f k t409 t413).bind fun t423 => (if t423 = true then (if t418 = 0 then (if t417 < t407 then (none) else (if t420 = 0 then (if t419 = t407 then ((impl_ValidParties.f t381).bind fun t424 => (if t424 = true then (laws_FnDoor.l0 k t381 t384 t391 t397 t413 0 0 0) else (none))) else (none)) else (none))) else (none)) else (none))) else (none)) else (none))) else (none)) else (none))) else (none)) else (none)) else (none)) else (none)) else (none)) else (none)) else (none)) = some r := H
    have A19 := Aside0.mk A190
    clear A190
    by_cases c20 : t421 = true
    ·subst c20
     have H1 : (if (t391.length : Int) = (t381.length : Int) then (if t396 = t398 then (if t396 = 0 then (if t395 = t397 then (if t401 = t408 then (if t401 = 0 then ((spec_A2Same.f k t399 t404).bind fun t422 => (if t422 = true then (if t400 = t407 then (if t407 > t397 then (none) else (if t410 = t414 then (if t410 = 0 then ((spec_A2Same.f k t409 t413).bind fun t423 => (if t423 = true then (if t418 = 0 then (if t417 < t407 then (none) else (if t420 = 0 then (if t419 = t407 then ((impl_ValidParties.f t381).bind fun t424 => (if t424 = true then (laws_FnDoor.l0 k t381 t384 t391 t397 t413 0 0 0) else (none))) else (none)) else (none))) else (none)) else (none))) else (none)) else (none))) else (none)) else (none))) else (none)) else (none)) else (none)) else (none)) else (none)) else (none)) = some r := by rw [if_pos rfl] at H; exact H
     clear H
     have H := H1
     clear H1
     by_cases c21 : (t391.length : Int) = (t381.length : Int)
     ·rw [if_pos c21] at H
      have c21b0 : ((t391.length : Int) == (t381.length : Int)) = true := beq_iff_eq.mpr c21
      have c21b1 : ((t391.length : Int) != (t381.length : Int)) = false := bne_eq_false_iff_eq.mpr c21
      have c21b2 : (t391.length == t381.length) = true := by first | simpa using c21 | (simp at c21 ⊢; omega)
      clear c21
      by_cases c22 : t396 = t398
      ·rw [if_pos c22] at H
       have c22b0 : (t396 == t398) = true := beq_iff_eq.mpr c22
       have c22b1 : (t396 != t398) = false := bne_eq_false_iff_eq.mpr c22
       clear c22
       by_cases c23 : t396 = 0
       ·rw [if_pos c23] at H
        have c23b0 : (t396 == 0) = true := beq_iff_eq.mpr c23
        have c23b1 : (t396 != 0) = false := bne_eq_false_iff_eq.mpr c23
        clear c23
        by_cases c24 : t395 = t397
        ·rw [if_pos c24] at H
         have c24b0 : (t395 == t397) = true := beq_iff_eq.mpr c24
         have c24b1 : (t395 != t397) = false := bne_eq_false_iff_eq.mpr c24
         clear c24
         by_cases c25 : t401 = t408
         ·rw [if_pos c25] at H
          have c25b0 : (t401 == t408) = true := beq_iff_eq.mpr c25
          have c25b1 : (t401 != t408) = false := bne_eq_false_iff_eq.mpr c25
          clear c25
          by_cases c26 : t401 = 0
          ·rw [if_pos c26] at H
           have c26b0 : (t401 == 0) = true := beq_iff_eq.mpr c26
           have c26b1 : (t401 != 0) = false := bne_eq_false_iff_eq.mpr c26
           clear c26
           replace H := Option.bind_eq_some_iff.mp H
           obtain ⟨t422, A270, H⟩ := H
           replace H : (if t422 = true then (if t400 = t407 then (if t407 > t397 then (none) else (if t410 = t414 then (if t410 = 0 then ((spec_A2Same.f k t409 t413).bind fun t423 => (if t423 = true then (if t418 = 0 then (if t417 < t407 then (none) else (if t420 = 0 then (if t419 = t407 then ((impl_ValidParties.f t381).bind fun t424 => (if t424 = true then (laws_FnDoor.l0 k t381 t384 t391 t397 t413 0 0 0) else (none))) else (none)) else (none))) else (none)) else (none))) else (none)) else (none))) else (none)) else (none)) = some r := H
           have A27 := Aside0.mk A270
           clear A270
           by_cases c28 : t422 = true
           ·subst c28
            have H1 : (if t400 = t407 then (if t407 > t397 then (none) else (if t410 = t414 then (if t410 = 0 then ((spec_A2Same.f k t409 t413).bind fun t423 => (if t423 = true then (if t418 = 0 then (if t417 < t407 then (none) else (if t420 = 0 then (if t419 = t407 then ((impl_ValidParties.f t381).bind fun t424 => (if t424 = true then (laws_FnDoor.l0 k t381 t384 t391 t397 t413 0 0 0) else (none))) else (none)) else (none))) else (none)) else (none))) else (none)) else (none))) else (none)) = some r := by rw [if_pos rfl] at H; exact H
            clear H
            have H := H1
            clear H1
            by_cases c29 : t400 = t407
            ·rw [if_pos c29] at H
             have c29b0 : (t400 == t407) = true := beq_iff_eq.mpr c29
             have c29b1 : (t400 != t407) = false := bne_eq_false_iff_eq.mpr c29
             clear c29
             by_cases c30 : t407 > t397
             ·rw [if_pos c30] at H
              exact absurd H (by simp)
             ·rw [if_neg c30] at H
              have c30b0 : decide (t397 < t407) = false := decide_eq_false c30
              clear c30
              by_cases c31 : t410 = t414
              ·rw [if_pos c31] at H
               have c31b0 : (t410 == t414) = true := beq_iff_eq.mpr c31
               have c31b1 : (t410 != t414) = false := bne_eq_false_iff_eq.mpr c31
               clear c31
               by_cases c32 : t410 = 0
               ·rw [if_pos c32] at H
                have c32b0 : (t410 == 0) = true := beq_iff_eq.mpr c32
                have c32b1 : (t410 != 0) = false := bne_eq_false_iff_eq.mpr c32
                clear c32
                replace H := Option.bind_eq_some_iff.mp H
                obtain ⟨t423, A330, H⟩ := H
                replace H : (if t423 = true then (if t418 = 0 then (if t417 < t407 then (none) else (if t420 = 0 then (if t419 = t407 then ((impl_ValidParties.f t381).bind fun t424 => (if t424 = true then (laws_FnDoor.l0 k t381 t384 t391 t397 t413 0 0 0) else (none))) else (none)) else (none))) else (none)) else (none)) = some r := H
                have A33 := Aside0.mk A330
                clear A330
                by_cases c34 : t423 = true
                ·subst c34
                 have H1 : (if t418 = 0 then (if t417 < t407 then (none) else (if t420 = 0 then (if t419 = t407 then ((impl_ValidParties.f t381).bind fun t424 => (if t424 = true then (laws_FnDoor.l0 k t381 t384 t391 t397 t413 0 0 0) else (none))) else (none)) else (none))) else (none)) = some r := by rw [if_pos rfl] at H; exact H
                 clear H
                 have H := H1
                 clear H1
                 by_cases c35 : t418 = 0
                 ·rw [if_pos c35] at H
                  have c35b0 : (t418 == 0) = true := beq_iff_eq.mpr c35
                  have c35b1 : (t418 != 0) = false := bne_eq_false_iff_eq.mpr c35
                  clear c35
                  by_cases c36 : t417 < t407
                  ·rw [if_pos c36] at H
                   exact absurd H (by simp)
                  ·rw [if_neg c36] at H
                   have c36b0 : decide (t417 < t407) = false := decide_eq_false c36
                   clear c36
                   by_cases c37 : t420 = 0
                   ·rw [if_pos c37] at H
                    have c37b0 : (t420 == 0) = true := beq_iff_eq.mpr c37
                    have c37b1 : (t420 != 0) = false := bne_eq_false_iff_eq.mpr c37
                    clear c37
                    by_cases c38 : t419 = t407
                    ·rw [if_pos c38] at H
                     have c38b0 : (t419 == t407) = true := beq_iff_eq.mpr c38
                     have c38b1 : (t419 != t407) = false := bne_eq_false_iff_eq.mpr c38
                     clear c38
                     replace H := Option.bind_eq_some_iff.mp H
                     obtain ⟨t424, A390, H⟩ := H
                     replace H : (if t424 = true then (laws_FnDoor.l0 k t381 t384 t391 t397 t413 0 0 0) else (none)) = some r := H
                     have A39 := Aside0.mk A390
                     clear A390
                     by_cases c40 : t424 = true
                     ·subst c40
                      have H1 : (laws_FnDoor.l0 k t381 t384 t391 t397 t413 0 0 0) = some r := by rw [if_pos rfl] at H; exact H
                      clear H
                      have H := H1
                      clear H1
                      have H' := Aside0.mk H
                      clear H
                      go_enter Try.func5, Try.ntmps5
                      have hwr_ : ∀ z_ : Int, IntKind.i64.wrap z_ = wrap64 z_ := IntWalk.i64_left
                      go_wp2_with (first | (go_at_call 22; (with_reducible refine (laws_a2Long.calls _ _ l0 _ _ l1 false _ ?side1 ?side2 ?side3 ?side4 A3.out).mono ?_); (case side1 => repeat (first | exact HR0.out | (with_reducible refine Kd.C_alloc ?_ _) | (with_reducible refine Kd.C_drewN ?_ _) | (with_reducible refine Kd.C_drew ?_))); (case side2 => exact HC0.out); (case side3 => repeat (first | exact HR1.out | (with_reducible refine Kd.C_alloc ?_ _) | (with_reducible refine Kd.C_drewN ?_ _) | (with_reducible refine Kd.C_drew ?_))); (case side4 => exact HC1.out); rintro e w' ⟨rfl, ⟨nd, rfl⟩⟩; (try first | exact ⟨rfl, _, World.drewN_drewN _ _ _⟩ | exact ⟨rfl, _, Eq.trans (World.drewN_drewN _ _ _) (congrArg (World.drewN _) (Nat.add_assoc _ _ _))⟩)) | (go_at_call 23; (with_reducible refine (spec_A2Parties.calls k _ _ l0 t381 _ ?side1 ?side2 A5.out).mono ?_); (case side1 => repeat (first | exact HR0.out | (with_reducible refine Kd.C_alloc ?_ _) | (with_reducible refine Kd.C_drewN ?_ _) | (with_reducible refine Kd.C_drew ?_))); (case side2 => exact HC0.out); rintro e w41 ⟨v382, rfl, ho0, hb⟩; have n0_ := Aside0.mk (Kd.R_lower ho0 (below_size (by repeat (first | (with_reducible first | exact HB.out | apply below_alloc | apply pw_below_drewN | apply below_drew1) | exact HB.out)))); have n1_ := bst HB hb; clear HB; have HO383 := n0_; have HB := n1_; clear n0_ n1_; (try clear hb); (try clear hb2); (try clear hk); (try clear hi); (try clear ho0); obtain ⟨Ao42, co42, eo42⟩ := Kd.R_slice HO383.out; subst eo42) | (go_at_call 24; (with_reducible refine (spec_A2Order.calls k _ _ l1 (t381.length : Int) t384 _ ?side1 ?side2 A6.out).mono ?_); (case side1 => repeat (first | exact (Kd.C_below HR1.out HB.out) | (with_reducible refine Kd.C_alloc ?_ _) | (with_reducible refine Kd.C_drewN ?_ _) | (with_reducible refine Kd.C_drew ?_))); (case side2 => exact HC1.out); rintro e w43 ⟨v385, rfl, ho0, hb⟩; have n0_ := krb HO383 hb; have n1_ := Aside0.mk (Kd.R_lower ho0 (below_size (by repeat (first | (with_reducible first | exact HB.out | apply below_alloc | apply pw_below_drewN | apply below_drew1) | exact HB.out)))); have n2_ := bst HB hb; clear HO383; clear HB; have HO383 := n0_; have HO386 := n1_; have HB := n2_; clear n0_ n1_ n2_; (try clear hb); (try clear hb2); (try clear hk); (try clear hi); (try clear ho0); obtain ⟨Ao44, co44, eo44⟩ := Kd.R_slice HO386.out; subst eo44) | (go_at_call 25; (with_reducible refine (impl_DoorTimes.calls k _ _ t381 _ _ t384 t387 t388 _ ?side1 ?side2 ?side3 ?side4 A7.out).mono ?_); (case side1 => repeat (first | exact (Kd.R_reads' HO383.out).2.2 | (with_reducible refine Kd.C_alloc ?_ _) | (with_reducible refine Kd.C_drewN ?_ _) | (with_reducible refine Kd.C_drew ?_))); (case side2 => exact (Kd.R_reads' HO383.out).2.1); (case side3 => repeat (first | exact (Kd.R_reads' HO386.out).2.2 | (with_reducible refine Kd.C_alloc ?_ _) | (with_reducible refine Kd.C_drewN ?_ _) | (with_reducible refine Kd.C_drew ?_))); (case side4 => exact (Kd.R_reads' HO386.out).2.1); rintro e w45 ⟨v389, rfl, ho0, hb⟩; have n0_ := krb HO383 hb; have n1_ := Aside0.mk (Kd.R_elder' (by (with_reducible repeat (first | apply Kd.R_alloc | apply Kd.R_drewN | apply Kd.R_drew)); exact HO386.out) (Kd.R_base ho0) hb); have n2_ := Aside0.mk (Kd.R_lower (Kd.R_new' ho0 (Kd.R_lt (by (with_reducible repeat (first | apply Kd.R_alloc | apply Kd.R_drewN | apply Kd.R_drew)); exact HO386.out))) (below_size (by repeat (first | (with_reducible first | exact HB.out | apply below_alloc | apply pw_below_drewN | apply below_drew1) | exact HB.out)))); have n3_ := bst HB hb; clear HO383; clear HO386; clear HB; have HO383 := n0_; have HO386 := n1_; have HO390 := n2_; have HB := n3_; clear n0_ n1_ n2_ n3_; (try clear hb); (try clear hb2); (try clear hk); (try clear hi); (try clear ho0)) | (go_at_call 26; (with_reducible refine (spec_DoorTimes.calls k _ _ t381 _ _ t384 t391 t392 _ ?side1 ?side2 ?side3 ?side4 A8.out).mono ?_); (case side1 => repeat (first | exact (Kd.R_reads' HO383.out).2.2 | (with_reducible refine Kd.C_alloc ?_ _) | (with_reducible refine Kd.C_drewN ?_ _) | (with_reducible refine Kd.C_drew ?_))); (case side2 => exact (Kd.R_reads' HO383.out).2.1); (case side3 => repeat (first | exact (Kd.R_reads' HO386.out).2.2 | (with_reducible refine Kd.C_alloc ?_ _) | (with_reducible refine Kd.C_drewN ?_ _) | (with_reducible refine Kd.C_drew ?_))); (case side4 => exact (Kd.R_reads' HO386.out).2.1); rintro e w46 ⟨v393, rfl, ho0, hb⟩; have n0_ := krb HO383 hb; have n1_ := Aside0.mk (Kd.R_elder' (by (with_reducible repeat (first | apply Kd.R_alloc | apply Kd.R_drewN | apply Kd.R_drew)); exact HO386.out) (Kd.R_base ho0) hb); have n2_ := Aside0.mk (Kd.R_elder' (by (with_reducible repeat (first | apply Kd.R_alloc | apply Kd.R_drewN | apply Kd.R_drew)); exact HO390.out) (Kd.R_base ho0) hb); have n3_ := Aside0.mk (Kd.R_lower (Kd.R_new' (Kd.R_new' ho0 (Kd.R_lt (by (with_reducible repeat (first | apply Kd.R_alloc | apply Kd.R_drewN | apply Kd.R_drew)); exact HO386.out))) (Kd.R_lt (by (with_reducible repeat (first | apply Kd.R_alloc | apply Kd.R_drewN | apply Kd.R_drew)); exact HO390.out))) (below_size (by repeat (first | (with_reducible first | exact HB.out | apply below_alloc | apply pw_below_drewN | apply below_drew1) | exact HB.out)))); have n4_ := bst HB hb; clear HO383; clear HO386; clear HO390; clear HB; have HO383 := n0_; have HO386 := n1_; have HO390 := n2_; have HO394 := n3_; have HB := n4_; clear n0_ n1_ n2_ n3_ n4_; (try clear hb); (try clear hb2); (try clear hk); (try clear hi); (try clear ho0)) | (go_at_call 27; (with_reducible refine (impl_WaitingOf.calls k _ _ t381 _ _ t384 t395 t396 _ ?side1 ?side2 ?side3 ?side4 A9.out).mono ?_); (case side1 => repeat (first | exact (Kd.R_reads' HO383.out).2.2 | (with_reducible refine Kd.C_alloc ?_ _) | (with_reducible refine Kd.C_drewN ?_ _) | (with_reducible refine Kd.C_drew ?_))); (case side2 => exact (Kd.R_reads' HO383.out).2.1); (case side3 => repeat (first | exact (Kd.R_reads' HO386.out).2.2 | (with_reducible refine Kd.C_alloc ?_ _) | (with_reducible refine Kd.C_drewN ?_ _) | (with_reducible refine Kd.C_drew ?_))); (case side4 => exact (Kd.R_reads' HO386.out).2.1); rintro e w47 ⟨rfl, hb⟩; have n0_ := krb HO383 hb; have n1_ := krb HO386 hb; have n2_ := krb HO390 hb; have n3_ := krb HO394 hb; have n4_ := bst HB hb; clear HO383; clear HO386; clear HO390; clear HO394; clear HB; have HO383 := n0_; have HO386 := n1_; have HO390 := n2_; have HO394 := n3_; have HB := n4_; clear n0_ n1_ n2_ n3_ n4_; (try clear hb); (try clear hb2); (try clear hk); (try clear hi)) | (go_at_call 28; (with_reducible refine (spec_WaitingOf.calls k _ _ t381 _ _ t384 t397 t398 _ ?side1 ?side2 ?side3 ?side4 A10.out).mono ?_); (case side1 => repeat (first | exact (Kd.R_reads' HO383.out).2.2 | (with_reducible refine Kd.C_alloc ?_ _) | (with_reducible refine Kd.C_drewN ?_ _) | (with_reducible refine Kd.C_drew ?_))); (case side2 => exact (Kd.R_reads' HO383.out).2.1); (case side3 => repeat (first | exact (Kd.R_reads' HO386.out).2.2 | (with_reducible refine Kd.C_alloc ?_ _) | (with_reducible refine Kd.C_drewN ?_ _) | (with_reducible refine Kd.C_drew ?_))); (case side4 => exact (Kd.R_reads' HO386.out).2.1); rintro e w48 ⟨rfl, hb⟩; have n0_ := krb HO383 hb; have n1_ := krb HO386 hb; have n2_ := krb HO390 hb; have n3_ := krb HO394 hb; have n4_ := bst HB hb; clear HO383; clear HO386; clear HO390; clear HO394; clear HB; have HO383 := n0_; have HO386 := n1_; have HO390 := n2_; have HO394 := n3_; have HB := n4_; clear n0_ n1_ n2_ n3_ n4_; (try clear hb); (try clear hb2); (try clear hk); (try clear hi)) | (go_at_call 29; (with_reducible refine (impl_BestDoor.calls k _ _ t381 t399 t400 t401 _ ?side1 ?side2 A11.out).mono ?_); (case side1 => repeat (first | exact (Kd.R_reads' HO383.out).2.2 | (with_reducible refine Kd.C_alloc ?_ _) | (with_reducible refine Kd.C_drewN ?_ _) | (with_reducible refine Kd.C_drew ?_))); (case side2 => exact (Kd.R_reads' HO383.out).2.1); rintro e w49 ⟨v402, rfl, ho0, hb⟩; have n0_ := krb HO383 hb; have n1_ := Aside0.mk (Kd.R_elder' (by (with_reducible repeat (first | apply Kd.R_alloc | apply Kd.R_drewN | apply Kd.R_drew)); exact HO386.out) (Kd.R_base ho0) hb); have n2_ := Aside0.mk (Kd.R_elder' (by (with_reducible repeat (first | apply Kd.R_alloc | apply Kd.R_drewN | apply Kd.R_drew)); exact HO390.out) (Kd.R_base ho0) hb); have n3_ := Aside0.mk (Kd.R_elder' (by (with_reducible repeat (first | apply Kd.R_alloc | apply Kd.R_drewN | apply Kd.R_drew)); exact HO394.out) (Kd.R_base ho0) hb); have n4_ := Aside0.mk (Kd.R_lower (Kd.R_new' (Kd.R_new' (Kd.R_new' ho0 (Kd.R_lt (by (with_reducible repeat (first | apply Kd.R_alloc | apply Kd.R_drewN | apply Kd.R_drew)); exact HO386.out))) (Kd.R_lt (by (with_reducible repeat (first | apply Kd.R_alloc | apply Kd.R_drewN | apply Kd.R_drew)); exact HO390.out))) (Kd.R_lt (by (with_reducible repeat (first | apply Kd.R_alloc | apply Kd.R_drewN | apply Kd.R_drew)); exact HO394.out))) (below_size (by repeat (first | (with_reducible first | exact HB.out | apply below_alloc | apply pw_below_drewN | apply below_drew1) | exact HB.out)))); have n5_ := bst HB hb; clear HO383; clear HO386; clear HO390; clear HO394; clear HB; have HO383 := n0_; have HO386 := n1_; have HO390 := n2_; have HO394 := n3_; have HO403 := n4_; have HB := n5_; clear n0_ n1_ n2_ n3_ n4_ n5_; (try clear hb); (try clear hb2); (try clear hk); (try clear hi); (try clear ho0)) | (go_at_call 30; (with_reducible refine (spec_BestDoor.calls k _ _ t381 t404 t407 t408 _ ?side1 ?side2 A12.out).mono ?_); (case side1 => repeat (first | exact (Kd.R_reads' HO383.out).2.2 | (with_reducible refine Kd.C_alloc ?_ _) | (with_reducible refine Kd.C_drewN ?_ _) | (with_reducible refine Kd.C_drew ?_))); (case side2 => exact (Kd.R_reads' HO383.out).2.1); rintro e w50 ⟨v405, rfl, ho0, hb⟩; have n0_ := krb HO383 hb; have n1_ := krb HO386 hb; have n2_ := krb HO390 hb; have n3_ := krb HO394 hb; have n4_ := krb HO403 hb; have n5_ := Aside0.mk (Kd.V_lower (Kd.V_mono (ok' := fun k_ => some k_ ≠ (.slice Ao42 t381.length co42 : Value).ownBlock ∧ some k_ ≠ (.slice Ao44 t384.length co44 : Value).ownBlock ∧ some k_ ≠ (v389 : Value).ownBlock ∧ some k_ ≠ (v393 : Value).ownBlock ∧ some k_ ≠ (v402 : Value).ownBlock) ho0 (fun k_ hk_ => ⟨(Kd.fresh' (Kd.R_lt (by (with_reducible repeat (first | apply Kd.R_alloc | apply Kd.R_drewN | apply Kd.R_drew)); exact HO383.out)) k_ hk_), (Kd.fresh' (Kd.R_lt (by (with_reducible repeat (first | apply Kd.R_alloc | apply Kd.R_drewN | apply Kd.R_drew)); exact HO386.out)) k_ hk_), (Kd.fresh' (Kd.R_lt (by (with_reducible repeat (first | apply Kd.R_alloc | apply Kd.R_drewN | apply Kd.R_drew)); exact HO390.out)) k_ hk_), (Kd.fresh' (Kd.R_lt (by (with_reducible repeat (first | apply Kd.R_alloc | apply Kd.R_drewN | apply Kd.R_drew)); exact HO394.out)) k_ hk_), (Kd.fresh' (Kd.R_lt (by (with_reducible repeat (first | apply Kd.R_alloc | apply Kd.R_drewN | apply Kd.R_drew)); exact HO403.out)) k_ hk_)⟩)) (below_size (by repeat (first | (with_reducible first | exact HB.out | apply below_alloc | apply pw_below_drewN | apply below_drew1) | exact HB.out)))); have n6_ := bst HB hb; clear HO383; clear HO386; clear HO390; clear HO394; clear HO403; clear HB; have HO383 := n0_; have HO386 := n1_; have HO390 := n2_; have HO394 := n3_; have HO403 := n4_; have HO406 := n5_; have HB := n6_; clear n0_ n1_ n2_ n3_ n4_ n5_ n6_; (try clear hb); (try clear hb2); (try clear hk); (try clear hi); (try clear ho0)) | (go_at_call 9; (with_reducible refine (impl_FirstCome.calls k _ _ t381 t409 t410 _ ?side1 ?side2 A13.out).mono ?_); (case side1 => repeat (first | exact (Kd.R_reads' HO383.out).2.2 | (with_reducible refine Kd.C_alloc ?_ _) | (with_reducible refine Kd.C_drewN ?_ _) | (with_reducible refine Kd.C_drew ?_))); (case side2 => exact (Kd.R_reads' HO383.out).2.1); rintro e w51 ⟨v411, rfl, ho0, hb⟩; have n0_ := krb HO383 hb; have n1_ := Aside0.mk (Kd.R_elder' (by (with_reducible repeat (first | apply Kd.R_alloc | apply Kd.R_drewN | apply Kd.R_drew)); exact HO386.out) (Kd.R_base ho0) hb); have n2_ := Aside0.mk (Kd.R_elder' (by (with_reducible repeat (first | apply Kd.R_alloc | apply Kd.R_drewN | apply Kd.R_drew)); exact HO390.out) (Kd.R_base ho0) hb); have n3_ := Aside0.mk (Kd.R_elder' (by (with_reducible repeat (first | apply Kd.R_alloc | apply Kd.R_drewN | apply Kd.R_drew)); exact HO394.out) (Kd.R_base ho0) hb); have n4_ := Aside0.mk (Kd.R_elder' (by (with_reducible repeat (first | apply Kd.R_alloc | apply Kd.R_drewN | apply Kd.R_drew)); exact HO403.out) (Kd.R_base ho0) hb); have n5_ := Aside0.mk (Kd.V_elder' (by (with_reducible repeat (first | apply Kd.V_alloc | apply Kd.V_drewN | apply Kd.V_drew)); exact HO406.out) (Kd.R_base ho0) hb); have n6_ := Aside0.mk (Kd.R_lower (Kd.R_new' (Kd.R_new' (Kd.R_new' (Kd.R_new' ho0 (Kd.R_lt (by (with_reducible repeat (first | apply Kd.R_alloc | apply Kd.R_drewN | apply Kd.R_drew)); exact HO386.out))) (Kd.R_lt (by (with_reducible repeat (first | apply Kd.R_alloc | apply Kd.R_drewN | apply Kd.R_drew)); exact HO390.out))) (Kd.R_lt (by (with_reducible repeat (first | apply Kd.R_alloc | apply Kd.R_drewN | apply Kd.R_drew)); exact HO394.out))) (Kd.R_lt (by (with_reducible repeat (first | apply Kd.R_alloc | apply Kd.R_drewN | apply Kd.R_drew)); exact HO403.out))) (below_size (by repeat (first | (with_reducible first | exact HB.out | apply below_alloc | apply pw_below_drewN | apply below_drew1) | exact HB.out)))); have n7_ := bst HB hb; clear HO383; clear HO386; clear HO390; clear HO394; clear HO403; clear HO406; clear HB; have HO383 := n0_; have HO386 := n1_; have HO390 := n2_; have HO394 := n3_; have HO403 := n4_; have HO406 := n5_; have HO412 := n6_; have HB := n7_; clear n0_ n1_ n2_ n3_ n4_ n5_ n6_ n7_; (try clear hb); (try clear hb2); (try clear hk); (try clear hi); (try clear ho0)) | (go_at_call 7; (with_reducible refine (spec_FirstCome.calls k _ _ t381 t413 t414 _ ?side1 ?side2 A14.out).mono ?_); (case side1 => repeat (first | exact (Kd.R_reads' HO383.out).2.2 | (with_reducible refine Kd.C_alloc ?_ _) | (with_reducible refine Kd.C_drewN ?_ _) | (with_reducible refine Kd.C_drew ?_))); (case side2 => exact (Kd.R_reads' HO383.out).2.1); rintro e w52 ⟨v415, rfl, ho0, hb⟩; have n0_ := krb HO383 hb; have n1_ := Aside0.mk (Kd.R_elder' (by (with_reducible repeat (first | apply Kd.R_alloc | apply Kd.R_drewN | apply Kd.R_drew)); exact HO386.out) (Kd.R_base ho0) hb); have n2_ := Aside0.mk (Kd.R_elder' (by (with_reducible repeat (first | apply Kd.R_alloc | apply Kd.R_drewN | apply Kd.R_drew)); exact HO390.out) (Kd.R_base ho0) hb); have n3_ := Aside0.mk (Kd.R_elder' (by (with_reducible repeat (first | apply Kd.R_alloc | apply Kd.R_drewN | apply Kd.R_drew)); exact HO394.out) (Kd.R_base ho0) hb); have n4_ := Aside0.mk (Kd.R_elder' (by (with_reducible repeat (first | apply Kd.R_alloc | apply Kd.R_drewN | apply Kd.R_drew)); exact HO403.out) (Kd.R_base ho0) hb); have n5_ := Aside0.mk (Kd.V_elder' (by (with_reducible repeat (first | apply Kd.V_alloc | apply Kd.V_drewN | apply Kd.V_drew)); exact HO406.out) (Kd.R_base ho0) hb); have n6_ := Aside0.mk (Kd.R_elder' (by (with_reducible repeat (first | apply Kd.R_alloc | apply Kd.R_drewN | apply Kd.R_drew)); exact HO412.out) (Kd.R_base ho0) hb); have n7_ := Aside0.mk (Kd.R_lower (Kd.R_new' (Kd.R_new' (Kd.R_new' (Kd.R_new' (Kd.R_new' ho0 (Kd.R_lt (by (with_reducible repeat (first | apply Kd.R_alloc | apply Kd.R_drewN | apply Kd.R_drew)); exact HO386.out))) (Kd.R_lt (by (with_reducible repeat (first | apply Kd.R_alloc | apply Kd.R_drewN | apply Kd.R_drew)); exact HO390.out))) (Kd.R_lt (by (with_reducible repeat (first | apply Kd.R_alloc | apply Kd.R_drewN | apply Kd.R_drew)); exact HO394.out))) (Kd.R_lt (by (with_reducible repeat (first | apply Kd.R_alloc | apply Kd.R_drewN | apply Kd.R_drew)); exact HO403.out))) (Kd.R_lt (by (with_reducible repeat (first | apply Kd.R_alloc | apply Kd.R_drewN | apply Kd.R_drew)); exact HO412.out))) (below_size (by repeat (first | (with_reducible first | exact HB.out | apply below_alloc | apply pw_below_drewN | apply below_drew1) | exact HB.out)))); have n8_ := bst HB hb; clear HO383; clear HO386; clear HO390; clear HO394; clear HO403; clear HO406; clear HO412; clear HB; have HO383 := n0_; have HO386 := n1_; have HO390 := n2_; have HO394 := n3_; have HO403 := n4_; have HO406 := n5_; have HO412 := n6_; have HO416 := n7_; have HB := n8_; clear n0_ n1_ n2_ n3_ n4_ n5_ n6_ n7_ n8_; (try clear hb); (try clear hb2); (try clear hk); (try clear hi); (try clear ho0); obtain ⟨Ao53, co53, eo53⟩ := Kd.R_slice HO416.out; subst eo53) | (go_at_call 27; (with_reducible refine (impl_WaitingOf.calls k _ _ t381 _ _ t413 t417 t418 _ ?side1 ?side2 ?side3 ?side4 A15.out).mono ?_); (case side1 => repeat (first | exact (Kd.R_reads' HO383.out).2.2 | (with_reducible refine Kd.C_alloc ?_ _) | (with_reducible refine Kd.C_drewN ?_ _) | (with_reducible refine Kd.C_drew ?_))); (case side2 => exact (Kd.R_reads' HO383.out).2.1); (case side3 => repeat (first | exact (Kd.R_reads' HO416.out).2.2 | (with_reducible refine Kd.C_alloc ?_ _) | (with_reducible refine Kd.C_drewN ?_ _) | (with_reducible refine Kd.C_drew ?_))); (case side4 => exact (Kd.R_reads' HO416.out).2.1); rintro e w54 ⟨rfl, hb⟩; have n0_ := krb HO383 hb; have n1_ := krb HO386 hb; have n2_ := krb HO390 hb; have n3_ := krb HO394 hb; have n4_ := krb HO403 hb; have n5_ := Aside0.mk (Kd.V_below (by (with_reducible repeat (first | apply Kd.V_alloc | apply Kd.V_drewN | apply Kd.V_drew)); exact HO406.out) hb); have n6_ := krb HO412 hb; have n7_ := krb HO416 hb; have n8_ := bst HB hb; clear HO383; clear HO386; clear HO390; clear HO394; clear HO403; clear HO406; clear HO412; clear HO416; clear HB; have HO383 := n0_; have HO386 := n1_; have HO390 := n2_; have HO394 := n3_; have HO403 := n4_; have HO406 := n5_; have HO412 := n6_; have HO416 := n7_; have HB := n8_; clear n0_ n1_ n2_ n3_ n4_ n5_ n6_ n7_ n8_; (try clear hb); (try clear hb2); (try clear hk); (try clear hi); obtain ⟨Ao55, co55, eo55⟩ := Kd.V_slice HO406.out; subst eo55) | (go_at_call 27; (with_reducible refine (impl_WaitingOf.calls k _ _ t381 _ _ t404 t419 t420 _ ?side1 ?side2 ?side3 ?side4 A16.out).mono ?_); (case side1 => repeat (first | exact (Kd.R_reads' HO383.out).2.2 | (with_reducible refine Kd.C_alloc ?_ _) | (with_reducible refine Kd.C_drewN ?_ _) | (with_reducible refine Kd.C_drew ?_))); (case side2 => exact (Kd.R_reads' HO383.out).2.1); (case side3 => repeat (first | exact (Kd.V_reads' HO406.out).2.2 | (with_reducible refine Kd.C_alloc ?_ _) | (with_reducible refine Kd.C_drewN ?_ _) | (with_reducible refine Kd.C_drew ?_))); (case side4 => exact (Kd.V_reads' HO406.out).2.1); rintro e w56 ⟨rfl, hb⟩; have n0_ := krb HO383 hb; have n1_ := krb HO386 hb; have n2_ := krb HO390 hb; have n3_ := krb HO394 hb; have n4_ := krb HO403 hb; have n5_ := Aside0.mk (Kd.V_below (by (with_reducible repeat (first | apply Kd.V_alloc | apply Kd.V_drewN | apply Kd.V_drew)); exact HO406.out) hb); have n6_ := krb HO412 hb; have n7_ := krb HO416 hb; have n8_ := bst HB hb; clear HO383; clear HO386; clear HO390; clear HO394; clear HO403; clear HO406; clear HO412; clear HO416; clear HB; have HO383 := n0_; have HO386 := n1_; have HO390 := n2_; have HO394 := n3_; have HO403 := n4_; have HO406 := n5_; have HO412 := n6_; have HO416 := n7_; have HB := n8_; clear n0_ n1_ n2_ n3_ n4_ n5_ n6_ n7_ n8_; (try clear hb); (try clear hb2); (try clear hk); (try clear hi); obtain ⟨Ao57, co57, eo57⟩ := Kd.R_slice HO390.out; subst eo57; obtain ⟨Ao58, co58, eo58⟩ := Kd.R_slice HO394.out; subst eo58) | (go_at_call 31; (with_reducible refine (spec_A2Same.calls k _ _ t387 _ _ t391 true _ ?side1 ?side2 ?side3 ?side4 A19.out).mono ?_); (case side1 => repeat (first | exact (Kd.R_reads' HO390.out).2.2 | (with_reducible refine Kd.C_alloc ?_ _) | (with_reducible refine Kd.C_drewN ?_ _) | (with_reducible refine Kd.C_drew ?_))); (case side2 => exact (Kd.R_reads' HO390.out).2.1); (case side3 => repeat (first | exact (Kd.R_reads' HO394.out).2.2 | (with_reducible refine Kd.C_alloc ?_ _) | (with_reducible refine Kd.C_drewN ?_ _) | (with_reducible refine Kd.C_drew ?_))); (case side4 => exact (Kd.R_reads' HO394.out).2.1); rintro e w' ⟨rfl, ⟨nd, rfl⟩⟩; (try first | exact ⟨rfl, _, World.drewN_drewN _ _ _⟩ | exact ⟨rfl, _, Eq.trans (World.drewN_drewN _ _ _) (congrArg (World.drewN _) (Nat.add_assoc _ _ _))⟩); obtain ⟨Ao59, co59, eo59⟩ := Kd.R_slice HO403.out; subst eo59) | (go_at_call 31; (with_reducible refine (spec_A2Same.calls k _ _ t399 _ _ t404 true _ ?side1 ?side2 ?side3 ?side4 A27.out).mono ?_); (case side1 => repeat (first | exact (Kd.R_reads' HO403.out).2.2 | (with_reducible refine Kd.C_alloc ?_ _) | (with_reducible refine Kd.C_drewN ?_ _) | (with_reducible refine Kd.C_drew ?_))); (case side2 => exact (Kd.R_reads' HO403.out).2.1); (case side3 => repeat (first | exact (Kd.V_reads' HO406.out).2.2 | (with_reducible refine Kd.C_alloc ?_ _) | (with_reducible refine Kd.C_drewN ?_ _) | (with_reducible refine Kd.C_drew ?_))); (case side4 => exact (Kd.V_reads' HO406.out).2.1); rintro e w' ⟨rfl, ⟨nd, rfl⟩⟩; (try first | exact ⟨rfl, _, World.drewN_drewN _ _ _⟩ | exact ⟨rfl, _, Eq.trans (World.drewN_drewN _ _ _) (congrArg (World.drewN _) (Nat.add_assoc _ _ _))⟩); obtain ⟨Ao60, co60, eo60⟩ := Kd.R_slice HO412.out; subst eo60) | (go_at_call 31; (with_reducible refine (spec_A2Same.calls k _ _ t409 _ _ t413 true _ ?side1 ?side2 ?side3 ?side4 A33.out).mono ?_); (case side1 => repeat (first | exact (Kd.R_reads' HO412.out).2.2 | (with_reducible refine Kd.C_alloc ?_ _) | (with_reducible refine Kd.C_drewN ?_ _) | (with_reducible refine Kd.C_drew ?_))); (case side2 => exact (Kd.R_reads' HO412.out).2.1); (case side3 => repeat (first | exact (Kd.R_reads' HO416.out).2.2 | (with_reducible refine Kd.C_alloc ?_ _) | (with_reducible refine Kd.C_drewN ?_ _) | (with_reducible refine Kd.C_drew ?_))); (case side4 => exact (Kd.R_reads' HO416.out).2.1); rintro e w' ⟨rfl, ⟨nd, rfl⟩⟩; (try first | exact ⟨rfl, _, World.drewN_drewN _ _ _⟩ | exact ⟨rfl, _, Eq.trans (World.drewN_drewN _ _ _) (congrArg (World.drewN _) (Nat.add_assoc _ _ _))⟩)) | (go_at_call 32; (with_reducible refine (impl_ValidParties.calls _ _ t381 true _ ?side1 ?side2 A39.out).mono ?_); (case side1 => repeat (first | exact (Kd.R_reads' HO383.out).2.2 | (with_reducible refine Kd.C_alloc ?_ _) | (with_reducible refine Kd.C_drewN ?_ _) | (with_reducible refine Kd.C_drew ?_))); (case side2 => exact (Kd.R_reads' HO383.out).2.1); rintro e w61 ⟨rfl, hb⟩; have n0_ := krb HO383 hb; have n1_ := krb HO386 hb; have n2_ := krb HO390 hb; have n3_ := krb HO394 hb; have n4_ := krb HO403 hb; have n5_ := Aside0.mk (Kd.V_below (by (with_reducible repeat (first | apply Kd.V_alloc | apply Kd.V_drewN | apply Kd.V_drew)); exact HO406.out) hb); have n6_ := krb HO412 hb; have n7_ := krb HO416 hb; have n8_ := bst HB hb; clear HO383; clear HO386; clear HO390; clear HO394; clear HO403; clear HO406; clear HO412; clear HO416; clear HB; have HO383 := n0_; have HO386 := n1_; have HO390 := n2_; have HO394 := n3_; have HO403 := n4_; have HO406 := n5_; have HO412 := n6_; have HO416 := n7_; have HB := n8_; clear n0_ n1_ n2_ n3_ n4_ n5_ n6_ n7_ n8_; (try clear hb); (try clear hb2); (try clear hk); (try clear hi)))
                      repeat (go_quiet (first | (go_at_call 22; (with_reducible refine (laws_a2Long.calls _ _ l0 _ _ l1 false _ ?side1 ?side2 ?side3 ?side4 A3.out).mono ?_); (case side1 => repeat (first | exact HR0.out | (with_reducible refine Kd.C_alloc ?_ _) | (with_reducible refine Kd.C_drewN ?_ _) | (with_reducible refine Kd.C_drew ?_))); (case side2 => exact HC0.out); (case side3 => repeat (first | exact HR1.out | (with_reducible refine Kd.C_alloc ?_ _) | (with_reducible refine Kd.C_drewN ?_ _) | (with_reducible refine Kd.C_drew ?_))); (case side4 => exact HC1.out); rintro e w' ⟨rfl, ⟨nd, rfl⟩⟩; (try first | exact ⟨rfl, _, World.drewN_drewN _ _ _⟩ | exact ⟨rfl, _, Eq.trans (World.drewN_drewN _ _ _) (congrArg (World.drewN _) (Nat.add_assoc _ _ _))⟩)) | (go_at_call 23; (with_reducible refine (spec_A2Parties.calls k _ _ l0 t381 _ ?side1 ?side2 A5.out).mono ?_); (case side1 => repeat (first | exact HR0.out | (with_reducible refine Kd.C_alloc ?_ _) | (with_reducible refine Kd.C_drewN ?_ _) | (with_reducible refine Kd.C_drew ?_))); (case side2 => exact HC0.out); rintro e w41 ⟨v382, rfl, ho0, hb⟩; have n0_ := Aside0.mk (Kd.R_lower ho0 (below_size (by repeat (first | (with_reducible first | exact HB.out | apply below_alloc | apply pw_below_drewN | apply below_drew1) | exact HB.out)))); have n1_ := bst HB hb; clear HB; have HO383 := n0_; have HB := n1_; clear n0_ n1_; (try clear hb); (try clear hb2); (try clear hk); (try clear hi); (try clear ho0); obtain ⟨Ao42, co42, eo42⟩ := Kd.R_slice HO383.out; subst eo42) | (go_at_call 24; (with_reducible refine (spec_A2Order.calls k _ _ l1 (t381.length : Int) t384 _ ?side1 ?side2 A6.out).mono ?_); (case side1 => repeat (first | exact (Kd.C_below HR1.out HB.out) | (with_reducible refine Kd.C_alloc ?_ _) | (with_reducible refine Kd.C_drewN ?_ _) | (with_reducible refine Kd.C_drew ?_))); (case side2 => exact HC1.out); rintro e w43 ⟨v385, rfl, ho0, hb⟩; have n0_ := krb HO383 hb; have n1_ := Aside0.mk (Kd.R_lower ho0 (below_size (by repeat (first | (with_reducible first | exact HB.out | apply below_alloc | apply pw_below_drewN | apply below_drew1) | exact HB.out)))); have n2_ := bst HB hb; clear HO383; clear HB; have HO383 := n0_; have HO386 := n1_; have HB := n2_; clear n0_ n1_ n2_; (try clear hb); (try clear hb2); (try clear hk); (try clear hi); (try clear ho0); obtain ⟨Ao44, co44, eo44⟩ := Kd.R_slice HO386.out; subst eo44) | (go_at_call 25; (with_reducible refine (impl_DoorTimes.calls k _ _ t381 _ _ t384 t387 t388 _ ?side1 ?side2 ?side3 ?side4 A7.out).mono ?_); (case side1 => repeat (first | exact (Kd.R_reads' HO383.out).2.2 | (with_reducible refine Kd.C_alloc ?_ _) | (with_reducible refine Kd.C_drewN ?_ _) | (with_reducible refine Kd.C_drew ?_))); (case side2 => exact (Kd.R_reads' HO383.out).2.1); (case side3 => repeat (first | exact (Kd.R_reads' HO386.out).2.2 | (with_reducible refine Kd.C_alloc ?_ _) | (with_reducible refine Kd.C_drewN ?_ _) | (with_reducible refine Kd.C_drew ?_))); (case side4 => exact (Kd.R_reads' HO386.out).2.1); rintro e w45 ⟨v389, rfl, ho0, hb⟩; have n0_ := krb HO383 hb; have n1_ := Aside0.mk (Kd.R_elder' (by (with_reducible repeat (first | apply Kd.R_alloc | apply Kd.R_drewN | apply Kd.R_drew)); exact HO386.out) (Kd.R_base ho0) hb); have n2_ := Aside0.mk (Kd.R_lower (Kd.R_new' ho0 (Kd.R_lt (by (with_reducible repeat (first | apply Kd.R_alloc | apply Kd.R_drewN | apply Kd.R_drew)); exact HO386.out))) (below_size (by repeat (first | (with_reducible first | exact HB.out | apply below_alloc | apply pw_below_drewN | apply below_drew1) | exact HB.out)))); have n3_ := bst HB hb; clear HO383; clear HO386; clear HB; have HO383 := n0_; have HO386 := n1_; have HO390 := n2_; have HB := n3_; clear n0_ n1_ n2_ n3_; (try clear hb); (try clear hb2); (try clear hk); (try clear hi); (try clear ho0)) | (go_at_call 26; (with_reducible refine (spec_DoorTimes.calls k _ _ t381 _ _ t384 t391 t392 _ ?side1 ?side2 ?side3 ?side4 A8.out).mono ?_); (case side1 => repeat (first | exact (Kd.R_reads' HO383.out).2.2 | (with_reducible refine Kd.C_alloc ?_ _) | (with_reducible refine Kd.C_drewN ?_ _) | (with_reducible refine Kd.C_drew ?_))); (case side2 => exact (Kd.R_reads' HO383.out).2.1); (case side3 => repeat (first | exact (Kd.R_reads' HO386.out).2.2 | (with_reducible refine Kd.C_alloc ?_ _) | (with_reducible refine Kd.C_drewN ?_ _) | (with_reducible refine Kd.C_drew ?_))); (case side4 => exact (Kd.R_reads' HO386.out).2.1); rintro e w46 ⟨v393, rfl, ho0, hb⟩; have n0_ := krb HO383 hb; have n1_ := Aside0.mk (Kd.R_elder' (by (with_reducible repeat (first | apply Kd.R_alloc | apply Kd.R_drewN | apply Kd.R_drew)); exact HO386.out) (Kd.R_base ho0) hb); have n2_ := Aside0.mk (Kd.R_elder' (by (with_reducible repeat (first | apply Kd.R_alloc | apply Kd.R_drewN | apply Kd.R_drew)); exact HO390.out) (Kd.R_base ho0) hb); have n3_ := Aside0.mk (Kd.R_lower (Kd.R_new' (Kd.R_new' ho0 (Kd.R_lt (by (with_reducible repeat (first | apply Kd.R_alloc | apply Kd.R_drewN | apply Kd.R_drew)); exact HO386.out))) (Kd.R_lt (by (with_reducible repeat (first | apply Kd.R_alloc | apply Kd.R_drewN | apply Kd.R_drew)); exact HO390.out))) (below_size (by repeat (first | (with_reducible first | exact HB.out | apply below_alloc | apply pw_below_drewN | apply below_drew1) | exact HB.out)))); have n4_ := bst HB hb; clear HO383; clear HO386; clear HO390; clear HB; have HO383 := n0_; have HO386 := n1_; have HO390 := n2_; have HO394 := n3_; have HB := n4_; clear n0_ n1_ n2_ n3_ n4_; (try clear hb); (try clear hb2); (try clear hk); (try clear hi); (try clear ho0)) | (go_at_call 27; (with_reducible refine (impl_WaitingOf.calls k _ _ t381 _ _ t384 t395 t396 _ ?side1 ?side2 ?side3 ?side4 A9.out).mono ?_); (case side1 => repeat (first | exact (Kd.R_reads' HO383.out).2.2 | (with_reducible refine Kd.C_alloc ?_ _) | (with_reducible refine Kd.C_drewN ?_ _) | (with_reducible refine Kd.C_drew ?_))); (case side2 => exact (Kd.R_reads' HO383.out).2.1); (case side3 => repeat (first | exact (Kd.R_reads' HO386.out).2.2 | (with_reducible refine Kd.C_alloc ?_ _) | (with_reducible refine Kd.C_drewN ?_ _) | (with_reducible refine Kd.C_drew ?_))); (case side4 => exact (Kd.R_reads' HO386.out).2.1); rintro e w47 ⟨rfl, hb⟩; have n0_ := krb HO383 hb; have n1_ := krb HO386 hb; have n2_ := krb HO390 hb; have n3_ := krb HO394 hb; have n4_ := bst HB hb; clear HO383; clear HO386; clear HO390; clear HO394; clear HB; have HO383 := n0_; have HO386 := n1_; have HO390 := n2_; have HO394 := n3_; have HB := n4_; clear n0_ n1_ n2_ n3_ n4_; (try clear hb); (try clear hb2); (try clear hk); (try clear hi)) | (go_at_call 28; (with_reducible refine (spec_WaitingOf.calls k _ _ t381 _ _ t384 t397 t398 _ ?side1 ?side2 ?side3 ?side4 A10.out).mono ?_); (case side1 => repeat (first | exact (Kd.R_reads' HO383.out).2.2 | (with_reducible refine Kd.C_alloc ?_ _) | (with_reducible refine Kd.C_drewN ?_ _) | (with_reducible refine Kd.C_drew ?_))); (case side2 => exact (Kd.R_reads' HO383.out).2.1); (case side3 => repeat (first | exact (Kd.R_reads' HO386.out).2.2 | (with_reducible refine Kd.C_alloc ?_ _) | (with_reducible refine Kd.C_drewN ?_ _) | (with_reducible refine Kd.C_drew ?_))); (case side4 => exact (Kd.R_reads' HO386.out).2.1); rintro e w48 ⟨rfl, hb⟩; have n0_ := krb HO383 hb; have n1_ := krb HO386 hb; have n2_ := krb HO390 hb; have n3_ := krb HO394 hb; have n4_ := bst HB hb; clear HO383; clear HO386; clear HO390; clear HO394; clear HB; have HO383 := n0_; have HO386 := n1_; have HO390 := n2_; have HO394 := n3_; have HB := n4_; clear n0_ n1_ n2_ n3_ n4_; (try clear hb); (try clear hb2); (try clear hk); (try clear hi)) | (go_at_call 29; (with_reducible refine (impl_BestDoor.calls k _ _ t381 t399 t400 t401 _ ?side1 ?side2 A11.out).mono ?_); (case side1 => repeat (first | exact (Kd.R_reads' HO383.out).2.2 | (with_reducible refine Kd.C_alloc ?_ _) | (with_reducible refine Kd.C_drewN ?_ _) | (with_reducible refine Kd.C_drew ?_))); (case side2 => exact (Kd.R_reads' HO383.out).2.1); rintro e w49 ⟨v402, rfl, ho0, hb⟩; have n0_ := krb HO383 hb; have n1_ := Aside0.mk (Kd.R_elder' (by (with_reducible repeat (first | apply Kd.R_alloc | apply Kd.R_drewN | apply Kd.R_drew)); exact HO386.out) (Kd.R_base ho0) hb); have n2_ := Aside0.mk (Kd.R_elder' (by (with_reducible repeat (first | apply Kd.R_alloc | apply Kd.R_drewN | apply Kd.R_drew)); exact HO390.out) (Kd.R_base ho0) hb); have n3_ := Aside0.mk (Kd.R_elder' (by (with_reducible repeat (first | apply Kd.R_alloc | apply Kd.R_drewN | apply Kd.R_drew)); exact HO394.out) (Kd.R_base ho0) hb); have n4_ := Aside0.mk (Kd.R_lower (Kd.R_new' (Kd.R_new' (Kd.R_new' ho0 (Kd.R_lt (by (with_reducible repeat (first | apply Kd.R_alloc | apply Kd.R_drewN | apply Kd.R_drew)); exact HO386.out))) (Kd.R_lt (by (with_reducible repeat (first | apply Kd.R_alloc | apply Kd.R_drewN | apply Kd.R_drew)); exact HO390.out))) (Kd.R_lt (by (with_reducible repeat (first | apply Kd.R_alloc | apply Kd.R_drewN | apply Kd.R_drew)); exact HO394.out))) (below_size (by repeat (first | (with_reducible first | exact HB.out | apply below_alloc | apply pw_below_drewN | apply below_drew1) | exact HB.out)))); have n5_ := bst HB hb; clear HO383; clear HO386; clear HO390; clear HO394; clear HB; have HO383 := n0_; have HO386 := n1_; have HO390 := n2_; have HO394 := n3_; have HO403 := n4_; have HB := n5_; clear n0_ n1_ n2_ n3_ n4_ n5_; (try clear hb); (try clear hb2); (try clear hk); (try clear hi); (try clear ho0)) | (go_at_call 30; (with_reducible refine (spec_BestDoor.calls k _ _ t381 t404 t407 t408 _ ?side1 ?side2 A12.out).mono ?_); (case side1 => repeat (first | exact (Kd.R_reads' HO383.out).2.2 | (with_reducible refine Kd.C_alloc ?_ _) | (with_reducible refine Kd.C_drewN ?_ _) | (with_reducible refine Kd.C_drew ?_))); (case side2 => exact (Kd.R_reads' HO383.out).2.1); rintro e w50 ⟨v405, rfl, ho0, hb⟩; have n0_ := krb HO383 hb; have n1_ := krb HO386 hb; have n2_ := krb HO390 hb; have n3_ := krb HO394 hb; have n4_ := krb HO403 hb; have n5_ := Aside0.mk (Kd.V_lower (Kd.V_mono (ok' := fun k_ => some k_ ≠ (.slice Ao42 t381.length co42 : Value).ownBlock ∧ some k_ ≠ (.slice Ao44 t384.length co44 : Value).ownBlock ∧ some k_ ≠ (v389 : Value).ownBlock ∧ some k_ ≠ (v393 : Value).ownBlock ∧ some k_ ≠ (v402 : Value).ownBlock) ho0 (fun k_ hk_ => ⟨(Kd.fresh' (Kd.R_lt (by (with_reducible repeat (first | apply Kd.R_alloc | apply Kd.R_drewN | apply Kd.R_drew)); exact HO383.out)) k_ hk_), (Kd.fresh' (Kd.R_lt (by (with_reducible repeat (first | apply Kd.R_alloc | apply Kd.R_drewN | apply Kd.R_drew)); exact HO386.out)) k_ hk_), (Kd.fresh' (Kd.R_lt (by (with_reducible repeat (first | apply Kd.R_alloc | apply Kd.R_drewN | apply Kd.R_drew)); exact HO390.out)) k_ hk_), (Kd.fresh' (Kd.R_lt (by (with_reducible repeat (first | apply Kd.R_alloc | apply Kd.R_drewN | apply Kd.R_drew)); exact HO394.out)) k_ hk_), (Kd.fresh' (Kd.R_lt (by (with_reducible repeat (first | apply Kd.R_alloc | apply Kd.R_drewN | apply Kd.R_drew)); exact HO403.out)) k_ hk_)⟩)) (below_size (by repeat (first | (with_reducible first | exact HB.out | apply below_alloc | apply pw_below_drewN | apply below_drew1) | exact HB.out)))); have n6_ := bst HB hb; clear HO383; clear HO386; clear HO390; clear HO394; clear HO403; clear HB; have HO383 := n0_; have HO386 := n1_; have HO390 := n2_; have HO394 := n3_; have HO403 := n4_; have HO406 := n5_; have HB := n6_; clear n0_ n1_ n2_ n3_ n4_ n5_ n6_; (try clear hb); (try clear hb2); (try clear hk); (try clear hi); (try clear ho0)) | (go_at_call 9; (with_reducible refine (impl_FirstCome.calls k _ _ t381 t409 t410 _ ?side1 ?side2 A13.out).mono ?_); (case side1 => repeat (first | exact (Kd.R_reads' HO383.out).2.2 | (with_reducible refine Kd.C_alloc ?_ _) | (with_reducible refine Kd.C_drewN ?_ _) | (with_reducible refine Kd.C_drew ?_))); (case side2 => exact (Kd.R_reads' HO383.out).2.1); rintro e w51 ⟨v411, rfl, ho0, hb⟩; have n0_ := krb HO383 hb; have n1_ := Aside0.mk (Kd.R_elder' (by (with_reducible repeat (first | apply Kd.R_alloc | apply Kd.R_drewN | apply Kd.R_drew)); exact HO386.out) (Kd.R_base ho0) hb); have n2_ := Aside0.mk (Kd.R_elder' (by (with_reducible repeat (first | apply Kd.R_alloc | apply Kd.R_drewN | apply Kd.R_drew)); exact HO390.out) (Kd.R_base ho0) hb); have n3_ := Aside0.mk (Kd.R_elder' (by (with_reducible repeat (first | apply Kd.R_alloc | apply Kd.R_drewN | apply Kd.R_drew)); exact HO394.out) (Kd.R_base ho0) hb); have n4_ := Aside0.mk (Kd.R_elder' (by (with_reducible repeat (first | apply Kd.R_alloc | apply Kd.R_drewN | apply Kd.R_drew)); exact HO403.out) (Kd.R_base ho0) hb); have n5_ := Aside0.mk (Kd.V_elder' (by (with_reducible repeat (first | apply Kd.V_alloc | apply Kd.V_drewN | apply Kd.V_drew)); exact HO406.out) (Kd.R_base ho0) hb); have n6_ := Aside0.mk (Kd.R_lower (Kd.R_new' (Kd.R_new' (Kd.R_new' (Kd.R_new' ho0 (Kd.R_lt (by (with_reducible repeat (first | apply Kd.R_alloc | apply Kd.R_drewN | apply Kd.R_drew)); exact HO386.out))) (Kd.R_lt (by (with_reducible repeat (first | apply Kd.R_alloc | apply Kd.R_drewN | apply Kd.R_drew)); exact HO390.out))) (Kd.R_lt (by (with_reducible repeat (first | apply Kd.R_alloc | apply Kd.R_drewN | apply Kd.R_drew)); exact HO394.out))) (Kd.R_lt (by (with_reducible repeat (first | apply Kd.R_alloc | apply Kd.R_drewN | apply Kd.R_drew)); exact HO403.out))) (below_size (by repeat (first | (with_reducible first | exact HB.out | apply below_alloc | apply pw_below_drewN | apply below_drew1) | exact HB.out)))); have n7_ := bst HB hb; clear HO383; clear HO386; clear HO390; clear HO394; clear HO403; clear HO406; clear HB; have HO383 := n0_; have HO386 := n1_; have HO390 := n2_; have HO394 := n3_; have HO403 := n4_; have HO406 := n5_; have HO412 := n6_; have HB := n7_; clear n0_ n1_ n2_ n3_ n4_ n5_ n6_ n7_; (try clear hb); (try clear hb2); (try clear hk); (try clear hi); (try clear ho0)) | (go_at_call 7; (with_reducible refine (spec_FirstCome.calls k _ _ t381 t413 t414 _ ?side1 ?side2 A14.out).mono ?_); (case side1 => repeat (first | exact (Kd.R_reads' HO383.out).2.2 | (with_reducible refine Kd.C_alloc ?_ _) | (with_reducible refine Kd.C_drewN ?_ _) | (with_reducible refine Kd.C_drew ?_))); (case side2 => exact (Kd.R_reads' HO383.out).2.1); rintro e w52 ⟨v415, rfl, ho0, hb⟩; have n0_ := krb HO383 hb; have n1_ := Aside0.mk (Kd.R_elder' (by (with_reducible repeat (first | apply Kd.R_alloc | apply Kd.R_drewN | apply Kd.R_drew)); exact HO386.out) (Kd.R_base ho0) hb); have n2_ := Aside0.mk (Kd.R_elder' (by (with_reducible repeat (first | apply Kd.R_alloc | apply Kd.R_drewN | apply Kd.R_drew)); exact HO390.out) (Kd.R_base ho0) hb); have n3_ := Aside0.mk (Kd.R_elder' (by (with_reducible repeat (first | apply Kd.R_alloc | apply Kd.R_drewN | apply Kd.R_drew)); exact HO394.out) (Kd.R_base ho0) hb); have n4_ := Aside0.mk (Kd.R_elder' (by (with_reducible repeat (first | apply Kd.R_alloc | apply Kd.R_drewN | apply Kd.R_drew)); exact HO403.out) (Kd.R_base ho0) hb); have n5_ := Aside0.mk (Kd.V_elder' (by (with_reducible repeat (first | apply Kd.V_alloc | apply Kd.V_drewN | apply Kd.V_drew)); exact HO406.out) (Kd.R_base ho0) hb); have n6_ := Aside0.mk (Kd.R_elder' (by (with_reducible repeat (first | apply Kd.R_alloc | apply Kd.R_drewN | apply Kd.R_drew)); exact HO412.out) (Kd.R_base ho0) hb); have n7_ := Aside0.mk (Kd.R_lower (Kd.R_new' (Kd.R_new' (Kd.R_new' (Kd.R_new' (Kd.R_new' ho0 (Kd.R_lt (by (with_reducible repeat (first | apply Kd.R_alloc | apply Kd.R_drewN | apply Kd.R_drew)); exact HO386.out))) (Kd.R_lt (by (with_reducible repeat (first | apply Kd.R_alloc | apply Kd.R_drewN | apply Kd.R_drew)); exact HO390.out))) (Kd.R_lt (by (with_reducible repeat (first | apply Kd.R_alloc | apply Kd.R_drewN | apply Kd.R_drew)); exact HO394.out))) (Kd.R_lt (by (with_reducible repeat (first | apply Kd.R_alloc | apply Kd.R_drewN | apply Kd.R_drew)); exact HO403.out))) (Kd.R_lt (by (with_reducible repeat (first | apply Kd.R_alloc | apply Kd.R_drewN | apply Kd.R_drew)); exact HO412.out))) (below_size (by repeat (first | (with_reducible first | exact HB.out | apply below_alloc | apply pw_below_drewN | apply below_drew1) | exact HB.out)))); have n8_ := bst HB hb; clear HO383; clear HO386; clear HO390; clear HO394; clear HO403; clear HO406; clear HO412; clear HB; have HO383 := n0_; have HO386 := n1_; have HO390 := n2_; have HO394 := n3_; have HO403 := n4_; have HO406 := n5_; have HO412 := n6_; have HO416 := n7_; have HB := n8_; clear n0_ n1_ n2_ n3_ n4_ n5_ n6_ n7_ n8_; (try clear hb); (try clear hb2); (try clear hk); (try clear hi); (try clear ho0); obtain ⟨Ao53, co53, eo53⟩ := Kd.R_slice HO416.out; subst eo53) | (go_at_call 27; (with_reducible refine (impl_WaitingOf.calls k _ _ t381 _ _ t413 t417 t418 _ ?side1 ?side2 ?side3 ?side4 A15.out).mono ?_); (case side1 => repeat (first | exact (Kd.R_reads' HO383.out).2.2 | (with_reducible refine Kd.C_alloc ?_ _) | (with_reducible refine Kd.C_drewN ?_ _) | (with_reducible refine Kd.C_drew ?_))); (case side2 => exact (Kd.R_reads' HO383.out).2.1); (case side3 => repeat (first | exact (Kd.R_reads' HO416.out).2.2 | (with_reducible refine Kd.C_alloc ?_ _) | (with_reducible refine Kd.C_drewN ?_ _) | (with_reducible refine Kd.C_drew ?_))); (case side4 => exact (Kd.R_reads' HO416.out).2.1); rintro e w54 ⟨rfl, hb⟩; have n0_ := krb HO383 hb; have n1_ := krb HO386 hb; have n2_ := krb HO390 hb; have n3_ := krb HO394 hb; have n4_ := krb HO403 hb; have n5_ := Aside0.mk (Kd.V_below (by (with_reducible repeat (first | apply Kd.V_alloc | apply Kd.V_drewN | apply Kd.V_drew)); exact HO406.out) hb); have n6_ := krb HO412 hb; have n7_ := krb HO416 hb; have n8_ := bst HB hb; clear HO383; clear HO386; clear HO390; clear HO394; clear HO403; clear HO406; clear HO412; clear HO416; clear HB; have HO383 := n0_; have HO386 := n1_; have HO390 := n2_; have HO394 := n3_; have HO403 := n4_; have HO406 := n5_; have HO412 := n6_; have HO416 := n7_; have HB := n8_; clear n0_ n1_ n2_ n3_ n4_ n5_ n6_ n7_ n8_; (try clear hb); (try clear hb2); (try clear hk); (try clear hi); obtain ⟨Ao55, co55, eo55⟩ := Kd.V_slice HO406.out; subst eo55) | (go_at_call 27; (with_reducible refine (impl_WaitingOf.calls k _ _ t381 _ _ t404 t419 t420 _ ?side1 ?side2 ?side3 ?side4 A16.out).mono ?_); (case side1 => repeat (first | exact (Kd.R_reads' HO383.out).2.2 | (with_reducible refine Kd.C_alloc ?_ _) | (with_reducible refine Kd.C_drewN ?_ _) | (with_reducible refine Kd.C_drew ?_))); (case side2 => exact (Kd.R_reads' HO383.out).2.1); (case side3 => repeat (first | exact (Kd.V_reads' HO406.out).2.2 | (with_reducible refine Kd.C_alloc ?_ _) | (with_reducible refine Kd.C_drewN ?_ _) | (with_reducible refine Kd.C_drew ?_))); (case side4 => exact (Kd.V_reads' HO406.out).2.1); rintro e w56 ⟨rfl, hb⟩; have n0_ := krb HO383 hb; have n1_ := krb HO386 hb; have n2_ := krb HO390 hb; have n3_ := krb HO394 hb; have n4_ := krb HO403 hb; have n5_ := Aside0.mk (Kd.V_below (by (with_reducible repeat (first | apply Kd.V_alloc | apply Kd.V_drewN | apply Kd.V_drew)); exact HO406.out) hb); have n6_ := krb HO412 hb; have n7_ := krb HO416 hb; have n8_ := bst HB hb; clear HO383; clear HO386; clear HO390; clear HO394; clear HO403; clear HO406; clear HO412; clear HO416; clear HB; have HO383 := n0_; have HO386 := n1_; have HO390 := n2_; have HO394 := n3_; have HO403 := n4_; have HO406 := n5_; have HO412 := n6_; have HO416 := n7_; have HB := n8_; clear n0_ n1_ n2_ n3_ n4_ n5_ n6_ n7_ n8_; (try clear hb); (try clear hb2); (try clear hk); (try clear hi); obtain ⟨Ao57, co57, eo57⟩ := Kd.R_slice HO390.out; subst eo57; obtain ⟨Ao58, co58, eo58⟩ := Kd.R_slice HO394.out; subst eo58) | (go_at_call 31; (with_reducible refine (spec_A2Same.calls k _ _ t387 _ _ t391 true _ ?side1 ?side2 ?side3 ?side4 A19.out).mono ?_); (case side1 => repeat (first | exact (Kd.R_reads' HO390.out).2.2 | (with_reducible refine Kd.C_alloc ?_ _) | (with_reducible refine Kd.C_drewN ?_ _) | (with_reducible refine Kd.C_drew ?_))); (case side2 => exact (Kd.R_reads' HO390.out).2.1); (case side3 => repeat (first | exact (Kd.R_reads' HO394.out).2.2 | (with_reducible refine Kd.C_alloc ?_ _) | (with_reducible refine Kd.C_drewN ?_ _) | (with_reducible refine Kd.C_drew ?_))); (case side4 => exact (Kd.R_reads' HO394.out).2.1); rintro e w' ⟨rfl, ⟨nd, rfl⟩⟩; (try first | exact ⟨rfl, _, World.drewN_drewN _ _ _⟩ | exact ⟨rfl, _, Eq.trans (World.drewN_drewN _ _ _) (congrArg (World.drewN _) (Nat.add_assoc _ _ _))⟩); obtain ⟨Ao59, co59, eo59⟩ := Kd.R_slice HO403.out; subst eo59) | (go_at_call 31; (with_reducible refine (spec_A2Same.calls k _ _ t399 _ _ t404 true _ ?side1 ?side2 ?side3 ?side4 A27.out).mono ?_); (case side1 => repeat (first | exact (Kd.R_reads' HO403.out).2.2 | (with_reducible refine Kd.C_alloc ?_ _) | (with_reducible refine Kd.C_drewN ?_ _) | (with_reducible refine Kd.C_drew ?_))); (case side2 => exact (Kd.R_reads' HO403.out).2.1); (case side3 => repeat (first | exact (Kd.V_reads' HO406.out).2.2 | (with_reducible refine Kd.C_alloc ?_ _) | (with_reducible refine Kd.C_drewN ?_ _) | (with_reducible refine Kd.C_drew ?_))); (case side4 => exact (Kd.V_reads' HO406.out).2.1); rintro e w' ⟨rfl, ⟨nd, rfl⟩⟩; (try first | exact ⟨rfl, _, World.drewN_drewN _ _ _⟩ | exact ⟨rfl, _, Eq.trans (World.drewN_drewN _ _ _) (congrArg (World.drewN _) (Nat.add_assoc _ _ _))⟩); obtain ⟨Ao60, co60, eo60⟩ := Kd.R_slice HO412.out; subst eo60) | (go_at_call 31; (with_reducible refine (spec_A2Same.calls k _ _ t409 _ _ t413 true _ ?side1 ?side2 ?side3 ?side4 A33.out).mono ?_); (case side1 => repeat (first | exact (Kd.R_reads' HO412.out).2.2 | (with_reducible refine Kd.C_alloc ?_ _) | (with_reducible refine Kd.C_drewN ?_ _) | (with_reducible refine Kd.C_drew ?_))); (case side2 => exact (Kd.R_reads' HO412.out).2.1); (case side3 => repeat (first | exact (Kd.R_reads' HO416.out).2.2 | (with_reducible refine Kd.C_alloc ?_ _) | (with_reducible refine Kd.C_drewN ?_ _) | (with_reducible refine Kd.C_drew ?_))); (case side4 => exact (Kd.R_reads' HO416.out).2.1); rintro e w' ⟨rfl, ⟨nd, rfl⟩⟩; (try first | exact ⟨rfl, _, World.drewN_drewN _ _ _⟩ | exact ⟨rfl, _, Eq.trans (World.drewN_drewN _ _ _) (congrArg (World.drewN _) (Nat.add_assoc _ _ _))⟩)) | (go_at_call 32; (with_reducible refine (impl_ValidParties.calls _ _ t381 true _ ?side1 ?side2 A39.out).mono ?_); (case side1 => repeat (first | exact (Kd.R_reads' HO383.out).2.2 | (with_reducible refine Kd.C_alloc ?_ _) | (with_reducible refine Kd.C_drewN ?_ _) | (with_reducible refine Kd.C_drew ?_))); (case side2 => exact (Kd.R_reads' HO383.out).2.1); rintro e w61 ⟨rfl, hb⟩; have n0_ := krb HO383 hb; have n1_ := krb HO386 hb; have n2_ := krb HO390 hb; have n3_ := krb HO394 hb; have n4_ := krb HO403 hb; have n5_ := Aside0.mk (Kd.V_below (by (with_reducible repeat (first | apply Kd.V_alloc | apply Kd.V_drewN | apply Kd.V_drew)); exact HO406.out) hb); have n6_ := krb HO412 hb; have n7_ := krb HO416 hb; have n8_ := bst HB hb; clear HO383; clear HO386; clear HO390; clear HO394; clear HO403; clear HO406; clear HO412; clear HO416; clear HB; have HO383 := n0_; have HO386 := n1_; have HO390 := n2_; have HO394 := n3_; have HO403 := n4_; have HO406 := n5_; have HO412 := n6_; have HO416 := n7_; have HB := n8_; clear n0_ n1_ n2_ n3_ n4_ n5_ n6_ n7_ n8_; (try clear hb); (try clear hb2); (try clear hk); (try clear hi))); try go_wp2_with (first | (go_at_call 22; (with_reducible refine (laws_a2Long.calls _ _ l0 _ _ l1 false _ ?side1 ?side2 ?side3 ?side4 A3.out).mono ?_); (case side1 => repeat (first | exact HR0.out | (with_reducible refine Kd.C_alloc ?_ _) | (with_reducible refine Kd.C_drewN ?_ _) | (with_reducible refine Kd.C_drew ?_))); (case side2 => exact HC0.out); (case side3 => repeat (first | exact HR1.out | (with_reducible refine Kd.C_alloc ?_ _) | (with_reducible refine Kd.C_drewN ?_ _) | (with_reducible refine Kd.C_drew ?_))); (case side4 => exact HC1.out); rintro e w' ⟨rfl, ⟨nd, rfl⟩⟩; (try first | exact ⟨rfl, _, World.drewN_drewN _ _ _⟩ | exact ⟨rfl, _, Eq.trans (World.drewN_drewN _ _ _) (congrArg (World.drewN _) (Nat.add_assoc _ _ _))⟩)) | (go_at_call 23; (with_reducible refine (spec_A2Parties.calls k _ _ l0 t381 _ ?side1 ?side2 A5.out).mono ?_); (case side1 => repeat (first | exact HR0.out | (with_reducible refine Kd.C_alloc ?_ _) | (with_reducible refine Kd.C_drewN ?_ _) | (with_reducible refine Kd.C_drew ?_))); (case side2 => exact HC0.out); rintro e w41 ⟨v382, rfl, ho0, hb⟩; have n0_ := Aside0.mk (Kd.R_lower ho0 (below_size (by repeat (first | (with_reducible first | exact HB.out | apply below_alloc | apply pw_below_drewN | apply below_drew1) | exact HB.out)))); have n1_ := bst HB hb; clear HB; have HO383 := n0_; have HB := n1_; clear n0_ n1_; (try clear hb); (try clear hb2); (try clear hk); (try clear hi); (try clear ho0); obtain ⟨Ao42, co42, eo42⟩ := Kd.R_slice HO383.out; subst eo42) | (go_at_call 24; (with_reducible refine (spec_A2Order.calls k _ _ l1 (t381.length : Int) t384 _ ?side1 ?side2 A6.out).mono ?_); (case side1 => repeat (first | exact (Kd.C_below HR1.out HB.out) | (with_reducible refine Kd.C_alloc ?_ _) | (with_reducible refine Kd.C_drewN ?_ _) | (with_reducible refine Kd.C_drew ?_))); (case side2 => exact HC1.out); rintro e w43 ⟨v385, rfl, ho0, hb⟩; have n0_ := krb HO383 hb; have n1_ := Aside0.mk (Kd.R_lower ho0 (below_size (by repeat (first | (with_reducible first | exact HB.out | apply below_alloc | apply pw_below_drewN | apply below_drew1) | exact HB.out)))); have n2_ := bst HB hb; clear HO383; clear HB; have HO383 := n0_; have HO386 := n1_; have HB := n2_; clear n0_ n1_ n2_; (try clear hb); (try clear hb2); (try clear hk); (try clear hi); (try clear ho0); obtain ⟨Ao44, co44, eo44⟩ := Kd.R_slice HO386.out; subst eo44) | (go_at_call 25; (with_reducible refine (impl_DoorTimes.calls k _ _ t381 _ _ t384 t387 t388 _ ?side1 ?side2 ?side3 ?side4 A7.out).mono ?_); (case side1 => repeat (first | exact (Kd.R_reads' HO383.out).2.2 | (with_reducible refine Kd.C_alloc ?_ _) | (with_reducible refine Kd.C_drewN ?_ _) | (with_reducible refine Kd.C_drew ?_))); (case side2 => exact (Kd.R_reads' HO383.out).2.1); (case side3 => repeat (first | exact (Kd.R_reads' HO386.out).2.2 | (with_reducible refine Kd.C_alloc ?_ _) | (with_reducible refine Kd.C_drewN ?_ _) | (with_reducible refine Kd.C_drew ?_))); (case side4 => exact (Kd.R_reads' HO386.out).2.1); rintro e w45 ⟨v389, rfl, ho0, hb⟩; have n0_ := krb HO383 hb; have n1_ := Aside0.mk (Kd.R_elder' (by (with_reducible repeat (first | apply Kd.R_alloc | apply Kd.R_drewN | apply Kd.R_drew)); exact HO386.out) (Kd.R_base ho0) hb); have n2_ := Aside0.mk (Kd.R_lower (Kd.R_new' ho0 (Kd.R_lt (by (with_reducible repeat (first | apply Kd.R_alloc | apply Kd.R_drewN | apply Kd.R_drew)); exact HO386.out))) (below_size (by repeat (first | (with_reducible first | exact HB.out | apply below_alloc | apply pw_below_drewN | apply below_drew1) | exact HB.out)))); have n3_ := bst HB hb; clear HO383; clear HO386; clear HB; have HO383 := n0_; have HO386 := n1_; have HO390 := n2_; have HB := n3_; clear n0_ n1_ n2_ n3_; (try clear hb); (try clear hb2); (try clear hk); (try clear hi); (try clear ho0)) | (go_at_call 26; (with_reducible refine (spec_DoorTimes.calls k _ _ t381 _ _ t384 t391 t392 _ ?side1 ?side2 ?side3 ?side4 A8.out).mono ?_); (case side1 => repeat (first | exact (Kd.R_reads' HO383.out).2.2 | (with_reducible refine Kd.C_alloc ?_ _) | (with_reducible refine Kd.C_drewN ?_ _) | (with_reducible refine Kd.C_drew ?_))); (case side2 => exact (Kd.R_reads' HO383.out).2.1); (case side3 => repeat (first | exact (Kd.R_reads' HO386.out).2.2 | (with_reducible refine Kd.C_alloc ?_ _) | (with_reducible refine Kd.C_drewN ?_ _) | (with_reducible refine Kd.C_drew ?_))); (case side4 => exact (Kd.R_reads' HO386.out).2.1); rintro e w46 ⟨v393, rfl, ho0, hb⟩; have n0_ := krb HO383 hb; have n1_ := Aside0.mk (Kd.R_elder' (by (with_reducible repeat (first | apply Kd.R_alloc | apply Kd.R_drewN | apply Kd.R_drew)); exact HO386.out) (Kd.R_base ho0) hb); have n2_ := Aside0.mk (Kd.R_elder' (by (with_reducible repeat (first | apply Kd.R_alloc | apply Kd.R_drewN | apply Kd.R_drew)); exact HO390.out) (Kd.R_base ho0) hb); have n3_ := Aside0.mk (Kd.R_lower (Kd.R_new' (Kd.R_new' ho0 (Kd.R_lt (by (with_reducible repeat (first | apply Kd.R_alloc | apply Kd.R_drewN | apply Kd.R_drew)); exact HO386.out))) (Kd.R_lt (by (with_reducible repeat (first | apply Kd.R_alloc | apply Kd.R_drewN | apply Kd.R_drew)); exact HO390.out))) (below_size (by repeat (first | (with_reducible first | exact HB.out | apply below_alloc | apply pw_below_drewN | apply below_drew1) | exact HB.out)))); have n4_ := bst HB hb; clear HO383; clear HO386; clear HO390; clear HB; have HO383 := n0_; have HO386 := n1_; have HO390 := n2_; have HO394 := n3_; have HB := n4_; clear n0_ n1_ n2_ n3_ n4_; (try clear hb); (try clear hb2); (try clear hk); (try clear hi); (try clear ho0)) | (go_at_call 27; (with_reducible refine (impl_WaitingOf.calls k _ _ t381 _ _ t384 t395 t396 _ ?side1 ?side2 ?side3 ?side4 A9.out).mono ?_); (case side1 => repeat (first | exact (Kd.R_reads' HO383.out).2.2 | (with_reducible refine Kd.C_alloc ?_ _) | (with_reducible refine Kd.C_drewN ?_ _) | (with_reducible refine Kd.C_drew ?_))); (case side2 => exact (Kd.R_reads' HO383.out).2.1); (case side3 => repeat (first | exact (Kd.R_reads' HO386.out).2.2 | (with_reducible refine Kd.C_alloc ?_ _) | (with_reducible refine Kd.C_drewN ?_ _) | (with_reducible refine Kd.C_drew ?_))); (case side4 => exact (Kd.R_reads' HO386.out).2.1); rintro e w47 ⟨rfl, hb⟩; have n0_ := krb HO383 hb; have n1_ := krb HO386 hb; have n2_ := krb HO390 hb; have n3_ := krb HO394 hb; have n4_ := bst HB hb; clear HO383; clear HO386; clear HO390; clear HO394; clear HB; have HO383 := n0_; have HO386 := n1_; have HO390 := n2_; have HO394 := n3_; have HB := n4_; clear n0_ n1_ n2_ n3_ n4_; (try clear hb); (try clear hb2); (try clear hk); (try clear hi)) | (go_at_call 28; (with_reducible refine (spec_WaitingOf.calls k _ _ t381 _ _ t384 t397 t398 _ ?side1 ?side2 ?side3 ?side4 A10.out).mono ?_); (case side1 => repeat (first | exact (Kd.R_reads' HO383.out).2.2 | (with_reducible refine Kd.C_alloc ?_ _) | (with_reducible refine Kd.C_drewN ?_ _) | (with_reducible refine Kd.C_drew ?_))); (case side2 => exact (Kd.R_reads' HO383.out).2.1); (case side3 => repeat (first | exact (Kd.R_reads' HO386.out).2.2 | (with_reducible refine Kd.C_alloc ?_ _) | (with_reducible refine Kd.C_drewN ?_ _) | (with_reducible refine Kd.C_drew ?_))); (case side4 => exact (Kd.R_reads' HO386.out).2.1); rintro e w48 ⟨rfl, hb⟩; have n0_ := krb HO383 hb; have n1_ := krb HO386 hb; have n2_ := krb HO390 hb; have n3_ := krb HO394 hb; have n4_ := bst HB hb; clear HO383; clear HO386; clear HO390; clear HO394; clear HB; have HO383 := n0_; have HO386 := n1_; have HO390 := n2_; have HO394 := n3_; have HB := n4_; clear n0_ n1_ n2_ n3_ n4_; (try clear hb); (try clear hb2); (try clear hk); (try clear hi)) | (go_at_call 29; (with_reducible refine (impl_BestDoor.calls k _ _ t381 t399 t400 t401 _ ?side1 ?side2 A11.out).mono ?_); (case side1 => repeat (first | exact (Kd.R_reads' HO383.out).2.2 | (with_reducible refine Kd.C_alloc ?_ _) | (with_reducible refine Kd.C_drewN ?_ _) | (with_reducible refine Kd.C_drew ?_))); (case side2 => exact (Kd.R_reads' HO383.out).2.1); rintro e w49 ⟨v402, rfl, ho0, hb⟩; have n0_ := krb HO383 hb; have n1_ := Aside0.mk (Kd.R_elder' (by (with_reducible repeat (first | apply Kd.R_alloc | apply Kd.R_drewN | apply Kd.R_drew)); exact HO386.out) (Kd.R_base ho0) hb); have n2_ := Aside0.mk (Kd.R_elder' (by (with_reducible repeat (first | apply Kd.R_alloc | apply Kd.R_drewN | apply Kd.R_drew)); exact HO390.out) (Kd.R_base ho0) hb); have n3_ := Aside0.mk (Kd.R_elder' (by (with_reducible repeat (first | apply Kd.R_alloc | apply Kd.R_drewN | apply Kd.R_drew)); exact HO394.out) (Kd.R_base ho0) hb); have n4_ := Aside0.mk (Kd.R_lower (Kd.R_new' (Kd.R_new' (Kd.R_new' ho0 (Kd.R_lt (by (with_reducible repeat (first | apply Kd.R_alloc | apply Kd.R_drewN | apply Kd.R_drew)); exact HO386.out))) (Kd.R_lt (by (with_reducible repeat (first | apply Kd.R_alloc | apply Kd.R_drewN | apply Kd.R_drew)); exact HO390.out))) (Kd.R_lt (by (with_reducible repeat (first | apply Kd.R_alloc | apply Kd.R_drewN | apply Kd.R_drew)); exact HO394.out))) (below_size (by repeat (first | (with_reducible first | exact HB.out | apply below_alloc | apply pw_below_drewN | apply below_drew1) | exact HB.out)))); have n5_ := bst HB hb; clear HO383; clear HO386; clear HO390; clear HO394; clear HB; have HO383 := n0_; have HO386 := n1_; have HO390 := n2_; have HO394 := n3_; have HO403 := n4_; have HB := n5_; clear n0_ n1_ n2_ n3_ n4_ n5_; (try clear hb); (try clear hb2); (try clear hk); (try clear hi); (try clear ho0)) | (go_at_call 30; (with_reducible refine (spec_BestDoor.calls k _ _ t381 t404 t407 t408 _ ?side1 ?side2 A12.out).mono ?_); (case side1 => repeat (first | exact (Kd.R_reads' HO383.out).2.2 | (with_reducible refine Kd.C_alloc ?_ _) | (with_reducible refine Kd.C_drewN ?_ _) | (with_reducible refine Kd.C_drew ?_))); (case side2 => exact (Kd.R_reads' HO383.out).2.1); rintro e w50 ⟨v405, rfl, ho0, hb⟩; have n0_ := krb HO383 hb; have n1_ := krb HO386 hb; have n2_ := krb HO390 hb; have n3_ := krb HO394 hb; have n4_ := krb HO403 hb; have n5_ := Aside0.mk (Kd.V_lower (Kd.V_mono (ok' := fun k_ => some k_ ≠ (.slice Ao42 t381.length co42 : Value).ownBlock ∧ some k_ ≠ (.slice Ao44 t384.length co44 : Value).ownBlock ∧ some k_ ≠ (v389 : Value).ownBlock ∧ some k_ ≠ (v393 : Value).ownBlock ∧ some k_ ≠ (v402 : Value).ownBlock) ho0 (fun k_ hk_ => ⟨(Kd.fresh' (Kd.R_lt (by (with_reducible repeat (first | apply Kd.R_alloc | apply Kd.R_drewN | apply Kd.R_drew)); exact HO383.out)) k_ hk_), (Kd.fresh' (Kd.R_lt (by (with_reducible repeat (first | apply Kd.R_alloc | apply Kd.R_drewN | apply Kd.R_drew)); exact HO386.out)) k_ hk_), (Kd.fresh' (Kd.R_lt (by (with_reducible repeat (first | apply Kd.R_alloc | apply Kd.R_drewN | apply Kd.R_drew)); exact HO390.out)) k_ hk_), (Kd.fresh' (Kd.R_lt (by (with_reducible repeat (first | apply Kd.R_alloc | apply Kd.R_drewN | apply Kd.R_drew)); exact HO394.out)) k_ hk_), (Kd.fresh' (Kd.R_lt (by (with_reducible repeat (first | apply Kd.R_alloc | apply Kd.R_drewN | apply Kd.R_drew)); exact HO403.out)) k_ hk_)⟩)) (below_size (by repeat (first | (with_reducible first | exact HB.out | apply below_alloc | apply pw_below_drewN | apply below_drew1) | exact HB.out)))); have n6_ := bst HB hb; clear HO383; clear HO386; clear HO390; clear HO394; clear HO403; clear HB; have HO383 := n0_; have HO386 := n1_; have HO390 := n2_; have HO394 := n3_; have HO403 := n4_; have HO406 := n5_; have HB := n6_; clear n0_ n1_ n2_ n3_ n4_ n5_ n6_; (try clear hb); (try clear hb2); (try clear hk); (try clear hi); (try clear ho0)) | (go_at_call 9; (with_reducible refine (impl_FirstCome.calls k _ _ t381 t409 t410 _ ?side1 ?side2 A13.out).mono ?_); (case side1 => repeat (first | exact (Kd.R_reads' HO383.out).2.2 | (with_reducible refine Kd.C_alloc ?_ _) | (with_reducible refine Kd.C_drewN ?_ _) | (with_reducible refine Kd.C_drew ?_))); (case side2 => exact (Kd.R_reads' HO383.out).2.1); rintro e w51 ⟨v411, rfl, ho0, hb⟩; have n0_ := krb HO383 hb; have n1_ := Aside0.mk (Kd.R_elder' (by (with_reducible repeat (first | apply Kd.R_alloc | apply Kd.R_drewN | apply Kd.R_drew)); exact HO386.out) (Kd.R_base ho0) hb); have n2_ := Aside0.mk (Kd.R_elder' (by (with_reducible repeat (first | apply Kd.R_alloc | apply Kd.R_drewN | apply Kd.R_drew)); exact HO390.out) (Kd.R_base ho0) hb); have n3_ := Aside0.mk (Kd.R_elder' (by (with_reducible repeat (first | apply Kd.R_alloc | apply Kd.R_drewN | apply Kd.R_drew)); exact HO394.out) (Kd.R_base ho0) hb); have n4_ := Aside0.mk (Kd.R_elder' (by (with_reducible repeat (first | apply Kd.R_alloc | apply Kd.R_drewN | apply Kd.R_drew)); exact HO403.out) (Kd.R_base ho0) hb); have n5_ := Aside0.mk (Kd.V_elder' (by (with_reducible repeat (first | apply Kd.V_alloc | apply Kd.V_drewN | apply Kd.V_drew)); exact HO406.out) (Kd.R_base ho0) hb); have n6_ := Aside0.mk (Kd.R_lower (Kd.R_new' (Kd.R_new' (Kd.R_new' (Kd.R_new' ho0 (Kd.R_lt (by (with_reducible repeat (first | apply Kd.R_alloc | apply Kd.R_drewN | apply Kd.R_drew)); exact HO386.out))) (Kd.R_lt (by (with_reducible repeat (first | apply Kd.R_alloc | apply Kd.R_drewN | apply Kd.R_drew)); exact HO390.out))) (Kd.R_lt (by (with_reducible repeat (first | apply Kd.R_alloc | apply Kd.R_drewN | apply Kd.R_drew)); exact HO394.out))) (Kd.R_lt (by (with_reducible repeat (first | apply Kd.R_alloc | apply Kd.R_drewN | apply Kd.R_drew)); exact HO403.out))) (below_size (by repeat (first | (with_reducible first | exact HB.out | apply below_alloc | apply pw_below_drewN | apply below_drew1) | exact HB.out)))); have n7_ := bst HB hb; clear HO383; clear HO386; clear HO390; clear HO394; clear HO403; clear HO406; clear HB; have HO383 := n0_; have HO386 := n1_; have HO390 := n2_; have HO394 := n3_; have HO403 := n4_; have HO406 := n5_; have HO412 := n6_; have HB := n7_; clear n0_ n1_ n2_ n3_ n4_ n5_ n6_ n7_; (try clear hb); (try clear hb2); (try clear hk); (try clear hi); (try clear ho0)) | (go_at_call 7; (with_reducible refine (spec_FirstCome.calls k _ _ t381 t413 t414 _ ?side1 ?side2 A14.out).mono ?_); (case side1 => repeat (first | exact (Kd.R_reads' HO383.out).2.2 | (with_reducible refine Kd.C_alloc ?_ _) | (with_reducible refine Kd.C_drewN ?_ _) | (with_reducible refine Kd.C_drew ?_))); (case side2 => exact (Kd.R_reads' HO383.out).2.1); rintro e w52 ⟨v415, rfl, ho0, hb⟩; have n0_ := krb HO383 hb; have n1_ := Aside0.mk (Kd.R_elder' (by (with_reducible repeat (first | apply Kd.R_alloc | apply Kd.R_drewN | apply Kd.R_drew)); exact HO386.out) (Kd.R_base ho0) hb); have n2_ := Aside0.mk (Kd.R_elder' (by (with_reducible repeat (first | apply Kd.R_alloc | apply Kd.R_drewN | apply Kd.R_drew)); exact HO390.out) (Kd.R_base ho0) hb); have n3_ := Aside0.mk (Kd.R_elder' (by (with_reducible repeat (first | apply Kd.R_alloc | apply Kd.R_drewN | apply Kd.R_drew)); exact HO394.out) (Kd.R_base ho0) hb); have n4_ := Aside0.mk (Kd.R_elder' (by (with_reducible repeat (first | apply Kd.R_alloc | apply Kd.R_drewN | apply Kd.R_drew)); exact HO403.out) (Kd.R_base ho0) hb); have n5_ := Aside0.mk (Kd.V_elder' (by (with_reducible repeat (first | apply Kd.V_alloc | apply Kd.V_drewN | apply Kd.V_drew)); exact HO406.out) (Kd.R_base ho0) hb); have n6_ := Aside0.mk (Kd.R_elder' (by (with_reducible repeat (first | apply Kd.R_alloc | apply Kd.R_drewN | apply Kd.R_drew)); exact HO412.out) (Kd.R_base ho0) hb); have n7_ := Aside0.mk (Kd.R_lower (Kd.R_new' (Kd.R_new' (Kd.R_new' (Kd.R_new' (Kd.R_new' ho0 (Kd.R_lt (by (with_reducible repeat (first | apply Kd.R_alloc | apply Kd.R_drewN | apply Kd.R_drew)); exact HO386.out))) (Kd.R_lt (by (with_reducible repeat (first | apply Kd.R_alloc | apply Kd.R_drewN | apply Kd.R_drew)); exact HO390.out))) (Kd.R_lt (by (with_reducible repeat (first | apply Kd.R_alloc | apply Kd.R_drewN | apply Kd.R_drew)); exact HO394.out))) (Kd.R_lt (by (with_reducible repeat (first | apply Kd.R_alloc | apply Kd.R_drewN | apply Kd.R_drew)); exact HO403.out))) (Kd.R_lt (by (with_reducible repeat (first | apply Kd.R_alloc | apply Kd.R_drewN | apply Kd.R_drew)); exact HO412.out))) (below_size (by repeat (first | (with_reducible first | exact HB.out | apply below_alloc | apply pw_below_drewN | apply below_drew1) | exact HB.out)))); have n8_ := bst HB hb; clear HO383; clear HO386; clear HO390; clear HO394; clear HO403; clear HO406; clear HO412; clear HB; have HO383 := n0_; have HO386 := n1_; have HO390 := n2_; have HO394 := n3_; have HO403 := n4_; have HO406 := n5_; have HO412 := n6_; have HO416 := n7_; have HB := n8_; clear n0_ n1_ n2_ n3_ n4_ n5_ n6_ n7_ n8_; (try clear hb); (try clear hb2); (try clear hk); (try clear hi); (try clear ho0); obtain ⟨Ao53, co53, eo53⟩ := Kd.R_slice HO416.out; subst eo53) | (go_at_call 27; (with_reducible refine (impl_WaitingOf.calls k _ _ t381 _ _ t413 t417 t418 _ ?side1 ?side2 ?side3 ?side4 A15.out).mono ?_); (case side1 => repeat (first | exact (Kd.R_reads' HO383.out).2.2 | (with_reducible refine Kd.C_alloc ?_ _) | (with_reducible refine Kd.C_drewN ?_ _) | (with_reducible refine Kd.C_drew ?_))); (case side2 => exact (Kd.R_reads' HO383.out).2.1); (case side3 => repeat (first | exact (Kd.R_reads' HO416.out).2.2 | (with_reducible refine Kd.C_alloc ?_ _) | (with_reducible refine Kd.C_drewN ?_ _) | (with_reducible refine Kd.C_drew ?_))); (case side4 => exact (Kd.R_reads' HO416.out).2.1); rintro e w54 ⟨rfl, hb⟩; have n0_ := krb HO383 hb; have n1_ := krb HO386 hb; have n2_ := krb HO390 hb; have n3_ := krb HO394 hb; have n4_ := krb HO403 hb; have n5_ := Aside0.mk (Kd.V_below (by (with_reducible repeat (first | apply Kd.V_alloc | apply Kd.V_drewN | apply Kd.V_drew)); exact HO406.out) hb); have n6_ := krb HO412 hb; have n7_ := krb HO416 hb; have n8_ := bst HB hb; clear HO383; clear HO386; clear HO390; clear HO394; clear HO403; clear HO406; clear HO412; clear HO416; clear HB; have HO383 := n0_; have HO386 := n1_; have HO390 := n2_; have HO394 := n3_; have HO403 := n4_; have HO406 := n5_; have HO412 := n6_; have HO416 := n7_; have HB := n8_; clear n0_ n1_ n2_ n3_ n4_ n5_ n6_ n7_ n8_; (try clear hb); (try clear hb2); (try clear hk); (try clear hi); obtain ⟨Ao55, co55, eo55⟩ := Kd.V_slice HO406.out; subst eo55) | (go_at_call 27; (with_reducible refine (impl_WaitingOf.calls k _ _ t381 _ _ t404 t419 t420 _ ?side1 ?side2 ?side3 ?side4 A16.out).mono ?_); (case side1 => repeat (first | exact (Kd.R_reads' HO383.out).2.2 | (with_reducible refine Kd.C_alloc ?_ _) | (with_reducible refine Kd.C_drewN ?_ _) | (with_reducible refine Kd.C_drew ?_))); (case side2 => exact (Kd.R_reads' HO383.out).2.1); (case side3 => repeat (first | exact (Kd.V_reads' HO406.out).2.2 | (with_reducible refine Kd.C_alloc ?_ _) | (with_reducible refine Kd.C_drewN ?_ _) | (with_reducible refine Kd.C_drew ?_))); (case side4 => exact (Kd.V_reads' HO406.out).2.1); rintro e w56 ⟨rfl, hb⟩; have n0_ := krb HO383 hb; have n1_ := krb HO386 hb; have n2_ := krb HO390 hb; have n3_ := krb HO394 hb; have n4_ := krb HO403 hb; have n5_ := Aside0.mk (Kd.V_below (by (with_reducible repeat (first | apply Kd.V_alloc | apply Kd.V_drewN | apply Kd.V_drew)); exact HO406.out) hb); have n6_ := krb HO412 hb; have n7_ := krb HO416 hb; have n8_ := bst HB hb; clear HO383; clear HO386; clear HO390; clear HO394; clear HO403; clear HO406; clear HO412; clear HO416; clear HB; have HO383 := n0_; have HO386 := n1_; have HO390 := n2_; have HO394 := n3_; have HO403 := n4_; have HO406 := n5_; have HO412 := n6_; have HO416 := n7_; have HB := n8_; clear n0_ n1_ n2_ n3_ n4_ n5_ n6_ n7_ n8_; (try clear hb); (try clear hb2); (try clear hk); (try clear hi); obtain ⟨Ao57, co57, eo57⟩ := Kd.R_slice HO390.out; subst eo57; obtain ⟨Ao58, co58, eo58⟩ := Kd.R_slice HO394.out; subst eo58) | (go_at_call 31; (with_reducible refine (spec_A2Same.calls k _ _ t387 _ _ t391 true _ ?side1 ?side2 ?side3 ?side4 A19.out).mono ?_); (case side1 => repeat (first | exact (Kd.R_reads' HO390.out).2.2 | (with_reducible refine Kd.C_alloc ?_ _) | (with_reducible refine Kd.C_drewN ?_ _) | (with_reducible refine Kd.C_drew ?_))); (case side2 => exact (Kd.R_reads' HO390.out).2.1); (case side3 => repeat (first | exact (Kd.R_reads' HO394.out).2.2 | (with_reducible refine Kd.C_alloc ?_ _) | (with_reducible refine Kd.C_drewN ?_ _) | (with_reducible refine Kd.C_drew ?_))); (case side4 => exact (Kd.R_reads' HO394.out).2.1); rintro e w' ⟨rfl, ⟨nd, rfl⟩⟩; (try first | exact ⟨rfl, _, World.drewN_drewN _ _ _⟩ | exact ⟨rfl, _, Eq.trans (World.drewN_drewN _ _ _) (congrArg (World.drewN _) (Nat.add_assoc _ _ _))⟩); obtain ⟨Ao59, co59, eo59⟩ := Kd.R_slice HO403.out; subst eo59) | (go_at_call 31; (with_reducible refine (spec_A2Same.calls k _ _ t399 _ _ t404 true _ ?side1 ?side2 ?side3 ?side4 A27.out).mono ?_); (case side1 => repeat (first | exact (Kd.R_reads' HO403.out).2.2 | (with_reducible refine Kd.C_alloc ?_ _) | (with_reducible refine Kd.C_drewN ?_ _) | (with_reducible refine Kd.C_drew ?_))); (case side2 => exact (Kd.R_reads' HO403.out).2.1); (case side3 => repeat (first | exact (Kd.V_reads' HO406.out).2.2 | (with_reducible refine Kd.C_alloc ?_ _) | (with_reducible refine Kd.C_drewN ?_ _) | (with_reducible refine Kd.C_drew ?_))); (case side4 => exact (Kd.V_reads' HO406.out).2.1); rintro e w' ⟨rfl, ⟨nd, rfl⟩⟩; (try first | exact ⟨rfl, _, World.drewN_drewN _ _ _⟩ | exact ⟨rfl, _, Eq.trans (World.drewN_drewN _ _ _) (congrArg (World.drewN _) (Nat.add_assoc _ _ _))⟩); obtain ⟨Ao60, co60, eo60⟩ := Kd.R_slice HO412.out; subst eo60) | (go_at_call 31; (with_reducible refine (spec_A2Same.calls k _ _ t409 _ _ t413 true _ ?side1 ?side2 ?side3 ?side4 A33.out).mono ?_); (case side1 => repeat (first | exact (Kd.R_reads' HO412.out).2.2 | (with_reducible refine Kd.C_alloc ?_ _) | (with_reducible refine Kd.C_drewN ?_ _) | (with_reducible refine Kd.C_drew ?_))); (case side2 => exact (Kd.R_reads' HO412.out).2.1); (case side3 => repeat (first | exact (Kd.R_reads' HO416.out).2.2 | (with_reducible refine Kd.C_alloc ?_ _) | (with_reducible refine Kd.C_drewN ?_ _) | (with_reducible refine Kd.C_drew ?_))); (case side4 => exact (Kd.R_reads' HO416.out).2.1); rintro e w' ⟨rfl, ⟨nd, rfl⟩⟩; (try first | exact ⟨rfl, _, World.drewN_drewN _ _ _⟩ | exact ⟨rfl, _, Eq.trans (World.drewN_drewN _ _ _) (congrArg (World.drewN _) (Nat.add_assoc _ _ _))⟩)) | (go_at_call 32; (with_reducible refine (impl_ValidParties.calls _ _ t381 true _ ?side1 ?side2 A39.out).mono ?_); (case side1 => repeat (first | exact (Kd.R_reads' HO383.out).2.2 | (with_reducible refine Kd.C_alloc ?_ _) | (with_reducible refine Kd.C_drewN ?_ _) | (with_reducible refine Kd.C_drew ?_))); (case side2 => exact (Kd.R_reads' HO383.out).2.1); rintro e w61 ⟨rfl, hb⟩; have n0_ := krb HO383 hb; have n1_ := krb HO386 hb; have n2_ := krb HO390 hb; have n3_ := krb HO394 hb; have n4_ := krb HO403 hb; have n5_ := Aside0.mk (Kd.V_below (by (with_reducible repeat (first | apply Kd.V_alloc | apply Kd.V_drewN | apply Kd.V_drew)); exact HO406.out) hb); have n6_ := krb HO412 hb; have n7_ := krb HO416 hb; have n8_ := bst HB hb; clear HO383; clear HO386; clear HO390; clear HO394; clear HO403; clear HO406; clear HO412; clear HO416; clear HB; have HO383 := n0_; have HO386 := n1_; have HO390 := n2_; have HO394 := n3_; have HO403 := n4_; have HO406 := n5_; have HO412 := n6_; have HO416 := n7_; have HB := n8_; clear n0_ n1_ n2_ n3_ n4_ n5_ n6_ n7_ n8_; (try clear hb); (try clear hb2); (try clear hk); (try clear hi))))
                      go_loopg [29, 30, 31] k (fun kq v29 v30 v31 w' => ∃ (x29_1 : Int) (x30_1 : Int) (x31_1 : Int), v29 = .int .i64 x29_1 ∧ v30 = .int .i64 x30_1 ∧ v31 = .int .i64 x31_1 ∧ Aside0 (laws_FnDoor.l0 kq t381 t384 t391 t397 t413 x29_1 x30_1 x31_1 = some r) ∧ Aside0 (kq ≤ k) ∧ Aside0 (Kd.R k55 55 w' w.heap.size (fun _ => True) (.slice Ao42 t381.length co42) t381) ∧ Aside0 (Kd.R (Kd.int .i64) 2 w' w.heap.size (fun k_ => some k_ ≠ ((.slice Ao58 t391.length co58) : Value).ownBlock ∧ some k_ ≠ ((.slice Ao53 t413.length co53) : Value).ownBlock) (.slice Ao44 t384.length co44) t384) ∧ Aside0 (Kd.R (Kd.int .i64) 2 w' w.heap.size (fun k_ => some k_ ≠ ((.slice Ao44 t384.length co44) : Value).ownBlock ∧ some k_ ≠ ((.slice Ao53 t413.length co53) : Value).ownBlock) (.slice Ao58 t391.length co58) t391) ∧ Aside0 (Kd.R (Kd.int .i64) 2 w' w.heap.size (fun k_ => some k_ ≠ ((.slice Ao44 t384.length co44) : Value).ownBlock ∧ some k_ ≠ ((.slice Ao58 t391.length co58) : Value).ownBlock) (.slice Ao53 t413.length co53) t413) ∧ Aside0 (Below w.heap.size w w'))
                      case atStart => exact ⟨(0), (0), (0), (by first | rfl | (simp; done) | (simp [*]; done)), (by first | rfl | (simp; done) | (simp [*]; done)), (by first | rfl | (simp; done) | (simp [*]; done)), H', ⟨Nat.le_refl _⟩, ⟨by (with_reducible repeat (first | apply Kd.R_alloc | apply Kd.R_drewN | apply Kd.R_drew)); exact HO383.out⟩, ⟨by (with_reducible repeat (first | apply Kd.R_alloc | apply Kd.R_drewN | apply Kd.R_drew)); exact Kd.R_mono HO386.out (fun _ hk => ⟨hk.1.1.1.2, hk.2⟩)⟩, ⟨by (with_reducible repeat (first | apply Kd.R_alloc | apply Kd.R_drewN | apply Kd.R_drew)); exact Kd.R_mono HO394.out (fun _ hk => ⟨hk.1.1.1.1.2, hk.2⟩)⟩, ⟨by (with_reducible repeat (first | apply Kd.R_alloc | apply Kd.R_drewN | apply Kd.R_drew)); exact Kd.R_mono HO416.out (fun _ hk => ⟨hk.1.1.1.1.2, hk.1.1.2⟩)⟩, ⟨pb HB⟩⟩
                      case round =>
                       clear H'
                       try clear c1
                       try clear c2
                       try clear p2
                       try clear c3
                       try clear c4
                       try clear c5
                       try clear c17
                       try clear c17b0
                       try clear c17b1
                       try clear c18
                       try clear c18b0
                       try clear c18b1
                       try clear c20
                       try clear c21
                       try clear c21b0
                       try clear c21b1
                       try clear c21b2
                       try clear c22
                       try clear c22b0
                       try clear c22b1
                       try clear c23
                       try clear c23b0
                       try clear c23b1
                       try clear c24
                       try clear c24b0
                       try clear c24b1
                       try clear c25
                       try clear c25b0
                       try clear c25b1
                       try clear c26
                       try clear c26b0
                       try clear c26b1
                       try clear c28
                       try clear c29
                       try clear c29b0
                       try clear c29b1
                       try clear c30
                       try clear c30b0
                       try clear c31
                       try clear c31b0
                       try clear c31b1
                       try clear c32
                       try clear c32b0
                       try clear c32b1
                       try clear c34
                       try clear c35
                       try clear c35b0
                       try clear c35b1
                       try clear c36
                       try clear c36b0
                       try clear c37
                       try clear c37b0
                       try clear c37b1
                       try clear c38
                       try clear c38b0
                       try clear c38b1
                       try clear c40
                       obtain ⟨x29_1, x30_1, x31_1, rfl, rfl, rfl, HA, HK1, HO_5, HO_6, HO_9, HO_23, HB⟩ := hrel
                       cases gk with
                       | zero => exact absurd HA.out (by simp [laws_FnDoor.l0])
                       | succ k1 =>
                        have H := HA.out
                        clear HA
                        simp only [laws_FnDoor.l0] at H
                        by_cases c62 : x31_1 < (t384.length : Int)
                        ·rw [if_pos c62] at H
                         have c62b0 : decide (x31_1 < (t384.length : Int)) = true := decide_eq_true c62
                         clear c62
                         by_cases c63 : 0 ≤ x31_1
                         ·rw [if_pos c63] at H
                          have c63b0 : decide (0 ≤ x31_1) = true := decide_eq_true c63
                          clear c63
                          by_cases c64 : 0 ≤ (rd t384 x31_1)
                          ·rw [if_pos c64] at H
                           have c64b0 : decide (0 ≤ (rd t384 x31_1)) = true := decide_eq_true c64
                           clear c64
                           by_cases c65 : (rd t384 x31_1) < (t381.length : Int)
                           ·rw [if_pos c65] at H
                            have c65b0 : decide ((rd t384 x31_1) < (t381.length : Int)) = true := decide_eq_true c65
                            clear c65
                            by_cases c66 : (rd t384 x31_1) < (t391.length : Int)
                            ·rw [if_pos c66] at H
                             have c66b0 : decide ((rd t384 x31_1) < (t391.length : Int)) = true := decide_eq_true c66
                             clear c66
                             obtain ⟨ji67, hji67⟩ : ∃ j_ : Int, (mx x30_1 (wrap64 ((rd_T55 t381 (rd t384 x31_1)).f0))) = j_ := ⟨_, rfl⟩
                             replace H : (if (rd t391 (rd t384 x31_1)) = (ji67) then (laws_FnDoor.l0 k1 t381 t384 t391 t397 t413 (wrap64 (x29_1 + (wrap64 ((wrap64 ((rd_T55 t381 (rd t384 x31_1)).f1)) * (wrap64 ((rd t391 (rd t384 x31_1)) - (wrap64 ((rd_T55 t381 (rd t384 x31_1)).f0)))))))) (wrap64 ((rd t391 (rd t384 x31_1)) + (wrap64 ((rd_T55 t381 (rd t384 x31_1)).f1)))) (wrap64 (x31_1 + 1))) else (none)) = some r := by first | (rw [hji67] at H; exact H) | (simp only [hji67] at H ⊢; exact H)
                             have hji67_ : (if x30_1 < (wrap64 ((rd_T55 t381 (rd t384 x31_1)).f0)) then (wrap64 ((rd_T55 t381 (rd t384 x31_1)).f0)) else x30_1) = ji67 := hji67
                             by_cases c68 : (rd t391 (rd t384 x31_1)) = (ji67)
                             ·rw [if_pos c68] at H
                              have c68b0 : ((rd t391 (rd t384 x31_1)) == (ji67)) = true := beq_iff_eq.mpr c68
                              have c68b1 : ((rd t391 (rd t384 x31_1)) != (ji67)) = false := bne_eq_false_iff_eq.mpr c68
                              clear c68
                              have H' := Aside0.mk H
                              clear H
                              have p425 : 0 ≤ (x31_1 : Int) := of_decide_eq_true (by first | (with_reducible assumption) | assumption)
                              have q425 : x31_1 < (t384.length : Int) := of_decide_eq_true (by first | (with_reducible assumption) | assumption)
                              obtain ⟨ad425, e425, hx425_0⟩ := Kd.at_int (Kd.R_reads' HO_6.out).2.2 x31_1 p425 q425
                              cases e425
                              replace p425 := eq_true p425
                              replace q425 := eq_true q425
                              have p426 : 0 ≤ ((rd t384 x31_1) : Int) := of_decide_eq_true (by first | (with_reducible assumption) | assumption)
                              have q426 : (rd t384 x31_1) < (t381.length : Int) := of_decide_eq_true (by first | (with_reducible assumption) | assumption)
                              obtain ⟨ad426, e426, hx426_0, hx426_1⟩ := at_T55 (Kd.R_reads' HO_5.out).2.2 (rd t384 x31_1) p426 q426
                              cases e426
                              replace p426 := eq_true p426
                              replace q426 := eq_true q426
                              have hwr_ : ∀ z_ : Int, IntKind.i64.wrap z_ = wrap64 z_ := IntWalk.i64_left
                              go_wp2_with (first | ((with_reducible refine gate_dst (N := 32) rfl ?_); (try (refine gate_guard (by rfl) ?_; dsimp only)); refine box_event ?hg (N := 32) ?hd (cs := #[.int .i16 0, .int .i16 0]) (t := 55) ?hr ?_; (case hd => rfl); (case hg => rfl); (case hr => first | (go_simp; done) | (go_simp; rfl)); intro gb427 hg w69 hbox hb; have n0_ := Aside0.mk (Kd.R_below (Kd.R_elderB (by (with_reducible repeat (first | apply Kd.R_alloc | apply Kd.R_drewN | apply Kd.R_drew)); exact HO_5.out) gb427 (Nat.le_of_eq hg.symm)) hb); have n1_ := krb HO_6 hb; have n2_ := krb HO_9 hb; have n3_ := krb HO_23 hb; have n4_ := bst HB hb; have n5_ := Aside0.mk (hbox); have n6_ := gwl HB hg; have n7_ := gwl HB hg; clear HO_5; clear HO_6; clear HO_9; clear HO_23; clear HB; have HO_5 := n0_; have HO_6 := n1_; have HO_9 := n2_; have HO_23 := n3_; have HB := n4_; have BK427 := n5_; have GW427 := n6_; have GE427 := n7_; clear n0_ n1_ n2_ n3_ n4_ n5_ n6_ n7_; clear hb hbox hg; have hcz70_0 : w69.cell? ⟨gb427, 0, none⟩ = some (.int .i16 0) := (blk_cell BK427.out 0).trans rfl; have hcz70_1 : w69.cell? ⟨gb427, 1, none⟩ = some (.int .i16 0) := (blk_cell BK427.out 1).trans rfl; have hfz70_0 := blk_frozen BK427.out 0; have hfz70_1 := blk_frozen BK427.out 1; have p428 : 0 ≤ (x31_1 : Int) := of_decide_eq_true (by first | (with_reducible assumption) | assumption); have q428 : x31_1 < (t384.length : Int) := of_decide_eq_true (by first | (with_reducible assumption) | assumption); obtain ⟨ad428, e428, hx428_0⟩ := Kd.at_int (Kd.R_reads' HO_6.out).2.2 x31_1 p428 q428; obtain rfl : ad425 = ad428 := (by injection e428); have hn428_0 : ad425.block ≠ gb427 := Kd.own_blk (Kd.R_ne HO_6.out BK427.out (by decide)); have hn428_1 : ad425.block ≠ gb427 := Kd.own_blk (Kd.R_ne HO_6.out BK427.out (by decide)); replace hx428_0 := (cell_far (p := ⟨gb427, 0, none⟩) (by first | (rw [add_block]; exact hn428_0) | (show (Addr.add _ _).block ≠ _; rw [add_block]; exact hn428_0) | exact hn428_0) (.int .i16 ((rd_T55 t381 (rd t384 x31_1)).f0))).trans hx428_0; replace hx428_0 := (cell_far (p := ⟨gb427, 1, none⟩) (by first | (rw [add_block]; exact hn428_1) | (show (Addr.add _ _).block ≠ _; rw [add_block]; exact hn428_1) | exact hn428_1) (.int .i16 ((rd_T55 t381 (rd t384 x31_1)).f1))).trans hx428_0; (try have hy428_0 := fun (n_ : Nat) => (show ((((w69.drewN n_).setCell ⟨gb427, 0, none⟩ (.int .i16 ((rd_T55 t381 (rd t384 x31_1)).f0))).setCell ⟨gb427, 1, none⟩ (.int .i16 ((rd_T55 t381 (rd t384 x31_1)).f1)))).cell? _ = some _ from hx428_0)); clear hn428_0; clear hn428_1; replace p428 := eq_true p428; replace q428 := eq_true q428; have p429 : 0 ≤ ((rd t384 x31_1) : Int) := of_decide_eq_true (by first | (with_reducible assumption) | assumption); have q429 : (rd t384 x31_1) < (t391.length : Int) := of_decide_eq_true (by first | (with_reducible assumption) | assumption); obtain ⟨ad429, e429, hx429_0⟩ := Kd.at_int (Kd.R_reads' HO_9.out).2.2 (rd t384 x31_1) p429 q429; cases e429; have hn429_0 : ad429.block ≠ gb427 := Kd.own_blk (Kd.R_ne HO_9.out BK427.out (by decide)); have hn429_1 : ad429.block ≠ gb427 := Kd.own_blk (Kd.R_ne HO_9.out BK427.out (by decide)); replace hx429_0 := (cell_far (p := ⟨gb427, 0, none⟩) (by first | (rw [add_block]; exact hn429_0) | (show (Addr.add _ _).block ≠ _; rw [add_block]; exact hn429_0) | exact hn429_0) (.int .i16 ((rd_T55 t381 (rd t384 x31_1)).f0))).trans hx429_0; replace hx429_0 := (cell_far (p := ⟨gb427, 1, none⟩) (by first | (rw [add_block]; exact hn429_1) | (show (Addr.add _ _).block ≠ _; rw [add_block]; exact hn429_1) | exact hn429_1) (.int .i16 ((rd_T55 t381 (rd t384 x31_1)).f1))).trans hx429_0; (try have hy429_0 := fun (n_ : Nat) => (show ((((w69.drewN n_).setCell ⟨gb427, 0, none⟩ (.int .i16 ((rd_T55 t381 (rd t384 x31_1)).f0))).setCell ⟨gb427, 1, none⟩ (.int .i16 ((rd_T55 t381 (rd t384 x31_1)).f1)))).cell? _ = some _ from hx429_0)); clear hn429_0; clear hn429_1; replace p429 := eq_true p429; replace q429 := eq_true q429))
                              repeat (go_quiet (first | ((with_reducible refine gate_dst (N := 32) rfl ?_); (try (refine gate_guard (by rfl) ?_; dsimp only)); refine box_event ?hg (N := 32) ?hd (cs := #[.int .i16 0, .int .i16 0]) (t := 55) ?hr ?_; (case hd => rfl); (case hg => rfl); (case hr => first | (go_simp; done) | (go_simp; rfl)); intro gb427 hg w69 hbox hb; have n0_ := Aside0.mk (Kd.R_below (Kd.R_elderB (by (with_reducible repeat (first | apply Kd.R_alloc | apply Kd.R_drewN | apply Kd.R_drew)); exact HO_5.out) gb427 (Nat.le_of_eq hg.symm)) hb); have n1_ := krb HO_6 hb; have n2_ := krb HO_9 hb; have n3_ := krb HO_23 hb; have n4_ := bst HB hb; have n5_ := Aside0.mk (hbox); have n6_ := gwl HB hg; have n7_ := gwl HB hg; clear HO_5; clear HO_6; clear HO_9; clear HO_23; clear HB; have HO_5 := n0_; have HO_6 := n1_; have HO_9 := n2_; have HO_23 := n3_; have HB := n4_; have BK427 := n5_; have GW427 := n6_; have GE427 := n7_; clear n0_ n1_ n2_ n3_ n4_ n5_ n6_ n7_; clear hb hbox hg; have hcz70_0 : w69.cell? ⟨gb427, 0, none⟩ = some (.int .i16 0) := (blk_cell BK427.out 0).trans rfl; have hcz70_1 : w69.cell? ⟨gb427, 1, none⟩ = some (.int .i16 0) := (blk_cell BK427.out 1).trans rfl; have hfz70_0 := blk_frozen BK427.out 0; have hfz70_1 := blk_frozen BK427.out 1; have p428 : 0 ≤ (x31_1 : Int) := of_decide_eq_true (by first | (with_reducible assumption) | assumption); have q428 : x31_1 < (t384.length : Int) := of_decide_eq_true (by first | (with_reducible assumption) | assumption); obtain ⟨ad428, e428, hx428_0⟩ := Kd.at_int (Kd.R_reads' HO_6.out).2.2 x31_1 p428 q428; obtain rfl : ad425 = ad428 := (by injection e428); have hn428_0 : ad425.block ≠ gb427 := Kd.own_blk (Kd.R_ne HO_6.out BK427.out (by decide)); have hn428_1 : ad425.block ≠ gb427 := Kd.own_blk (Kd.R_ne HO_6.out BK427.out (by decide)); replace hx428_0 := (cell_far (p := ⟨gb427, 0, none⟩) (by first | (rw [add_block]; exact hn428_0) | (show (Addr.add _ _).block ≠ _; rw [add_block]; exact hn428_0) | exact hn428_0) (.int .i16 ((rd_T55 t381 (rd t384 x31_1)).f0))).trans hx428_0; replace hx428_0 := (cell_far (p := ⟨gb427, 1, none⟩) (by first | (rw [add_block]; exact hn428_1) | (show (Addr.add _ _).block ≠ _; rw [add_block]; exact hn428_1) | exact hn428_1) (.int .i16 ((rd_T55 t381 (rd t384 x31_1)).f1))).trans hx428_0; (try have hy428_0 := fun (n_ : Nat) => (show ((((w69.drewN n_).setCell ⟨gb427, 0, none⟩ (.int .i16 ((rd_T55 t381 (rd t384 x31_1)).f0))).setCell ⟨gb427, 1, none⟩ (.int .i16 ((rd_T55 t381 (rd t384 x31_1)).f1)))).cell? _ = some _ from hx428_0)); clear hn428_0; clear hn428_1; replace p428 := eq_true p428; replace q428 := eq_true q428; have p429 : 0 ≤ ((rd t384 x31_1) : Int) := of_decide_eq_true (by first | (with_reducible assumption) | assumption); have q429 : (rd t384 x31_1) < (t391.length : Int) := of_decide_eq_true (by first | (with_reducible assumption) | assumption); obtain ⟨ad429, e429, hx429_0⟩ := Kd.at_int (Kd.R_reads' HO_9.out).2.2 (rd t384 x31_1) p429 q429; cases e429; have hn429_0 : ad429.block ≠ gb427 := Kd.own_blk (Kd.R_ne HO_9.out BK427.out (by decide)); have hn429_1 : ad429.block ≠ gb427 := Kd.own_blk (Kd.R_ne HO_9.out BK427.out (by decide)); replace hx429_0 := (cell_far (p := ⟨gb427, 0, none⟩) (by first | (rw [add_block]; exact hn429_0) | (show (Addr.add _ _).block ≠ _; rw [add_block]; exact hn429_0) | exact hn429_0) (.int .i16 ((rd_T55 t381 (rd t384 x31_1)).f0))).trans hx429_0; replace hx429_0 := (cell_far (p := ⟨gb427, 1, none⟩) (by first | (rw [add_block]; exact hn429_1) | (show (Addr.add _ _).block ≠ _; rw [add_block]; exact hn429_1) | exact hn429_1) (.int .i16 ((rd_T55 t381 (rd t384 x31_1)).f1))).trans hx429_0; (try have hy429_0 := fun (n_ : Nat) => (show ((((w69.drewN n_).setCell ⟨gb427, 0, none⟩ (.int .i16 ((rd_T55 t381 (rd t384 x31_1)).f0))).setCell ⟨gb427, 1, none⟩ (.int .i16 ((rd_T55 t381 (rd t384 x31_1)).f1)))).cell? _ = some _ from hx429_0)); clear hn429_0; clear hn429_1; replace p429 := eq_true p429; replace q429 := eq_true q429)); try go_wp2_with (first | ((with_reducible refine gate_dst (N := 32) rfl ?_); (try (refine gate_guard (by rfl) ?_; dsimp only)); refine box_event ?hg (N := 32) ?hd (cs := #[.int .i16 0, .int .i16 0]) (t := 55) ?hr ?_; (case hd => rfl); (case hg => rfl); (case hr => first | (go_simp; done) | (go_simp; rfl)); intro gb427 hg w69 hbox hb; have n0_ := Aside0.mk (Kd.R_below (Kd.R_elderB (by (with_reducible repeat (first | apply Kd.R_alloc | apply Kd.R_drewN | apply Kd.R_drew)); exact HO_5.out) gb427 (Nat.le_of_eq hg.symm)) hb); have n1_ := krb HO_6 hb; have n2_ := krb HO_9 hb; have n3_ := krb HO_23 hb; have n4_ := bst HB hb; have n5_ := Aside0.mk (hbox); have n6_ := gwl HB hg; have n7_ := gwl HB hg; clear HO_5; clear HO_6; clear HO_9; clear HO_23; clear HB; have HO_5 := n0_; have HO_6 := n1_; have HO_9 := n2_; have HO_23 := n3_; have HB := n4_; have BK427 := n5_; have GW427 := n6_; have GE427 := n7_; clear n0_ n1_ n2_ n3_ n4_ n5_ n6_ n7_; clear hb hbox hg; have hcz70_0 : w69.cell? ⟨gb427, 0, none⟩ = some (.int .i16 0) := (blk_cell BK427.out 0).trans rfl; have hcz70_1 : w69.cell? ⟨gb427, 1, none⟩ = some (.int .i16 0) := (blk_cell BK427.out 1).trans rfl; have hfz70_0 := blk_frozen BK427.out 0; have hfz70_1 := blk_frozen BK427.out 1; have p428 : 0 ≤ (x31_1 : Int) := of_decide_eq_true (by first | (with_reducible assumption) | assumption); have q428 : x31_1 < (t384.length : Int) := of_decide_eq_true (by first | (with_reducible assumption) | assumption); obtain ⟨ad428, e428, hx428_0⟩ := Kd.at_int (Kd.R_reads' HO_6.out).2.2 x31_1 p428 q428; obtain rfl : ad425 = ad428 := (by injection e428); have hn428_0 : ad425.block ≠ gb427 := Kd.own_blk (Kd.R_ne HO_6.out BK427.out (by decide)); have hn428_1 : ad425.block ≠ gb427 := Kd.own_blk (Kd.R_ne HO_6.out BK427.out (by decide)); replace hx428_0 := (cell_far (p := ⟨gb427, 0, none⟩) (by first | (rw [add_block]; exact hn428_0) | (show (Addr.add _ _).block ≠ _; rw [add_block]; exact hn428_0) | exact hn428_0) (.int .i16 ((rd_T55 t381 (rd t384 x31_1)).f0))).trans hx428_0; replace hx428_0 := (cell_far (p := ⟨gb427, 1, none⟩) (by first | (rw [add_block]; exact hn428_1) | (show (Addr.add _ _).block ≠ _; rw [add_block]; exact hn428_1) | exact hn428_1) (.int .i16 ((rd_T55 t381 (rd t384 x31_1)).f1))).trans hx428_0; (try have hy428_0 := fun (n_ : Nat) => (show ((((w69.drewN n_).setCell ⟨gb427, 0, none⟩ (.int .i16 ((rd_T55 t381 (rd t384 x31_1)).f0))).setCell ⟨gb427, 1, none⟩ (.int .i16 ((rd_T55 t381 (rd t384 x31_1)).f1)))).cell? _ = some _ from hx428_0)); clear hn428_0; clear hn428_1; replace p428 := eq_true p428; replace q428 := eq_true q428; have p429 : 0 ≤ ((rd t384 x31_1) : Int) := of_decide_eq_true (by first | (with_reducible assumption) | assumption); have q429 : (rd t384 x31_1) < (t391.length : Int) := of_decide_eq_true (by first | (with_reducible assumption) | assumption); obtain ⟨ad429, e429, hx429_0⟩ := Kd.at_int (Kd.R_reads' HO_9.out).2.2 (rd t384 x31_1) p429 q429; cases e429; have hn429_0 : ad429.block ≠ gb427 := Kd.own_blk (Kd.R_ne HO_9.out BK427.out (by decide)); have hn429_1 : ad429.block ≠ gb427 := Kd.own_blk (Kd.R_ne HO_9.out BK427.out (by decide)); replace hx429_0 := (cell_far (p := ⟨gb427, 0, none⟩) (by first | (rw [add_block]; exact hn429_0) | (show (Addr.add _ _).block ≠ _; rw [add_block]; exact hn429_0) | exact hn429_0) (.int .i16 ((rd_T55 t381 (rd t384 x31_1)).f0))).trans hx429_0; replace hx429_0 := (cell_far (p := ⟨gb427, 1, none⟩) (by first | (rw [add_block]; exact hn429_1) | (show (Addr.add _ _).block ≠ _; rw [add_block]; exact hn429_1) | exact hn429_1) (.int .i16 ((rd_T55 t381 (rd t384 x31_1)).f1))).trans hx429_0; (try have hy429_0 := fun (n_ : Nat) => (show ((((w69.drewN n_).setCell ⟨gb427, 0, none⟩ (.int .i16 ((rd_T55 t381 (rd t384 x31_1)).f0))).setCell ⟨gb427, 1, none⟩ (.int .i16 ((rd_T55 t381 (rd t384 x31_1)).f1)))).cell? _ = some _ from hx429_0)); clear hn429_0; clear hn429_1; replace p429 := eq_true p429; replace q429 := eq_true q429)))
                              go_roundg k1
                              case measure => have := HK1.out; omega
                              case rel => exact ⟨(wrap64 (x29_1 + (wrap64 ((wrap64 ((rd_T55 t381 (rd t384 x31_1)).f1)) * (wrap64 ((rd t391 (rd t384 x31_1)) - (wrap64 ((rd_T55 t381 (rd t384 x31_1)).f0)))))))), (wrap64 ((rd t391 (rd t384 x31_1)) + (wrap64 ((rd_T55 t381 (rd t384 x31_1)).f1)))), (wrap64 (x31_1 + 1)), (by first | rfl | (simp; done) | (simp [*]; done)), (by first | rfl | (simp; done) | (simp [*]; done)), (by first | rfl | (simp; done) | (simp [*]; done)), H', ⟨by have := HK1.out; omega⟩, ⟨by (with_reducible repeat (first | apply Kd.R_alloc | apply Kd.R_drewN | apply Kd.R_drew)); exact Kd.R_mono (Kd.R_far (p := ⟨gb427, 1, none⟩) (Kd.R_far (p := ⟨gb427, 0, none⟩) (Kd.R_mono HO_5.out (fun k_ hk => (⟨hk, hk.2⟩ : _ ∧ k_ ≠ gb427))) (fun _ hk => hk.2) (.int .i16 ((rd_T55 t381 (rd t384 x31_1)).f0))) (fun _ hk => hk.2) (.int .i16 ((rd_T55 t381 (rd t384 x31_1)).f1))) (fun _ hk => trivial)⟩, ⟨by (with_reducible repeat (first | apply Kd.R_alloc | apply Kd.R_drewN | apply Kd.R_drew)); exact Kd.R_mono (Kd.R_far (p := ⟨gb427, 1, none⟩) (Kd.R_far (p := ⟨gb427, 0, none⟩) (Kd.R_types HO_6.out BK427.out (by decide)) (fun _ hk => hk.2) (.int .i16 ((rd_T55 t381 (rd t384 x31_1)).f0))) (fun _ hk => hk.2) (.int .i16 ((rd_T55 t381 (rd t384 x31_1)).f1))) (fun _ hk => ⟨hk.1.1, hk.1.2⟩)⟩, ⟨by (with_reducible repeat (first | apply Kd.R_alloc | apply Kd.R_drewN | apply Kd.R_drew)); exact Kd.R_mono (Kd.R_far (p := ⟨gb427, 1, none⟩) (Kd.R_far (p := ⟨gb427, 0, none⟩) (Kd.R_types HO_9.out BK427.out (by decide)) (fun _ hk => hk.2) (.int .i16 ((rd_T55 t381 (rd t384 x31_1)).f0))) (fun _ hk => hk.2) (.int .i16 ((rd_T55 t381 (rd t384 x31_1)).f1))) (fun _ hk => ⟨hk.1.1, hk.1.2⟩)⟩, ⟨by (with_reducible repeat (first | apply Kd.R_alloc | apply Kd.R_drewN | apply Kd.R_drew)); exact Kd.R_mono (Kd.R_far (p := ⟨gb427, 1, none⟩) (Kd.R_far (p := ⟨gb427, 0, none⟩) (Kd.R_types HO_23.out BK427.out (by decide)) (fun _ hk => hk.2) (.int .i16 ((rd_T55 t381 (rd t384 x31_1)).f0))) (fun _ hk => hk.2) (.int .i16 ((rd_T55 t381 (rd t384 x31_1)).f1))) (fun _ hk => ⟨hk.1.1, hk.1.2⟩)⟩, ⟨pbs HB⟩⟩
                             ·rw [if_neg c68] at H
                              exact absurd H (by simp)
                            ·rw [if_neg c66] at H
                             exact absurd H (by simp)
                           ·rw [if_neg c65] at H
                            exact absurd H (by simp)
                          ·rw [if_neg c64] at H
                           exact absurd H (by simp)
                         ·rw [if_neg c63] at H
                          exact absurd H (by simp)
                        ·rw [if_neg c62] at H
                         have c62b0 : decide (x31_1 < (t384.length : Int)) = false := decide_eq_false c62
                         clear c62
                         by_cases c71 : x29_1 = t397
                         ·rw [if_pos c71] at H
                          have c71b0 : (x29_1 == t397) = true := beq_iff_eq.mpr c71
                          have c71b1 : (x29_1 != t397) = false := bne_eq_false_iff_eq.mpr c71
                          clear c71
                          have H' := Aside0.mk H
                          clear H
                          go_wp2
                          repeat (go_quiet (fail); try go_wp2)
                          go_loopg [34] k1 (fun kq v34 w' => ∃ (x34_2 : Int), v34 = .int .i64 x34_2 ∧ Aside0 (laws_FnDoor.l1 kq t381 t384 t391 t413 x34_2 = some r) ∧ Aside0 (kq ≤ k1) ∧ Aside0 (Kd.R k55 55 w' w.heap.size (fun _ => True) (.slice Ao42 t381.length co42) t381) ∧ Aside0 (Kd.R (Kd.int .i64) 2 w' w.heap.size (fun k_ => some k_ ≠ ((.slice Ao58 t391.length co58) : Value).ownBlock ∧ some k_ ≠ ((.slice Ao53 t413.length co53) : Value).ownBlock) (.slice Ao44 t384.length co44) t384) ∧ Aside0 (Kd.R (Kd.int .i64) 2 w' w.heap.size (fun k_ => some k_ ≠ ((.slice Ao44 t384.length co44) : Value).ownBlock ∧ some k_ ≠ ((.slice Ao53 t413.length co53) : Value).ownBlock) (.slice Ao58 t391.length co58) t391) ∧ Aside0 (Kd.R (Kd.int .i64) 2 w' w.heap.size (fun k_ => some k_ ≠ ((.slice Ao44 t384.length co44) : Value).ownBlock ∧ some k_ ≠ ((.slice Ao58 t391.length co58) : Value).ownBlock) (.slice Ao53 t413.length co53) t413) ∧ Aside0 (Below w.heap.size w w'))
                          case atStart => exact ⟨(1), (by first | rfl | (simp; done) | (simp [*]; done)), H', ⟨Nat.le_refl _⟩, ⟨by (with_reducible repeat (first | apply Kd.R_alloc | apply Kd.R_drewN | apply Kd.R_drew)); exact HO_5.out⟩, ⟨by (with_reducible repeat (first | apply Kd.R_alloc | apply Kd.R_drewN | apply Kd.R_drew)); exact HO_6.out⟩, ⟨by (with_reducible repeat (first | apply Kd.R_alloc | apply Kd.R_drewN | apply Kd.R_drew)); exact HO_9.out⟩, ⟨by (with_reducible repeat (first | apply Kd.R_alloc | apply Kd.R_drewN | apply Kd.R_drew)); exact HO_23.out⟩, ⟨pb HB⟩⟩
                          case round =>
                           clear H'
                           try clear c1
                           try clear c2
                           try clear p2
                           try clear c3
                           try clear c4
                           try clear p4
                           try clear q4
                           try clear hx4
                           try clear c5
                           try clear c6
                           try clear p6
                           try clear c7
                           try clear c17
                           try clear c17b0
                           try clear c17b1
                           try clear c18
                           try clear c18b0
                           try clear c18b1
                           try clear c20
                           try clear c21
                           try clear c21b0
                           try clear c21b1
                           try clear c21b2
                           try clear c22
                           try clear c22b0
                           try clear c22b1
                           try clear c23
                           try clear c23b0
                           try clear c23b1
                           try clear c24
                           try clear c24b0
                           try clear c24b1
                           try clear c25
                           try clear c25b0
                           try clear c25b1
                           try clear c26
                           try clear c26b0
                           try clear c26b1
                           try clear c28
                           try clear c29
                           try clear c29b0
                           try clear c29b1
                           try clear c30
                           try clear c30b0
                           try clear c31
                           try clear c31b0
                           try clear c31b1
                           try clear c32
                           try clear c32b0
                           try clear c32b1
                           try clear c34
                           try clear c35
                           try clear c35b0
                           try clear c35b1
                           try clear c36
                           try clear c36b0
                           try clear c37
                           try clear c37b0
                           try clear c37b1
                           try clear c38
                           try clear c38b0
                           try clear c38b1
                           try clear c40
                           try clear p42
                           try clear q42
                           try clear hx42
                           try clear c62
                           try clear c62b0
                           try clear c63
                           try clear c63b0
                           try clear c64
                           try clear c64b0
                           try clear p64
                           try clear c65
                           try clear c65b0
                           try clear c66
                           try clear c66b0
                           try clear c68
                           try clear c68b0
                           try clear c68b1
                           try clear c71
                           try clear c71b0
                           try clear c71b1
                           try clear hcz70_0
                           try clear hcz70_1
                           try clear hfz70_0
                           try clear hfz70_1
                           try clear hx425_0
                           try clear hx426_0
                           try clear hx426_1
                           try clear hx428_0
                           try clear hx429_0
                           try clear p2
                           try clear p425
                           try clear p426
                           try clear p428
                           try clear p429
                           try clear q425
                           try clear q426
                           try clear q428
                           try clear q429
                           obtain ⟨x34_2, rfl, HA, HK2, HO_5, HO_6, HO_9, HO_23, HB⟩ := hrel
                           cases gk with
                           | zero => exact absurd HA.out (by simp [laws_FnDoor.l1])
                           | succ k2 =>
                            have H := HA.out
                            clear HA
                            simp only [laws_FnDoor.l1] at H
                            by_cases c72 : x34_2 < (t413.length : Int)
                            ·rw [if_pos c72] at H
                             have c72b0 : decide (x34_2 < (t413.length : Int)) = true := decide_eq_true c72
                             clear c72
                             obtain ⟨ji73, hji73⟩ : ∃ j_ : Int, (wrap64 (x34_2 - 1)) = j_ := ⟨_, rfl⟩
                             replace H : (if 0 ≤ (ji73) then (if (ji73) < (t413.length : Int) then (if 0 ≤ (rd t413 (ji73)) then (if (rd t413 (ji73)) < (t381.length : Int) then (if 0 ≤ x34_2 then (if 0 ≤ (rd t413 x34_2) then (if (rd t413 x34_2) < (t381.length : Int) then (if ((rd_T55 t381 (rd t413 (ji73))).f0) > ((rd_T55 t381 (rd t413 x34_2)).f0) then (none) else (if ((rd_T55 t381 (rd t413 (ji73))).f0) = ((rd_T55 t381 (rd t413 x34_2)).f0) then (if (rd t413 (ji73)) > (rd t413 x34_2) then (none) else (laws_FnDoor.l1 k2 t381 t384 t391 t413 (wrap64 (x34_2 + 1)))) else (laws_FnDoor.l1 k2 t381 t384 t391 t413 (wrap64 (x34_2 + 1))))) else (none)) else (none)) else (none)) else (none)) else (none)) else (none)) else (none)) = some r := by first | (rw [hji73] at H; exact H) | (simp only [hji73] at H ⊢; exact H)
                             have hji73w : (IntKind.i64.wrap (x34_2 - 1)) = ji73 := (i64_w _).trans hji73
                             by_cases c74 : 0 ≤ (ji73)
                             ·rw [if_pos c74] at H
                              have c74b0 : decide (0 ≤ (ji73)) = true := decide_eq_true c74
                              clear c74
                              by_cases c75 : (ji73) < (t413.length : Int)
                              ·rw [if_pos c75] at H
                               have c75b0 : decide ((ji73) < (t413.length : Int)) = true := decide_eq_true c75
                               clear c75
                               by_cases c76 : 0 ≤ (rd t413 (ji73))
                               ·rw [if_pos c76] at H
                                have c76b0 : decide (0 ≤ (rd t413 (ji73))) = true := decide_eq_true c76
                                clear c76
                                by_cases c77 : (rd t413 (ji73)) < (t381.length : Int)
                                ·rw [if_pos c77] at H
                                 have c77b0 : decide ((rd t413 (ji73)) < (t381.length : Int)) = true := decide_eq_true c77
                                 clear c77
                                 by_cases c78 : 0 ≤ x34_2
                                 ·rw [if_pos c78] at H
                                  have c78b0 : decide (0 ≤ x34_2) = true := decide_eq_true c78
                                  clear c78
                                  by_cases c79 : 0 ≤ (rd t413 x34_2)
                                  ·rw [if_pos c79] at H
                                   have c79b0 : decide (0 ≤ (rd t413 x34_2)) = true := decide_eq_true c79
                                   clear c79
                                   by_cases c80 : (rd t413 x34_2) < (t381.length : Int)
                                   ·rw [if_pos c80] at H
                                    have c80b0 : decide ((rd t413 x34_2) < (t381.length : Int)) = true := decide_eq_true c80
                                    clear c80
                                    by_cases c81 : ((rd_T55 t381 (rd t413 (ji73))).f0) > ((rd_T55 t381 (rd t413 x34_2)).f0)
                                    ·rw [if_pos c81] at H
                                     exact absurd H (by simp)
                                    ·rw [if_neg c81] at H
                                     have c81b0 : decide (((rd_T55 t381 (rd t413 x34_2)).f0) < ((rd_T55 t381 (rd t413 (ji73))).f0)) = false := decide_eq_false c81
                                     clear c81
                                     by_cases c82 : ((rd_T55 t381 (rd t413 (ji73))).f0) = ((rd_T55 t381 (rd t413 x34_2)).f0)
                                     ·rw [if_pos c82] at H
                                      have c82b0 : (((rd_T55 t381 (rd t413 (ji73))).f0) == ((rd_T55 t381 (rd t413 x34_2)).f0)) = true := beq_iff_eq.mpr c82
                                      have c82b1 : (((rd_T55 t381 (rd t413 (ji73))).f0) != ((rd_T55 t381 (rd t413 x34_2)).f0)) = false := bne_eq_false_iff_eq.mpr c82
                                      clear c82
                                      by_cases c83 : (rd t413 (ji73)) > (rd t413 x34_2)
                                      ·rw [if_pos c83] at H
                                       exact absurd H (by simp)
                                      ·rw [if_neg c83] at H
                                       have c83b0 : decide ((rd t413 x34_2) < (rd t413 (ji73))) = false := decide_eq_false c83
                                       clear c83
                                       have H' := Aside0.mk H
                                       clear H
                                       have p430 : 0 ≤ ((ji73) : Int) := of_decide_eq_true (by first | (with_reducible assumption) | assumption)
                                       have q430 : (ji73) < (t413.length : Int) := of_decide_eq_true (by first | (with_reducible assumption) | assumption)
                                       obtain ⟨ad430, e430, hx430_0⟩ := Kd.at_int (Kd.R_reads' HO_23.out).2.2 (ji73) p430 q430
                                       cases e430
                                       replace p430 := eq_true p430
                                       replace q430 := eq_true q430
                                       have p431 : 0 ≤ ((rd t413 (ji73)) : Int) := of_decide_eq_true (by first | (with_reducible assumption) | assumption)
                                       have q431 : (rd t413 (ji73)) < (t381.length : Int) := of_decide_eq_true (by first | (with_reducible assumption) | assumption)
                                       obtain ⟨ad431, e431, hx431_0, hx431_1⟩ := at_T55 (Kd.R_reads' HO_5.out).2.2 (rd t413 (ji73)) p431 q431
                                       cases e431
                                       replace p431 := eq_true p431
                                       replace q431 := eq_true q431
                                       have p432 : 0 ≤ (x34_2 : Int) := of_decide_eq_true (by first | (with_reducible assumption) | assumption)
                                       have q432 : x34_2 < (t413.length : Int) := of_decide_eq_true (by first | (with_reducible assumption) | assumption)
                                       obtain ⟨ad432, e432, hx432_0⟩ := Kd.at_int (Kd.R_reads' HO_23.out).2.2 x34_2 p432 q432
                                       obtain rfl : ad430 = ad432 := (by injection e432)
                                       replace p432 := eq_true p432
                                       replace q432 := eq_true q432
                                       have p433 : 0 ≤ ((rd t413 x34_2) : Int) := of_decide_eq_true (by first | (with_reducible assumption) | assumption)
                                       have q433 : (rd t413 x34_2) < (t381.length : Int) := of_decide_eq_true (by first | (with_reducible assumption) | assumption)
                                       obtain ⟨ad433, e433, hx433_0, hx433_1⟩ := at_T55 (Kd.R_reads' HO_5.out).2.2 (rd t413 x34_2) p433 q433
                                       obtain rfl : ad431 = ad433 := (by injection e433)
                                       replace p433 := eq_true p433
                                       replace q433 := eq_true q433
                                       have p434 : 0 ≤ ((ji73) : Int) := of_decide_eq_true (by first | (with_reducible assumption) | assumption)
                                       have q434 : (ji73) < (t413.length : Int) := of_decide_eq_true (by first | (with_reducible assumption) | assumption)
                                       obtain ⟨ad434, e434, hx434_0⟩ := Kd.at_int (Kd.R_reads' HO_23.out).2.2 (ji73) p434 q434
                                       obtain rfl : ad430 = ad434 := (by injection e434)
                                       replace p434 := eq_true p434
                                       replace q434 := eq_true q434
                                       have p435 : 0 ≤ (x34_2 : Int) := of_decide_eq_true (by first | (with_reducible assumption) | assumption)
                                       have q435 : x34_2 < (t413.length : Int) := of_decide_eq_true (by first | (with_reducible assumption) | assumption)
                                       obtain ⟨ad435, e435, hx435_0⟩ := Kd.at_int (Kd.R_reads' HO_23.out).2.2 x34_2 p435 q435
                                       obtain rfl : ad430 = ad435 := (by injection e435)
                                       replace p435 := eq_true p435
                                       replace q435 := eq_true q435
                                       go_wp2
                                       repeat (go_quiet (fail); try go_wp2)
                                       go_roundg k2
                                       case measure => have := HK1.out; have := HK2.out; omega
                                       case rel => exact ⟨(wrap64 (x34_2 + 1)), (by first | rfl | (simp; done) | (simp [*]; done)), H', ⟨by have := HK1.out; have := HK2.out; omega⟩, ⟨by (with_reducible repeat (first | apply Kd.R_alloc | apply Kd.R_drewN | apply Kd.R_drew)); exact HO_5.out⟩, ⟨by (with_reducible repeat (first | apply Kd.R_alloc | apply Kd.R_drewN | apply Kd.R_drew)); exact HO_6.out⟩, ⟨by (with_reducible repeat (first | apply Kd.R_alloc | apply Kd.R_drewN | apply Kd.R_drew)); exact HO_9.out⟩, ⟨by (with_reducible repeat (first | apply Kd.R_alloc | apply Kd.R_drewN | apply Kd.R_drew)); exact HO_23.out⟩, ⟨pb HB⟩⟩
                                     ·rw [if_neg c82] at H
                                      have c82b0 : (((rd_T55 t381 (rd t413 (ji73))).f0) == ((rd_T55 t381 (rd t413 x34_2)).f0)) = false := beq_eq_false_iff_ne.mpr c82
                                      have c82b1 : (((rd_T55 t381 (rd t413 (ji73))).f0) != ((rd_T55 t381 (rd t413 x34_2)).f0)) = true := bne_iff_ne.mpr c82
                                      have H' := Aside0.mk H
                                      clear H
                                      have p430 : 0 ≤ ((ji73) : Int) := of_decide_eq_true (by first | (with_reducible assumption) | assumption)
                                      have q430 : (ji73) < (t413.length : Int) := of_decide_eq_true (by first | (with_reducible assumption) | assumption)
                                      obtain ⟨ad430, e430, hx430_0⟩ := Kd.at_int (Kd.R_reads' HO_23.out).2.2 (ji73) p430 q430
                                      cases e430
                                      replace p430 := eq_true p430
                                      replace q430 := eq_true q430
                                      have p431 : 0 ≤ ((rd t413 (ji73)) : Int) := of_decide_eq_true (by first | (with_reducible assumption) | assumption)
                                      have q431 : (rd t413 (ji73)) < (t381.length : Int) := of_decide_eq_true (by first | (with_reducible assumption) | assumption)
                                      obtain ⟨ad431, e431, hx431_0, hx431_1⟩ := at_T55 (Kd.R_reads' HO_5.out).2.2 (rd t413 (ji73)) p431 q431
                                      cases e431
                                      replace p431 := eq_true p431
                                      replace q431 := eq_true q431
                                      have p432 : 0 ≤ (x34_2 : Int) := of_decide_eq_true (by first | (with_reducible assumption) | assumption)
                                      have q432 : x34_2 < (t413.length : Int) := of_decide_eq_true (by first | (with_reducible assumption) | assumption)
                                      obtain ⟨ad432, e432, hx432_0⟩ := Kd.at_int (Kd.R_reads' HO_23.out).2.2 x34_2 p432 q432
                                      obtain rfl : ad430 = ad432 := (by injection e432)
                                      replace p432 := eq_true p432
                                      replace q432 := eq_true q432
                                      have p433 : 0 ≤ ((rd t413 x34_2) : Int) := of_decide_eq_true (by first | (with_reducible assumption) | assumption)
                                      have q433 : (rd t413 x34_2) < (t381.length : Int) := of_decide_eq_true (by first | (with_reducible assumption) | assumption)
                                      obtain ⟨ad433, e433, hx433_0, hx433_1⟩ := at_T55 (Kd.R_reads' HO_5.out).2.2 (rd t413 x34_2) p433 q433
                                      obtain rfl : ad431 = ad433 := (by injection e433)
                                      replace p433 := eq_true p433
                                      replace q433 := eq_true q433
                                      go_wp2
                                      repeat (go_quiet (fail); try go_wp2)
                                      go_roundg k2
                                      case measure => have := HK1.out; have := HK2.out; omega
                                      case rel => exact ⟨(wrap64 (x34_2 + 1)), (by first | rfl | (simp; done) | (simp [*]; done)), H', ⟨by have := HK1.out; have := HK2.out; omega⟩, ⟨by (with_reducible repeat (first | apply Kd.R_alloc | apply Kd.R_drewN | apply Kd.R_drew)); exact HO_5.out⟩, ⟨by (with_reducible repeat (first | apply Kd.R_alloc | apply Kd.R_drewN | apply Kd.R_drew)); exact HO_6.out⟩, ⟨by (with_reducible repeat (first | apply Kd.R_alloc | apply Kd.R_drewN | apply Kd.R_drew)); exact HO_9.out⟩, ⟨by (with_reducible repeat (first | apply Kd.R_alloc | apply Kd.R_drewN | apply Kd.R_drew)); exact HO_23.out⟩, ⟨pb HB⟩⟩
                                   ·rw [if_neg c80] at H
                                    exact absurd H (by simp)
                                  ·rw [if_neg c79] at H
                                   exact absurd H (by simp)
                                 ·rw [if_neg c78] at H
                                  exact absurd H (by simp)
                                ·rw [if_neg c77] at H
                                 exact absurd H (by simp)
                               ·rw [if_neg c76] at H
                                exact absurd H (by simp)
                              ·rw [if_neg c75] at H
                               exact absurd H (by simp)
                             ·rw [if_neg c74] at H
                              exact absurd H (by simp)
                            ·rw [if_neg c72] at H
                             have c72b0 : decide (x34_2 < (t413.length : Int)) = false := decide_eq_false c72
                             clear c72
                             replace H := Option.bind_eq_some_iff.mp H
                             obtain ⟨⟨t436, t437, t438⟩, A840, H⟩ := H
                             replace H : ((spec_LongestWait.f k2 t381 t384).bind fun bt439 => (if t438 = bt439.2.2 then (if t436 = bt439.1 then (if t437 = bt439.2.1 then (if ((t438 == 0) != (decide ((t381.length : Int) > 0))) = true then (none) else (laws_FnDoor.l2 k2 t381 t391 bt439.1 bt439.2.1 0)) else (none)) else (none)) else (none))) = some r := H
                             have A84 := Aside0.mk A840
                             clear A840
                             replace H := Option.bind_eq_some_iff.mp H
                             obtain ⟨⟨t439, t440, t441⟩, A850, H⟩ := H
                             replace H : (if t438 = t441 then (if t436 = t439 then (if t437 = t440 then (if ((t438 == 0) != (decide ((t381.length : Int) > 0))) = true then (none) else (laws_FnDoor.l2 k2 t381 t391 t439 t440 0)) else (none)) else (none)) else (none)) = some r := H
                             have A85 := Aside0.mk A850
                             clear A850
                             by_cases c86 : t438 = t441
                             ·rw [if_pos c86] at H
                              have c86b0 : (t438 == t441) = true := beq_iff_eq.mpr c86
                              have c86b1 : (t438 != t441) = false := bne_eq_false_iff_eq.mpr c86
                              clear c86
                              by_cases c87 : t436 = t439
                              ·rw [if_pos c87] at H
                               have c87b0 : (t436 == t439) = true := beq_iff_eq.mpr c87
                               have c87b1 : (t436 != t439) = false := bne_eq_false_iff_eq.mpr c87
                               clear c87
                               by_cases c88 : t437 = t440
                               ·rw [if_pos c88] at H
                                have c88b0 : (t437 == t440) = true := beq_iff_eq.mpr c88
                                have c88b1 : (t437 != t440) = false := bne_eq_false_iff_eq.mpr c88
                                clear c88
                                by_cases c89 : ((t438 == 0) != (decide ((t381.length : Int) > 0))) = true
                                ·rw [if_pos c89] at H
                                 exact absurd H (by simp)
                                ·rw [if_neg c89] at H
                                 have c89b0 : ((t438 == 0) != (decide ((t381.length : Int) > 0))) = false := by simpa using c89
                                 have c89c0 : ((t438 == 0) != (decide (0 < (t381.length : Int)))) = false := c89b0
                                 have c89c1 : ((t438 == 0) != (decide (0 < t381.length))) = false := by rw [show decide (0 < t381.length) = decide ((t381.length : Int) > 0) from decide_eq_decide.2 (by omega)]; exact c89b0
                                 have c89c2 : ((t438 == 0) == (decide (0 < t381.length))) = true := by have h_ := c89c1; revert h_; cases (t438 == 0) <;> cases (decide (0 < t381.length)) <;> decide
                                 have c89c3 : ((t438 == 0) == (decide (0 < (t381.length : Int)))) = true := by have h_ := c89c0; revert h_; cases (t438 == 0) <;> cases (decide (0 < (t381.length : Int))) <;> decide
                                 (try (have c89b1 : decide ((t438 == 0) = (decide ((t381.length : Int) > 0))) = true := by simpa using c89))
                                 (try (have c89b2 : ((t438 == 0) == (decide ((t381.length : Int) > 0))) = true := by simpa using c89))
                                 clear c89
                                 have H' := Aside0.mk H
                                 clear H
                                 have hwr_ : ∀ z_ : Int, IntKind.i64.wrap z_ = wrap64 z_ := IntWalk.i64_left
                                 go_wp2_with (first | (go_at_call 33; (with_reducible refine (impl_LongestWait.calls k2 _ _ t381 _ _ t384 t436 t437 t438 _ ?side1 ?side2 ?side3 ?side4 A84.out).mono ?_); (case side1 => repeat (first | exact (Kd.R_reads' HO_5.out).2.2 | (with_reducible refine Kd.C_alloc ?_ _) | (with_reducible refine Kd.C_drewN ?_ _) | (with_reducible refine Kd.C_drew ?_))); (case side2 => exact (Kd.R_reads' HO_5.out).2.1); (case side3 => repeat (first | exact (Kd.R_reads' HO_6.out).2.2 | (with_reducible refine Kd.C_alloc ?_ _) | (with_reducible refine Kd.C_drewN ?_ _) | (with_reducible refine Kd.C_drew ?_))); (case side4 => exact (Kd.R_reads' HO_6.out).2.1); rintro e w90 ⟨rfl, hb⟩; have n0_ := krb HO_5 hb; have n1_ := krb HO_6 hb; have n2_ := krb HO_9 hb; have n3_ := krb HO_23 hb; have n4_ := bst HB hb; clear HO_5; clear HO_6; clear HO_9; clear HO_23; clear HB; have HO_5 := n0_; have HO_6 := n1_; have HO_9 := n2_; have HO_23 := n3_; have HB := n4_; clear n0_ n1_ n2_ n3_ n4_; (try clear hb); (try clear hb2); (try clear hk); (try clear hi)) | (go_at_call 34; (with_reducible refine (spec_LongestWait.calls k2 _ _ t381 _ _ t384 t439 t440 t441 _ ?side1 ?side2 ?side3 ?side4 A85.out).mono ?_); (case side1 => repeat (first | exact (Kd.R_reads' HO_5.out).2.2 | (with_reducible refine Kd.C_alloc ?_ _) | (with_reducible refine Kd.C_drewN ?_ _) | (with_reducible refine Kd.C_drew ?_))); (case side2 => exact (Kd.R_reads' HO_5.out).2.1); (case side3 => repeat (first | exact (Kd.R_reads' HO_6.out).2.2 | (with_reducible refine Kd.C_alloc ?_ _) | (with_reducible refine Kd.C_drewN ?_ _) | (with_reducible refine Kd.C_drew ?_))); (case side4 => exact (Kd.R_reads' HO_6.out).2.1); rintro e w91 ⟨rfl, hb⟩; have n0_ := krb HO_5 hb; have n1_ := krb HO_6 hb; have n2_ := krb HO_9 hb; have n3_ := krb HO_23 hb; have n4_ := bst HB hb; clear HO_5; clear HO_6; clear HO_9; clear HO_23; clear HB; have HO_5 := n0_; have HO_6 := n1_; have HO_9 := n2_; have HO_23 := n3_; have HB := n4_; clear n0_ n1_ n2_ n3_ n4_; (try clear hb); (try clear hb2); (try clear hk); (try clear hi)))
                                 repeat (go_quiet (first | (go_at_call 33; (with_reducible refine (impl_LongestWait.calls k2 _ _ t381 _ _ t384 t436 t437 t438 _ ?side1 ?side2 ?side3 ?side4 A84.out).mono ?_); (case side1 => repeat (first | exact (Kd.R_reads' HO_5.out).2.2 | (with_reducible refine Kd.C_alloc ?_ _) | (with_reducible refine Kd.C_drewN ?_ _) | (with_reducible refine Kd.C_drew ?_))); (case side2 => exact (Kd.R_reads' HO_5.out).2.1); (case side3 => repeat (first | exact (Kd.R_reads' HO_6.out).2.2 | (with_reducible refine Kd.C_alloc ?_ _) | (with_reducible refine Kd.C_drewN ?_ _) | (with_reducible refine Kd.C_drew ?_))); (case side4 => exact (Kd.R_reads' HO_6.out).2.1); rintro e w90 ⟨rfl, hb⟩; have n0_ := krb HO_5 hb; have n1_ := krb HO_6 hb; have n2_ := krb HO_9 hb; have n3_ := krb HO_23 hb; have n4_ := bst HB hb; clear HO_5; clear HO_6; clear HO_9; clear HO_23; clear HB; have HO_5 := n0_; have HO_6 := n1_; have HO_9 := n2_; have HO_23 := n3_; have HB := n4_; clear n0_ n1_ n2_ n3_ n4_; (try clear hb); (try clear hb2); (try clear hk); (try clear hi)) | (go_at_call 34; (with_reducible refine (spec_LongestWait.calls k2 _ _ t381 _ _ t384 t439 t440 t441 _ ?side1 ?side2 ?side3 ?side4 A85.out).mono ?_); (case side1 => repeat (first | exact (Kd.R_reads' HO_5.out).2.2 | (with_reducible refine Kd.C_alloc ?_ _) | (with_reducible refine Kd.C_drewN ?_ _) | (with_reducible refine Kd.C_drew ?_))); (case side2 => exact (Kd.R_reads' HO_5.out).2.1); (case side3 => repeat (first | exact (Kd.R_reads' HO_6.out).2.2 | (with_reducible refine Kd.C_alloc ?_ _) | (with_reducible refine Kd.C_drewN ?_ _) | (with_reducible refine Kd.C_drew ?_))); (case side4 => exact (Kd.R_reads' HO_6.out).2.1); rintro e w91 ⟨rfl, hb⟩; have n0_ := krb HO_5 hb; have n1_ := krb HO_6 hb; have n2_ := krb HO_9 hb; have n3_ := krb HO_23 hb; have n4_ := bst HB hb; clear HO_5; clear HO_6; clear HO_9; clear HO_23; clear HB; have HO_5 := n0_; have HO_6 := n1_; have HO_9 := n2_; have HO_23 := n3_; have HB := n4_; clear n0_ n1_ n2_ n3_ n4_; (try clear hb); (try clear hb2); (try clear hk); (try clear hi))); try go_wp2_with (first | (go_at_call 33; (with_reducible refine (impl_LongestWait.calls k2 _ _ t381 _ _ t384 t436 t437 t438 _ ?side1 ?side2 ?side3 ?side4 A84.out).mono ?_); (case side1 => repeat (first | exact (Kd.R_reads' HO_5.out).2.2 | (with_reducible refine Kd.C_alloc ?_ _) | (with_reducible refine Kd.C_drewN ?_ _) | (with_reducible refine Kd.C_drew ?_))); (case side2 => exact (Kd.R_reads' HO_5.out).2.1); (case side3 => repeat (first | exact (Kd.R_reads' HO_6.out).2.2 | (with_reducible refine Kd.C_alloc ?_ _) | (with_reducible refine Kd.C_drewN ?_ _) | (with_reducible refine Kd.C_drew ?_))); (case side4 => exact (Kd.R_reads' HO_6.out).2.1); rintro e w90 ⟨rfl, hb⟩; have n0_ := krb HO_5 hb; have n1_ := krb HO_6 hb; have n2_ := krb HO_9 hb; have n3_ := krb HO_23 hb; have n4_ := bst HB hb; clear HO_5; clear HO_6; clear HO_9; clear HO_23; clear HB; have HO_5 := n0_; have HO_6 := n1_; have HO_9 := n2_; have HO_23 := n3_; have HB := n4_; clear n0_ n1_ n2_ n3_ n4_; (try clear hb); (try clear hb2); (try clear hk); (try clear hi)) | (go_at_call 34; (with_reducible refine (spec_LongestWait.calls k2 _ _ t381 _ _ t384 t439 t440 t441 _ ?side1 ?side2 ?side3 ?side4 A85.out).mono ?_); (case side1 => repeat (first | exact (Kd.R_reads' HO_5.out).2.2 | (with_reducible refine Kd.C_alloc ?_ _) | (with_reducible refine Kd.C_drewN ?_ _) | (with_reducible refine Kd.C_drew ?_))); (case side2 => exact (Kd.R_reads' HO_5.out).2.1); (case side3 => repeat (first | exact (Kd.R_reads' HO_6.out).2.2 | (with_reducible refine Kd.C_alloc ?_ _) | (with_reducible refine Kd.C_drewN ?_ _) | (with_reducible refine Kd.C_drew ?_))); (case side4 => exact (Kd.R_reads' HO_6.out).2.1); rintro e w91 ⟨rfl, hb⟩; have n0_ := krb HO_5 hb; have n1_ := krb HO_6 hb; have n2_ := krb HO_9 hb; have n3_ := krb HO_23 hb; have n4_ := bst HB hb; clear HO_5; clear HO_6; clear HO_9; clear HO_23; clear HB; have HO_5 := n0_; have HO_6 := n1_; have HO_9 := n2_; have HO_23 := n3_; have HB := n4_; clear n0_ n1_ n2_ n3_ n4_; (try clear hb); (try clear hb2); (try clear hk); (try clear hi))))
                                 go_loopg [43] k2 (fun kq v43 w' => ∃ (x43_3 : Int), v43 = .int .i64 x43_3 ∧ Aside0 (laws_FnDoor.l2 kq t381 t391 t439 t440 x43_3 = some r) ∧ Aside0 (kq ≤ k2) ∧ Aside0 (Kd.R k55 55 w' w.heap.size (fun _ => True) (.slice Ao42 t381.length co42) t381) ∧ Aside0 (Kd.R (Kd.int .i64) 2 w' w.heap.size (fun _ => True) (.slice Ao58 t391.length co58) t391) ∧ Aside0 (Below w.heap.size w w'))
                                 case atStart => exact ⟨(0), (by first | rfl | (simp; done) | (simp [*]; done)), H', ⟨Nat.le_refl _⟩, ⟨by (with_reducible repeat (first | apply Kd.R_alloc | apply Kd.R_drewN | apply Kd.R_drew)); exact HO_5.out⟩, ⟨by (with_reducible repeat (first | apply Kd.R_alloc | apply Kd.R_drewN | apply Kd.R_drew)); exact Kd.R_mono HO_9.out (fun _ hk => trivial)⟩, ⟨pb HB⟩⟩
                                 case round =>
                                  clear H'
                                  try clear c1
                                  try clear c2
                                  try clear p2
                                  try clear c3
                                  try clear c4
                                  try clear p4
                                  try clear q4
                                  try clear hx4
                                  try clear c5
                                  try clear c6
                                  try clear p6
                                  try clear c7
                                  try clear c8
                                  try clear c17
                                  try clear c17b0
                                  try clear c17b1
                                  try clear c18
                                  try clear c18b0
                                  try clear c18b1
                                  try clear c20
                                  try clear c21
                                  try clear c21b0
                                  try clear c21b1
                                  try clear c21b2
                                  try clear c22
                                  try clear c22b0
                                  try clear c22b1
                                  try clear c23
                                  try clear c23b0
                                  try clear c23b1
                                  try clear c24
                                  try clear c24b0
                                  try clear c24b1
                                  try clear c25
                                  try clear c25b0
                                  try clear c25b1
                                  try clear c26
                                  try clear c26b0
                                  try clear c26b1
                                  try clear c28
                                  try clear c29
                                  try clear c29b0
                                  try clear c29b1
                                  try clear c30
                                  try clear c30b0
                                  try clear c31
                                  try clear c31b0
                                  try clear c31b1
                                  try clear c32
                                  try clear c32b0
                                  try clear c32b1
                                  try clear c34
                                  try clear c35
                                  try clear c35b0
                                  try clear c35b1
                                  try clear c36
                                  try clear c36b0
                                  try clear c37
                                  try clear c37b0
                                  try clear c37b1
                                  try clear c38
                                  try clear c38b0
                                  try clear c38b1
                                  try clear c40
                                  try clear p42
                                  try clear q42
                                  try clear hx42
                                  try clear p43
                                  try clear q43
                                  try clear hx43
                                  try clear c62
                                  try clear c62b0
                                  try clear c63
                                  try clear c63b0
                                  try clear c64
                                  try clear c64b0
                                  try clear p64
                                  try clear c65
                                  try clear c65b0
                                  try clear c66
                                  try clear c66b0
                                  try clear c68
                                  try clear c68b0
                                  try clear c68b1
                                  try clear c71
                                  try clear c71b0
                                  try clear c71b1
                                  try clear c72
                                  try clear c72b0
                                  try clear c74
                                  try clear c74b0
                                  try clear c75
                                  try clear c75b0
                                  try clear c76
                                  try clear c76b0
                                  try clear c77
                                  try clear c77b0
                                  try clear c78
                                  try clear c78b0
                                  try clear c79
                                  try clear c79b0
                                  try clear c80
                                  try clear c80b0
                                  try clear c81
                                  try clear c81b0
                                  try clear c82
                                  try clear c82b0
                                  try clear c82b1
                                  try clear c83
                                  try clear c83b0
                                  try clear c86
                                  try clear c86b0
                                  try clear c86b1
                                  try clear c87
                                  try clear c87b0
                                  try clear c87b1
                                  try clear c88
                                  try clear c88b0
                                  try clear c88b1
                                  try clear c89
                                  try clear c89b0
                                  try clear c89b1
                                  try clear c89b2
                                  try clear hcz70_0
                                  try clear hcz70_1
                                  try clear hfz70_0
                                  try clear hfz70_1
                                  try clear hx425_0
                                  try clear hx426_0
                                  try clear hx426_1
                                  try clear hx428_0
                                  try clear hx429_0
                                  try clear hx430_0
                                  try clear hx431_0
                                  try clear hx431_1
                                  try clear hx432_0
                                  try clear hx433_0
                                  try clear hx433_1
                                  try clear hx434_0
                                  try clear hx435_0
                                  try clear p2
                                  try clear p4
                                  try clear p42
                                  try clear p425
                                  try clear p426
                                  try clear p428
                                  try clear p429
                                  try clear p430
                                  try clear p431
                                  try clear p432
                                  try clear p433
                                  try clear p434
                                  try clear p435
                                  try clear p6
                                  try clear p64
                                  try clear q4
                                  try clear q42
                                  try clear q425
                                  try clear q426
                                  try clear q428
                                  try clear q429
                                  try clear q430
                                  try clear q431
                                  try clear q432
                                  try clear q433
                                  try clear q434
                                  try clear q435
                                  obtain ⟨x43_3, rfl, HA, HK3, HO_5, HO_9, HB⟩ := hrel
                                  cases gk with
                                  | zero => exact absurd HA.out (by simp [laws_FnDoor.l2])
                                  | succ k3 =>
                                   have H := HA.out
                                   clear HA
                                   simp only [laws_FnDoor.l2] at H
                                   by_cases c92 : x43_3 < (t381.length : Int)
                                   ·rw [if_pos c92] at H
                                    have c92b0 : decide (x43_3 < (t381.length : Int)) = true := decide_eq_true c92
                                    clear c92
                                    by_cases c93 : 0 ≤ x43_3
                                    ·rw [if_pos c93] at H
                                     have c93b0 : decide (0 ≤ x43_3) = true := decide_eq_true c93
                                     clear c93
                                     by_cases c94 : x43_3 < (t391.length : Int)
                                     ·rw [if_pos c94] at H
                                      have c94b0 : decide (x43_3 < (t391.length : Int)) = true := decide_eq_true c94
                                      clear c94
                                      by_cases c95 : (wrap64 ((rd t391 x43_3) - (wrap64 ((rd_T55 t381 x43_3).f0)))) > t440
                                      ·rw [if_pos c95] at H
                                       exact absurd H (by simp)
                                      ·rw [if_neg c95] at H
                                       have c95b0 : decide (t440 < (wrap64 ((rd t391 x43_3) - (wrap64 ((rd_T55 t381 x43_3).f0))))) = false := decide_eq_false c95
                                       clear c95
                                       by_cases c96 : (wrap64 ((rd t391 x43_3) - (wrap64 ((rd_T55 t381 x43_3).f0)))) = t440
                                       ·rw [if_pos c96] at H
                                        have c96b0 : ((wrap64 ((rd t391 x43_3) - (wrap64 ((rd_T55 t381 x43_3).f0)))) == t440) = true := beq_iff_eq.mpr c96
                                        have c96b1 : ((wrap64 ((rd t391 x43_3) - (wrap64 ((rd_T55 t381 x43_3).f0)))) != t440) = false := bne_eq_false_iff_eq.mpr c96
                                        clear c96
                                        by_cases c97 : x43_3 < t439
                                        ·rw [if_pos c97] at H
                                         exact absurd H (by simp)
                                        ·rw [if_neg c97] at H
                                         have c97b0 : decide (x43_3 < t439) = false := decide_eq_false c97
                                         clear c97
                                         by_cases c98 : x43_3 = t439
                                         ·rw [if_pos c98] at H
                                          have c98b0 : (x43_3 == t439) = true := beq_iff_eq.mpr c98
                                          have c98b1 : (x43_3 != t439) = false := bne_eq_false_iff_eq.mpr c98
                                          clear c98
                                          have H' := Aside0.mk H
                                          clear H
                                          have p442 : 0 ≤ (x43_3 : Int) := of_decide_eq_true (by first | (with_reducible assumption) | assumption)
                                          have q442 : x43_3 < (t391.length : Int) := of_decide_eq_true (by first | (with_reducible assumption) | assumption)
                                          obtain ⟨ad442, e442, hx442_0⟩ := Kd.at_int (Kd.R_reads' HO_9.out).2.2 x43_3 p442 q442
                                          cases e442
                                          replace p442 := eq_true p442
                                          replace q442 := eq_true q442
                                          have p443 : 0 ≤ (x43_3 : Int) := of_decide_eq_true (by first | (with_reducible assumption) | assumption)
                                          have q443 : x43_3 < (t381.length : Int) := of_decide_eq_true (by first | (with_reducible assumption) | assumption)
                                          obtain ⟨ad443, e443, hx443_0, hx443_1⟩ := at_T55 (Kd.R_reads' HO_5.out).2.2 x43_3 p443 q443
                                          cases e443
                                          replace p443 := eq_true p443
                                          replace q443 := eq_true q443
                                          go_wp2
                                          repeat (go_quiet (fail); try go_wp2)
                                          go_roundg k3
                                          case measure => have := HK1.out; have := HK2.out; have := HK3.out; omega
                                          case rel => exact ⟨(wrap64 (x43_3 + 1)), (by first | rfl | (simp; done) | (simp [*]; done)), H', ⟨by have := HK1.out; have := HK2.out; have := HK3.out; omega⟩, ⟨by (with_reducible repeat (first | apply Kd.R_alloc | apply Kd.R_drewN | apply Kd.R_drew)); exact HO_5.out⟩, ⟨by (with_reducible repeat (first | apply Kd.R_alloc | apply Kd.R_drewN | apply Kd.R_drew)); exact HO_9.out⟩, ⟨pb HB⟩⟩
                                         ·rw [if_neg c98] at H
                                          have c98b0 : (x43_3 == t439) = false := beq_eq_false_iff_ne.mpr c98
                                          have c98b1 : (x43_3 != t439) = true := bne_iff_ne.mpr c98
                                          have H' := Aside0.mk H
                                          clear H
                                          have p442 : 0 ≤ (x43_3 : Int) := of_decide_eq_true (by first | (with_reducible assumption) | assumption)
                                          have q442 : x43_3 < (t391.length : Int) := of_decide_eq_true (by first | (with_reducible assumption) | assumption)
                                          obtain ⟨ad442, e442, hx442_0⟩ := Kd.at_int (Kd.R_reads' HO_9.out).2.2 x43_3 p442 q442
                                          cases e442
                                          replace p442 := eq_true p442
                                          replace q442 := eq_true q442
                                          have p443 : 0 ≤ (x43_3 : Int) := of_decide_eq_true (by first | (with_reducible assumption) | assumption)
                                          have q443 : x43_3 < (t381.length : Int) := of_decide_eq_true (by first | (with_reducible assumption) | assumption)
                                          obtain ⟨ad443, e443, hx443_0, hx443_1⟩ := at_T55 (Kd.R_reads' HO_5.out).2.2 x43_3 p443 q443
                                          cases e443
                                          replace p443 := eq_true p443
                                          replace q443 := eq_true q443
                                          go_wp2
                                          repeat (go_quiet (fail); try go_wp2)
                                          go_roundg k3
                                          case measure => have := HK1.out; have := HK2.out; have := HK3.out; omega
                                          case rel => exact ⟨(wrap64 (x43_3 + 1)), (by first | rfl | (simp; done) | (simp [*]; done)), H', ⟨by have := HK1.out; have := HK2.out; have := HK3.out; omega⟩, ⟨by (with_reducible repeat (first | apply Kd.R_alloc | apply Kd.R_drewN | apply Kd.R_drew)); exact HO_5.out⟩, ⟨by (with_reducible repeat (first | apply Kd.R_alloc | apply Kd.R_drewN | apply Kd.R_drew)); exact HO_9.out⟩, ⟨pb HB⟩⟩
                                       ·rw [if_neg c96] at H
                                        have c96b0 : ((wrap64 ((rd t391 x43_3) - (wrap64 ((rd_T55 t381 x43_3).f0)))) == t440) = false := beq_eq_false_iff_ne.mpr c96
                                        have c96b1 : ((wrap64 ((rd t391 x43_3) - (wrap64 ((rd_T55 t381 x43_3).f0)))) != t440) = true := bne_iff_ne.mpr c96
                                        by_cases c99 : x43_3 = t439
                                        ·rw [if_pos c99] at H
                                         exact absurd H (by simp)
                                        ·rw [if_neg c99] at H
                                         have c99b0 : (x43_3 == t439) = false := beq_eq_false_iff_ne.mpr c99
                                         have c99b1 : (x43_3 != t439) = true := bne_iff_ne.mpr c99
                                         have H' := Aside0.mk H
                                         clear H
                                         have p442 : 0 ≤ (x43_3 : Int) := of_decide_eq_true (by first | (with_reducible assumption) | assumption)
                                         have q442 : x43_3 < (t391.length : Int) := of_decide_eq_true (by first | (with_reducible assumption) | assumption)
                                         obtain ⟨ad442, e442, hx442_0⟩ := Kd.at_int (Kd.R_reads' HO_9.out).2.2 x43_3 p442 q442
                                         cases e442
                                         replace p442 := eq_true p442
                                         replace q442 := eq_true q442
                                         have p443 : 0 ≤ (x43_3 : Int) := of_decide_eq_true (by first | (with_reducible assumption) | assumption)
                                         have q443 : x43_3 < (t381.length : Int) := of_decide_eq_true (by first | (with_reducible assumption) | assumption)
                                         obtain ⟨ad443, e443, hx443_0, hx443_1⟩ := at_T55 (Kd.R_reads' HO_5.out).2.2 x43_3 p443 q443
                                         cases e443
                                         replace p443 := eq_true p443
                                         replace q443 := eq_true q443
                                         go_wp2
                                         repeat (go_quiet (fail); try go_wp2)
                                         go_roundg k3
                                         case measure => have := HK1.out; have := HK2.out; have := HK3.out; omega
                                         case rel => exact ⟨(wrap64 (x43_3 + 1)), (by first | rfl | (simp; done) | (simp [*]; done)), H', ⟨by have := HK1.out; have := HK2.out; have := HK3.out; omega⟩, ⟨by (with_reducible repeat (first | apply Kd.R_alloc | apply Kd.R_drewN | apply Kd.R_drew)); exact HO_5.out⟩, ⟨by (with_reducible repeat (first | apply Kd.R_alloc | apply Kd.R_drewN | apply Kd.R_drew)); exact HO_9.out⟩, ⟨pb HB⟩⟩
                                     ·rw [if_neg c94] at H
                                      exact absurd H (by simp)
                                    ·rw [if_neg c93] at H
                                     exact absurd H (by simp)
                                   ·rw [if_neg c92] at H
                                    have c92b0 : decide (x43_3 < (t381.length : Int)) = false := decide_eq_false c92
                                    clear c92
                                    obtain rfl := Option.some.inj H
                                    go_wp2
                                    repeat (go_quiet (fail); try go_wp2)
                                    go_ret
                                    exact ⟨by first | rfl | (simp [errW_none, errW_some] <;> rfl) | (simp [*, errW_none, errW_some] <;> rfl), pb HB⟩
                               ·rw [if_neg c88] at H
                                exact absurd H (by simp)
                              ·rw [if_neg c87] at H
                               exact absurd H (by simp)
                             ·rw [if_neg c86] at H
                              exact absurd H (by simp)
                         ·rw [if_neg c71] at H
                          exact absurd H (by simp)
                     ·replace c40 := Bool.eq_false_iff.mpr c40
                      subst c40
                      have H1 : (none) = some r := by rw [if_neg (show ¬ (false = true) by decide)] at H; exact H
                      clear H
                      have H := H1
                      clear H1
                      exact absurd H (by simp)
                    ·rw [if_neg c38] at H
                     exact absurd H (by simp)
                   ·rw [if_neg c37] at H
                    exact absurd H (by simp)
                 ·rw [if_neg c35] at H
                  exact absurd H (by simp)
                ·replace c34 := Bool.eq_false_iff.mpr c34
                 subst c34
                 have H1 : (none) = some r := by rw [if_neg (show ¬ (false = true) by decide)] at H; exact H
                 clear H
                 have H := H1
                 clear H1
                 exact absurd H (by simp)
               ·rw [if_neg c32] at H
                exact absurd H (by simp)
              ·rw [if_neg c31] at H
               exact absurd H (by simp)
            ·rw [if_neg c29] at H
             exact absurd H (by simp)
           ·replace c28 := Bool.eq_false_iff.mpr c28
            subst c28
            have H1 : (none) = some r := by rw [if_neg (show ¬ (false = true) by decide)] at H; exact H
            clear H
            have H := H1
            clear H1
            exact absurd H (by simp)
          ·rw [if_neg c26] at H
           exact absurd H (by simp)
         ·rw [if_neg c25] at H
          exact absurd H (by simp)
        ·rw [if_neg c24] at H
         exact absurd H (by simp)
       ·rw [if_neg c23] at H
        exact absurd H (by simp)
      ·rw [if_neg c22] at H
       exact absurd H (by simp)
     ·rw [if_neg c21] at H
      exact absurd H (by simp)
    ·replace c20 := Bool.eq_false_iff.mpr c20
     subst c20
     have H1 : (none) = some r := by rw [if_neg (show ¬ (false = true) by decide)] at H; exact H
     clear H
     have H := H1
     clear H1
     exact absurd H (by simp)
   ·rw [if_neg c18] at H
    exact absurd H (by simp)
  ·rw [if_neg c17] at H
   exact absurd H (by simp)
end Go.Proofs.Ytjieacofpegmpaa.PD
end
