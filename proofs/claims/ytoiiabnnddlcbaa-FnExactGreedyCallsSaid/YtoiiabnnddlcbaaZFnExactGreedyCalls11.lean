/- The statement FnExactGreedyCalls of this program: what its proof uses, part 12 of 13. The call returns true for all arguments. No condition of its own. -/
import Derived.Test.YtoiiabnnddlcbaaZFnExactGreedyCalls10
section
namespace Go.Proofs.Ytoiiabnnddlcbaa.PB
open Go.RowKit Go.Proofs.YtoiiabnnddlcbaaW.PrintWords Go.Proofs.YtoiiabnnddlcbaaW.PrintLast Go.Proofs.YtoiiabnnddlcbaaW.PrintMore Go.Proofs.Ytoiiabnnddlcbaa.La Go.Proofs.Ytoiiabnnddlcbaa.Mp
attribute [local go_sem] max2_int min2_int max_two min_two max_three min_three max_four min_four   -- for this text's walks alone
set_option linter.unusedVariables false
set_option linter.unusedSimpArgs false
mutual
def laws_FnExactGreedyCalls.j0 : Nat → List (S28) → Int → List (S34) → Int → List (S34) → List (S34) → Int → Bool → Int → Int → LA 10 → Option (Bool)
 | 0, _, _, _, _, _, _, _, _, _, _, _ => none
 | k + 1, x1, x2, x8, x9, x10, x11, x12, x50, x557000, x557001, x557002 => if x50 = true then (some false) else ((laws_toSpotS.f k x1).bind fun t579 => ((laws_eqSpotS.f k x10 t579).bind fun t582 => (if t582 = true then ((laws_markSpotS.f k x10 1).bind fun bt583 => (if bt583.1 < 0 then (laws_FnExactGreedyCalls.j1 k x1 x2 x8 x9 x11 true x557000 x557001 x557002) else ((laws_eqSpotS.f k x11 x8).bind fun t585 => (if t585 = true then (laws_FnExactGreedyCalls.j1 k x1 x2 x8 x9 x11 (x12 != x9) x557000 x557001 x557002) else (laws_FnExactGreedyCalls.j1 k x1 x2 x8 x9 x11 true x557000 x557001 x557002))))) else (some false))))
def laws_FnExactGreedyCalls.j1 : Nat → List (S28) → Int → List (S34) → Int → List (S34) → Bool → Int → Int → LA 10 → Option (Bool)
 | 0, _, _, _, _, _, _, _, _, _ => none
 | k + 1, x1, x2, x8, x9, x11, x71, x557000, x557001, x557002 => if x71 = true then (some false) else ((laws_markSpotS.f k x11 1).bind fun bt586 => ((laws_heldSpotS.f k bt586.2 1).bind fun t588 => (if t588 < 0 then (some false) else (if t588 = bt586.1 then ((laws_toRoom.f k x557000 x557001 x557002).bind fun bt589 => ((laws_toSpotS.f k x1).bind fun t592 => ((impl_GreedyCalls.f k bt589.1 bt589.2.1 bt589.2.2 t592 x2).bind fun bt595 => ((laws_eqSpotS.f k bt595.1 x8).bind fun t599 => (if t599 = true then (laws_FnExactGreedyCalls.j2 k bt586.2 bt586.1 (bt595.2 != x9)) else (laws_FnExactGreedyCalls.j2 k bt586.2 bt586.1 true)))))) else (some false)))))
def laws_FnExactGreedyCalls.j2 : Nat → List (S34) → Int → Bool → Option (Bool)
 | 0, _, _, _ => none
 | k + 1, x11, x14, x100 => if x100 = true then (some false) else ((laws_heldSpotS.f k x11 1).bind fun t600 => (if t600 < 0 then (some false) else (if t600 = x14 then (some true) else (some false))))
end
def laws_FnExactGreedyCalls.f (k : Nat) (a0_0 : Int) (a0_1 : Int) (a0_2 : LA 10) (l1 : List (S28)) (a2 : Int) : Option (Bool) := (laws_szSpotS.f l1 1048576).bind fun t557 => (if t557 < 0 then (some true) else ((laws_toRoom.f k a0_0 a0_1 a0_2).bind fun bt558 => ((laws_toSpotS.f k l1).bind fun t561 => ((spec_GreedyCalls.f k bt558.1 bt558.2.1 bt558.2.2 t561 a2).bind fun bt564 => ((laws_toSpotS.f k l1).bind fun t568 => ((laws_toRoom.f k a0_0 a0_1 a0_2).bind fun bt571 => ((impl_GreedyCalls.f k bt571.1 bt571.2.1 bt571.2.2 t568 a2).bind fun bt574 => ((laws_eqSpotS.f k bt574.1 bt564.1).bind fun t578 => (if t578 = true then (laws_FnExactGreedyCalls.j0 k l1 a2 bt564.1 bt564.2 t568 bt574.1 bt574.2 (bt574.2 != bt564.2) a0_0 a0_1 a0_2) else (laws_FnExactGreedyCalls.j0 k l1 a2 bt564.1 bt564.2 t568 bt574.1 bt574.2 true a0_0 a0_1 a0_2))))))))))
theorem laws_FnExactGreedyCalls.mono_l : ∀ k, (∀ y0 y1 y2 y3 y4 y5 y6 y7 y8 y9 y10, LeO (laws_FnExactGreedyCalls.j0 k y0 y1 y2 y3 y4 y5 y6 y7 y8 y9 y10) (laws_FnExactGreedyCalls.j0 (k + 1) y0 y1 y2 y3 y4 y5 y6 y7 y8 y9 y10)) ∧ (∀ y0 y1 y2 y3 y4 y5 y6 y7 y8, LeO (laws_FnExactGreedyCalls.j1 k y0 y1 y2 y3 y4 y5 y6 y7 y8) (laws_FnExactGreedyCalls.j1 (k + 1) y0 y1 y2 y3 y4 y5 y6 y7 y8)) ∧ (∀ y0 y1 y2, LeO (laws_FnExactGreedyCalls.j2 k y0 y1 y2) (laws_FnExactGreedyCalls.j2 (k + 1) y0 y1 y2))
 | 0 => ⟨fun _ _ _ _ _ _ _ _ _ _ _ r h => by simp [laws_FnExactGreedyCalls.j0] at h, fun _ _ _ _ _ _ _ _ _ r h => by simp [laws_FnExactGreedyCalls.j1] at h, fun _ _ _ r h => by simp [laws_FnExactGreedyCalls.j2] at h⟩
 | k + 1 => by
  obtain ⟨ih0, ih1, ih2⟩ := laws_FnExactGreedyCalls.mono_l k
  refine ⟨?_, ?_, ?_⟩
  ·intro y0 y1 y2 y3 y4 y5 y6 y7 y8 y9 y10
   unfold laws_FnExactGreedyCalls.j0
   repeat' first
   | (with_reducible exact ih0 _ _ _ _ _ _ _ _ _ _ _)
   | (with_reducible exact ih1 _ _ _ _ _ _ _ _ _)
   | (with_reducible exact ih2 _ _ _)
   | (with_reducible exact impl_GreedyCalls.mono _ _ _ _ _ _)
   | (with_reducible exact laws_eqSpotS.mono _ _ _)
   | (with_reducible exact laws_heldSpotS.mono _ _ _)
   | (with_reducible exact laws_markSpotS.mono _ _ _)
   | (with_reducible exact laws_toRoom.mono _ _ _ _)
   | (with_reducible exact laws_toSpotS.mono _ _)
   | (with_reducible exact spec_GreedyCalls.mono _ _ _ _ _ _)
   | (with_reducible exact LeO.refl _)
   | (with_reducible exact LeO.none _)
   | (with_reducible refine LeO.ite ?_ ?_)
   | (with_reducible refine LeO.bind ?_ (fun _ => ?_))
   | exact ih0 _ _ _ _ _ _ _ _ _ _ _
   | exact ih1 _ _ _ _ _ _ _ _ _
   | exact ih2 _ _ _
   | exact impl_GreedyCalls.mono _ _ _ _ _ _
   | exact laws_eqSpotS.mono _ _ _
   | exact laws_heldSpotS.mono _ _ _
   | exact laws_markSpotS.mono _ _ _
   | exact laws_toRoom.mono _ _ _ _
   | exact laws_toSpotS.mono _ _
   | exact spec_GreedyCalls.mono _ _ _ _ _ _
   | exact LeO.none _
   | refine LeO.ite ?_ ?_
   | refine LeO.bind ?_ (fun _ => ?_)
  ·intro y0 y1 y2 y3 y4 y5 y6 y7 y8
   unfold laws_FnExactGreedyCalls.j1
   repeat' first
   | (with_reducible exact ih0 _ _ _ _ _ _ _ _ _ _ _)
   | (with_reducible exact ih1 _ _ _ _ _ _ _ _ _)
   | (with_reducible exact ih2 _ _ _)
   | (with_reducible exact impl_GreedyCalls.mono _ _ _ _ _ _)
   | (with_reducible exact laws_eqSpotS.mono _ _ _)
   | (with_reducible exact laws_heldSpotS.mono _ _ _)
   | (with_reducible exact laws_markSpotS.mono _ _ _)
   | (with_reducible exact laws_toRoom.mono _ _ _ _)
   | (with_reducible exact laws_toSpotS.mono _ _)
   | (with_reducible exact spec_GreedyCalls.mono _ _ _ _ _ _)
   | (with_reducible exact LeO.refl _)
   | (with_reducible exact LeO.none _)
   | (with_reducible refine LeO.ite ?_ ?_)
   | (with_reducible refine LeO.bind ?_ (fun _ => ?_))
   | exact ih0 _ _ _ _ _ _ _ _ _ _ _
   | exact ih1 _ _ _ _ _ _ _ _ _
   | exact ih2 _ _ _
   | exact impl_GreedyCalls.mono _ _ _ _ _ _
   | exact laws_eqSpotS.mono _ _ _
   | exact laws_heldSpotS.mono _ _ _
   | exact laws_markSpotS.mono _ _ _
   | exact laws_toRoom.mono _ _ _ _
   | exact laws_toSpotS.mono _ _
   | exact spec_GreedyCalls.mono _ _ _ _ _ _
   | exact LeO.none _
   | refine LeO.ite ?_ ?_
   | refine LeO.bind ?_ (fun _ => ?_)
  ·intro y0 y1 y2
   unfold laws_FnExactGreedyCalls.j2
   repeat' first
   | (with_reducible exact ih0 _ _ _ _ _ _ _ _ _ _ _)
   | (with_reducible exact ih1 _ _ _ _ _ _ _ _ _)
   | (with_reducible exact ih2 _ _ _)
   | (with_reducible exact impl_GreedyCalls.mono _ _ _ _ _ _)
   | (with_reducible exact laws_eqSpotS.mono _ _ _)
   | (with_reducible exact laws_heldSpotS.mono _ _ _)
   | (with_reducible exact laws_markSpotS.mono _ _ _)
   | (with_reducible exact laws_toRoom.mono _ _ _ _)
   | (with_reducible exact laws_toSpotS.mono _ _)
   | (with_reducible exact spec_GreedyCalls.mono _ _ _ _ _ _)
   | (with_reducible exact LeO.refl _)
   | (with_reducible exact LeO.none _)
   | (with_reducible refine LeO.ite ?_ ?_)
   | (with_reducible refine LeO.bind ?_ (fun _ => ?_))
   | exact ih0 _ _ _ _ _ _ _ _ _ _ _
   | exact ih1 _ _ _ _ _ _ _ _ _
   | exact ih2 _ _ _
   | exact impl_GreedyCalls.mono _ _ _ _ _ _
   | exact laws_eqSpotS.mono _ _ _
   | exact laws_heldSpotS.mono _ _ _
   | exact laws_markSpotS.mono _ _ _
   | exact laws_toRoom.mono _ _ _ _
   | exact laws_toSpotS.mono _ _
   | exact spec_GreedyCalls.mono _ _ _ _ _ _
   | exact LeO.none _
   | refine LeO.ite ?_ ?_
   | refine LeO.bind ?_ (fun _ => ?_)
theorem laws_FnExactGreedyCalls.mono : ∀ a0 a1 a2 a3 a4 k, LeO (laws_FnExactGreedyCalls.f k a0 a1 a2 a3 a4) (laws_FnExactGreedyCalls.f (k + 1) a0 a1 a2 a3 a4) := by
 intro a0 a1 a2 a3 a4 k
 obtain ⟨ih0, ih1, ih2⟩ := laws_FnExactGreedyCalls.mono_l k
 unfold laws_FnExactGreedyCalls.f
 repeat' first
   | (with_reducible exact ih0 _ _ _ _ _ _ _ _ _ _ _)
   | (with_reducible exact ih1 _ _ _ _ _ _ _ _ _)
   | (with_reducible exact ih2 _ _ _)
   | (with_reducible exact impl_GreedyCalls.mono _ _ _ _ _ _)
   | (with_reducible exact laws_eqSpotS.mono _ _ _)
   | (with_reducible exact laws_heldSpotS.mono _ _ _)
   | (with_reducible exact laws_markSpotS.mono _ _ _)
   | (with_reducible exact laws_toRoom.mono _ _ _ _)
   | (with_reducible exact laws_toSpotS.mono _ _)
   | (with_reducible exact spec_GreedyCalls.mono _ _ _ _ _ _)
   | (with_reducible exact LeO.refl _)
   | (with_reducible exact LeO.none _)
   | (with_reducible refine LeO.ite ?_ ?_)
   | (with_reducible refine LeO.bind ?_ (fun _ => ?_))
   | exact ih0 _ _ _ _ _ _ _ _ _ _ _
   | exact ih1 _ _ _ _ _ _ _ _ _
   | exact ih2 _ _ _
   | exact impl_GreedyCalls.mono _ _ _ _ _ _
   | exact laws_eqSpotS.mono _ _ _
   | exact laws_heldSpotS.mono _ _ _
   | exact laws_markSpotS.mono _ _ _
   | exact laws_toRoom.mono _ _ _ _
   | exact laws_toSpotS.mono _ _
   | exact spec_GreedyCalls.mono _ _ _ _ _ _
   | exact LeO.none _
   | refine LeO.ite ?_ ?_
   | refine LeO.bind ?_ (fun _ => ?_)
set_option maxHeartbeats 8000000 in
set_option maxRecDepth 100000 in
theorem laws_FnExactGreedyCalls.calls (k : Nat) (a0_0 : Int) (a0_1 : Int) (a0_2 : LA 10) (A1 : Option Addr) (c1 : Nat) (l1 : List (S28)) (a2 : Int) (r : Bool) (w : World) (hr1 : Kd.C k28 w A1 l1.length l1) (hc1 : l1.length ≤ c1) (h : laws_FnExactGreedyCalls.f k a0_0 a0_1 a0_2 l1 a2 = some r) :
  Calls Try.prog 6 #[.agg (mixA (Value.int .u16) [.int .i8 a0_0, .int .i8 a0_1] a0_2), .slice A1 l1.length c1, .int .i64 a2] w fun e w' => e = .returned (.bool r) ∧ Below w.heap.size w w' := by
 have hu26 := Try.underlying26
 have HR1 := Aside0.mk hr1
 have HC1 := Aside0.mk hc1
 clear hr1 hc1
 have HB := Aside0.mk (Below.refl w.heap.size w)
 have H : ((laws_szSpotS.f l1 1048576).bind fun t557 => (if t557 < 0 then (some true) else ((laws_toRoom.f k a0_0 a0_1 a0_2).bind fun bt558 => ((laws_toSpotS.f k l1).bind fun t561 => ((spec_GreedyCalls.f k bt558.1 bt558.2.1 bt558.2.2 t561 a2).bind fun bt564 => ((laws_toSpotS.f k l1).bind fun t568 => ((laws_toRoom.f k a0_0 a0_1 a0_2).bind fun bt571 => ((impl_GreedyCalls.f k bt571.1 bt571.2.1 bt571.2.2 t568 a2).bind fun bt574 => ((laws_eqSpotS.f k bt574.1 bt564.1).bind fun t578 => (if t578 = true then (laws_FnExactGreedyCalls.j0 k l1 a2 bt564.1 bt564.2 t568 bt574.1 bt574.2 (bt574.2 != bt564.2) a0_0 a0_1 a0_2) else (laws_FnExactGreedyCalls.j0 k l1 a2 bt564.1 bt564.2 t568 bt574.1 bt574.2 true a0_0 a0_1 a0_2))))))))))) = some r := h
 clear h
 replace H := Option.bind_eq_some_iff.mp H
 obtain ⟨t557, A40, H⟩ := H
 replace H : (if t557 < 0 then (some true) else ((laws_toRoom.f k a0_0 a0_1 a0_2).bind fun bt558 => ((laws_toSpotS.f k l1).bind fun t561 => ((spec_GreedyCalls.f k bt558.1 bt558.2.1 bt558.2.2 t561 a2).bind fun bt564 => ((laws_toSpotS.f k l1).bind fun t568 => ((laws_toRoom.f k a0_0 a0_1 a0_2).bind fun bt571 => ((impl_GreedyCalls.f k bt571.1 bt571.2.1 bt571.2.2 t568 a2).bind fun bt574 => ((laws_eqSpotS.f k bt574.1 bt564.1).bind fun t578 => (if t578 = true then (laws_FnExactGreedyCalls.j0 k l1 a2 bt564.1 bt564.2 t568 bt574.1 bt574.2 (bt574.2 != bt564.2) a0_0 a0_1 a0_2) else (laws_FnExactGreedyCalls.j0 k l1 a2 bt564.1 bt564.2 t568 bt574.1 bt574.2 true a0_0 a0_1 a0_2)))))))))) = some r := H
 have A4 := Aside0.mk A40
 clear A40
 by_cases c5 : t557 < 0
 ·rw [if_pos c5] at H
  have c5b0 : decide (t557 < 0) = true := decide_eq_true c5
  clear c5
  obtain rfl := Option.some.inj H
  go_enter Try.func6, Try.ntmps6
  go_wp2_with (first | ((with_reducible refine gate_dst (N := 3) rfl ?_); refine box_event ?hg (N := 3) ?hd (cs := (mixA (Value.int .u16) [.int .i8 a0_0, .int .i8 a0_1] a0_2)) (t := 26) ?hr ?_; (case hd => rfl); (case hg => rfl); (case hr => first | (go_simp; done) | (go_simp; rfl)); intro gb556 hg w6 hbox hb; have n0_ := bst HB hb; have n1_ := Aside0.mk (hbox); have n2_ := gwl HB hg; have n3_ := gwl HB hg; clear HB; have HB := n0_; have BK556 := n1_; have GW556 := n2_; have GE556 := n3_; clear n0_ n1_ n2_ n3_; clear hb hbox hg) | ((with_reducible refine gate_callee (f := 20) rfl ?_); refine goesL_ (some 20) rfl rfl Try.func20 (by kernel_rfl) rfl #[.slice A1 l1.length c1, .int .i64 1048576] rfl (by (try simp only [List.map_toArray, List.map_cons, List.map_nil]); first | done | rfl | (simp only [List.length_drop, List.length_take]; rfl)) ?_; (with_reducible refine (laws_szSpotS.calls _ _ l1 1048576 t557 _ ?side1 ?side2 A4.out).mono ?_); (case side1 => repeat (first | exact (Kd.C_below HR1.out HB.out) | (with_reducible refine Kd.C_alloc ?_ _) | (with_reducible refine Kd.C_drewN ?_ _) | (with_reducible refine Kd.C_drew ?_))); (case side2 => exact HC1.out); rintro e w' ⟨rfl, ⟨nd, rfl⟩⟩; refine ⟨_, rfl, ?_⟩))
  go_ret
  exact ⟨by first | rfl | (simp [errW_none, errW_some] <;> rfl) | (simp [*, errW_none, errW_some] <;> rfl), pbs HB⟩
 ·rw [if_neg c5] at H
  have c5b0 : decide (t557 < 0) = false := decide_eq_false c5
  clear c5
  replace H := Option.bind_eq_some_iff.mp H
  obtain ⟨⟨t558, t559, t560⟩, A70, H⟩ := H
  replace H : ((laws_toSpotS.f k l1).bind fun t561 => ((spec_GreedyCalls.f k t558 t559 t560 t561 a2).bind fun bt564 => ((laws_toSpotS.f k l1).bind fun t568 => ((laws_toRoom.f k a0_0 a0_1 a0_2).bind fun bt571 => ((impl_GreedyCalls.f k bt571.1 bt571.2.1 bt571.2.2 t568 a2).bind fun bt574 => ((laws_eqSpotS.f k bt574.1 bt564.1).bind fun t578 => (if t578 = true then (laws_FnExactGreedyCalls.j0 k l1 a2 bt564.1 bt564.2 t568 bt574.1 bt574.2 (bt574.2 != bt564.2) a0_0 a0_1 a0_2) else (laws_FnExactGreedyCalls.j0 k l1 a2 bt564.1 bt564.2 t568 bt574.1 bt574.2 true a0_0 a0_1 a0_2)))))))) = some r := H
  have A7 := Aside0.mk A70
  clear A70
  replace H := Option.bind_eq_some_iff.mp H
  obtain ⟨t561, A80, H⟩ := H
  replace H : ((spec_GreedyCalls.f k t558 t559 t560 t561 a2).bind fun bt564 => ((laws_toSpotS.f k l1).bind fun t568 => ((laws_toRoom.f k a0_0 a0_1 a0_2).bind fun bt571 => ((impl_GreedyCalls.f k bt571.1 bt571.2.1 bt571.2.2 t568 a2).bind fun bt574 => ((laws_eqSpotS.f k bt574.1 bt564.1).bind fun t578 => (if t578 = true then (laws_FnExactGreedyCalls.j0 k l1 a2 bt564.1 bt564.2 t568 bt574.1 bt574.2 (bt574.2 != bt564.2) a0_0 a0_1 a0_2) else (laws_FnExactGreedyCalls.j0 k l1 a2 bt564.1 bt564.2 t568 bt574.1 bt574.2 true a0_0 a0_1 a0_2))))))) = some r := H
  have A8 := Aside0.mk A80
  clear A80
  replace H := Option.bind_eq_some_iff.mp H
  obtain ⟨⟨t564, t567⟩, A90, H⟩ := H
  replace H : ((laws_toSpotS.f k l1).bind fun t568 => ((laws_toRoom.f k a0_0 a0_1 a0_2).bind fun bt571 => ((impl_GreedyCalls.f k bt571.1 bt571.2.1 bt571.2.2 t568 a2).bind fun bt574 => ((laws_eqSpotS.f k bt574.1 t564).bind fun t578 => (if t578 = true then (laws_FnExactGreedyCalls.j0 k l1 a2 t564 t567 t568 bt574.1 bt574.2 (bt574.2 != t567) a0_0 a0_1 a0_2) else (laws_FnExactGreedyCalls.j0 k l1 a2 t564 t567 t568 bt574.1 bt574.2 true a0_0 a0_1 a0_2)))))) = some r := H
  have A9 := Aside0.mk A90
  clear A90
  replace H := Option.bind_eq_some_iff.mp H
  obtain ⟨t568, A100, H⟩ := H
  replace H : ((laws_toRoom.f k a0_0 a0_1 a0_2).bind fun bt571 => ((impl_GreedyCalls.f k bt571.1 bt571.2.1 bt571.2.2 t568 a2).bind fun bt574 => ((laws_eqSpotS.f k bt574.1 t564).bind fun t578 => (if t578 = true then (laws_FnExactGreedyCalls.j0 k l1 a2 t564 t567 t568 bt574.1 bt574.2 (bt574.2 != t567) a0_0 a0_1 a0_2) else (laws_FnExactGreedyCalls.j0 k l1 a2 t564 t567 t568 bt574.1 bt574.2 true a0_0 a0_1 a0_2))))) = some r := H
  have A10 := Aside0.mk A100
  clear A100
  replace H := Option.bind_eq_some_iff.mp H
  obtain ⟨⟨t571, t572, t573⟩, A110, H⟩ := H
  replace H : ((impl_GreedyCalls.f k t571 t572 t573 t568 a2).bind fun bt574 => ((laws_eqSpotS.f k bt574.1 t564).bind fun t578 => (if t578 = true then (laws_FnExactGreedyCalls.j0 k l1 a2 t564 t567 t568 bt574.1 bt574.2 (bt574.2 != t567) a0_0 a0_1 a0_2) else (laws_FnExactGreedyCalls.j0 k l1 a2 t564 t567 t568 bt574.1 bt574.2 true a0_0 a0_1 a0_2)))) = some r := H
  have A11 := Aside0.mk A110
  clear A110
  replace H := Option.bind_eq_some_iff.mp H
  obtain ⟨⟨t574, t577⟩, A120, H⟩ := H
  replace H : ((laws_eqSpotS.f k t574 t564).bind fun t578 => (if t578 = true then (laws_FnExactGreedyCalls.j0 k l1 a2 t564 t567 t568 t574 t577 (t577 != t567) a0_0 a0_1 a0_2) else (laws_FnExactGreedyCalls.j0 k l1 a2 t564 t567 t568 t574 t577 true a0_0 a0_1 a0_2))) = some r := H
  have A12 := Aside0.mk A120
  clear A120
  have HC13 := Aside0.mk H
  clear H
  go_enter Try.func6, Try.ntmps6
  go_upto_region 8 with (first | ((with_reducible refine gate_dst (N := 3) rfl ?_); refine box_event ?hg (N := 3) ?hd (cs := (mixA (Value.int .u16) [.int .i8 a0_0, .int .i8 a0_1] a0_2)) (t := 26) ?hr ?_; (case hd => rfl); (case hg => rfl); (case hr => first | (go_simp; done) | (go_simp; rfl)); intro gb556 hg w14 hbox hb; have n0_ := bst HB hb; have n1_ := Aside0.mk (hbox); have n2_ := gwl HB hg; have n3_ := gwl HB hg; clear HB; have HB := n0_; have BK556 := n1_; have GW556 := n2_; have GE556 := n3_; clear n0_ n1_ n2_ n3_; clear hb hbox hg) | ((with_reducible refine gate_callee (f := 20) rfl ?_); refine goesL_ (some 20) rfl rfl Try.func20 (by kernel_rfl) rfl #[.slice A1 l1.length c1, .int .i64 1048576] rfl (by (try simp only [List.map_toArray, List.map_cons, List.map_nil]); first | done | rfl | (simp only [List.length_drop, List.length_take]; rfl)) ?_; (with_reducible refine (laws_szSpotS.calls _ _ l1 1048576 t557 _ ?side1 ?side2 A4.out).mono ?_); (case side1 => repeat (first | exact (Kd.C_below HR1.out HB.out) | (with_reducible refine Kd.C_alloc ?_ _) | (with_reducible refine Kd.C_drewN ?_ _) | (with_reducible refine Kd.C_drew ?_))); (case side2 => exact HC1.out); rintro e w' ⟨rfl, ⟨nd, rfl⟩⟩; refine ⟨_, rfl, ?_⟩) | ((with_reducible refine gate_dst (N := 24) rfl ?_); refine wpList_run0 (v := .agg (mixA (Value.int .u16) [.int .i8 a0_0, .int .i8 a0_1] a0_2)) rfl (load_mix_run (P := Try.prog) 26 (.tmp 3) rfl gb556 rfl (show World.rangeAt _ gb556 0 ([.int .i8 a0_0, .int .i8 a0_1] ++ a0_2.l.map (Value.int .u16)) from mix_range (show (World.heap _)[gb556]? = some (.cells (mixA (Value.int .u16) [.int .i8 a0_0, .int .i8 a0_1] a0_2) 26 (0, 0)) from by (with_reducible repeat (first | refine blk_drewN ?_ _ | refine blk_drew ?_ | refine blk_alloc ?_ _)); exact BK556.out)) Try.underlying26 rfl (by kernel_rfl) rfl) ?_) | ((with_reducible refine gate_callee (f := 14) rfl ?_); refine goesL_ (some 25) rfl rfl Try.func14 (by kernel_rfl) rfl #[.agg (mixA (Value.int .u16) [.int .i8 a0_0, .int .i8 a0_1] a0_2)] rfl (by (try simp only [List.map_toArray, List.map_cons, List.map_nil]); first | done | rfl | (simp only [List.length_drop, List.length_take]; rfl)) ?_; (with_reducible refine (laws_toRoom.calls k a0_0 a0_1 a0_2 t558 t559 t560 _ A7.out).mono ?_); rintro e w16 ⟨rfl, hb⟩; refine ⟨_, rfl, ?_⟩; have n0_ := bkb BK556 hb; have n1_ := bst HB hb; clear BK556; clear HB; have BK556 := n0_; have HB := n1_; clear n0_ n1_; (try clear hb); (try clear hb2); (try clear hk); (try clear hi)) | ((with_reducible refine gate_callee (f := 22) rfl ?_); refine goesL_ (some 27) rfl rfl Try.func22 (by kernel_rfl) rfl #[.slice A1 l1.length c1] rfl (by (try simp only [List.map_toArray, List.map_cons, List.map_nil]); first | done | rfl | (simp only [List.length_drop, List.length_take]; rfl)) ?_; (with_reducible refine (laws_toSpotS.calls k _ _ l1 t561 _ ?side1 ?side2 A8.out).mono ?_); (case side1 => repeat (first | exact (Kd.C_below HR1.out HB.out) | (with_reducible refine Kd.C_alloc ?_ _) | (with_reducible refine Kd.C_drewN ?_ _) | (with_reducible refine Kd.C_drew ?_))); (case side2 => exact HC1.out); rintro e w17 ⟨v562, rfl, ho0, hb⟩; refine ⟨_, rfl, ?_⟩; have n0_ := Aside0.mk (Kd.R_lower ho0 (below_size (by repeat (first | (with_reducible first | exact HB.out | apply below_alloc | apply pw_below_drewN | apply below_drew1 | refine below_set ?_ GE556.out) | exact HB.out)))); have n1_ := bkb BK556 hb; have n2_ := bst HB hb; clear BK556; clear HB; have HO563 := n0_; have BK556 := n1_; have HB := n2_; clear n0_ n1_ n2_; (try clear hb); (try clear hb2); (try clear hk); (try clear hi); (try clear ho0); obtain ⟨Ao18, co18, eo18⟩ := Kd.R_slice HO563.out; subst eo18) | ((with_reducible refine gate_callee (f := 29) rfl ?_); refine goesL_ (some 29) rfl rfl Try.func29 (by kernel_rfl) rfl #[.agg (mixA (Value.int .u16) [.int .i8 t558, .int .i8 t559] t560), .slice Ao18 t561.length co18, .int .i64 a2] rfl (by (try simp only [List.map_toArray, List.map_cons, List.map_nil]); first | done | rfl | (simp only [List.length_drop, List.length_take]; rfl)) ?_; (with_reducible refine (spec_GreedyCalls.calls k t558 t559 t560 _ _ t561 a2 t564 t567 _ ?side1 ?side2 A9.out).mono ?_); (case side1 => repeat (first | exact (Kd.R_reads' HO563.out).2.2 | (with_reducible refine Kd.C_alloc ?_ _) | (with_reducible refine Kd.C_drewN ?_ _) | (with_reducible refine Kd.C_drew ?_))); (case side2 => exact (Kd.R_reads' HO563.out).2.1); rintro e w19 ⟨v565, rfl, ho0, hb⟩; refine ⟨_, rfl, ?_⟩; have n0_ := Aside0.mk (Kd.R_elder' (by (with_reducible repeat (first | apply Kd.R_alloc | apply Kd.R_drewN | apply Kd.R_drew)); exact HO563.out) (Kd.R_base ho0) hb); have n1_ := Aside0.mk (Kd.R_lower (Kd.R_new' ho0 (Kd.R_lt (by (with_reducible repeat (first | apply Kd.R_alloc | apply Kd.R_drewN | apply Kd.R_drew)); exact HO563.out))) (below_size (by repeat (first | (with_reducible first | exact HB.out | apply below_alloc | apply pw_below_drewN | apply below_drew1 | refine below_set ?_ GE556.out) | exact HB.out)))); have n2_ := bkb BK556 hb; have n3_ := bst HB hb; clear HO563; clear BK556; clear HB; have HO563 := n0_; have HO566 := n1_; have BK556 := n2_; have HB := n3_; clear n0_ n1_ n2_ n3_; (try clear hb); (try clear hb2); (try clear hk); (try clear hi); (try clear ho0)) | ((with_reducible refine gate_callee (f := 22) rfl ?_); refine goesL_ (some 33) rfl rfl Try.func22 (by kernel_rfl) rfl #[.slice A1 l1.length c1] rfl (by (try simp only [List.map_toArray, List.map_cons, List.map_nil]); first | done | rfl | (simp only [List.length_drop, List.length_take]; rfl)) ?_; (with_reducible refine (laws_toSpotS.calls k _ _ l1 t568 _ ?side1 ?side2 A10.out).mono ?_); (case side1 => repeat (first | exact (Kd.C_below HR1.out HB.out) | (with_reducible refine Kd.C_alloc ?_ _) | (with_reducible refine Kd.C_drewN ?_ _) | (with_reducible refine Kd.C_drew ?_))); (case side2 => exact HC1.out); rintro e w20 ⟨v569, rfl, ho0, hb⟩; refine ⟨_, rfl, ?_⟩; have n0_ := Aside0.mk (Kd.R_elder' (by (with_reducible repeat (first | apply Kd.R_alloc | apply Kd.R_drewN | apply Kd.R_drew)); exact HO563.out) (Kd.R_base ho0) hb); have n1_ := Aside0.mk (Kd.R_elder' (by (with_reducible repeat (first | apply Kd.R_alloc | apply Kd.R_drewN | apply Kd.R_drew)); exact HO566.out) (Kd.R_base ho0) hb); have n2_ := Aside0.mk (Kd.R_lower (Kd.R_new' (Kd.R_new' ho0 (Kd.R_lt (by (with_reducible repeat (first | apply Kd.R_alloc | apply Kd.R_drewN | apply Kd.R_drew)); exact HO563.out))) (Kd.R_lt (by (with_reducible repeat (first | apply Kd.R_alloc | apply Kd.R_drewN | apply Kd.R_drew)); exact HO566.out))) (below_size (by repeat (first | (with_reducible first | exact HB.out | apply below_alloc | apply pw_below_drewN | apply below_drew1 | refine below_set ?_ GE556.out) | exact HB.out)))); have n3_ := bkb BK556 hb; have n4_ := bst HB hb; clear HO563; clear HO566; clear BK556; clear HB; have HO563 := n0_; have HO566 := n1_; have HO570 := n2_; have BK556 := n3_; have HB := n4_; clear n0_ n1_ n2_ n3_ n4_; (try clear hb); (try clear hb2); (try clear hk); (try clear hi); (try clear ho0)) | ((with_reducible refine gate_dst (N := 35) rfl ?_); refine wpList_run0 (v := .agg (mixA (Value.int .u16) [.int .i8 a0_0, .int .i8 a0_1] a0_2)) rfl (load_mix_run (P := Try.prog) 26 (.tmp 3) rfl gb556 rfl (show World.rangeAt _ gb556 0 ([.int .i8 a0_0, .int .i8 a0_1] ++ a0_2.l.map (Value.int .u16)) from mix_range (show (World.heap _)[gb556]? = some (.cells (mixA (Value.int .u16) [.int .i8 a0_0, .int .i8 a0_1] a0_2) 26 (0, 0)) from by (with_reducible repeat (first | refine blk_drewN ?_ _ | refine blk_drew ?_ | refine blk_alloc ?_ _)); exact BK556.out)) Try.underlying26 rfl (by kernel_rfl) rfl) ?_) | ((with_reducible refine gate_callee (f := 14) rfl ?_); refine goesL_ (some 36) rfl rfl Try.func14 (by kernel_rfl) rfl #[.agg (mixA (Value.int .u16) [.int .i8 a0_0, .int .i8 a0_1] a0_2)] rfl (by (try simp only [List.map_toArray, List.map_cons, List.map_nil]); first | done | rfl | (simp only [List.length_drop, List.length_take]; rfl)) ?_; (with_reducible refine (laws_toRoom.calls k a0_0 a0_1 a0_2 t571 t572 t573 _ A11.out).mono ?_); rintro e w22 ⟨rfl, hb⟩; refine ⟨_, rfl, ?_⟩; have n0_ := krb HO563 hb; have n1_ := krb HO566 hb; have n2_ := krb HO570 hb; have n3_ := bkb BK556 hb; have n4_ := bst HB hb; clear HO563; clear HO566; clear HO570; clear BK556; clear HB; have HO563 := n0_; have HO566 := n1_; have HO570 := n2_; have BK556 := n3_; have HB := n4_; clear n0_ n1_ n2_ n3_ n4_; (try clear hb); (try clear hb2); (try clear hk); (try clear hi); obtain ⟨Ao23, co23, eo23⟩ := Kd.R_slice HO570.out; subst eo23) | ((with_reducible refine gate_callee (f := 30) rfl ?_); refine goesL_ (some 39) rfl rfl Try.func30 (by kernel_rfl) rfl #[.agg (mixA (Value.int .u16) [.int .i8 t571, .int .i8 t572] t573), .slice Ao23 t568.length co23, .int .i64 a2] rfl (by (try simp only [List.map_toArray, List.map_cons, List.map_nil]); first | done | rfl | (simp only [List.length_drop, List.length_take]; rfl)) ?_; (with_reducible refine (impl_GreedyCalls.calls k t571 t572 t573 _ _ t568 a2 t574 t577 _ ?side1 ?side2 A12.out).mono ?_); (case side1 => repeat (first | exact (Kd.R_reads' HO570.out).2.2 | (with_reducible refine Kd.C_alloc ?_ _) | (with_reducible refine Kd.C_drewN ?_ _) | (with_reducible refine Kd.C_drew ?_))); (case side2 => exact (Kd.R_reads' HO570.out).2.1); rintro e w24 ⟨v575, rfl, ho0, hb⟩; refine ⟨_, rfl, ?_⟩; have n0_ := Aside0.mk (Kd.R_elder' (by (with_reducible repeat (first | apply Kd.R_alloc | apply Kd.R_drewN | apply Kd.R_drew)); exact HO563.out) (Kd.R_base ho0) hb); have n1_ := Aside0.mk (Kd.R_elder' (by (with_reducible repeat (first | apply Kd.R_alloc | apply Kd.R_drewN | apply Kd.R_drew)); exact HO566.out) (Kd.R_base ho0) hb); have n2_ := Aside0.mk (Kd.R_elder' (by (with_reducible repeat (first | apply Kd.R_alloc | apply Kd.R_drewN | apply Kd.R_drew)); exact HO570.out) (Kd.R_base ho0) hb); have n3_ := Aside0.mk (Kd.R_lower (Kd.R_new' (Kd.R_new' (Kd.R_new' ho0 (Kd.R_lt (by (with_reducible repeat (first | apply Kd.R_alloc | apply Kd.R_drewN | apply Kd.R_drew)); exact HO563.out))) (Kd.R_lt (by (with_reducible repeat (first | apply Kd.R_alloc | apply Kd.R_drewN | apply Kd.R_drew)); exact HO566.out))) (Kd.R_lt (by (with_reducible repeat (first | apply Kd.R_alloc | apply Kd.R_drewN | apply Kd.R_drew)); exact HO570.out))) (below_size (by repeat (first | (with_reducible first | exact HB.out | apply below_alloc | apply pw_below_drewN | apply below_drew1 | refine below_set ?_ GE556.out) | exact HB.out)))); have n4_ := bkb BK556 hb; have n5_ := bst HB hb; clear HO563; clear HO566; clear HO570; clear BK556; clear HB; have HO563 := n0_; have HO566 := n1_; have HO570 := n2_; have HO576 := n3_; have BK556 := n4_; have HB := n5_; clear n0_ n1_ n2_ n3_ n4_ n5_; (try clear hb); (try clear hb2); (try clear hk); (try clear hi); (try clear ho0)))
  (try simp only [Act.put, List.setIfInBounds_toArray, List.set_cons_zero, List.set_cons_succ])
  go_cut [50] (fun v50 wc => ∃ (kq : Nat) (x50_12 : Bool), v50 = .bool x50_12 ∧ Aside0 (laws_FnExactGreedyCalls.j0 kq l1 a2 t564 t567 t568 t574 t577 x50_12 a0_0 a0_1 a0_2 = some r) ∧ Aside0 (kq ≤ k) ∧ Aside0 (Kd.R k34 34 wc w.heap.size (fun k_ => some k_ ≠ ((.slice Ao23 t568.length co23) : Value).ownBlock ∧ some k_ ≠ (v575 : Value).ownBlock) v565 t564) ∧ Aside0 (Kd.R k34 34 wc w.heap.size (fun k_ => some k_ ≠ (v565 : Value).ownBlock ∧ some k_ ≠ (v575 : Value).ownBlock) (.slice Ao23 t568.length co23) t568) ∧ Aside0 (Kd.R k34 34 wc w.heap.size (fun k_ => some k_ ≠ (v565 : Value).ownBlock ∧ some k_ ≠ ((.slice Ao23 t568.length co23) : Value).ownBlock) v575 t574) ∧ Aside0 (wc.heap[gb556]? = some (.cells (mixA (Value.int .u16) [.int .i8 a0_0, .int .i8 a0_1] a0_2) 26 (0, 0))) ∧ Aside0 (Below w.heap.size w wc))
  case first =>
   have H := HC13.out
   clear HC13
   replace H := Option.bind_eq_some_iff.mp H
   obtain ⟨t578, A250, H⟩ := H
   replace H : (if t578 = true then (laws_FnExactGreedyCalls.j0 k l1 a2 t564 t567 t568 t574 t577 (t577 != t567) a0_0 a0_1 a0_2) else (laws_FnExactGreedyCalls.j0 k l1 a2 t564 t567 t568 t574 t577 true a0_0 a0_1 a0_2)) = some r := H
   have A25 := Aside0.mk A250
   clear A250
   by_cases c26 : t578 = true
   ·subst c26
    have H1 : (laws_FnExactGreedyCalls.j0 k l1 a2 t564 t567 t568 t574 t577 (t577 != t567) a0_0 a0_1 a0_2) = some r := by rw [if_pos rfl] at H; exact H
    clear H
    have H := H1
    clear H1
    have H' := Aside0.mk H
    clear H
    obtain ⟨Ao27, co27, eo27⟩ := Kd.R_slice HO576.out
    subst eo27
    obtain ⟨Ao28, co28, eo28⟩ := Kd.R_slice HO566.out
    subst eo28
    go_wp2_with (first | ((with_reducible refine gate_callee (f := 17) rfl ?_); refine goesL_ (some 44) rfl rfl Try.func17 (by kernel_rfl) rfl #[.slice Ao27 t574.length co27, .slice Ao28 t564.length co28] rfl (by (try simp only [List.map_toArray, List.map_cons, List.map_nil]); first | done | rfl | (simp only [List.length_drop, List.length_take]; rfl)) ?_; (with_reducible refine (laws_eqSpotS.calls k _ _ t574 _ _ t564 true _ ?side1 ?side2 ?side3 ?side4 A25.out).mono ?_); (case side1 => repeat (first | exact (Kd.R_reads' HO576.out).2.2 | (with_reducible refine Kd.C_alloc ?_ _) | (with_reducible refine Kd.C_drewN ?_ _) | (with_reducible refine Kd.C_drew ?_))); (case side2 => exact (Kd.R_reads' HO576.out).2.1); (case side3 => repeat (first | exact (Kd.R_reads' HO566.out).2.2 | (with_reducible refine Kd.C_alloc ?_ _) | (with_reducible refine Kd.C_drewN ?_ _) | (with_reducible refine Kd.C_drew ?_))); (case side4 => exact (Kd.R_reads' HO566.out).2.1); rintro e w29 ⟨rfl, hb⟩; refine ⟨_, rfl, ?_⟩; have n0_ := krb HO563 hb; have n1_ := krb HO566 hb; have n2_ := krb HO570 hb; have n3_ := krb HO576 hb; have n4_ := bkb BK556 hb; have n5_ := bst HB hb; clear HO563; clear HO566; clear HO570; clear HO576; clear BK556; clear HB; have HO563 := n0_; have HO566 := n1_; have HO570 := n2_; have HO576 := n3_; have BK556 := n4_; have HB := n5_; clear n0_ n1_ n2_ n3_ n4_ n5_; (try clear hb); (try clear hb2); (try clear hk); (try clear hi)))
    go_meet
    case rel => exact ⟨_, ((t577 != t567)), (by first | rfl | (simp; done) | (simp [*]; done)), H', ⟨by first | omega | exact Nat.le_refl _⟩, ⟨by (with_reducible repeat (first | apply Kd.R_alloc | apply Kd.R_drewN | apply Kd.R_drew)); exact Kd.R_mono HO566.out (fun _ hk => ⟨hk.1.2, hk.2⟩)⟩, ⟨by (with_reducible repeat (first | apply Kd.R_alloc | apply Kd.R_drewN | apply Kd.R_drew)); exact Kd.R_mono HO570.out (fun _ hk => ⟨hk.1.2, hk.2⟩)⟩, ⟨by (with_reducible repeat (first | apply Kd.R_alloc | apply Kd.R_drewN | apply Kd.R_drew)); exact Kd.R_mono HO576.out (fun _ hk => ⟨hk.1.2, hk.2⟩)⟩, ⟨pk BK556⟩, ⟨pbs HB⟩⟩
   ·replace c26 := Bool.eq_false_iff.mpr c26
    subst c26
    have H1 : (laws_FnExactGreedyCalls.j0 k l1 a2 t564 t567 t568 t574 t577 true a0_0 a0_1 a0_2) = some r := by rw [if_neg (show ¬ (false = true) by decide)] at H; exact H
    clear H
    have H := H1
    clear H1
    have H' := Aside0.mk H
    clear H
    obtain ⟨Ao30, co30, eo30⟩ := Kd.R_slice HO576.out
    subst eo30
    obtain ⟨Ao31, co31, eo31⟩ := Kd.R_slice HO566.out
    subst eo31
    go_wp2_with (first | ((with_reducible refine gate_callee (f := 17) rfl ?_); refine goesL_ (some 44) rfl rfl Try.func17 (by kernel_rfl) rfl #[.slice Ao30 t574.length co30, .slice Ao31 t564.length co31] rfl (by (try simp only [List.map_toArray, List.map_cons, List.map_nil]); first | done | rfl | (simp only [List.length_drop, List.length_take]; rfl)) ?_; (with_reducible refine (laws_eqSpotS.calls k _ _ t574 _ _ t564 false _ ?side1 ?side2 ?side3 ?side4 A25.out).mono ?_); (case side1 => repeat (first | exact (Kd.R_reads' HO576.out).2.2 | (with_reducible refine Kd.C_alloc ?_ _) | (with_reducible refine Kd.C_drewN ?_ _) | (with_reducible refine Kd.C_drew ?_))); (case side2 => exact (Kd.R_reads' HO576.out).2.1); (case side3 => repeat (first | exact (Kd.R_reads' HO566.out).2.2 | (with_reducible refine Kd.C_alloc ?_ _) | (with_reducible refine Kd.C_drewN ?_ _) | (with_reducible refine Kd.C_drew ?_))); (case side4 => exact (Kd.R_reads' HO566.out).2.1); rintro e w32 ⟨rfl, hb⟩; refine ⟨_, rfl, ?_⟩; have n0_ := krb HO563 hb; have n1_ := krb HO566 hb; have n2_ := krb HO570 hb; have n3_ := krb HO576 hb; have n4_ := bkb BK556 hb; have n5_ := bst HB hb; clear HO563; clear HO566; clear HO570; clear HO576; clear BK556; clear HB; have HO563 := n0_; have HO566 := n1_; have HO570 := n2_; have HO576 := n3_; have BK556 := n4_; have HB := n5_; clear n0_ n1_ n2_ n3_ n4_ n5_; (try clear hb); (try clear hb2); (try clear hk); (try clear hi)))
    go_meet
    case rel => exact ⟨_, (true), (by first | rfl | (simp; done) | (simp [*]; done)), H', ⟨by first | omega | exact Nat.le_refl _⟩, ⟨by (with_reducible repeat (first | apply Kd.R_alloc | apply Kd.R_drewN | apply Kd.R_drew)); exact Kd.R_mono HO566.out (fun _ hk => ⟨hk.1.2, hk.2⟩)⟩, ⟨by (with_reducible repeat (first | apply Kd.R_alloc | apply Kd.R_drewN | apply Kd.R_drew)); exact Kd.R_mono HO570.out (fun _ hk => ⟨hk.1.2, hk.2⟩)⟩, ⟨by (with_reducible repeat (first | apply Kd.R_alloc | apply Kd.R_drewN | apply Kd.R_drew)); exact Kd.R_mono HO576.out (fun _ hk => ⟨hk.1.2, hk.2⟩)⟩, ⟨pk BK556⟩, ⟨pbs HB⟩⟩
  case rest =>
   clear HC13
   try clear c1
   try clear c2
   try clear p2
   try clear c3
   try clear c5
   try clear c5b0
   try clear c6
   try clear c14
   try clear c17
   try clear c20
   try clear c22
   try clear c26
   try clear c29
   try clear c30
   obtain ⟨kq, x50_12, rfl, HA, HJ12, HO_8, HO_10, HO_11, BK556, HB⟩ := hcut
   cases kq with
   | zero => exact absurd HA.out (by simp [laws_FnExactGreedyCalls.j0])
   | succ kj12 =>
    have H := HA.out
    clear HA
    simp only [laws_FnExactGreedyCalls.j0] at H
    by_cases c33 : x50_12 = true
    ·subst c33
     have H1 : (some false) = some r := by rw [if_pos rfl] at H; exact H
     clear H
     have H := H1
     clear H1
     obtain rfl := Option.some.inj H
     go_wp2
     go_ret
     exact ⟨by first | rfl | (simp [errW_none, errW_some] <;> rfl) | (simp [*, errW_none, errW_some] <;> rfl), pbs HB⟩
    ·replace c33 := Bool.eq_false_iff.mpr c33
     subst c33
     have H1 : ((laws_toSpotS.f kj12 l1).bind fun t579 => ((laws_eqSpotS.f kj12 t568 t579).bind fun t582 => (if t582 = true then ((laws_markSpotS.f kj12 t568 1).bind fun bt583 => (if bt583.1 < 0 then (laws_FnExactGreedyCalls.j1 kj12 l1 a2 t564 t567 t574 true a0_0 a0_1 a0_2) else ((laws_eqSpotS.f kj12 t574 t564).bind fun t585 => (if t585 = true then (laws_FnExactGreedyCalls.j1 kj12 l1 a2 t564 t567 t574 (t577 != t567) a0_0 a0_1 a0_2) else (laws_FnExactGreedyCalls.j1 kj12 l1 a2 t564 t567 t574 true a0_0 a0_1 a0_2))))) else (some false)))) = some r := by rw [if_neg (show ¬ (false = true) by decide)] at H; exact H
     clear H
     have H := H1
     clear H1
     replace H := Option.bind_eq_some_iff.mp H
     obtain ⟨t579, A340, H⟩ := H
     replace H : ((laws_eqSpotS.f kj12 t568 t579).bind fun t582 => (if t582 = true then ((laws_markSpotS.f kj12 t568 1).bind fun bt583 => (if bt583.1 < 0 then (laws_FnExactGreedyCalls.j1 kj12 l1 a2 t564 t567 t574 true a0_0 a0_1 a0_2) else ((laws_eqSpotS.f kj12 t574 t564).bind fun t585 => (if t585 = true then (laws_FnExactGreedyCalls.j1 kj12 l1 a2 t564 t567 t574 (t577 != t567) a0_0 a0_1 a0_2) else (laws_FnExactGreedyCalls.j1 kj12 l1 a2 t564 t567 t574 true a0_0 a0_1 a0_2))))) else (some false))) = some r := H
     have A34 := Aside0.mk A340
     clear A340
     replace H := Option.bind_eq_some_iff.mp H
     obtain ⟨t582, A350, H⟩ := H
     replace H : (if t582 = true then ((laws_markSpotS.f kj12 t568 1).bind fun bt583 => (if bt583.1 < 0 then (laws_FnExactGreedyCalls.j1 kj12 l1 a2 t564 t567 t574 true a0_0 a0_1 a0_2) else ((laws_eqSpotS.f kj12 t574 t564).bind fun t585 => (if t585 = true then (laws_FnExactGreedyCalls.j1 kj12 l1 a2 t564 t567 t574 (t577 != t567) a0_0 a0_1 a0_2) else (laws_FnExactGreedyCalls.j1 kj12 l1 a2 t564 t567 t574 true a0_0 a0_1 a0_2))))) else (some false)) = some r := H
     have A35 := Aside0.mk A350
     clear A350
     by_cases c36 : t582 = true
     ·subst c36
      have H1 : ((laws_markSpotS.f kj12 t568 1).bind fun bt583 => (if bt583.1 < 0 then (laws_FnExactGreedyCalls.j1 kj12 l1 a2 t564 t567 t574 true a0_0 a0_1 a0_2) else ((laws_eqSpotS.f kj12 t574 t564).bind fun t585 => (if t585 = true then (laws_FnExactGreedyCalls.j1 kj12 l1 a2 t564 t567 t574 (t577 != t567) a0_0 a0_1 a0_2) else (laws_FnExactGreedyCalls.j1 kj12 l1 a2 t564 t567 t574 true a0_0 a0_1 a0_2))))) = some r := by rw [if_pos rfl] at H; exact H
      clear H
      have H := H1
      clear H1
      replace H := Option.bind_eq_some_iff.mp H
      obtain ⟨⟨t583, t584⟩, A370, H⟩ := H
      replace H : (if t583 < 0 then (laws_FnExactGreedyCalls.j1 kj12 l1 a2 t564 t567 t574 true a0_0 a0_1 a0_2) else ((laws_eqSpotS.f kj12 t574 t564).bind fun t585 => (if t585 = true then (laws_FnExactGreedyCalls.j1 kj12 l1 a2 t564 t567 t574 (t577 != t567) a0_0 a0_1 a0_2) else (laws_FnExactGreedyCalls.j1 kj12 l1 a2 t564 t567 t574 true a0_0 a0_1 a0_2)))) = some r := H
      have A37 := Aside0.mk A370
      clear A370
      have HC38 := Aside0.mk H
      clear H
      go_upto_region 14 with (first | ((with_reducible refine gate_callee (f := 22) rfl ?_); refine goesL_ (some 53) rfl rfl Try.func22 (by kernel_rfl) rfl #[.slice A1 l1.length c1] rfl (by (try simp only [List.map_toArray, List.map_cons, List.map_nil]); first | done | rfl | (simp only [List.length_drop, List.length_take]; rfl)) ?_; (with_reducible refine (laws_toSpotS.calls kj12 _ _ l1 t579 _ ?side1 ?side2 A34.out).mono ?_); (case side1 => repeat (first | exact (Kd.C_below HR1.out HB.out) | (with_reducible refine Kd.C_alloc ?_ _) | (with_reducible refine Kd.C_drewN ?_ _) | (with_reducible refine Kd.C_drew ?_))); (case side2 => exact HC1.out); rintro e w39 ⟨v580, rfl, ho0, hb⟩; refine ⟨_, rfl, ?_⟩; have n0_ := Aside0.mk (Kd.R_elder' (by (with_reducible repeat (first | apply Kd.R_alloc | apply Kd.R_drewN | apply Kd.R_drew)); exact HO_8.out) (Kd.R_base ho0) hb); have n1_ := Aside0.mk (Kd.R_elder' (by (with_reducible repeat (first | apply Kd.R_alloc | apply Kd.R_drewN | apply Kd.R_drew)); exact HO_10.out) (Kd.R_base ho0) hb); have n2_ := Aside0.mk (Kd.R_elder' (by (with_reducible repeat (first | apply Kd.R_alloc | apply Kd.R_drewN | apply Kd.R_drew)); exact HO_11.out) (Kd.R_base ho0) hb); have n3_ := Aside0.mk (Kd.R_lower (Kd.R_new' (Kd.R_new' (Kd.R_new' ho0 (Kd.R_lt (by (with_reducible repeat (first | apply Kd.R_alloc | apply Kd.R_drewN | apply Kd.R_drew)); exact HO_8.out))) (Kd.R_lt (by (with_reducible repeat (first | apply Kd.R_alloc | apply Kd.R_drewN | apply Kd.R_drew)); exact HO_10.out))) (Kd.R_lt (by (with_reducible repeat (first | apply Kd.R_alloc | apply Kd.R_drewN | apply Kd.R_drew)); exact HO_11.out))) (below_size (by repeat (first | (with_reducible first | exact HB.out | apply below_alloc | apply pw_below_drewN | apply below_drew1 | refine below_set ?_ GE556.out) | exact HB.out)))); have n4_ := bkb BK556 hb; have n5_ := bst HB hb; clear HO_8; clear HO_10; clear HO_11; clear BK556; clear HB; have HO_8 := n0_; have HO_10 := n1_; have HO_11 := n2_; have HO581 := n3_; have BK556 := n4_; have HB := n5_; clear n0_ n1_ n2_ n3_ n4_ n5_; (try clear hb); (try clear hb2); (try clear hk); (try clear hi); (try clear ho0); obtain ⟨Ao40, co40, eo40⟩ := Kd.R_slice HO581.out; subst eo40) | ((with_reducible refine gate_callee (f := 17) rfl ?_); refine goesL_ (some 54) rfl rfl Try.func17 (by kernel_rfl) rfl #[.slice Ao23 t568.length co23, .slice Ao40 t579.length co40] rfl (by (try simp only [List.map_toArray, List.map_cons, List.map_nil]); first | done | rfl | (simp only [List.length_drop, List.length_take]; rfl)) ?_; (with_reducible refine (laws_eqSpotS.calls kj12 _ _ t568 _ _ t579 true _ ?side1 ?side2 ?side3 ?side4 A35.out).mono ?_); (case side1 => repeat (first | exact (Kd.R_reads' HO_10.out).2.2 | (with_reducible refine Kd.C_alloc ?_ _) | (with_reducible refine Kd.C_drewN ?_ _) | (with_reducible refine Kd.C_drew ?_))); (case side2 => exact (Kd.R_reads' HO_10.out).2.1); (case side3 => repeat (first | exact (Kd.R_reads' HO581.out).2.2 | (with_reducible refine Kd.C_alloc ?_ _) | (with_reducible refine Kd.C_drewN ?_ _) | (with_reducible refine Kd.C_drew ?_))); (case side4 => exact (Kd.R_reads' HO581.out).2.1); rintro e w41 ⟨rfl, hb⟩; refine ⟨_, rfl, ?_⟩; have n0_ := krb HO_8 hb; have n1_ := krb HO_10 hb; have n2_ := krb HO_11 hb; have n3_ := krb HO581 hb; have n4_ := bkb BK556 hb; have n5_ := bst HB hb; clear HO_8; clear HO_10; clear HO_11; clear HO581; clear BK556; clear HB; have HO_8 := n0_; have HO_10 := n1_; have HO_11 := n2_; have HO581 := n3_; have BK556 := n4_; have HB := n5_; clear n0_ n1_ n2_ n3_ n4_ n5_; (try clear hb); (try clear hb2); (try clear hk); (try clear hi)) | ((with_reducible refine gate_callee (f := 18) rfl ?_); refine goesL_ (some 58) rfl rfl Try.func18 (by kernel_rfl) rfl #[.slice Ao23 t568.length co23, .int .i64 1] rfl (by (try simp only [List.map_toArray, List.map_cons, List.map_nil]); first | done | rfl | (simp only [List.length_drop, List.length_take]; rfl)) ?_; (with_reducible refine (laws_markSpotS.calls kj12 (fun k_ => some k_ = (.slice Ao23 t568.length co23 : Value).ownBlock) (.slice Ao23 t568.length co23) t568 1 t583 t584 w _ ?side1 ?side2 A37.out).mono ?_); (case side1 => repeat (first | (with_reducible first | exact HB.out | apply below_alloc | apply pw_below_drewN | apply below_drew1 | refine below_set ?_ GE556.out) | exact HB.out)); (case side2 => exact Kd.R_tight rfl HO_10.out); rintro e w42 ⟨rfl, hy0, hb, hkp⟩; refine ⟨_, rfl, ?_⟩; have n0_ := Aside0.mk (Kd.R_mono (ok' := fun k_ => some k_ ≠ (.slice Ao23 t568.length co23 : Value).ownBlock ∧ some k_ ≠ (v575 : Value).ownBlock ∧ some k_ ≠ (.slice Ao40 t579.length co40 : Value).ownBlock) (Kd.R_keptB (HO_8.out) hkp (fun k_ hk_ hs_ => (hk_.1.1) hs_)) (fun k_ hk_ => ⟨hk_.1.1.1, hk_.1.1.2, hk_.1.2⟩)); have n1_ := Aside0.mk (Kd.R_reok rfl hy0 (fun k_ e_ => HO_10.out.1 k_ e_)); have n2_ := Aside0.mk (Kd.R_mono (ok' := fun k_ => some k_ ≠ (v565 : Value).ownBlock ∧ some k_ ≠ (.slice Ao23 t568.length co23 : Value).ownBlock ∧ some k_ ≠ (.slice Ao40 t579.length co40 : Value).ownBlock) (Kd.R_keptB (HO_11.out) hkp (fun k_ hk_ hs_ => (hk_.1.2) hs_)) (fun k_ hk_ => ⟨hk_.1.1.1, hk_.1.1.2, hk_.1.2⟩)); have n3_ := Aside0.mk (blk_kept (pk BK556) hkp (fun hs_ => (fun e_ => (Kd.R_ne HO_10.out BK556.out (by decide)) e_) hs_)); have n4_ := Aside0.mk (Kd.R_mono (ok' := fun k_ => some k_ ≠ (v565 : Value).ownBlock ∧ some k_ ≠ (.slice Ao23 t568.length co23 : Value).ownBlock ∧ some k_ ≠ (v575 : Value).ownBlock) (Kd.R_keptB (HO581.out) hkp (fun k_ hk_ hs_ => (hk_.1.2) hs_)) (fun k_ hk_ => ⟨hk_.1.1.1.2, hk_.1.1.2, hk_.1.2⟩)); have n5_ := Aside0.mk (hb); clear HO_8; clear HO_10; clear HO_11; clear BK556; clear HO581; clear HB; have HO_8 := n0_; have HO_10 := n1_; have HO_11 := n2_; have BK556 := n3_; have HO581 := n4_; have HB := n5_; clear n0_ n1_ n2_ n3_ n4_ n5_; (try clear hb); (try clear hkp); (try clear hy0)))
      (try simp only [Act.put, List.setIfInBounds_toArray, List.set_cons_zero, List.set_cons_succ])
      go_cut [71] (fun v71 wc => ∃ (kq : Nat) (x71_37 : Bool), v71 = .bool x71_37 ∧ Aside0 (laws_FnExactGreedyCalls.j1 kq l1 a2 t564 t567 t574 x71_37 a0_0 a0_1 a0_2 = some r) ∧ Aside0 (kq ≤ kj12) ∧ Aside0 (Kd.R k34 34 wc w.heap.size (fun k_ => some k_ ≠ (v575 : Value).ownBlock) v565 t564) ∧ Aside0 (Kd.R k34 34 wc w.heap.size (fun k_ => some k_ ≠ (v565 : Value).ownBlock) v575 t574) ∧ Aside0 (wc.heap[gb556]? = some (.cells (mixA (Value.int .u16) [.int .i8 a0_0, .int .i8 a0_1] a0_2) 26 (0, 0))) ∧ Aside0 (Below w.heap.size w wc))
      case first =>
       have H := HC38.out
       clear HC38
       by_cases c43 : t583 < 0
       ·rw [if_pos c43] at H
        have c43b0 : decide (t583 < 0) = true := decide_eq_true c43
        clear c43
        (first | rw [c43b0] | (simp only [i64_w, i32_w]; rw [c43b0]) | skip)
        have H' := Aside0.mk H
        clear H
        go_wp2
        go_meet
        case rel => exact ⟨_, (true), (by first | rfl | (simp; done) | (simp [*]; done)), H', ⟨by have := HJ12.out; first | omega | exact Nat.le_refl _⟩, ⟨by (with_reducible repeat (first | apply Kd.R_alloc | apply Kd.R_drewN | apply Kd.R_drew)); exact Kd.R_mono HO_8.out (fun _ hk => hk.2.1)⟩, ⟨by (with_reducible repeat (first | apply Kd.R_alloc | apply Kd.R_drewN | apply Kd.R_drew)); exact Kd.R_mono HO_11.out (fun _ hk => hk.1)⟩, ⟨pk BK556⟩, ⟨pbs HB⟩⟩
       ·rw [if_neg c43] at H
        have c43b0 : decide (t583 < 0) = false := decide_eq_false c43
        clear c43
        (first | rw [c43b0] | (simp only [i64_w, i32_w]; rw [c43b0]) | skip)
        replace H := Option.bind_eq_some_iff.mp H
        obtain ⟨t585, A440, H⟩ := H
        replace H : (if t585 = true then (laws_FnExactGreedyCalls.j1 kj12 l1 a2 t564 t567 t574 (t577 != t567) a0_0 a0_1 a0_2) else (laws_FnExactGreedyCalls.j1 kj12 l1 a2 t564 t567 t574 true a0_0 a0_1 a0_2)) = some r := H
        have A44 := Aside0.mk A440
        clear A440
        by_cases c45 : t585 = true
        ·subst c45
         have H1 : (laws_FnExactGreedyCalls.j1 kj12 l1 a2 t564 t567 t574 (t577 != t567) a0_0 a0_1 a0_2) = some r := by rw [if_pos rfl] at H; exact H
         clear H
         have H := H1
         clear H1
         have H' := Aside0.mk H
         clear H
         obtain ⟨Ao46, co46, eo46⟩ := Kd.R_slice HO_11.out
         subst eo46
         obtain ⟨Ao47, co47, eo47⟩ := Kd.R_slice HO_8.out
         subst eo47
         go_wp2_with (first | (go_at_call 17; (with_reducible refine (laws_eqSpotS.calls kj12 _ _ t574 _ _ t564 true _ ?side1 ?side2 ?side3 ?side4 A44.out).mono ?_); (case side1 => repeat (first | exact (Kd.R_reads' HO_11.out).2.2 | (with_reducible refine Kd.C_alloc ?_ _) | (with_reducible refine Kd.C_drewN ?_ _) | (with_reducible refine Kd.C_drew ?_))); (case side2 => exact (Kd.R_reads' HO_11.out).2.1); (case side3 => repeat (first | exact (Kd.R_reads' HO_8.out).2.2 | (with_reducible refine Kd.C_alloc ?_ _) | (with_reducible refine Kd.C_drewN ?_ _) | (with_reducible refine Kd.C_drew ?_))); (case side4 => exact (Kd.R_reads' HO_8.out).2.1); rintro e w48 ⟨rfl, hb⟩; have n0_ := krb HO_8 hb; have n1_ := krb HO_10 hb; have n2_ := krb HO_11 hb; have n3_ := krb HO581 hb; have n4_ := bkb BK556 hb; have n5_ := bst HB hb; clear HO_8; clear HO_10; clear HO_11; clear HO581; clear BK556; clear HB; have HO_8 := n0_; have HO_10 := n1_; have HO_11 := n2_; have HO581 := n3_; have BK556 := n4_; have HB := n5_; clear n0_ n1_ n2_ n3_ n4_ n5_; (try clear hb); (try clear hb2); (try clear hk); (try clear hi)))
         go_meet
         case rel => exact ⟨_, ((t577 != t567)), (by first | rfl | (simp; done) | (simp [*]; done)), H', ⟨by have := HJ12.out; first | omega | exact Nat.le_refl _⟩, ⟨by (with_reducible repeat (first | apply Kd.R_alloc | apply Kd.R_drewN | apply Kd.R_drew)); exact Kd.R_mono HO_8.out (fun _ hk => hk.2.1)⟩, ⟨by (with_reducible repeat (first | apply Kd.R_alloc | apply Kd.R_drewN | apply Kd.R_drew)); exact Kd.R_mono HO_11.out (fun _ hk => hk.1)⟩, ⟨pk BK556⟩, ⟨pbs HB⟩⟩
        ·replace c45 := Bool.eq_false_iff.mpr c45
         subst c45
         have H1 : (laws_FnExactGreedyCalls.j1 kj12 l1 a2 t564 t567 t574 true a0_0 a0_1 a0_2) = some r := by rw [if_neg (show ¬ (false = true) by decide)] at H; exact H
         clear H
         have H := H1
         clear H1
         have H' := Aside0.mk H
         clear H
         obtain ⟨Ao49, co49, eo49⟩ := Kd.R_slice HO_11.out
         subst eo49
         obtain ⟨Ao50, co50, eo50⟩ := Kd.R_slice HO_8.out
         subst eo50
         go_wp2_with (first | (go_at_call 17; (with_reducible refine (laws_eqSpotS.calls kj12 _ _ t574 _ _ t564 false _ ?side1 ?side2 ?side3 ?side4 A44.out).mono ?_); (case side1 => repeat (first | exact (Kd.R_reads' HO_11.out).2.2 | (with_reducible refine Kd.C_alloc ?_ _) | (with_reducible refine Kd.C_drewN ?_ _) | (with_reducible refine Kd.C_drew ?_))); (case side2 => exact (Kd.R_reads' HO_11.out).2.1); (case side3 => repeat (first | exact (Kd.R_reads' HO_8.out).2.2 | (with_reducible refine Kd.C_alloc ?_ _) | (with_reducible refine Kd.C_drewN ?_ _) | (with_reducible refine Kd.C_drew ?_))); (case side4 => exact (Kd.R_reads' HO_8.out).2.1); rintro e w51 ⟨rfl, hb⟩; have n0_ := krb HO_8 hb; have n1_ := krb HO_10 hb; have n2_ := krb HO_11 hb; have n3_ := krb HO581 hb; have n4_ := bkb BK556 hb; have n5_ := bst HB hb; clear HO_8; clear HO_10; clear HO_11; clear HO581; clear BK556; clear HB; have HO_8 := n0_; have HO_10 := n1_; have HO_11 := n2_; have HO581 := n3_; have BK556 := n4_; have HB := n5_; clear n0_ n1_ n2_ n3_ n4_ n5_; (try clear hb); (try clear hb2); (try clear hk); (try clear hi)))
         go_meet
         case rel => exact ⟨_, (true), (by first | rfl | (simp; done) | (simp [*]; done)), H', ⟨by have := HJ12.out; first | omega | exact Nat.le_refl _⟩, ⟨by (with_reducible repeat (first | apply Kd.R_alloc | apply Kd.R_drewN | apply Kd.R_drew)); exact Kd.R_mono HO_8.out (fun _ hk => hk.2.1)⟩, ⟨by (with_reducible repeat (first | apply Kd.R_alloc | apply Kd.R_drewN | apply Kd.R_drew)); exact Kd.R_mono HO_11.out (fun _ hk => hk.1)⟩, ⟨pk BK556⟩, ⟨pbs HB⟩⟩
      case rest =>
       clear HC38
       try clear c1
       try clear c2
       try clear p2
       try clear c3
       try clear c4
       try clear c5
       try clear c5b0
       try clear c6
       try clear c14
       try clear c17
       try clear c18
       try clear c20
       try clear c22
       try clear c26
       try clear c29
       try clear c30
       try clear c33
       try clear c36
       try clear c43
       try clear c43b0
       try clear c45
       try clear p2
       obtain ⟨kq, x71_37, rfl, HA, HJ37, HO_8, HO_11, BK556, HB⟩ := hcut
       cases kq with
       | zero => exact absurd HA.out (by simp [laws_FnExactGreedyCalls.j1])
       | succ kj37 =>
        have H := HA.out
        clear HA
        simp only [laws_FnExactGreedyCalls.j1] at H
        by_cases c52 : x71_37 = true
        ·subst c52
         have H1 : (some false) = some r := by rw [if_pos rfl] at H; exact H
         clear H
         have H := H1
         clear H1
         obtain rfl := Option.some.inj H
         go_wp2
         go_ret
         exact ⟨by first | rfl | (simp [errW_none, errW_some] <;> rfl) | (simp [*, errW_none, errW_some] <;> rfl), pbs HB⟩
        ·replace c52 := Bool.eq_false_iff.mpr c52
         subst c52
         have H1 : ((laws_markSpotS.f kj37 t574 1).bind fun bt586 => ((laws_heldSpotS.f kj37 bt586.2 1).bind fun t588 => (if t588 < 0 then (some false) else (if t588 = bt586.1 then ((laws_toRoom.f kj37 a0_0 a0_1 a0_2).bind fun bt589 => ((laws_toSpotS.f kj37 l1).bind fun t592 => ((impl_GreedyCalls.f kj37 bt589.1 bt589.2.1 bt589.2.2 t592 a2).bind fun bt595 => ((laws_eqSpotS.f kj37 bt595.1 t564).bind fun t599 => (if t599 = true then (laws_FnExactGreedyCalls.j2 kj37 bt586.2 bt586.1 (bt595.2 != t567)) else (laws_FnExactGreedyCalls.j2 kj37 bt586.2 bt586.1 true)))))) else (some false))))) = some r := by rw [if_neg (show ¬ (false = true) by decide)] at H; exact H
         clear H
         have H := H1
         clear H1
         replace H := Option.bind_eq_some_iff.mp H
         obtain ⟨⟨t586, t587⟩, A530, H⟩ := H
         replace H : ((laws_heldSpotS.f kj37 t587 1).bind fun t588 => (if t588 < 0 then (some false) else (if t588 = t586 then ((laws_toRoom.f kj37 a0_0 a0_1 a0_2).bind fun bt589 => ((laws_toSpotS.f kj37 l1).bind fun t592 => ((impl_GreedyCalls.f kj37 bt589.1 bt589.2.1 bt589.2.2 t592 a2).bind fun bt595 => ((laws_eqSpotS.f kj37 bt595.1 t564).bind fun t599 => (if t599 = true then (laws_FnExactGreedyCalls.j2 kj37 t587 t586 (bt595.2 != t567)) else (laws_FnExactGreedyCalls.j2 kj37 t587 t586 true)))))) else (some false)))) = some r := H
         have A53 := Aside0.mk A530
         clear A530
         replace H := Option.bind_eq_some_iff.mp H
         obtain ⟨t588, A540, H⟩ := H
         replace H : (if t588 < 0 then (some false) else (if t588 = t586 then ((laws_toRoom.f kj37 a0_0 a0_1 a0_2).bind fun bt589 => ((laws_toSpotS.f kj37 l1).bind fun t592 => ((impl_GreedyCalls.f kj37 bt589.1 bt589.2.1 bt589.2.2 t592 a2).bind fun bt595 => ((laws_eqSpotS.f kj37 bt595.1 t564).bind fun t599 => (if t599 = true then (laws_FnExactGreedyCalls.j2 kj37 t587 t586 (bt595.2 != t567)) else (laws_FnExactGreedyCalls.j2 kj37 t587 t586 true)))))) else (some false))) = some r := H
         have A54 := Aside0.mk A540
         clear A540
         by_cases c55 : t588 < 0
         ·rw [if_pos c55] at H
          have c55b0 : decide (t588 < 0) = true := decide_eq_true c55
          clear c55
          obtain rfl := Option.some.inj H
          obtain ⟨Ao56, co56, eo56⟩ := Kd.R_slice HO_11.out
          subst eo56
          go_wp2_with (first | ((with_reducible refine gate_callee (f := 18) rfl ?_); refine goesL_ (some 74) rfl rfl Try.func18 (by kernel_rfl) rfl #[.slice Ao56 t574.length co56, .int .i64 1] rfl (by (try simp only [List.map_toArray, List.map_cons, List.map_nil]); first | done | rfl | (simp only [List.length_drop, List.length_take]; rfl)) ?_; (with_reducible refine (laws_markSpotS.calls kj37 (fun k_ => some k_ = (.slice Ao56 t574.length co56 : Value).ownBlock) (.slice Ao56 t574.length co56) t574 1 t586 t587 w _ ?side1 ?side2 A53.out).mono ?_); (case side1 => repeat (first | (with_reducible first | exact HB.out | apply below_alloc | apply pw_below_drewN | apply below_drew1 | refine below_set ?_ GE556.out) | exact HB.out)); (case side2 => exact Kd.R_tight rfl HO_11.out); rintro e w57 ⟨rfl, hy0, hb, hkp⟩; refine ⟨_, rfl, ?_⟩; have n0_ := Aside0.mk (Kd.R_mono (ok' := fun k_ => some k_ ≠ (.slice Ao56 t574.length co56 : Value).ownBlock) (Kd.R_keptB (HO_8.out) hkp (fun k_ hk_ hs_ => (hk_) hs_)) (fun k_ hk_ => hk_.1)); have n1_ := Aside0.mk (Kd.R_reok rfl hy0 (fun k_ e_ => HO_11.out.1 k_ e_)); have n2_ := Aside0.mk (blk_kept (pk BK556) hkp (fun hs_ => (fun e_ => (Kd.R_ne HO_11.out BK556.out (by decide)) e_) hs_)); have n3_ := Aside0.mk (hb); clear HO_8; clear HO_11; clear BK556; clear HB; have HO_8 := n0_; have HO_11 := n1_; have BK556 := n2_; have HB := n3_; clear n0_ n1_ n2_ n3_; (try clear hb); (try clear hkp); (try clear hy0)) | ((with_reducible refine gate_callee (f := 19) rfl ?_); refine goesL_ (some 77) rfl rfl Try.func19 (by kernel_rfl) rfl #[.slice Ao56 t587.length co56, .int .i64 1] rfl (by (try simp only [List.map_toArray, List.map_cons, List.map_nil]); first | done | (rw [show t587.length = t574.length from (Kd.R_reads' HO_11.out).1.symm] <;> rfl) | rfl | (simp only [List.length_drop, List.length_take]; rfl)) ?_; (with_reducible refine (laws_heldSpotS.calls kj37 _ _ t587 1 t588 _ ?side1 ?side2 A54.out).mono ?_); (case side1 => repeat (first | exact (Kd.R_reads' HO_11.out).2.2 | (with_reducible refine Kd.C_alloc ?_ _) | (with_reducible refine Kd.C_drewN ?_ _) | (with_reducible refine Kd.C_drew ?_))); (case side2 => rw [show t587.length = t574.length from (Kd.R_reads' HO_11.out).1.symm]; exact (Kd.R_reads' HO_11.out).2.1); rintro e w' ⟨rfl, ⟨nd, rfl⟩⟩; refine ⟨_, rfl, ?_⟩))
          go_ret
          exact ⟨by first | rfl | (simp [errW_none, errW_some] <;> rfl) | (simp [*, errW_none, errW_some] <;> rfl), pbs HB⟩
         ·rw [if_neg c55] at H
          have c55b0 : decide (t588 < 0) = false := decide_eq_false c55
          clear c55
          by_cases c58 : t588 = t586
          ·rw [if_pos c58] at H
           have c58b0 : (t588 == t586) = true := beq_iff_eq.mpr c58
           have c58b1 : (t588 != t586) = false := bne_eq_false_iff_eq.mpr c58
           clear c58
           replace H := Option.bind_eq_some_iff.mp H
           obtain ⟨⟨t589, t590, t591⟩, A590, H⟩ := H
           replace H : ((laws_toSpotS.f kj37 l1).bind fun t592 => ((impl_GreedyCalls.f kj37 t589 t590 t591 t592 a2).bind fun bt595 => ((laws_eqSpotS.f kj37 bt595.1 t564).bind fun t599 => (if t599 = true then (laws_FnExactGreedyCalls.j2 kj37 t587 t586 (bt595.2 != t567)) else (laws_FnExactGreedyCalls.j2 kj37 t587 t586 true))))) = some r := H
           have A59 := Aside0.mk A590
           clear A590
           replace H := Option.bind_eq_some_iff.mp H
           obtain ⟨t592, A600, H⟩ := H
           replace H : ((impl_GreedyCalls.f kj37 t589 t590 t591 t592 a2).bind fun bt595 => ((laws_eqSpotS.f kj37 bt595.1 t564).bind fun t599 => (if t599 = true then (laws_FnExactGreedyCalls.j2 kj37 t587 t586 (bt595.2 != t567)) else (laws_FnExactGreedyCalls.j2 kj37 t587 t586 true)))) = some r := H
           have A60 := Aside0.mk A600
           clear A600
           replace H := Option.bind_eq_some_iff.mp H
           obtain ⟨⟨t595, t598⟩, A610, H⟩ := H
           replace H : ((laws_eqSpotS.f kj37 t595 t564).bind fun t599 => (if t599 = true then (laws_FnExactGreedyCalls.j2 kj37 t587 t586 (t598 != t567)) else (laws_FnExactGreedyCalls.j2 kj37 t587 t586 true))) = some r := H
           have A61 := Aside0.mk A610
           clear A610
           have HC62 := Aside0.mk H
           clear H
           obtain ⟨Ao63, co63, eo63⟩ := Kd.R_slice HO_11.out
           subst eo63
           go_upto_region 25 with (first | ((with_reducible refine gate_callee (f := 18) rfl ?_); refine goesL_ (some 74) rfl rfl Try.func18 (by kernel_rfl) rfl #[.slice Ao63 t574.length co63, .int .i64 1] rfl (by (try simp only [List.map_toArray, List.map_cons, List.map_nil]); first | done | rfl | (simp only [List.length_drop, List.length_take]; rfl)) ?_; (with_reducible refine (laws_markSpotS.calls kj37 (fun k_ => some k_ = (.slice Ao63 t574.length co63 : Value).ownBlock) (.slice Ao63 t574.length co63) t574 1 t586 t587 w _ ?side1 ?side2 A53.out).mono ?_); (case side1 => repeat (first | (with_reducible first | exact HB.out | apply below_alloc | apply pw_below_drewN | apply below_drew1 | refine below_set ?_ GE556.out) | exact HB.out)); (case side2 => exact Kd.R_tight rfl HO_11.out); rintro e w64 ⟨rfl, hy0, hb, hkp⟩; refine ⟨_, rfl, ?_⟩; have n0_ := Aside0.mk (Kd.R_mono (ok' := fun k_ => some k_ ≠ (.slice Ao63 t574.length co63 : Value).ownBlock) (Kd.R_keptB (HO_8.out) hkp (fun k_ hk_ hs_ => (hk_) hs_)) (fun k_ hk_ => hk_.1)); have n1_ := Aside0.mk (Kd.R_reok rfl hy0 (fun k_ e_ => HO_11.out.1 k_ e_)); have n2_ := Aside0.mk (blk_kept (pk BK556) hkp (fun hs_ => (fun e_ => (Kd.R_ne HO_11.out BK556.out (by decide)) e_) hs_)); have n3_ := Aside0.mk (hb); clear HO_8; clear HO_11; clear BK556; clear HB; have HO_8 := n0_; have HO_11 := n1_; have BK556 := n2_; have HB := n3_; clear n0_ n1_ n2_ n3_; (try clear hb); (try clear hkp); (try clear hy0)) | ((with_reducible refine gate_callee (f := 19) rfl ?_); refine goesL_ (some 77) rfl rfl Try.func19 (by kernel_rfl) rfl #[.slice Ao63 t587.length co63, .int .i64 1] rfl (by (try simp only [List.map_toArray, List.map_cons, List.map_nil]); first | done | (rw [show t587.length = t574.length from (Kd.R_reads' HO_11.out).1.symm] <;> rfl) | rfl | (simp only [List.length_drop, List.length_take]; rfl)) ?_; (with_reducible refine (laws_heldSpotS.calls kj37 _ _ t587 1 t588 _ ?side1 ?side2 A54.out).mono ?_); (case side1 => repeat (first | exact (Kd.R_reads' HO_11.out).2.2 | (with_reducible refine Kd.C_alloc ?_ _) | (with_reducible refine Kd.C_drewN ?_ _) | (with_reducible refine Kd.C_drew ?_))); (case side2 => rw [show t587.length = t574.length from (Kd.R_reads' HO_11.out).1.symm]; exact (Kd.R_reads' HO_11.out).2.1); rintro e w' ⟨rfl, ⟨nd, rfl⟩⟩; refine ⟨_, rfl, ?_⟩) | ((with_reducible refine gate_dst (N := 84) rfl ?_); refine wpList_run0 (v := .agg (mixA (Value.int .u16) [.int .i8 a0_0, .int .i8 a0_1] a0_2)) rfl (load_mix_run (P := Try.prog) 26 (.tmp 3) rfl gb556 rfl (show World.rangeAt _ gb556 0 ([.int .i8 a0_0, .int .i8 a0_1] ++ a0_2.l.map (Value.int .u16)) from mix_range (show (World.heap _)[gb556]? = some (.cells (mixA (Value.int .u16) [.int .i8 a0_0, .int .i8 a0_1] a0_2) 26 (0, 0)) from by (with_reducible repeat (first | refine blk_drewN ?_ _ | refine blk_drew ?_ | refine blk_alloc ?_ _)); exact BK556.out)) Try.underlying26 rfl (by kernel_rfl) rfl) ?_) | ((with_reducible refine gate_callee (f := 14) rfl ?_); refine goesL_ (some 85) rfl rfl Try.func14 (by kernel_rfl) rfl #[.agg (mixA (Value.int .u16) [.int .i8 a0_0, .int .i8 a0_1] a0_2)] rfl (by (try simp only [List.map_toArray, List.map_cons, List.map_nil]); first | done | rfl | (simp only [List.length_drop, List.length_take]; rfl)) ?_; (with_reducible refine (laws_toRoom.calls kj37 a0_0 a0_1 a0_2 t589 t590 t591 _ A59.out).mono ?_); rintro e w66 ⟨rfl, hb⟩; refine ⟨_, rfl, ?_⟩; have n0_ := krb HO_8 hb; have n1_ := krb HO_11 hb; have n2_ := bkb BK556 hb; have n3_ := bst HB hb; clear HO_8; clear HO_11; clear BK556; clear HB; have HO_8 := n0_; have HO_11 := n1_; have BK556 := n2_; have HB := n3_; clear n0_ n1_ n2_ n3_; (try clear hb); (try clear hb2); (try clear hk); (try clear hi)) | ((with_reducible refine gate_callee (f := 22) rfl ?_); refine goesL_ (some 87) rfl rfl Try.func22 (by kernel_rfl) rfl #[.slice A1 l1.length c1] rfl (by (try simp only [List.map_toArray, List.map_cons, List.map_nil]); first | done | rfl | (simp only [List.length_drop, List.length_take]; rfl)) ?_; (with_reducible refine (laws_toSpotS.calls kj37 _ _ l1 t592 _ ?side1 ?side2 A60.out).mono ?_); (case side1 => repeat (first | exact (Kd.C_below HR1.out HB.out) | (with_reducible refine Kd.C_alloc ?_ _) | (with_reducible refine Kd.C_drewN ?_ _) | (with_reducible refine Kd.C_drew ?_))); (case side2 => exact HC1.out); rintro e w67 ⟨v593, rfl, ho0, hb⟩; refine ⟨_, rfl, ?_⟩; have n0_ := Aside0.mk (Kd.R_elder' (by (with_reducible repeat (first | apply Kd.R_alloc | apply Kd.R_drewN | apply Kd.R_drew)); exact HO_8.out) (Kd.R_base ho0) hb); have n1_ := Aside0.mk (Kd.R_elder' (by (with_reducible repeat (first | apply Kd.R_alloc | apply Kd.R_drewN | apply Kd.R_drew)); exact HO_11.out) (Kd.R_base ho0) hb); have n2_ := Aside0.mk (Kd.R_lower (Kd.R_new' (Kd.R_new' ho0 (Kd.R_lt (by (with_reducible repeat (first | apply Kd.R_alloc | apply Kd.R_drewN | apply Kd.R_drew)); exact HO_8.out))) (Kd.R_lt (by (with_reducible repeat (first | apply Kd.R_alloc | apply Kd.R_drewN | apply Kd.R_drew)); exact HO_11.out))) (below_size (by repeat (first | (with_reducible first | exact HB.out | apply below_alloc | apply pw_below_drewN | apply below_drew1 | refine below_set ?_ GE556.out) | exact HB.out)))); have n3_ := bkb BK556 hb; have n4_ := bst HB hb; clear HO_8; clear HO_11; clear BK556; clear HB; have HO_8 := n0_; have HO_11 := n1_; have HO594 := n2_; have BK556 := n3_; have HB := n4_; clear n0_ n1_ n2_ n3_ n4_; (try clear hb); (try clear hb2); (try clear hk); (try clear hi); (try clear ho0); obtain ⟨Ao68, co68, eo68⟩ := Kd.R_slice HO594.out; subst eo68) | ((with_reducible refine gate_callee (f := 30) rfl ?_); refine goesL_ (some 89) rfl rfl Try.func30 (by kernel_rfl) rfl #[.agg (mixA (Value.int .u16) [.int .i8 t589, .int .i8 t590] t591), .slice Ao68 t592.length co68, .int .i64 a2] rfl (by (try simp only [List.map_toArray, List.map_cons, List.map_nil]); first | done | rfl | (simp only [List.length_drop, List.length_take]; rfl)) ?_; (with_reducible refine (impl_GreedyCalls.calls kj37 t589 t590 t591 _ _ t592 a2 t595 t598 _ ?side1 ?side2 A61.out).mono ?_); (case side1 => repeat (first | exact (Kd.R_reads' HO594.out).2.2 | (with_reducible refine Kd.C_alloc ?_ _) | (with_reducible refine Kd.C_drewN ?_ _) | (with_reducible refine Kd.C_drew ?_))); (case side2 => exact (Kd.R_reads' HO594.out).2.1); rintro e w69 ⟨v596, rfl, ho0, hb⟩; refine ⟨_, rfl, ?_⟩; have n0_ := Aside0.mk (Kd.R_elder' (by (with_reducible repeat (first | apply Kd.R_alloc | apply Kd.R_drewN | apply Kd.R_drew)); exact HO_8.out) (Kd.R_base ho0) hb); have n1_ := Aside0.mk (Kd.R_elder' (by (with_reducible repeat (first | apply Kd.R_alloc | apply Kd.R_drewN | apply Kd.R_drew)); exact HO_11.out) (Kd.R_base ho0) hb); have n2_ := Aside0.mk (Kd.R_elder' (by (with_reducible repeat (first | apply Kd.R_alloc | apply Kd.R_drewN | apply Kd.R_drew)); exact HO594.out) (Kd.R_base ho0) hb); have n3_ := Aside0.mk (Kd.R_lower (Kd.R_new' (Kd.R_new' (Kd.R_new' ho0 (Kd.R_lt (by (with_reducible repeat (first | apply Kd.R_alloc | apply Kd.R_drewN | apply Kd.R_drew)); exact HO_8.out))) (Kd.R_lt (by (with_reducible repeat (first | apply Kd.R_alloc | apply Kd.R_drewN | apply Kd.R_drew)); exact HO_11.out))) (Kd.R_lt (by (with_reducible repeat (first | apply Kd.R_alloc | apply Kd.R_drewN | apply Kd.R_drew)); exact HO594.out))) (below_size (by repeat (first | (with_reducible first | exact HB.out | apply below_alloc | apply pw_below_drewN | apply below_drew1 | refine below_set ?_ GE556.out) | exact HB.out)))); have n4_ := bkb BK556 hb; have n5_ := bst HB hb; clear HO_8; clear HO_11; clear HO594; clear BK556; clear HB; have HO_8 := n0_; have HO_11 := n1_; have HO594 := n2_; have HO597 := n3_; have BK556 := n4_; have HB := n5_; clear n0_ n1_ n2_ n3_ n4_ n5_; (try clear hb); (try clear hb2); (try clear hk); (try clear hi); (try clear ho0)))
           (try simp only [Act.put, List.setIfInBounds_toArray, List.set_cons_zero, List.set_cons_succ])
           go_cut [100] (fun v100 wc => ∃ (kq : Nat) (x100_61 : Bool), v100 = .bool x100_61 ∧ Aside0 (laws_FnExactGreedyCalls.j2 kq t587 t586 x100_61 = some r) ∧ Aside0 (kq ≤ kj37) ∧ Aside0 (Kd.R k34 34 wc w.heap.size (fun _ => True) (.slice Ao63 t574.length co63) t587) ∧ Aside0 (wc.heap[gb556]? = some (.cells (mixA (Value.int .u16) [.int .i8 a0_0, .int .i8 a0_1] a0_2) 26 (0, 0))) ∧ Aside0 (Below w.heap.size w wc))
           case first =>
            have H := HC62.out
            clear HC62
            replace H := Option.bind_eq_some_iff.mp H
            obtain ⟨t599, A700, H⟩ := H
            replace H : (if t599 = true then (laws_FnExactGreedyCalls.j2 kj37 t587 t586 (t598 != t567)) else (laws_FnExactGreedyCalls.j2 kj37 t587 t586 true)) = some r := H
            have A70 := Aside0.mk A700
            clear A700
            by_cases c71 : t599 = true
            ·subst c71
             have H1 : (laws_FnExactGreedyCalls.j2 kj37 t587 t586 (t598 != t567)) = some r := by rw [if_pos rfl] at H; exact H
             clear H
             have H := H1
             clear H1
             have H' := Aside0.mk H
             clear H
             obtain ⟨Ao72, co72, eo72⟩ := Kd.R_slice HO597.out
             subst eo72
             obtain ⟨Ao73, co73, eo73⟩ := Kd.R_slice HO_8.out
             subst eo73
             go_wp2_with (first | ((with_reducible refine gate_callee (f := 17) rfl ?_); refine goesL_ (some 94) rfl rfl Try.func17 (by kernel_rfl) rfl #[.slice Ao72 t595.length co72, .slice Ao73 t564.length co73] rfl (by (try simp only [List.map_toArray, List.map_cons, List.map_nil]); first | done | rfl | (simp only [List.length_drop, List.length_take]; rfl)) ?_; (with_reducible refine (laws_eqSpotS.calls kj37 _ _ t595 _ _ t564 true _ ?side1 ?side2 ?side3 ?side4 A70.out).mono ?_); (case side1 => repeat (first | exact (Kd.R_reads' HO597.out).2.2 | (with_reducible refine Kd.C_alloc ?_ _) | (with_reducible refine Kd.C_drewN ?_ _) | (with_reducible refine Kd.C_drew ?_))); (case side2 => exact (Kd.R_reads' HO597.out).2.1); (case side3 => repeat (first | exact (Kd.R_reads' HO_8.out).2.2 | (with_reducible refine Kd.C_alloc ?_ _) | (with_reducible refine Kd.C_drewN ?_ _) | (with_reducible refine Kd.C_drew ?_))); (case side4 => exact (Kd.R_reads' HO_8.out).2.1); rintro e w74 ⟨rfl, hb⟩; refine ⟨_, rfl, ?_⟩; have n0_ := krb HO_8 hb; have n1_ := krb HO_11 hb; have n2_ := krb HO594 hb; have n3_ := krb HO597 hb; have n4_ := bkb BK556 hb; have n5_ := bst HB hb; clear HO_8; clear HO_11; clear HO594; clear HO597; clear BK556; clear HB; have HO_8 := n0_; have HO_11 := n1_; have HO594 := n2_; have HO597 := n3_; have BK556 := n4_; have HB := n5_; clear n0_ n1_ n2_ n3_ n4_ n5_; (try clear hb); (try clear hb2); (try clear hk); (try clear hi)))
             go_meet
             case rel => exact ⟨_, ((t598 != t567)), (by first | rfl | (simp; done) | (simp [*]; done)), H', ⟨by have := HJ12.out; have := HJ37.out; first | omega | exact Nat.le_refl _⟩, ⟨by (with_reducible repeat (first | apply Kd.R_alloc | apply Kd.R_drewN | apply Kd.R_drew)); exact Kd.R_mono HO_11.out (fun _ hk => trivial)⟩, ⟨pk BK556⟩, ⟨pbs HB⟩⟩
            ·replace c71 := Bool.eq_false_iff.mpr c71
             subst c71
             have H1 : (laws_FnExactGreedyCalls.j2 kj37 t587 t586 true) = some r := by rw [if_neg (show ¬ (false = true) by decide)] at H; exact H
             clear H
             have H := H1
             clear H1
             have H' := Aside0.mk H
             clear H
             obtain ⟨Ao75, co75, eo75⟩ := Kd.R_slice HO597.out
             subst eo75
             obtain ⟨Ao76, co76, eo76⟩ := Kd.R_slice HO_8.out
             subst eo76
             go_wp2_with (first | ((with_reducible refine gate_callee (f := 17) rfl ?_); refine goesL_ (some 94) rfl rfl Try.func17 (by kernel_rfl) rfl #[.slice Ao75 t595.length co75, .slice Ao76 t564.length co76] rfl (by (try simp only [List.map_toArray, List.map_cons, List.map_nil]); first | done | rfl | (simp only [List.length_drop, List.length_take]; rfl)) ?_; (with_reducible refine (laws_eqSpotS.calls kj37 _ _ t595 _ _ t564 false _ ?side1 ?side2 ?side3 ?side4 A70.out).mono ?_); (case side1 => repeat (first | exact (Kd.R_reads' HO597.out).2.2 | (with_reducible refine Kd.C_alloc ?_ _) | (with_reducible refine Kd.C_drewN ?_ _) | (with_reducible refine Kd.C_drew ?_))); (case side2 => exact (Kd.R_reads' HO597.out).2.1); (case side3 => repeat (first | exact (Kd.R_reads' HO_8.out).2.2 | (with_reducible refine Kd.C_alloc ?_ _) | (with_reducible refine Kd.C_drewN ?_ _) | (with_reducible refine Kd.C_drew ?_))); (case side4 => exact (Kd.R_reads' HO_8.out).2.1); rintro e w77 ⟨rfl, hb⟩; refine ⟨_, rfl, ?_⟩; have n0_ := krb HO_8 hb; have n1_ := krb HO_11 hb; have n2_ := krb HO594 hb; have n3_ := krb HO597 hb; have n4_ := bkb BK556 hb; have n5_ := bst HB hb; clear HO_8; clear HO_11; clear HO594; clear HO597; clear BK556; clear HB; have HO_8 := n0_; have HO_11 := n1_; have HO594 := n2_; have HO597 := n3_; have BK556 := n4_; have HB := n5_; clear n0_ n1_ n2_ n3_ n4_ n5_; (try clear hb); (try clear hb2); (try clear hk); (try clear hi)))
             go_meet
             case rel => exact ⟨_, (true), (by first | rfl | (simp; done) | (simp [*]; done)), H', ⟨by have := HJ12.out; have := HJ37.out; first | omega | exact Nat.le_refl _⟩, ⟨by (with_reducible repeat (first | apply Kd.R_alloc | apply Kd.R_drewN | apply Kd.R_drew)); exact Kd.R_mono HO_11.out (fun _ hk => trivial)⟩, ⟨pk BK556⟩, ⟨pbs HB⟩⟩
           case rest =>
            clear HC62
            try clear c1
            try clear c2
            try clear p2
            try clear c3
            try clear c4
            try clear c5
            try clear c5b0
            try clear c6
            try clear c7
            try clear c14
            try clear c17
            try clear c18
            try clear c19
            try clear c20
            try clear c22
            try clear c26
            try clear c29
            try clear c30
            try clear c33
            try clear c36
            try clear c43
            try clear c43b0
            try clear c45
            try clear c52
            try clear c55
            try clear c55b0
            try clear c58
            try clear c58b0
            try clear c58b1
            try clear c71
            try clear p2
            obtain ⟨kq, x100_61, rfl, HA, HJ61, HO_11, BK556, HB⟩ := hcut
            have hl11_61 := (Kd.R_reads' HO_11.out).1
            rw [hl11_61] at HO_11
            (try simp only [hl11_61])
            (try simp only [hl11_61] at BK556)
            cases kq with
            | zero => exact absurd HA.out (by simp [laws_FnExactGreedyCalls.j2])
            | succ kj61 =>
             have H := HA.out
             clear HA
             simp only [laws_FnExactGreedyCalls.j2] at H
             by_cases c78 : x100_61 = true
             ·subst c78
              have H1 : (some false) = some r := by rw [if_pos rfl] at H; exact H
              clear H
              have H := H1
              clear H1
              obtain rfl := Option.some.inj H
              go_wp2
              go_ret
              exact ⟨by first | rfl | (simp [errW_none, errW_some] <;> rfl) | (simp [*, errW_none, errW_some] <;> rfl), pbs HB⟩
             ·replace c78 := Bool.eq_false_iff.mpr c78
              subst c78
              have H1 : ((laws_heldSpotS.f kj61 t587 1).bind fun t600 => (if t600 < 0 then (some false) else (if t600 = t586 then (some true) else (some false)))) = some r := by rw [if_neg (show ¬ (false = true) by decide)] at H; exact H
              clear H
              have H := H1
              clear H1
              replace H := Option.bind_eq_some_iff.mp H
              obtain ⟨t600, A790, H⟩ := H
              replace H : (if t600 < 0 then (some false) else (if t600 = t586 then (some true) else (some false))) = some r := H
              have A79 := Aside0.mk A790
              clear A790
              by_cases c80 : t600 < 0
              ·rw [if_pos c80] at H
               have c80b0 : decide (t600 < 0) = true := decide_eq_true c80
               clear c80
               obtain rfl := Option.some.inj H
               go_wp2_with (first | ((with_reducible refine gate_callee (f := 19) rfl ?_); refine goesL_ (some 103) rfl rfl Try.func19 (by kernel_rfl) rfl #[.slice Ao63 t587.length co63, .int .i64 1] rfl (by (try simp only [List.map_toArray, List.map_cons, List.map_nil]); first | done | rfl | (simp only [List.length_drop, List.length_take]; rfl)) ?_; (with_reducible refine (laws_heldSpotS.calls kj61 _ _ t587 1 t600 _ ?side1 ?side2 A79.out).mono ?_); (case side1 => repeat (first | exact (Kd.R_reads' HO_11.out).2.2 | (with_reducible refine Kd.C_alloc ?_ _) | (with_reducible refine Kd.C_drewN ?_ _) | (with_reducible refine Kd.C_drew ?_))); (case side2 => exact (Kd.R_reads' HO_11.out).2.1); rintro e w' ⟨rfl, ⟨nd, rfl⟩⟩; refine ⟨_, rfl, ?_⟩))
               go_ret
               exact ⟨by first | rfl | (simp [errW_none, errW_some] <;> rfl) | (simp [*, errW_none, errW_some] <;> rfl), pbs HB⟩
              ·rw [if_neg c80] at H
               have c80b0 : decide (t600 < 0) = false := decide_eq_false c80
               clear c80
               by_cases c81 : t600 = t586
               ·rw [if_pos c81] at H
                have c81b0 : (t600 == t586) = true := beq_iff_eq.mpr c81
                have c81b1 : (t600 != t586) = false := bne_eq_false_iff_eq.mpr c81
                clear c81
                obtain rfl := Option.some.inj H
                go_wp2_with (first | ((with_reducible refine gate_callee (f := 19) rfl ?_); refine goesL_ (some 103) rfl rfl Try.func19 (by kernel_rfl) rfl #[.slice Ao63 t587.length co63, .int .i64 1] rfl (by (try simp only [List.map_toArray, List.map_cons, List.map_nil]); first | done | rfl | (simp only [List.length_drop, List.length_take]; rfl)) ?_; (with_reducible refine (laws_heldSpotS.calls kj61 _ _ t587 1 t600 _ ?side1 ?side2 A79.out).mono ?_); (case side1 => repeat (first | exact (Kd.R_reads' HO_11.out).2.2 | (with_reducible refine Kd.C_alloc ?_ _) | (with_reducible refine Kd.C_drewN ?_ _) | (with_reducible refine Kd.C_drew ?_))); (case side2 => exact (Kd.R_reads' HO_11.out).2.1); rintro e w' ⟨rfl, ⟨nd, rfl⟩⟩; refine ⟨_, rfl, ?_⟩))
                go_ret
                exact ⟨by first | rfl | (simp [errW_none, errW_some] <;> rfl) | (simp [*, errW_none, errW_some] <;> rfl), pbs HB⟩
               ·rw [if_neg c81] at H
                have c81b0 : (t600 == t586) = false := beq_eq_false_iff_ne.mpr c81
                have c81b1 : (t600 != t586) = true := bne_iff_ne.mpr c81
                obtain rfl := Option.some.inj H
                go_wp2_with (first | ((with_reducible refine gate_callee (f := 19) rfl ?_); refine goesL_ (some 103) rfl rfl Try.func19 (by kernel_rfl) rfl #[.slice Ao63 t587.length co63, .int .i64 1] rfl (by (try simp only [List.map_toArray, List.map_cons, List.map_nil]); first | done | rfl | (simp only [List.length_drop, List.length_take]; rfl)) ?_; (with_reducible refine (laws_heldSpotS.calls kj61 _ _ t587 1 t600 _ ?side1 ?side2 A79.out).mono ?_); (case side1 => repeat (first | exact (Kd.R_reads' HO_11.out).2.2 | (with_reducible refine Kd.C_alloc ?_ _) | (with_reducible refine Kd.C_drewN ?_ _) | (with_reducible refine Kd.C_drew ?_))); (case side2 => exact (Kd.R_reads' HO_11.out).2.1); rintro e w' ⟨rfl, ⟨nd, rfl⟩⟩; refine ⟨_, rfl, ?_⟩))
                go_ret
                exact ⟨by first | rfl | (simp [errW_none, errW_some] <;> rfl) | (simp [*, errW_none, errW_some] <;> rfl), pbs HB⟩
          ·rw [if_neg c58] at H
           have c58b0 : (t588 == t586) = false := beq_eq_false_iff_ne.mpr c58
           have c58b1 : (t588 != t586) = true := bne_iff_ne.mpr c58
           obtain rfl := Option.some.inj H
           obtain ⟨Ao82, co82, eo82⟩ := Kd.R_slice HO_11.out
           subst eo82
           go_wp2_with (first | ((with_reducible refine gate_callee (f := 18) rfl ?_); refine goesL_ (some 74) rfl rfl Try.func18 (by kernel_rfl) rfl #[.slice Ao82 t574.length co82, .int .i64 1] rfl (by (try simp only [List.map_toArray, List.map_cons, List.map_nil]); first | done | rfl | (simp only [List.length_drop, List.length_take]; rfl)) ?_; (with_reducible refine (laws_markSpotS.calls kj37 (fun k_ => some k_ = (.slice Ao82 t574.length co82 : Value).ownBlock) (.slice Ao82 t574.length co82) t574 1 t586 t587 w _ ?side1 ?side2 A53.out).mono ?_); (case side1 => repeat (first | (with_reducible first | exact HB.out | apply below_alloc | apply pw_below_drewN | apply below_drew1 | refine below_set ?_ GE556.out) | exact HB.out)); (case side2 => exact Kd.R_tight rfl HO_11.out); rintro e w83 ⟨rfl, hy0, hb, hkp⟩; refine ⟨_, rfl, ?_⟩; have n0_ := Aside0.mk (Kd.R_mono (ok' := fun k_ => some k_ ≠ (.slice Ao82 t574.length co82 : Value).ownBlock) (Kd.R_keptB (HO_8.out) hkp (fun k_ hk_ hs_ => (hk_) hs_)) (fun k_ hk_ => hk_.1)); have n1_ := Aside0.mk (Kd.R_reok rfl hy0 (fun k_ e_ => HO_11.out.1 k_ e_)); have n2_ := Aside0.mk (blk_kept (pk BK556) hkp (fun hs_ => (fun e_ => (Kd.R_ne HO_11.out BK556.out (by decide)) e_) hs_)); have n3_ := Aside0.mk (hb); clear HO_8; clear HO_11; clear BK556; clear HB; have HO_8 := n0_; have HO_11 := n1_; have BK556 := n2_; have HB := n3_; clear n0_ n1_ n2_ n3_; (try clear hb); (try clear hkp); (try clear hy0)) | ((with_reducible refine gate_callee (f := 19) rfl ?_); refine goesL_ (some 77) rfl rfl Try.func19 (by kernel_rfl) rfl #[.slice Ao82 t587.length co82, .int .i64 1] rfl (by (try simp only [List.map_toArray, List.map_cons, List.map_nil]); first | done | (rw [show t587.length = t574.length from (Kd.R_reads' HO_11.out).1.symm] <;> rfl) | rfl | (simp only [List.length_drop, List.length_take]; rfl)) ?_; (with_reducible refine (laws_heldSpotS.calls kj37 _ _ t587 1 t588 _ ?side1 ?side2 A54.out).mono ?_); (case side1 => repeat (first | exact (Kd.R_reads' HO_11.out).2.2 | (with_reducible refine Kd.C_alloc ?_ _) | (with_reducible refine Kd.C_drewN ?_ _) | (with_reducible refine Kd.C_drew ?_))); (case side2 => rw [show t587.length = t574.length from (Kd.R_reads' HO_11.out).1.symm]; exact (Kd.R_reads' HO_11.out).2.1); rintro e w' ⟨rfl, ⟨nd, rfl⟩⟩; refine ⟨_, rfl, ?_⟩))
           go_ret
           exact ⟨by first | rfl | (simp [errW_none, errW_some] <;> rfl) | (simp [*, errW_none, errW_some] <;> rfl), pbs HB⟩
     ·replace c36 := Bool.eq_false_iff.mpr c36
      subst c36
      have H1 : (some false) = some r := by rw [if_neg (show ¬ (false = true) by decide)] at H; exact H
      clear H
      have H := H1
      clear H1
      obtain rfl := Option.some.inj H
      go_wp2_with (first | ((with_reducible refine gate_callee (f := 22) rfl ?_); refine goesL_ (some 53) rfl rfl Try.func22 (by kernel_rfl) rfl #[.slice A1 l1.length c1] rfl (by (try simp only [List.map_toArray, List.map_cons, List.map_nil]); first | done | rfl | (simp only [List.length_drop, List.length_take]; rfl)) ?_; (with_reducible refine (laws_toSpotS.calls kj12 _ _ l1 t579 _ ?side1 ?side2 A34.out).mono ?_); (case side1 => repeat (first | exact (Kd.C_below HR1.out HB.out) | (with_reducible refine Kd.C_alloc ?_ _) | (with_reducible refine Kd.C_drewN ?_ _) | (with_reducible refine Kd.C_drew ?_))); (case side2 => exact HC1.out); rintro e w84 ⟨v580, rfl, ho0, hb⟩; refine ⟨_, rfl, ?_⟩; have n0_ := Aside0.mk (Kd.R_elder' (by (with_reducible repeat (first | apply Kd.R_alloc | apply Kd.R_drewN | apply Kd.R_drew)); exact HO_8.out) (Kd.R_base ho0) hb); have n1_ := Aside0.mk (Kd.R_elder' (by (with_reducible repeat (first | apply Kd.R_alloc | apply Kd.R_drewN | apply Kd.R_drew)); exact HO_10.out) (Kd.R_base ho0) hb); have n2_ := Aside0.mk (Kd.R_elder' (by (with_reducible repeat (first | apply Kd.R_alloc | apply Kd.R_drewN | apply Kd.R_drew)); exact HO_11.out) (Kd.R_base ho0) hb); have n3_ := Aside0.mk (Kd.R_lower (Kd.R_new' (Kd.R_new' (Kd.R_new' ho0 (Kd.R_lt (by (with_reducible repeat (first | apply Kd.R_alloc | apply Kd.R_drewN | apply Kd.R_drew)); exact HO_8.out))) (Kd.R_lt (by (with_reducible repeat (first | apply Kd.R_alloc | apply Kd.R_drewN | apply Kd.R_drew)); exact HO_10.out))) (Kd.R_lt (by (with_reducible repeat (first | apply Kd.R_alloc | apply Kd.R_drewN | apply Kd.R_drew)); exact HO_11.out))) (below_size (by repeat (first | (with_reducible first | exact HB.out | apply below_alloc | apply pw_below_drewN | apply below_drew1 | refine below_set ?_ GE556.out) | exact HB.out)))); have n4_ := bkb BK556 hb; have n5_ := bst HB hb; clear HO_8; clear HO_10; clear HO_11; clear BK556; clear HB; have HO_8 := n0_; have HO_10 := n1_; have HO_11 := n2_; have HO581 := n3_; have BK556 := n4_; have HB := n5_; clear n0_ n1_ n2_ n3_ n4_ n5_; (try clear hb); (try clear hb2); (try clear hk); (try clear hi); (try clear ho0); obtain ⟨Ao85, co85, eo85⟩ := Kd.R_slice HO581.out; subst eo85) | ((with_reducible refine gate_callee (f := 17) rfl ?_); refine goesL_ (some 54) rfl rfl Try.func17 (by kernel_rfl) rfl #[.slice Ao23 t568.length co23, .slice Ao85 t579.length co85] rfl (by (try simp only [List.map_toArray, List.map_cons, List.map_nil]); first | done | rfl | (simp only [List.length_drop, List.length_take]; rfl)) ?_; (with_reducible refine (laws_eqSpotS.calls kj12 _ _ t568 _ _ t579 false _ ?side1 ?side2 ?side3 ?side4 A35.out).mono ?_); (case side1 => repeat (first | exact (Kd.R_reads' HO_10.out).2.2 | (with_reducible refine Kd.C_alloc ?_ _) | (with_reducible refine Kd.C_drewN ?_ _) | (with_reducible refine Kd.C_drew ?_))); (case side2 => exact (Kd.R_reads' HO_10.out).2.1); (case side3 => repeat (first | exact (Kd.R_reads' HO581.out).2.2 | (with_reducible refine Kd.C_alloc ?_ _) | (with_reducible refine Kd.C_drewN ?_ _) | (with_reducible refine Kd.C_drew ?_))); (case side4 => exact (Kd.R_reads' HO581.out).2.1); rintro e w86 ⟨rfl, hb⟩; refine ⟨_, rfl, ?_⟩; have n0_ := krb HO_8 hb; have n1_ := krb HO_10 hb; have n2_ := krb HO_11 hb; have n3_ := krb HO581 hb; have n4_ := bkb BK556 hb; have n5_ := bst HB hb; clear HO_8; clear HO_10; clear HO_11; clear HO581; clear BK556; clear HB; have HO_8 := n0_; have HO_10 := n1_; have HO_11 := n2_; have HO581 := n3_; have BK556 := n4_; have HB := n5_; clear n0_ n1_ n2_ n3_ n4_ n5_; (try clear hb); (try clear hb2); (try clear hk); (try clear hi)))
      go_ret
      exact ⟨by first | rfl | (simp [errW_none, errW_some] <;> rfl) | (simp [*, errW_none, errW_some] <;> rfl), pbs HB⟩
end Go.Proofs.Ytoiiabnnddlcbaa.PB
end
section
namespace Go.Proofs.Ytoiiabnnddlcbaa.PB
open Go.RowKit Go.Proofs.YtoiiabnnddlcbaaW.PrintWords Go.Proofs.YtoiiabnnddlcbaaW.PrintLast Go.Proofs.YtoiiabnnddlcbaaW.PrintMore Go.Proofs.Ytoiiabnnddlcbaa.La Go.Proofs.Ytoiiabnnddlcbaa.Mp
attribute [local go_sem] max2_int min2_int max_two min_two max_three min_three max_four min_four   -- for this text's walks alone
set_option linter.unusedVariables false
set_option linter.unusedSimpArgs false
mutual
def spec_l06Calls.l0 : Nat → List Int → Int → Int → Int → Option (List Int × Bool)
 | 0, _, _, _, _ => none
 | k + 1, x0, x2, x3, x10 => if x10 < (x0.length : Int) then (if 0 ≤ x10 then ((spec_l06Calls.f k x0 (wrap64 (x10 + 1)) (wrap64 (x2 - 1)) (Go.bits .andNot .u32 x3 (rd x0 x10))).bind fun bt367 => (if bt367.2 = true then ((some (([x10] : List Int) : List Int)).bind fun y371 => (if y371.length + bt367.1.length < 17592186044416 then (some ((y371 ++ bt367.1), true)) else (none))) else (spec_l06Calls.l0 k x0 x2 x3 (wrap64 (x10 + 1))))) else (none)) else (some ((([] : List Int)), false))
def spec_l06Calls.f : Nat → List Int → Int → Int → Int → Option (List Int × Bool)
 | 0, _, _, _, _ => none
 | k + 1, l0, a1, a2, a3 => if a3 = 0 then (some ((([] : List Int)), (a2 == 0))) else (if a2 = 0 then (some ((([] : List Int)), false)) else (spec_l06Calls.l0 k l0 a2 a3 a1))
end
theorem spec_l06Calls.mono_l : ∀ k, (∀ y0 y1 y2 y3, LeO (spec_l06Calls.f k y0 y1 y2 y3) (spec_l06Calls.f (k + 1) y0 y1 y2 y3)) ∧ (∀ y0 y1 y2 y3, LeO (spec_l06Calls.l0 k y0 y1 y2 y3) (spec_l06Calls.l0 (k + 1) y0 y1 y2 y3))
 | 0 => ⟨fun _ _ _ _ r h => by simp [spec_l06Calls.f] at h, fun _ _ _ _ r h => by simp [spec_l06Calls.l0] at h⟩
 | k + 1 => by
  obtain ⟨ih0, ih1⟩ := spec_l06Calls.mono_l k
  refine ⟨?_, ?_⟩
  ·intro y0 y1 y2 y3
   unfold spec_l06Calls.f
   repeat' first
   | (with_reducible exact ih0 _ _ _ _)
   | (with_reducible exact ih1 _ _ _ _)
   | (with_reducible exact LeO.refl _)
   | (with_reducible exact LeO.none _)
   | (with_reducible refine LeO.ite ?_ ?_)
   | (with_reducible refine LeO.bind ?_ (fun _ => ?_))
   | exact ih0 _ _ _ _
   | exact ih1 _ _ _ _
   | exact LeO.none _
   | refine LeO.ite ?_ ?_
   | refine LeO.bind ?_ (fun _ => ?_)
  ·intro y0 y1 y2 y3
   unfold spec_l06Calls.l0
   repeat' first
   | (with_reducible exact ih0 _ _ _ _)
   | (with_reducible exact ih1 _ _ _ _)
   | (with_reducible exact LeO.refl _)
   | (with_reducible exact LeO.none _)
   | (with_reducible refine LeO.ite ?_ ?_)
   | (with_reducible refine LeO.bind ?_ (fun _ => ?_))
   | exact ih0 _ _ _ _
   | exact ih1 _ _ _ _
   | exact LeO.none _
   | refine LeO.ite ?_ ?_
   | refine LeO.bind ?_ (fun _ => ?_)
theorem spec_l06Calls.mono : ∀ a0 a1 a2 a3 k, LeO (spec_l06Calls.f k a0 a1 a2 a3) (spec_l06Calls.f (k + 1) a0 a1 a2 a3) := by
 intro a0 a1 a2 a3 k
 obtain ⟨ih0, ih1⟩ := spec_l06Calls.mono_l k
 exact ih0 a0 a1 a2 a3
mutual
def spec_FewestCalls.l0 : Nat → List (S34) → List (S34) → List Int → List (S34) → Int → Option ((List (S34)) × Int)
 | 0, _, _, _, _, _ => none
 | k + 1, x1, x8, x10, x11, x12 => if x12 ≤ 3 then (if 0 ≤ (IntKind.u64.wrap ((x1.length : Int))) then ((spec_l06Calls.f k x10 0 x12 (((shl .u32 1 (IntKind.u64.wrap ((x1.length : Int)))) - 1) % 4294967296)).bind fun bt391 => (if bt391.2 = true then (spec_FewestCalls.l1 k x8 x11 bt391.1 0) else (spec_FewestCalls.l0 k x1 x8 x10 x11 (wrap64 (x12 + 1))))) else (none)) else (some (x8, 6))
def spec_FewestCalls.l1 : Nat → List (S34) → List (S34) → List Int → Int → Option ((List (S34)) × Int)
 | 0, _, _, _, _ => none
 | k + 1, x8, x11, x13, x15 => if x15 < (x13.length : Int) then (if 0 ≤ x15 then (if 0 ≤ (rd x13 x15) then (if (rd x13 x15) < (x11.length : Int) then (if x8.length < 70368744177664 then (spec_FewestCalls.l1 k (x8 ++ [(⟨(rd_T34 x11 (rd x13 x15)).f0, (rd_T34 x11 (rd x13 x15)).f1⟩ : S34)]) x11 x13 (wrap64 (x15 + 1))) else (none)) else (none)) else (none)) else (none)) else (some (x8, 0))
end
def spec_FewestCalls.f (k : Nat) (a0_0 : Int) (a0_1 : Int) (a0_2 : LA 10) (l1 : List (S34)) (a2 : Int) : Option ((List (S34)) × Int) := (some (([] : List (S34)) : List (S34))).bind fun y381 => ((spec_l06Calling.f k a0_0 a0_1 a0_2 l1 a2).bind fun t384 => (if t384 = 0 then ((spec_l06Heard.f k a0_0 a0_1 a0_2 l1 a2).bind fun t385 => ((spec_l01All.f k a0_0 a0_1 a0_2).bind fun t388 => (spec_FewestCalls.l0 k l1 y381 t385 t388 0))) else (some (y381, t384))))
theorem spec_FewestCalls.mono_l : ∀ k, (∀ y0 y1 y2 y3 y4, LeO (spec_FewestCalls.l0 k y0 y1 y2 y3 y4) (spec_FewestCalls.l0 (k + 1) y0 y1 y2 y3 y4)) ∧ (∀ y0 y1 y2 y3, LeO (spec_FewestCalls.l1 k y0 y1 y2 y3) (spec_FewestCalls.l1 (k + 1) y0 y1 y2 y3))
 | 0 => ⟨fun _ _ _ _ _ r h => by simp [spec_FewestCalls.l0] at h, fun _ _ _ _ r h => by simp [spec_FewestCalls.l1] at h⟩
 | k + 1 => by
  obtain ⟨ih0, ih1⟩ := spec_FewestCalls.mono_l k
  refine ⟨?_, ?_⟩
  ·intro y0 y1 y2 y3 y4
   unfold spec_FewestCalls.l0
   repeat' first
   | (with_reducible exact ih0 _ _ _ _ _)
   | (with_reducible exact ih1 _ _ _ _)
   | (with_reducible exact spec_l01All.mono _ _ _ _)
   | (with_reducible exact spec_l06Calling.mono _ _ _ _ _ _)
   | (with_reducible exact spec_l06Calls.mono _ _ _ _ _)
   | (with_reducible exact spec_l06Heard.mono _ _ _ _ _ _)
   | (with_reducible exact LeO.refl _)
   | (with_reducible exact LeO.none _)
   | (with_reducible refine LeO.ite ?_ ?_)
   | (with_reducible refine LeO.bind ?_ (fun _ => ?_))
   | exact ih0 _ _ _ _ _
   | exact ih1 _ _ _ _
   | exact spec_l01All.mono _ _ _ _
   | exact spec_l06Calling.mono _ _ _ _ _ _
   | exact spec_l06Calls.mono _ _ _ _ _
   | exact spec_l06Heard.mono _ _ _ _ _ _
   | exact LeO.none _
   | refine LeO.ite ?_ ?_
   | refine LeO.bind ?_ (fun _ => ?_)
  ·intro y0 y1 y2 y3
   unfold spec_FewestCalls.l1
   repeat' first
   | (with_reducible exact ih0 _ _ _ _ _)
   | (with_reducible exact ih1 _ _ _ _)
   | (with_reducible exact spec_l01All.mono _ _ _ _)
   | (with_reducible exact spec_l06Calling.mono _ _ _ _ _ _)
   | (with_reducible exact spec_l06Calls.mono _ _ _ _ _)
   | (with_reducible exact spec_l06Heard.mono _ _ _ _ _ _)
   | (with_reducible exact LeO.refl _)
   | (with_reducible exact LeO.none _)
   | (with_reducible refine LeO.ite ?_ ?_)
   | (with_reducible refine LeO.bind ?_ (fun _ => ?_))
   | exact ih0 _ _ _ _ _
   | exact ih1 _ _ _ _
   | exact spec_l01All.mono _ _ _ _
   | exact spec_l06Calling.mono _ _ _ _ _ _
   | exact spec_l06Calls.mono _ _ _ _ _
   | exact spec_l06Heard.mono _ _ _ _ _ _
   | exact LeO.none _
   | refine LeO.ite ?_ ?_
   | refine LeO.bind ?_ (fun _ => ?_)
theorem spec_FewestCalls.mono : ∀ a0 a1 a2 a3 a4 k, LeO (spec_FewestCalls.f k a0 a1 a2 a3 a4) (spec_FewestCalls.f (k + 1) a0 a1 a2 a3 a4) := by
 intro a0 a1 a2 a3 a4 k
 obtain ⟨ih0, ih1⟩ := spec_FewestCalls.mono_l k
 unfold spec_FewestCalls.f
 repeat' first
   | (with_reducible exact ih0 _ _ _ _ _)
   | (with_reducible exact ih1 _ _ _ _)
   | (with_reducible exact spec_l01All.mono _ _ _ _)
   | (with_reducible exact spec_l06Calling.mono _ _ _ _ _ _)
   | (with_reducible exact spec_l06Calls.mono _ _ _ _ _)
   | (with_reducible exact spec_l06Heard.mono _ _ _ _ _ _)
   | (with_reducible exact LeO.refl _)
   | (with_reducible exact LeO.none _)
   | (with_reducible refine LeO.ite ?_ ?_)
   | (with_reducible refine LeO.bind ?_ (fun _ => ?_))
   | exact ih0 _ _ _ _ _
   | exact ih1 _ _ _ _
   | exact spec_l01All.mono _ _ _ _
   | exact spec_l06Calling.mono _ _ _ _ _ _
   | exact spec_l06Calls.mono _ _ _ _ _
   | exact spec_l06Heard.mono _ _ _ _ _ _
   | exact LeO.none _
   | refine LeO.ite ?_ ?_
   | refine LeO.bind ?_ (fun _ => ?_)
mutual
def impl_firstCalls.l0 : Nat → List Int → Int → Int → Int → Int → Option (List Int × Bool)
 | 0, _, _, _, _, _ => none
 | k + 1, x0, x2, x3, x4, x12 => if x12 < (x0.length : Int) then (if 0 ≤ x12 then ((impl_firstCalls.f k x0 (wrap64 (x12 + 1)) (wrap64 (x2 - 1)) (Go.bits .or .u32 x3 (rd x0 x12)) x4).bind fun bt441 => (if bt441.2 = true then ((some (([x12] : List Int) : List Int)).bind fun y445 => (if y445.length + bt441.1.length < 17592186044416 then (some ((y445 ++ bt441.1), true)) else (none))) else (impl_firstCalls.l0 k x0 x2 x3 x4 (wrap64 (x12 + 1))))) else (none)) else (some (([] : List Int), false))
def impl_firstCalls.f : Nat → List Int → Int → Int → Int → Int → Option (List Int × Bool)
 | 0, _, _, _, _, _ => none
 | k + 1, l0, a1, a2, a3, a4 => if a2 = 0 then (some (([] : List Int), (a3 == a4))) else (impl_firstCalls.l0 k l0 a2 a3 a4 a1)
end
theorem impl_firstCalls.mono_l : ∀ k, (∀ y0 y1 y2 y3 y4, LeO (impl_firstCalls.f k y0 y1 y2 y3 y4) (impl_firstCalls.f (k + 1) y0 y1 y2 y3 y4)) ∧ (∀ y0 y1 y2 y3 y4, LeO (impl_firstCalls.l0 k y0 y1 y2 y3 y4) (impl_firstCalls.l0 (k + 1) y0 y1 y2 y3 y4))
 | 0 => ⟨fun _ _ _ _ _ r h => by simp [impl_firstCalls.f] at h, fun _ _ _ _ _ r h => by simp [impl_firstCalls.l0] at h⟩
 | k + 1 => by
  obtain ⟨ih0, ih1⟩ := impl_firstCalls.mono_l k
  refine ⟨?_, ?_⟩
  ·intro y0 y1 y2 y3 y4
   unfold impl_firstCalls.f
   repeat' first
   | (with_reducible exact ih0 _ _ _ _ _)
   | (with_reducible exact ih1 _ _ _ _ _)
   | (with_reducible exact LeO.refl _)
   | (with_reducible exact LeO.none _)
   | (with_reducible refine LeO.ite ?_ ?_)
   | (with_reducible refine LeO.bind ?_ (fun _ => ?_))
   | exact ih0 _ _ _ _ _
   | exact ih1 _ _ _ _ _
   | exact LeO.none _
   | refine LeO.ite ?_ ?_
   | refine LeO.bind ?_ (fun _ => ?_)
  ·intro y0 y1 y2 y3 y4
   unfold impl_firstCalls.l0
   repeat' first
   | (with_reducible exact ih0 _ _ _ _ _)
   | (with_reducible exact ih1 _ _ _ _ _)
   | (with_reducible exact LeO.refl _)
   | (with_reducible exact LeO.none _)
   | (with_reducible refine LeO.ite ?_ ?_)
   | (with_reducible refine LeO.bind ?_ (fun _ => ?_))
   | exact ih0 _ _ _ _ _
   | exact ih1 _ _ _ _ _
   | exact LeO.none _
   | refine LeO.ite ?_ ?_
   | refine LeO.bind ?_ (fun _ => ?_)
theorem impl_firstCalls.mono : ∀ a0 a1 a2 a3 a4 k, LeO (impl_firstCalls.f k a0 a1 a2 a3 a4) (impl_firstCalls.f (k + 1) a0 a1 a2 a3 a4) := by
 intro a0 a1 a2 a3 a4 k
 obtain ⟨ih0, ih1⟩ := impl_firstCalls.mono_l k
 exact ih0 a0 a1 a2 a3 a4
end Go.Proofs.Ytoiiabnnddlcbaa.PB
end
section
namespace Go.Proofs.Ytoiiabnnddlcbaa.PB
open Go.RowKit Go.Proofs.YtoiiabnnddlcbaaW.PrintWords Go.Proofs.YtoiiabnnddlcbaaW.PrintLast Go.Proofs.YtoiiabnnddlcbaaW.PrintMore Go.Proofs.Ytoiiabnnddlcbaa.La Go.Proofs.Ytoiiabnnddlcbaa.Mp
attribute [local go_sem] max2_int min2_int max_two min_two max_three min_three max_four min_four   -- for this text's walks alone
set_option linter.unusedVariables false
set_option linter.unusedSimpArgs false
def spec_l01Near.l0 : Nat → Int → List (S34) → List (S34) → Int → LA 100 → Option ((List (S34)))
 | 0, _, _, _, _, _ => none
 | k + 1, x2, x8, x9, x10, x177000 => if x10 < (x9.length : Int) then (if 0 ≤ x10 then (if 0 ≤ ((rd_T34 x9 x10).f1) then (if ((rd_T34 x9 x10).f1) < 10 then (if 0 ≤ ((rd_T34 x9 x10).f0) then (if ((rd_T34 x9 x10).f0) < 10 then ((spec_l00In.f (rd x177000.l (((rd_T34 x9 x10).f1) * 10 + ((rd_T34 x9 x10).f0))) 0 x2).bind fun t185 => (if t185 = true then (if x8.length < 70368744177664 then (spec_l01Near.l0 k x2 (x8 ++ [(⟨(rd_T34 x9 x10).f0, (rd_T34 x9 x10).f1⟩ : S34)]) x9 (wrap64 (x10 + 1)) x177000) else (none)) else (spec_l01Near.l0 k x2 x8 x9 (wrap64 (x10 + 1)) x177000))) else (none)) else (none)) else (none)) else (none)) else (none)) else (some x8)
def spec_l01Near.f (k : Nat) (s0_0 : Int) (s0_1 : Int) (s0_2 : LA 10) (a1_0 : Int) (a1_1 : Int) (a2 : Int) : Option ((List (S34))) := (spec_l01Steps.f k s0_0 s0_1 s0_2 a1_0 a1_1).bind fun t175 => ((spec_l01All.f k s0_0 s0_1 s0_2).bind fun t180 => (spec_l01Near.l0 k a2 (([] : List (S34))) t180 0 t175))
theorem spec_l01Near.mono_l : ∀ k, (∀ y0 y1 y2 y3 y4, LeO (spec_l01Near.l0 k y0 y1 y2 y3 y4) (spec_l01Near.l0 (k + 1) y0 y1 y2 y3 y4))
 | 0 => fun _ _ _ _ _ r h => by simp [spec_l01Near.l0] at h
 | k + 1 => by
  have ih0 := spec_l01Near.mono_l k
  ·intro y0 y1 y2 y3 y4
   unfold spec_l01Near.l0
   repeat' first
   | (with_reducible exact ih0 _ _ _ _ _)
   | (with_reducible exact spec_l01All.mono _ _ _ _)
   | (with_reducible exact spec_l01Steps.mono _ _ _ _ _ _)
   | (with_reducible exact LeO.refl _)
   | (with_reducible exact LeO.none _)
   | (with_reducible refine LeO.ite ?_ ?_)
   | (with_reducible refine LeO.bind ?_ (fun _ => ?_))
   | exact ih0 _ _ _ _ _
   | exact spec_l01All.mono _ _ _ _
   | exact spec_l01Steps.mono _ _ _ _ _ _
   | exact LeO.none _
   | refine LeO.ite ?_ ?_
   | refine LeO.bind ?_ (fun _ => ?_)
theorem spec_l01Near.mono : ∀ a0 a1 a2 a3 a4 a5 k, LeO (spec_l01Near.f k a0 a1 a2 a3 a4 a5) (spec_l01Near.f (k + 1) a0 a1 a2 a3 a4 a5) := by
 intro a0 a1 a2 a3 a4 a5 k
 have ih0 := spec_l01Near.mono_l k
 unfold spec_l01Near.f
 repeat' first
   | (with_reducible exact ih0 _ _ _ _ _)
   | (with_reducible exact spec_l01All.mono _ _ _ _)
   | (with_reducible exact spec_l01Steps.mono _ _ _ _ _ _)
   | (with_reducible exact LeO.refl _)
   | (with_reducible exact LeO.none _)
   | (with_reducible refine LeO.ite ?_ ?_)
   | (with_reducible refine LeO.bind ?_ (fun _ => ?_))
   | exact ih0 _ _ _ _ _
   | exact spec_l01All.mono _ _ _ _
   | exact spec_l01Steps.mono _ _ _ _ _ _
   | exact LeO.none _
   | refine LeO.ite ?_ ?_
   | refine LeO.bind ?_ (fun _ => ?_)
def spec_CalledFrom.f (k : Nat) (a0_0 : Int) (a0_1 : Int) (a0_2 : LA 10) (a1_0 : Int) (a1_1 : Int) (a2 : Int) : Option ((List (S34)) × Int) := (spec_l06Loud.f a2).bind fun t195 => ((spec_l06Asked.f k a0_0 a0_1 a0_2 (([(⟨a1_0, a1_1⟩ : S34)] : List (S34))) t195).bind fun t196 => (if t196 = 0 then ((spec_l01Near.f k a0_0 a0_1 a0_2 a1_0 a1_1 a2).bind fun t197 => (some (t197, 0))) else (some ((([] : List (S34))), t196))))
theorem spec_CalledFrom.mono : ∀ a0 a1 a2 a3 a4 a5 k, LeO (spec_CalledFrom.f k a0 a1 a2 a3 a4 a5) (spec_CalledFrom.f (k + 1) a0 a1 a2 a3 a4 a5) := by
 intro a0 a1 a2 a3 a4 a5 k
 unfold spec_CalledFrom.f
 repeat' first
   | (with_reducible exact spec_l01Near.mono _ _ _ _ _ _ _)
   | (with_reducible exact spec_l06Asked.mono _ _ _ _ _ _)
   | (with_reducible exact LeO.refl _)
   | (with_reducible exact LeO.none _)
   | (with_reducible refine LeO.ite ?_ ?_)
   | (with_reducible refine LeO.bind ?_ (fun _ => ?_))
   | exact spec_l01Near.mono _ _ _ _ _ _ _
   | exact spec_l06Asked.mono _ _ _ _ _ _
   | exact LeO.none _
   | refine LeO.ite ?_ ?_
   | refine LeO.bind ?_ (fun _ => ?_)
def impl_Room_near_1.f (a0_0 : Int) (a0_1 : Int) (s1_0 : MP) (s2_0 : Int) : Option (Bool) := if mhas s1_0 a0_0 a0_1 = true then (some (decide ((mval s1_0 a0_0 a0_1) ≤ s2_0))) else (some false)
end Go.Proofs.Ytoiiabnnddlcbaa.PB
end
section
namespace Go.Proofs.Ytoiiabnnddlcbaa.PB
open Go.RowKit Go.Proofs.YtoiiabnnddlcbaaW.PrintWords Go.Proofs.YtoiiabnnddlcbaaW.PrintLast Go.Proofs.YtoiiabnnddlcbaaW.PrintMore Go.Proofs.Ytoiiabnnddlcbaa.La Go.Proofs.Ytoiiabnnddlcbaa.Mp
attribute [local go_sem] max2_int min2_int max_two min_two max_three min_three max_four min_four   -- for this text's walks alone
set_option linter.unusedVariables false
set_option linter.unusedSimpArgs false
mutual
def impl_Room_cells__111.l0 : Nat → List (S34) → Int → Int → Int → MP → Int → Int → LA 10 → Option ((List (S34)))
 | 0, _, _, _, _, _, _, _, _ => none
 | k + 1, x5, x11, x12, x3000, x264000, x265000, x265001, x265002 => if x12 < x11 then (impl_Room_cells__111.l1 k x5 x12 x11 x12 x265000 0 x3000 x264000 x265000 x265001 x265002) else (some x5)
def impl_Room_cells__111.l1 : Nat → List (S34) → Int → Int → Int → Int → Int → Int → MP → Int → Int → LA 10 → Option ((List (S34)))
 | 0, _, _, _, _, _, _, _, _, _, _, _ => none
 | k + 1, x5, x6, x11, x12, x16, x17, x3000, x264000, x265000, x265001, x265002 => if x17 < x16 then ((impl_Room_near_1.f x17 x6 x264000 x3000).bind fun t269 => (if t269 = true then (if x5.length < 70368744177664 then (impl_Room_cells__111.l1 k (x5 ++ [(⟨x17, x6⟩ : S34)]) x6 x11 x12 x16 (IntKind.i8.wrap (x17 + 1)) x3000 x264000 x265000 x265001 x265002) else (none)) else (impl_Room_cells__111.l1 k x5 x6 x11 x12 x16 (IntKind.i8.wrap (x17 + 1)) x3000 x264000 x265000 x265001 x265002))) else (impl_Room_cells__111.l0 k x5 x11 (IntKind.i8.wrap (x12 + 1)) x3000 x264000 x265000 x265001 x265002)
end
def impl_Room_cells__111.f (k : Nat) (a0_0 : Int) (a0_1 : Int) (a0_2 : LA 10) (s1_0 : MP) (s2_0 : Int) : Option ((List (S34))) := impl_Room_cells__111.l0 k (([] : List (S34))) a0_1 0 s2_0 s1_0 a0_0 a0_1 a0_2
theorem impl_Room_cells__111.mono_l : ∀ k, (∀ y0 y1 y2 y3 y4 y5 y6 y7, LeO (impl_Room_cells__111.l0 k y0 y1 y2 y3 y4 y5 y6 y7) (impl_Room_cells__111.l0 (k + 1) y0 y1 y2 y3 y4 y5 y6 y7)) ∧ (∀ y0 y1 y2 y3 y4 y5 y6 y7 y8 y9 y10, LeO (impl_Room_cells__111.l1 k y0 y1 y2 y3 y4 y5 y6 y7 y8 y9 y10) (impl_Room_cells__111.l1 (k + 1) y0 y1 y2 y3 y4 y5 y6 y7 y8 y9 y10))
 | 0 => ⟨fun _ _ _ _ _ _ _ _ r h => by simp [impl_Room_cells__111.l0] at h, fun _ _ _ _ _ _ _ _ _ _ _ r h => by simp [impl_Room_cells__111.l1] at h⟩
 | k + 1 => by
  obtain ⟨ih0, ih1⟩ := impl_Room_cells__111.mono_l k
  refine ⟨?_, ?_⟩
  ·intro y0 y1 y2 y3 y4 y5 y6 y7
   unfold impl_Room_cells__111.l0
   repeat' first
   | (with_reducible exact ih0 _ _ _ _ _ _ _ _)
   | (with_reducible exact ih1 _ _ _ _ _ _ _ _ _ _ _)
   | (with_reducible exact LeO.refl _)
   | (with_reducible exact LeO.none _)
   | (with_reducible refine LeO.ite ?_ ?_)
   | (with_reducible refine LeO.bind ?_ (fun _ => ?_))
   | exact ih0 _ _ _ _ _ _ _ _
   | exact ih1 _ _ _ _ _ _ _ _ _ _ _
   | exact LeO.none _
   | refine LeO.ite ?_ ?_
   | refine LeO.bind ?_ (fun _ => ?_)
  ·intro y0 y1 y2 y3 y4 y5 y6 y7 y8 y9 y10
   unfold impl_Room_cells__111.l1
   repeat' first
   | (with_reducible exact ih0 _ _ _ _ _ _ _ _)
   | (with_reducible exact ih1 _ _ _ _ _ _ _ _ _ _ _)
   | (with_reducible exact LeO.refl _)
   | (with_reducible exact LeO.none _)
   | (with_reducible refine LeO.ite ?_ ?_)
   | (with_reducible refine LeO.bind ?_ (fun _ => ?_))
   | exact ih0 _ _ _ _ _ _ _ _
   | exact ih1 _ _ _ _ _ _ _ _ _ _ _
   | exact LeO.none _
   | refine LeO.ite ?_ ?_
   | refine LeO.bind ?_ (fun _ => ?_)
theorem impl_Room_cells__111.mono : ∀ a0 a1 a2 a3 a4 k, LeO (impl_Room_cells__111.f k a0 a1 a2 a3 a4) (impl_Room_cells__111.f (k + 1) a0 a1 a2 a3 a4) := by
 intro a0 a1 a2 a3 a4 k
 obtain ⟨ih0, ih1⟩ := impl_Room_cells__111.mono_l k
 unfold impl_Room_cells__111.f
 repeat' first
   | (with_reducible exact ih0 _ _ _ _ _ _ _ _)
   | (with_reducible exact ih1 _ _ _ _ _ _ _ _ _ _ _)
   | (with_reducible exact LeO.refl _)
   | (with_reducible exact LeO.none _)
   | (with_reducible refine LeO.ite ?_ ?_)
   | (with_reducible refine LeO.bind ?_ (fun _ => ?_))
   | exact ih0 _ _ _ _ _ _ _ _
   | exact ih1 _ _ _ _ _ _ _ _ _ _ _
   | exact LeO.none _
   | refine LeO.ite ?_ ?_
   | refine LeO.bind ?_ (fun _ => ?_)
def impl_Room_near.f (k : Nat) (a0_0 : Int) (a0_1 : Int) (a0_2 : LA 10) (a1_0 : Int) (a1_1 : Int) (a2 : Int) : Option ((List (S34))) := (impl_Room_steps.f k a0_0 a0_1 a0_2 a1_0 a1_1).bind fun t276 => ((impl_Room_cells__111.f k a0_0 a0_1 a0_2 t276 a2).bind fun t279 => (some t279))
theorem impl_Room_near.mono : ∀ a0 a1 a2 a3 a4 a5 k, LeO (impl_Room_near.f k a0 a1 a2 a3 a4 a5) (impl_Room_near.f (k + 1) a0 a1 a2 a3 a4 a5) := by
 intro a0 a1 a2 a3 a4 a5 k
 unfold impl_Room_near.f
 repeat' first
   | (with_reducible exact impl_Room_cells__111.mono _ _ _ _ _ _)
   | (with_reducible exact impl_Room_steps.mono _ _ _ _ _ _)
   | (with_reducible exact LeO.refl _)
   | (with_reducible exact LeO.none _)
   | (with_reducible refine LeO.ite ?_ ?_)
   | (with_reducible refine LeO.bind ?_ (fun _ => ?_))
   | exact impl_Room_cells__111.mono _ _ _ _ _ _
   | exact impl_Room_steps.mono _ _ _ _ _ _
   | exact LeO.none _
   | refine LeO.ite ?_ ?_
   | refine LeO.bind ?_ (fun _ => ?_)
end Go.Proofs.Ytoiiabnnddlcbaa.PB
end
