/- The statement FnExactGreedyPosts of this program: what its proof uses, part 13 of 14. The call returns true for all arguments. No condition of its own. -/
import Derived.Test.YtmcjgpbhjpakhaaZFnExactGreedyPosts11
section
namespace Go.Proofs.Ytmcjgpbhjpakhaa.PB
open Go.RowKit Go.Proofs.YtmcjgpbhjpakhaaW.PrintWords Go.Proofs.YtmcjgpbhjpakhaaW.PrintLast Go.Proofs.YtmcjgpbhjpakhaaW.PrintMore Go.Proofs.Ytmcjgpbhjpakhaa.La Go.Proofs.Ytmcjgpbhjpakhaa.Mp
attribute [local go_sem] max2_int min2_int max_two min_two max_three min_three max_four min_four   -- for this text's walks alone
set_option linter.unusedVariables false
set_option linter.unusedSimpArgs false
mutual
def laws_FnExactGreedyPosts.j0 : Nat → List (S57) → Int → List (S54) → Int → List (S54) → List (S54) → Int → Bool → Int → Int → LA 10 → Option (Bool)
 | 0, _, _, _, _, _, _, _, _, _, _, _ => none
 | k + 1, x1, x2, x8, x9, x10, x11, x12, x50, x570000, x570001, x570002 => if x50 = true then (some false) else ((laws_toSpotS.f k x1).bind fun t592 => ((laws_eqSpotS.f k x10 t592).bind fun t595 => (if t595 = true then ((laws_markSpotS.f k x10 1).bind fun bt596 => (if bt596.1 < 0 then (laws_FnExactGreedyPosts.j1 k x1 x2 x8 x9 x11 true x570000 x570001 x570002) else ((laws_eqSpotS.f k x11 x8).bind fun t598 => (if t598 = true then (laws_FnExactGreedyPosts.j1 k x1 x2 x8 x9 x11 (x12 != x9) x570000 x570001 x570002) else (laws_FnExactGreedyPosts.j1 k x1 x2 x8 x9 x11 true x570000 x570001 x570002))))) else (some false))))
def laws_FnExactGreedyPosts.j1 : Nat → List (S57) → Int → List (S54) → Int → List (S54) → Bool → Int → Int → LA 10 → Option (Bool)
 | 0, _, _, _, _, _, _, _, _, _ => none
 | k + 1, x1, x2, x8, x9, x11, x71, x570000, x570001, x570002 => if x71 = true then (some false) else ((laws_markSpotS.f k x11 1).bind fun bt599 => ((laws_heldSpotS.f k bt599.2 1).bind fun t601 => (if t601 < 0 then (some false) else (if t601 = bt599.1 then ((laws_toRoom.f k x570000 x570001 x570002).bind fun bt602 => ((laws_toSpotS.f k x1).bind fun t605 => ((impl_GreedyPosts.f k bt602.1 bt602.2.1 bt602.2.2 t605 x2).bind fun bt608 => ((laws_eqSpotS.f k bt608.1 x8).bind fun t612 => (if t612 = true then (laws_FnExactGreedyPosts.j2 k bt599.2 bt599.1 (bt608.2 != x9)) else (laws_FnExactGreedyPosts.j2 k bt599.2 bt599.1 true)))))) else (some false)))))
def laws_FnExactGreedyPosts.j2 : Nat → List (S54) → Int → Bool → Option (Bool)
 | 0, _, _, _ => none
 | k + 1, x11, x14, x100 => if x100 = true then (some false) else ((laws_heldSpotS.f k x11 1).bind fun t613 => (if t613 < 0 then (some false) else (if t613 = x14 then (some true) else (some false))))
end
def laws_FnExactGreedyPosts.f (k : Nat) (a0_0 : Int) (a0_1 : Int) (a0_2 : LA 10) (l1 : List (S57)) (a2 : Int) : Option (Bool) := (laws_szSpotS.f l1 1048576).bind fun t570 => (if t570 < 0 then (some true) else ((laws_toRoom.f k a0_0 a0_1 a0_2).bind fun bt571 => ((laws_toSpotS.f k l1).bind fun t574 => ((spec_GreedyPosts.f k bt571.1 bt571.2.1 bt571.2.2 t574 a2).bind fun bt577 => ((laws_toSpotS.f k l1).bind fun t581 => ((laws_toRoom.f k a0_0 a0_1 a0_2).bind fun bt584 => ((impl_GreedyPosts.f k bt584.1 bt584.2.1 bt584.2.2 t581 a2).bind fun bt587 => ((laws_eqSpotS.f k bt587.1 bt577.1).bind fun t591 => (if t591 = true then (laws_FnExactGreedyPosts.j0 k l1 a2 bt577.1 bt577.2 t581 bt587.1 bt587.2 (bt587.2 != bt577.2) a0_0 a0_1 a0_2) else (laws_FnExactGreedyPosts.j0 k l1 a2 bt577.1 bt577.2 t581 bt587.1 bt587.2 true a0_0 a0_1 a0_2))))))))))
theorem laws_FnExactGreedyPosts.mono_l : ∀ k, (∀ y0 y1 y2 y3 y4 y5 y6 y7 y8 y9 y10, LeO (laws_FnExactGreedyPosts.j0 k y0 y1 y2 y3 y4 y5 y6 y7 y8 y9 y10) (laws_FnExactGreedyPosts.j0 (k + 1) y0 y1 y2 y3 y4 y5 y6 y7 y8 y9 y10)) ∧ (∀ y0 y1 y2 y3 y4 y5 y6 y7 y8, LeO (laws_FnExactGreedyPosts.j1 k y0 y1 y2 y3 y4 y5 y6 y7 y8) (laws_FnExactGreedyPosts.j1 (k + 1) y0 y1 y2 y3 y4 y5 y6 y7 y8)) ∧ (∀ y0 y1 y2, LeO (laws_FnExactGreedyPosts.j2 k y0 y1 y2) (laws_FnExactGreedyPosts.j2 (k + 1) y0 y1 y2))
 | 0 => ⟨fun _ _ _ _ _ _ _ _ _ _ _ r h => by simp [laws_FnExactGreedyPosts.j0] at h, fun _ _ _ _ _ _ _ _ _ r h => by simp [laws_FnExactGreedyPosts.j1] at h, fun _ _ _ r h => by simp [laws_FnExactGreedyPosts.j2] at h⟩
 | k + 1 => by
  obtain ⟨ih0, ih1, ih2⟩ := laws_FnExactGreedyPosts.mono_l k; refine ⟨?_, ?_, ?_⟩
  ·intro y0 y1 y2 y3 y4 y5 y6 y7 y8 y9 y10
   unfold laws_FnExactGreedyPosts.j0
   repeat' first
   | (with_reducible exact ih0 _ _ _ _ _ _ _ _ _ _ _)
   | (with_reducible exact ih1 _ _ _ _ _ _ _ _ _)
   | (with_reducible exact ih2 _ _ _)
   | (with_reducible exact impl_GreedyPosts.mono _ _ _ _ _ _)
   | (with_reducible exact laws_eqSpotS.mono _ _ _)
   | (with_reducible exact laws_heldSpotS.mono _ _ _)
   | (with_reducible exact laws_markSpotS.mono _ _ _)
   | (with_reducible exact laws_toRoom.mono _ _ _ _)
   | (with_reducible exact laws_toSpotS.mono _ _)
   | (with_reducible exact spec_GreedyPosts.mono _ _ _ _ _ _)
   | (with_reducible exact LeO.refl _)
   | (with_reducible exact LeO.none _)
   | (with_reducible refine LeO.ite ?_ ?_)
   | (with_reducible refine LeO.bind ?_ (fun _ => ?_))
   | exact ih0 _ _ _ _ _ _ _ _ _ _ _
   | exact ih1 _ _ _ _ _ _ _ _ _
   | exact ih2 _ _ _
   | exact impl_GreedyPosts.mono _ _ _ _ _ _
   | exact laws_eqSpotS.mono _ _ _
   | exact laws_heldSpotS.mono _ _ _
   | exact laws_markSpotS.mono _ _ _
   | exact laws_toRoom.mono _ _ _ _
   | exact laws_toSpotS.mono _ _
   | exact spec_GreedyPosts.mono _ _ _ _ _ _
   | exact LeO.none _
   | refine LeO.ite ?_ ?_
   | refine LeO.bind ?_ (fun _ => ?_)
  ·intro y0 y1 y2 y3 y4 y5 y6 y7 y8
   unfold laws_FnExactGreedyPosts.j1
   repeat' first
   | (with_reducible exact ih0 _ _ _ _ _ _ _ _ _ _ _)
   | (with_reducible exact ih1 _ _ _ _ _ _ _ _ _)
   | (with_reducible exact ih2 _ _ _)
   | (with_reducible exact impl_GreedyPosts.mono _ _ _ _ _ _)
   | (with_reducible exact laws_eqSpotS.mono _ _ _)
   | (with_reducible exact laws_heldSpotS.mono _ _ _)
   | (with_reducible exact laws_markSpotS.mono _ _ _)
   | (with_reducible exact laws_toRoom.mono _ _ _ _)
   | (with_reducible exact laws_toSpotS.mono _ _)
   | (with_reducible exact spec_GreedyPosts.mono _ _ _ _ _ _)
   | (with_reducible exact LeO.refl _)
   | (with_reducible exact LeO.none _)
   | (with_reducible refine LeO.ite ?_ ?_)
   | (with_reducible refine LeO.bind ?_ (fun _ => ?_))
   | exact ih0 _ _ _ _ _ _ _ _ _ _ _
   | exact ih1 _ _ _ _ _ _ _ _ _
   | exact ih2 _ _ _
   | exact impl_GreedyPosts.mono _ _ _ _ _ _
   | exact laws_eqSpotS.mono _ _ _
   | exact laws_heldSpotS.mono _ _ _
   | exact laws_markSpotS.mono _ _ _
   | exact laws_toRoom.mono _ _ _ _
   | exact laws_toSpotS.mono _ _
   | exact spec_GreedyPosts.mono _ _ _ _ _ _
   | exact LeO.none _
   | refine LeO.ite ?_ ?_
   | refine LeO.bind ?_ (fun _ => ?_)
  ·intro y0 y1 y2
   unfold laws_FnExactGreedyPosts.j2
   repeat' first
   | (with_reducible exact ih0 _ _ _ _ _ _ _ _ _ _ _)
   | (with_reducible exact ih1 _ _ _ _ _ _ _ _ _)
   | (with_reducible exact ih2 _ _ _)
   | (with_reducible exact impl_GreedyPosts.mono _ _ _ _ _ _)
   | (with_reducible exact laws_eqSpotS.mono _ _ _)
   | (with_reducible exact laws_heldSpotS.mono _ _ _)
   | (with_reducible exact laws_markSpotS.mono _ _ _)
   | (with_reducible exact laws_toRoom.mono _ _ _ _)
   | (with_reducible exact laws_toSpotS.mono _ _)
   | (with_reducible exact spec_GreedyPosts.mono _ _ _ _ _ _)
   | (with_reducible exact LeO.refl _)
   | (with_reducible exact LeO.none _)
   | (with_reducible refine LeO.ite ?_ ?_)
   | (with_reducible refine LeO.bind ?_ (fun _ => ?_))
   | exact ih0 _ _ _ _ _ _ _ _ _ _ _
   | exact ih1 _ _ _ _ _ _ _ _ _
   | exact ih2 _ _ _
   | exact impl_GreedyPosts.mono _ _ _ _ _ _
   | exact laws_eqSpotS.mono _ _ _
   | exact laws_heldSpotS.mono _ _ _
   | exact laws_markSpotS.mono _ _ _
   | exact laws_toRoom.mono _ _ _ _
   | exact laws_toSpotS.mono _ _
   | exact spec_GreedyPosts.mono _ _ _ _ _ _
   | exact LeO.none _
   | refine LeO.ite ?_ ?_
   | refine LeO.bind ?_ (fun _ => ?_)
theorem laws_FnExactGreedyPosts.mono : ∀ a0 a1 a2 a3 a4 k, LeO (laws_FnExactGreedyPosts.f k a0 a1 a2 a3 a4) (laws_FnExactGreedyPosts.f (k + 1) a0 a1 a2 a3 a4) := by
 intro a0 a1 a2 a3 a4 k
 obtain ⟨ih0, ih1, ih2⟩ := laws_FnExactGreedyPosts.mono_l k
 unfold laws_FnExactGreedyPosts.f
 repeat' first
   | (with_reducible exact ih0 _ _ _ _ _ _ _ _ _ _ _)
   | (with_reducible exact ih1 _ _ _ _ _ _ _ _ _)
   | (with_reducible exact ih2 _ _ _)
   | (with_reducible exact impl_GreedyPosts.mono _ _ _ _ _ _)
   | (with_reducible exact laws_eqSpotS.mono _ _ _)
   | (with_reducible exact laws_heldSpotS.mono _ _ _)
   | (with_reducible exact laws_markSpotS.mono _ _ _)
   | (with_reducible exact laws_toRoom.mono _ _ _ _)
   | (with_reducible exact laws_toSpotS.mono _ _)
   | (with_reducible exact spec_GreedyPosts.mono _ _ _ _ _ _)
   | (with_reducible exact LeO.refl _)
   | (with_reducible exact LeO.none _)
   | (with_reducible refine LeO.ite ?_ ?_)
   | (with_reducible refine LeO.bind ?_ (fun _ => ?_))
   | exact ih0 _ _ _ _ _ _ _ _ _ _ _
   | exact ih1 _ _ _ _ _ _ _ _ _
   | exact ih2 _ _ _
   | exact impl_GreedyPosts.mono _ _ _ _ _ _
   | exact laws_eqSpotS.mono _ _ _
   | exact laws_heldSpotS.mono _ _ _
   | exact laws_markSpotS.mono _ _ _
   | exact laws_toRoom.mono _ _ _ _
   | exact laws_toSpotS.mono _ _
   | exact spec_GreedyPosts.mono _ _ _ _ _ _
   | exact LeO.none _
   | refine LeO.ite ?_ ?_
   | refine LeO.bind ?_ (fun _ => ?_)
set_option maxHeartbeats 8000000 in
set_option maxRecDepth 100000 in
theorem laws_FnExactGreedyPosts.calls (k : Nat) (a0_0 : Int) (a0_1 : Int) (a0_2 : LA 10) (A1 : Option Addr) (c1 : Nat) (l1 : List (S57)) (a2 : Int) (r : Bool) (w : World) (hr1 : Kd.C k57 w A1 l1.length l1) (hc1 : l1.length ≤ c1) (h : laws_FnExactGreedyPosts.f k a0_0 a0_1 a0_2 l1 a2 = some r) :
  Calls Try.prog 6 #[.agg (mixA (Value.int .u16) [.int .i8 a0_0, .int .i8 a0_1] a0_2), .slice A1 l1.length c1, .int .i64 a2] w fun e w' => e = .returned (.bool r) ∧ Below w.heap.size w w' := by
 have hu26 := Try.underlying26
 have HR1 := Aside0.mk hr1
 have HC1 := Aside0.mk hc1
 clear hr1 hc1
 have HB := Aside0.mk (Below.refl w.heap.size w)
 have H : ((laws_szSpotS.f l1 1048576).bind fun t570 => (if t570 < 0 then (some true) else ((laws_toRoom.f k a0_0 a0_1 a0_2).bind fun bt571 => ((laws_toSpotS.f k l1).bind fun t574 => ((spec_GreedyPosts.f k bt571.1 bt571.2.1 bt571.2.2 t574 a2).bind fun bt577 => ((laws_toSpotS.f k l1).bind fun t581 => ((laws_toRoom.f k a0_0 a0_1 a0_2).bind fun bt584 => ((impl_GreedyPosts.f k bt584.1 bt584.2.1 bt584.2.2 t581 a2).bind fun bt587 => ((laws_eqSpotS.f k bt587.1 bt577.1).bind fun t591 => (if t591 = true then (laws_FnExactGreedyPosts.j0 k l1 a2 bt577.1 bt577.2 t581 bt587.1 bt587.2 (bt587.2 != bt577.2) a0_0 a0_1 a0_2) else (laws_FnExactGreedyPosts.j0 k l1 a2 bt577.1 bt577.2 t581 bt587.1 bt587.2 true a0_0 a0_1 a0_2))))))))))) = some r := h
 clear h
 replace H := Option.bind_eq_some_iff.mp H
 obtain ⟨t570, A40, H⟩ := H
 replace H : (if t570 < 0 then (some true) else ((laws_toRoom.f k a0_0 a0_1 a0_2).bind fun bt571 => ((laws_toSpotS.f k l1).bind fun t574 => ((spec_GreedyPosts.f k bt571.1 bt571.2.1 bt571.2.2 t574 a2).bind fun bt577 => ((laws_toSpotS.f k l1).bind fun t581 => ((laws_toRoom.f k a0_0 a0_1 a0_2).bind fun bt584 => ((impl_GreedyPosts.f k bt584.1 bt584.2.1 bt584.2.2 t581 a2).bind fun bt587 => ((laws_eqSpotS.f k bt587.1 bt577.1).bind fun t591 => (if t591 = true then (laws_FnExactGreedyPosts.j0 k l1 a2 bt577.1 bt577.2 t581 bt587.1 bt587.2 (bt587.2 != bt577.2) a0_0 a0_1 a0_2) else (laws_FnExactGreedyPosts.j0 k l1 a2 bt577.1 bt577.2 t581 bt587.1 bt587.2 true a0_0 a0_1 a0_2)))))))))) = some r := H
 have A4 := Aside0.mk A40
 clear A40
 by_cases c5 : t570 < 0
 ·rw [if_pos c5] at H
  have c5b0 : decide (t570 < 0) = true := decide_eq_true c5; clear c5; obtain rfl := Option.some.inj H
  go_enter Try.func6, Try.ntmps6
  go_wp2_with (first | ((with_reducible refine gate_dst (N := 3) rfl ?_); refine box_event ?hg (N := 3) ?hd (cs := (mixA (Value.int .u16) [.int .i8 a0_0, .int .i8 a0_1] a0_2)) (t := 26) ?hr ?_; (case hd => rfl); (case hg => rfl); (case hr => first | (go_simp; done) | (go_simp; rfl)); intro gb569 hg w6 hbox hb; have n0_ := bst HB hb; have n1_ := Aside0.mk (hbox); have n2_ := gwl HB hg; have n3_ := gwl HB hg; clear HB; have HB := n0_; have BK569 := n1_; have GW569 := n2_; have GE569 := n3_; clear n0_ n1_ n2_ n3_; clear hb hbox hg) | ((with_reducible refine gate_callee (f := 9) rfl ?_); refine goesL_ (some 20) rfl rfl Try.func9 (by kernel_rfl) rfl #[.slice A1 l1.length c1, .int .i64 1048576] rfl (by (try simp only [List.map_toArray, List.map_cons, List.map_nil]); first | done | rfl | (simp only [List.length_drop, List.length_take]; rfl)) ?_; (with_reducible refine (laws_szSpotS.calls _ _ l1 1048576 t570 _ ?side1 ?side2 A4.out).mono ?_); (case side1 => repeat (first | exact (Kd.C_below HR1.out HB.out) | (with_reducible refine Kd.C_alloc ?_ _) | (with_reducible refine Kd.C_drewN ?_ _) | (with_reducible refine Kd.C_drew ?_))); (case side2 => exact HC1.out); rintro e w' ⟨rfl, ⟨nd, rfl⟩⟩; refine ⟨_, rfl, ?_⟩))
  go_ret
  exact ⟨by first | rfl | (simp [errW_none, errW_some] <;> rfl) | (simp [*, errW_none, errW_some] <;> rfl), pbs HB⟩
 ·rw [if_neg c5] at H
  have c5b0 : decide (t570 < 0) = false := decide_eq_false c5; clear c5; replace H := Option.bind_eq_some_iff.mp H; obtain ⟨⟨t571, t572, t573⟩, A70, H⟩ := H; replace H : ((laws_toSpotS.f k l1).bind fun t574 => ((spec_GreedyPosts.f k t571 t572 t573 t574 a2).bind fun bt577 => ((laws_toSpotS.f k l1).bind fun t581 => ((laws_toRoom.f k a0_0 a0_1 a0_2).bind fun bt584 => ((impl_GreedyPosts.f k bt584.1 bt584.2.1 bt584.2.2 t581 a2).bind fun bt587 => ((laws_eqSpotS.f k bt587.1 bt577.1).bind fun t591 => (if t591 = true then (laws_FnExactGreedyPosts.j0 k l1 a2 bt577.1 bt577.2 t581 bt587.1 bt587.2 (bt587.2 != bt577.2) a0_0 a0_1 a0_2) else (laws_FnExactGreedyPosts.j0 k l1 a2 bt577.1 bt577.2 t581 bt587.1 bt587.2 true a0_0 a0_1 a0_2)))))))) = some r := H; have A7 := Aside0.mk A70; clear A70; replace H := Option.bind_eq_some_iff.mp H; obtain ⟨t574, A80, H⟩ := H; replace H : ((spec_GreedyPosts.f k t571 t572 t573 t574 a2).bind fun bt577 => ((laws_toSpotS.f k l1).bind fun t581 => ((laws_toRoom.f k a0_0 a0_1 a0_2).bind fun bt584 => ((impl_GreedyPosts.f k bt584.1 bt584.2.1 bt584.2.2 t581 a2).bind fun bt587 => ((laws_eqSpotS.f k bt587.1 bt577.1).bind fun t591 => (if t591 = true then (laws_FnExactGreedyPosts.j0 k l1 a2 bt577.1 bt577.2 t581 bt587.1 bt587.2 (bt587.2 != bt577.2) a0_0 a0_1 a0_2) else (laws_FnExactGreedyPosts.j0 k l1 a2 bt577.1 bt577.2 t581 bt587.1 bt587.2 true a0_0 a0_1 a0_2))))))) = some r := H; have A8 := Aside0.mk A80; clear A80; replace H := Option.bind_eq_some_iff.mp H; obtain ⟨⟨t577, t580⟩, A90, H⟩ := H; replace H : ((laws_toSpotS.f k l1).bind fun t581 => ((laws_toRoom.f k a0_0 a0_1 a0_2).bind fun bt584 => ((impl_GreedyPosts.f k bt584.1 bt584.2.1 bt584.2.2 t581 a2).bind fun bt587 => ((laws_eqSpotS.f k bt587.1 t577).bind fun t591 => (if t591 = true then (laws_FnExactGreedyPosts.j0 k l1 a2 t577 t580 t581 bt587.1 bt587.2 (bt587.2 != t580) a0_0 a0_1 a0_2) else (laws_FnExactGreedyPosts.j0 k l1 a2 t577 t580 t581 bt587.1 bt587.2 true a0_0 a0_1 a0_2)))))) = some r := H; have A9 := Aside0.mk A90; clear A90; replace H := Option.bind_eq_some_iff.mp H; obtain ⟨t581, A100, H⟩ := H; replace H : ((laws_toRoom.f k a0_0 a0_1 a0_2).bind fun bt584 => ((impl_GreedyPosts.f k bt584.1 bt584.2.1 bt584.2.2 t581 a2).bind fun bt587 => ((laws_eqSpotS.f k bt587.1 t577).bind fun t591 => (if t591 = true then (laws_FnExactGreedyPosts.j0 k l1 a2 t577 t580 t581 bt587.1 bt587.2 (bt587.2 != t580) a0_0 a0_1 a0_2) else (laws_FnExactGreedyPosts.j0 k l1 a2 t577 t580 t581 bt587.1 bt587.2 true a0_0 a0_1 a0_2))))) = some r := H; have A10 := Aside0.mk A100; clear A100; replace H := Option.bind_eq_some_iff.mp H; obtain ⟨⟨t584, t585, t586⟩, A110, H⟩ := H; replace H : ((impl_GreedyPosts.f k t584 t585 t586 t581 a2).bind fun bt587 => ((laws_eqSpotS.f k bt587.1 t577).bind fun t591 => (if t591 = true then (laws_FnExactGreedyPosts.j0 k l1 a2 t577 t580 t581 bt587.1 bt587.2 (bt587.2 != t580) a0_0 a0_1 a0_2) else (laws_FnExactGreedyPosts.j0 k l1 a2 t577 t580 t581 bt587.1 bt587.2 true a0_0 a0_1 a0_2)))) = some r := H; have A11 := Aside0.mk A110; clear A110; replace H := Option.bind_eq_some_iff.mp H; obtain ⟨⟨t587, t590⟩, A120, H⟩ := H; replace H : ((laws_eqSpotS.f k t587 t577).bind fun t591 => (if t591 = true then (laws_FnExactGreedyPosts.j0 k l1 a2 t577 t580 t581 t587 t590 (t590 != t580) a0_0 a0_1 a0_2) else (laws_FnExactGreedyPosts.j0 k l1 a2 t577 t580 t581 t587 t590 true a0_0 a0_1 a0_2))) = some r := H; have A12 := Aside0.mk A120; clear A120; have HC13 := Aside0.mk H; clear H
  go_enter Try.func6, Try.ntmps6
  go_upto_region 8 with (first | ((with_reducible refine gate_dst (N := 3) rfl ?_); refine box_event ?hg (N := 3) ?hd (cs := (mixA (Value.int .u16) [.int .i8 a0_0, .int .i8 a0_1] a0_2)) (t := 26) ?hr ?_; (case hd => rfl); (case hg => rfl); (case hr => first | (go_simp; done) | (go_simp; rfl)); intro gb569 hg w14 hbox hb; have n0_ := bst HB hb; have n1_ := Aside0.mk (hbox); have n2_ := gwl HB hg; have n3_ := gwl HB hg; clear HB; have HB := n0_; have BK569 := n1_; have GW569 := n2_; have GE569 := n3_; clear n0_ n1_ n2_ n3_; clear hb hbox hg) | ((with_reducible refine gate_callee (f := 9) rfl ?_); refine goesL_ (some 20) rfl rfl Try.func9 (by kernel_rfl) rfl #[.slice A1 l1.length c1, .int .i64 1048576] rfl (by (try simp only [List.map_toArray, List.map_cons, List.map_nil]); first | done | rfl | (simp only [List.length_drop, List.length_take]; rfl)) ?_; (with_reducible refine (laws_szSpotS.calls _ _ l1 1048576 t570 _ ?side1 ?side2 A4.out).mono ?_); (case side1 => repeat (first | exact (Kd.C_below HR1.out HB.out) | (with_reducible refine Kd.C_alloc ?_ _) | (with_reducible refine Kd.C_drewN ?_ _) | (with_reducible refine Kd.C_drew ?_))); (case side2 => exact HC1.out); rintro e w' ⟨rfl, ⟨nd, rfl⟩⟩; refine ⟨_, rfl, ?_⟩) | ((with_reducible refine gate_dst (N := 24) rfl ?_); refine wpList_run0 (v := .agg (mixA (Value.int .u16) [.int .i8 a0_0, .int .i8 a0_1] a0_2)) rfl (load_mix_run (P := Try.prog) 26 (.tmp 3) rfl gb569 rfl (show World.rangeAt _ gb569 0 ([.int .i8 a0_0, .int .i8 a0_1] ++ a0_2.l.map (Value.int .u16)) from mix_range (show (World.heap _)[gb569]? = some (.cells (mixA (Value.int .u16) [.int .i8 a0_0, .int .i8 a0_1] a0_2) 26 (0, 0)) from by (with_reducible repeat (first | refine blk_drewN ?_ _ | refine blk_drew ?_ | refine blk_alloc ?_ _)); exact BK569.out)) Try.underlying26 rfl (by kernel_rfl) rfl) ?_) | ((with_reducible refine gate_callee (f := 11) rfl ?_); refine goesL_ (some 25) rfl rfl Try.func11 (by kernel_rfl) rfl #[.agg (mixA (Value.int .u16) [.int .i8 a0_0, .int .i8 a0_1] a0_2)] rfl (by (try simp only [List.map_toArray, List.map_cons, List.map_nil]); first | done | rfl | (simp only [List.length_drop, List.length_take]; rfl)) ?_; (with_reducible refine (laws_toRoom.calls k a0_0 a0_1 a0_2 t571 t572 t573 _ A7.out).mono ?_); rintro e w16 ⟨rfl, hb⟩; refine ⟨_, rfl, ?_⟩; have n0_ := bkb BK569 hb; have n1_ := bst HB hb; clear BK569; clear HB; have BK569 := n0_; have HB := n1_; clear n0_ n1_; (try clear hb); (try clear hb2); (try clear hk); (try clear hi)) | ((with_reducible refine gate_callee (f := 12) rfl ?_); refine goesL_ (some 27) rfl rfl Try.func12 (by kernel_rfl) rfl #[.slice A1 l1.length c1] rfl (by (try simp only [List.map_toArray, List.map_cons, List.map_nil]); first | done | rfl | (simp only [List.length_drop, List.length_take]; rfl)) ?_; (with_reducible refine (laws_toSpotS.calls k _ _ l1 t574 _ ?side1 ?side2 A8.out).mono ?_); (case side1 => repeat (first | exact (Kd.C_below HR1.out HB.out) | (with_reducible refine Kd.C_alloc ?_ _) | (with_reducible refine Kd.C_drewN ?_ _) | (with_reducible refine Kd.C_drew ?_))); (case side2 => exact HC1.out); rintro e w17 ⟨v575, rfl, ho0, hb⟩; refine ⟨_, rfl, ?_⟩; have n0_ := Aside0.mk (Kd.R_lower ho0 (below_size (by repeat (first | (with_reducible first | exact HB.out | apply below_alloc | apply pw_below_drewN | apply below_drew1 | refine below_set ?_ GE569.out) | exact HB.out)))); have n1_ := bkb BK569 hb; have n2_ := bst HB hb; clear BK569; clear HB; have HO576 := n0_; have BK569 := n1_; have HB := n2_; clear n0_ n1_ n2_; (try clear hb); (try clear hb2); (try clear hk); (try clear hi); (try clear ho0); obtain ⟨Ao18, co18, eo18⟩ := Kd.R_slice HO576.out; subst eo18) | ((with_reducible refine gate_callee (f := 21) rfl ?_); refine goesL_ (some 29) rfl rfl Try.func21 (by kernel_rfl) rfl #[.agg (mixA (Value.int .u16) [.int .i8 t571, .int .i8 t572] t573), .slice Ao18 t574.length co18, .int .i64 a2] rfl (by (try simp only [List.map_toArray, List.map_cons, List.map_nil]); first | done | rfl | (simp only [List.length_drop, List.length_take]; rfl)) ?_; (with_reducible refine (spec_GreedyPosts.calls k t571 t572 t573 _ _ t574 a2 t577 t580 _ ?side1 ?side2 A9.out).mono ?_); (case side1 => repeat (first | exact (Kd.R_reads' HO576.out).2.2 | (with_reducible refine Kd.C_alloc ?_ _) | (with_reducible refine Kd.C_drewN ?_ _) | (with_reducible refine Kd.C_drew ?_))); (case side2 => exact (Kd.R_reads' HO576.out).2.1); rintro e w19 ⟨v578, rfl, ho0, hb⟩; refine ⟨_, rfl, ?_⟩; have n0_ := Aside0.mk (Kd.R_elder' (by (with_reducible repeat (first | apply Kd.R_alloc | apply Kd.R_drewN | apply Kd.R_drew)); exact HO576.out) (Kd.R_base ho0) hb); have n1_ := Aside0.mk (Kd.R_lower (Kd.R_new' ho0 (Kd.R_lt (by (with_reducible repeat (first | apply Kd.R_alloc | apply Kd.R_drewN | apply Kd.R_drew)); exact HO576.out))) (below_size (by repeat (first | (with_reducible first | exact HB.out | apply below_alloc | apply pw_below_drewN | apply below_drew1 | refine below_set ?_ GE569.out) | exact HB.out)))); have n2_ := bkb BK569 hb; have n3_ := bst HB hb; clear HO576; clear BK569; clear HB; have HO576 := n0_; have HO579 := n1_; have BK569 := n2_; have HB := n3_; clear n0_ n1_ n2_ n3_; (try clear hb); (try clear hb2); (try clear hk); (try clear hi); (try clear ho0)) | ((with_reducible refine gate_callee (f := 12) rfl ?_); refine goesL_ (some 33) rfl rfl Try.func12 (by kernel_rfl) rfl #[.slice A1 l1.length c1] rfl (by (try simp only [List.map_toArray, List.map_cons, List.map_nil]); first | done | rfl | (simp only [List.length_drop, List.length_take]; rfl)) ?_; (with_reducible refine (laws_toSpotS.calls k _ _ l1 t581 _ ?side1 ?side2 A10.out).mono ?_); (case side1 => repeat (first | exact (Kd.C_below HR1.out HB.out) | (with_reducible refine Kd.C_alloc ?_ _) | (with_reducible refine Kd.C_drewN ?_ _) | (with_reducible refine Kd.C_drew ?_))); (case side2 => exact HC1.out); rintro e w20 ⟨v582, rfl, ho0, hb⟩; refine ⟨_, rfl, ?_⟩; have n0_ := Aside0.mk (Kd.R_elder' (by (with_reducible repeat (first | apply Kd.R_alloc | apply Kd.R_drewN | apply Kd.R_drew)); exact HO576.out) (Kd.R_base ho0) hb); have n1_ := Aside0.mk (Kd.R_elder' (by (with_reducible repeat (first | apply Kd.R_alloc | apply Kd.R_drewN | apply Kd.R_drew)); exact HO579.out) (Kd.R_base ho0) hb); have n2_ := Aside0.mk (Kd.R_lower (Kd.R_new' (Kd.R_new' ho0 (Kd.R_lt (by (with_reducible repeat (first | apply Kd.R_alloc | apply Kd.R_drewN | apply Kd.R_drew)); exact HO576.out))) (Kd.R_lt (by (with_reducible repeat (first | apply Kd.R_alloc | apply Kd.R_drewN | apply Kd.R_drew)); exact HO579.out))) (below_size (by repeat (first | (with_reducible first | exact HB.out | apply below_alloc | apply pw_below_drewN | apply below_drew1 | refine below_set ?_ GE569.out) | exact HB.out)))); have n3_ := bkb BK569 hb; have n4_ := bst HB hb; clear HO576; clear HO579; clear BK569; clear HB; have HO576 := n0_; have HO579 := n1_; have HO583 := n2_; have BK569 := n3_; have HB := n4_; clear n0_ n1_ n2_ n3_ n4_; (try clear hb); (try clear hb2); (try clear hk); (try clear hi); (try clear ho0)) | ((with_reducible refine gate_dst (N := 35) rfl ?_); refine wpList_run0 (v := .agg (mixA (Value.int .u16) [.int .i8 a0_0, .int .i8 a0_1] a0_2)) rfl (load_mix_run (P := Try.prog) 26 (.tmp 3) rfl gb569 rfl (show World.rangeAt _ gb569 0 ([.int .i8 a0_0, .int .i8 a0_1] ++ a0_2.l.map (Value.int .u16)) from mix_range (show (World.heap _)[gb569]? = some (.cells (mixA (Value.int .u16) [.int .i8 a0_0, .int .i8 a0_1] a0_2) 26 (0, 0)) from by (with_reducible repeat (first | refine blk_drewN ?_ _ | refine blk_drew ?_ | refine blk_alloc ?_ _)); exact BK569.out)) Try.underlying26 rfl (by kernel_rfl) rfl) ?_) | ((with_reducible refine gate_callee (f := 11) rfl ?_); refine goesL_ (some 36) rfl rfl Try.func11 (by kernel_rfl) rfl #[.agg (mixA (Value.int .u16) [.int .i8 a0_0, .int .i8 a0_1] a0_2)] rfl (by (try simp only [List.map_toArray, List.map_cons, List.map_nil]); first | done | rfl | (simp only [List.length_drop, List.length_take]; rfl)) ?_; (with_reducible refine (laws_toRoom.calls k a0_0 a0_1 a0_2 t584 t585 t586 _ A11.out).mono ?_); rintro e w22 ⟨rfl, hb⟩; refine ⟨_, rfl, ?_⟩; have n0_ := krb HO576 hb; have n1_ := krb HO579 hb; have n2_ := krb HO583 hb; have n3_ := bkb BK569 hb; have n4_ := bst HB hb; clear HO576; clear HO579; clear HO583; clear BK569; clear HB; have HO576 := n0_; have HO579 := n1_; have HO583 := n2_; have BK569 := n3_; have HB := n4_; clear n0_ n1_ n2_ n3_ n4_; (try clear hb); (try clear hb2); (try clear hk); (try clear hi); obtain ⟨Ao23, co23, eo23⟩ := Kd.R_slice HO583.out; subst eo23) | ((with_reducible refine gate_callee (f := 22) rfl ?_); refine goesL_ (some 39) rfl rfl Try.func22 (by kernel_rfl) rfl #[.agg (mixA (Value.int .u16) [.int .i8 t584, .int .i8 t585] t586), .slice Ao23 t581.length co23, .int .i64 a2] rfl (by (try simp only [List.map_toArray, List.map_cons, List.map_nil]); first | done | rfl | (simp only [List.length_drop, List.length_take]; rfl)) ?_; (with_reducible refine (impl_GreedyPosts.calls k t584 t585 t586 _ _ t581 a2 t587 t590 _ ?side1 ?side2 A12.out).mono ?_); (case side1 => repeat (first | exact (Kd.R_reads' HO583.out).2.2 | (with_reducible refine Kd.C_alloc ?_ _) | (with_reducible refine Kd.C_drewN ?_ _) | (with_reducible refine Kd.C_drew ?_))); (case side2 => exact (Kd.R_reads' HO583.out).2.1); rintro e w24 ⟨v588, rfl, ho0, hb⟩; refine ⟨_, rfl, ?_⟩; have n0_ := Aside0.mk (Kd.R_elder' (by (with_reducible repeat (first | apply Kd.R_alloc | apply Kd.R_drewN | apply Kd.R_drew)); exact HO576.out) (Kd.R_base ho0) hb); have n1_ := Aside0.mk (Kd.R_elder' (by (with_reducible repeat (first | apply Kd.R_alloc | apply Kd.R_drewN | apply Kd.R_drew)); exact HO579.out) (Kd.R_base ho0) hb); have n2_ := Aside0.mk (Kd.R_elder' (by (with_reducible repeat (first | apply Kd.R_alloc | apply Kd.R_drewN | apply Kd.R_drew)); exact HO583.out) (Kd.R_base ho0) hb); have n3_ := Aside0.mk (Kd.R_lower (Kd.R_new' (Kd.R_new' (Kd.R_new' ho0 (Kd.R_lt (by (with_reducible repeat (first | apply Kd.R_alloc | apply Kd.R_drewN | apply Kd.R_drew)); exact HO576.out))) (Kd.R_lt (by (with_reducible repeat (first | apply Kd.R_alloc | apply Kd.R_drewN | apply Kd.R_drew)); exact HO579.out))) (Kd.R_lt (by (with_reducible repeat (first | apply Kd.R_alloc | apply Kd.R_drewN | apply Kd.R_drew)); exact HO583.out))) (below_size (by repeat (first | (with_reducible first | exact HB.out | apply below_alloc | apply pw_below_drewN | apply below_drew1 | refine below_set ?_ GE569.out) | exact HB.out)))); have n4_ := bkb BK569 hb; have n5_ := bst HB hb; clear HO576; clear HO579; clear HO583; clear BK569; clear HB; have HO576 := n0_; have HO579 := n1_; have HO583 := n2_; have HO589 := n3_; have BK569 := n4_; have HB := n5_; clear n0_ n1_ n2_ n3_ n4_ n5_; (try clear hb); (try clear hb2); (try clear hk); (try clear hi); (try clear ho0)))
  (try simp only [Act.put, List.setIfInBounds_toArray, List.set_cons_zero, List.set_cons_succ])
  go_cut [50] (fun v50 wc => ∃ (kq : Nat) (x50_12 : Bool), v50 = .bool x50_12 ∧ Aside0 (laws_FnExactGreedyPosts.j0 kq l1 a2 t577 t580 t581 t587 t590 x50_12 a0_0 a0_1 a0_2 = some r) ∧ Aside0 (kq ≤ k) ∧ Aside0 (Kd.R k54 54 wc w.heap.size (fun k_ => some k_ ≠ ((.slice Ao23 t581.length co23) : Value).ownBlock ∧ some k_ ≠ (v588 : Value).ownBlock) v578 t577) ∧ Aside0 (Kd.R k54 54 wc w.heap.size (fun k_ => some k_ ≠ (v578 : Value).ownBlock ∧ some k_ ≠ (v588 : Value).ownBlock) (.slice Ao23 t581.length co23) t581) ∧ Aside0 (Kd.R k54 54 wc w.heap.size (fun k_ => some k_ ≠ (v578 : Value).ownBlock ∧ some k_ ≠ ((.slice Ao23 t581.length co23) : Value).ownBlock) v588 t587) ∧ Aside0 (wc.heap[gb569]? = some (.cells (mixA (Value.int .u16) [.int .i8 a0_0, .int .i8 a0_1] a0_2) 26 (0, 0))) ∧ Aside0 (Below w.heap.size w wc))
  case first =>
   have H := HC13.out; clear HC13; replace H := Option.bind_eq_some_iff.mp H; obtain ⟨t591, A250, H⟩ := H; replace H : (if t591 = true then (laws_FnExactGreedyPosts.j0 k l1 a2 t577 t580 t581 t587 t590 (t590 != t580) a0_0 a0_1 a0_2) else (laws_FnExactGreedyPosts.j0 k l1 a2 t577 t580 t581 t587 t590 true a0_0 a0_1 a0_2)) = some r := H; have A25 := Aside0.mk A250; clear A250
   by_cases c26 : t591 = true
   ·subst c26
    have H1 : (laws_FnExactGreedyPosts.j0 k l1 a2 t577 t580 t581 t587 t590 (t590 != t580) a0_0 a0_1 a0_2) = some r := by rw [if_pos rfl] at H; exact H
    clear H; have H := H1; clear H1; have H' := Aside0.mk H; clear H; obtain ⟨Ao27, co27, eo27⟩ := Kd.R_slice HO589.out; subst eo27; obtain ⟨Ao28, co28, eo28⟩ := Kd.R_slice HO579.out; subst eo28
    go_wp2_with (first | ((with_reducible refine gate_callee (f := 14) rfl ?_); refine goesL_ (some 44) rfl rfl Try.func14 (by kernel_rfl) rfl #[.slice Ao27 t587.length co27, .slice Ao28 t577.length co28] rfl (by (try simp only [List.map_toArray, List.map_cons, List.map_nil]); first | done | rfl | (simp only [List.length_drop, List.length_take]; rfl)) ?_; (with_reducible refine (laws_eqSpotS.calls k _ _ t587 _ _ t577 true _ ?side1 ?side2 ?side3 ?side4 A25.out).mono ?_); (case side1 => repeat (first | exact (Kd.R_reads' HO589.out).2.2 | (with_reducible refine Kd.C_alloc ?_ _) | (with_reducible refine Kd.C_drewN ?_ _) | (with_reducible refine Kd.C_drew ?_))); (case side2 => exact (Kd.R_reads' HO589.out).2.1); (case side3 => repeat (first | exact (Kd.R_reads' HO579.out).2.2 | (with_reducible refine Kd.C_alloc ?_ _) | (with_reducible refine Kd.C_drewN ?_ _) | (with_reducible refine Kd.C_drew ?_))); (case side4 => exact (Kd.R_reads' HO579.out).2.1); rintro e w29 ⟨rfl, hb⟩; refine ⟨_, rfl, ?_⟩; have n0_ := krb HO576 hb; have n1_ := krb HO579 hb; have n2_ := krb HO583 hb; have n3_ := krb HO589 hb; have n4_ := bkb BK569 hb; have n5_ := bst HB hb; clear HO576; clear HO579; clear HO583; clear HO589; clear BK569; clear HB; have HO576 := n0_; have HO579 := n1_; have HO583 := n2_; have HO589 := n3_; have BK569 := n4_; have HB := n5_; clear n0_ n1_ n2_ n3_ n4_ n5_; (try clear hb); (try clear hb2); (try clear hk); (try clear hi)))
    go_meet
    case rel => exact ⟨_, ((t590 != t580)), (by first | rfl | (simp; done) | (simp [*]; done)), H', ⟨by first | omega | exact Nat.le_refl _⟩, ⟨by (with_reducible repeat (first | apply Kd.R_alloc | apply Kd.R_drewN | apply Kd.R_drew)); exact Kd.R_mono HO579.out (fun _ hk => ⟨hk.1.2, hk.2⟩)⟩, ⟨by (with_reducible repeat (first | apply Kd.R_alloc | apply Kd.R_drewN | apply Kd.R_drew)); exact Kd.R_mono HO583.out (fun _ hk => ⟨hk.1.2, hk.2⟩)⟩, ⟨by (with_reducible repeat (first | apply Kd.R_alloc | apply Kd.R_drewN | apply Kd.R_drew)); exact Kd.R_mono HO589.out (fun _ hk => ⟨hk.1.2, hk.2⟩)⟩, ⟨pk BK569⟩, ⟨pbs HB⟩⟩
   ·replace c26 := Bool.eq_false_iff.mpr c26
    subst c26
    have H1 : (laws_FnExactGreedyPosts.j0 k l1 a2 t577 t580 t581 t587 t590 true a0_0 a0_1 a0_2) = some r := by rw [if_neg (show ¬ (false = true) by decide)] at H; exact H
    clear H; have H := H1; clear H1; have H' := Aside0.mk H; clear H; obtain ⟨Ao30, co30, eo30⟩ := Kd.R_slice HO589.out; subst eo30; obtain ⟨Ao31, co31, eo31⟩ := Kd.R_slice HO579.out; subst eo31
    go_wp2_with (first | ((with_reducible refine gate_callee (f := 14) rfl ?_); refine goesL_ (some 44) rfl rfl Try.func14 (by kernel_rfl) rfl #[.slice Ao30 t587.length co30, .slice Ao31 t577.length co31] rfl (by (try simp only [List.map_toArray, List.map_cons, List.map_nil]); first | done | rfl | (simp only [List.length_drop, List.length_take]; rfl)) ?_; (with_reducible refine (laws_eqSpotS.calls k _ _ t587 _ _ t577 false _ ?side1 ?side2 ?side3 ?side4 A25.out).mono ?_); (case side1 => repeat (first | exact (Kd.R_reads' HO589.out).2.2 | (with_reducible refine Kd.C_alloc ?_ _) | (with_reducible refine Kd.C_drewN ?_ _) | (with_reducible refine Kd.C_drew ?_))); (case side2 => exact (Kd.R_reads' HO589.out).2.1); (case side3 => repeat (first | exact (Kd.R_reads' HO579.out).2.2 | (with_reducible refine Kd.C_alloc ?_ _) | (with_reducible refine Kd.C_drewN ?_ _) | (with_reducible refine Kd.C_drew ?_))); (case side4 => exact (Kd.R_reads' HO579.out).2.1); rintro e w32 ⟨rfl, hb⟩; refine ⟨_, rfl, ?_⟩; have n0_ := krb HO576 hb; have n1_ := krb HO579 hb; have n2_ := krb HO583 hb; have n3_ := krb HO589 hb; have n4_ := bkb BK569 hb; have n5_ := bst HB hb; clear HO576; clear HO579; clear HO583; clear HO589; clear BK569; clear HB; have HO576 := n0_; have HO579 := n1_; have HO583 := n2_; have HO589 := n3_; have BK569 := n4_; have HB := n5_; clear n0_ n1_ n2_ n3_ n4_ n5_; (try clear hb); (try clear hb2); (try clear hk); (try clear hi)))
    go_meet
    case rel => exact ⟨_, (true), (by first | rfl | (simp; done) | (simp [*]; done)), H', ⟨by first | omega | exact Nat.le_refl _⟩, ⟨by (with_reducible repeat (first | apply Kd.R_alloc | apply Kd.R_drewN | apply Kd.R_drew)); exact Kd.R_mono HO579.out (fun _ hk => ⟨hk.1.2, hk.2⟩)⟩, ⟨by (with_reducible repeat (first | apply Kd.R_alloc | apply Kd.R_drewN | apply Kd.R_drew)); exact Kd.R_mono HO583.out (fun _ hk => ⟨hk.1.2, hk.2⟩)⟩, ⟨by (with_reducible repeat (first | apply Kd.R_alloc | apply Kd.R_drewN | apply Kd.R_drew)); exact Kd.R_mono HO589.out (fun _ hk => ⟨hk.1.2, hk.2⟩)⟩, ⟨pk BK569⟩, ⟨pbs HB⟩⟩
  case rest =>
   clear HC13
   try clear c1
   try clear c2
   try clear p2
   try clear c5
   try clear c5b0
   try clear c6
   try clear c9
   try clear c11
   try clear c12
   try clear c14
   try clear c21
   try clear c22
   try clear c26
   obtain ⟨kq, x50_12, rfl, HA, HJ12, HO_8, HO_10, HO_11, BK569, HB⟩ := hcut
   cases kq with
   | zero => exact absurd HA.out (by simp [laws_FnExactGreedyPosts.j0])
   | succ kj12 =>
    have H := HA.out; clear HA; simp only [laws_FnExactGreedyPosts.j0] at H
    by_cases c33 : x50_12 = true
    ·subst c33
     have H1 : (some false) = some r := by rw [if_pos rfl] at H; exact H
     clear H; have H := H1; clear H1; obtain rfl := Option.some.inj H
     go_wp2
     go_ret
     exact ⟨by first | rfl | (simp [errW_none, errW_some] <;> rfl) | (simp [*, errW_none, errW_some] <;> rfl), pbs HB⟩
    ·replace c33 := Bool.eq_false_iff.mpr c33
     subst c33
     have H1 : ((laws_toSpotS.f kj12 l1).bind fun t592 => ((laws_eqSpotS.f kj12 t581 t592).bind fun t595 => (if t595 = true then ((laws_markSpotS.f kj12 t581 1).bind fun bt596 => (if bt596.1 < 0 then (laws_FnExactGreedyPosts.j1 kj12 l1 a2 t577 t580 t587 true a0_0 a0_1 a0_2) else ((laws_eqSpotS.f kj12 t587 t577).bind fun t598 => (if t598 = true then (laws_FnExactGreedyPosts.j1 kj12 l1 a2 t577 t580 t587 (t590 != t580) a0_0 a0_1 a0_2) else (laws_FnExactGreedyPosts.j1 kj12 l1 a2 t577 t580 t587 true a0_0 a0_1 a0_2))))) else (some false)))) = some r := by rw [if_neg (show ¬ (false = true) by decide)] at H; exact H
     clear H; have H := H1; clear H1; replace H := Option.bind_eq_some_iff.mp H; obtain ⟨t592, A340, H⟩ := H; replace H : ((laws_eqSpotS.f kj12 t581 t592).bind fun t595 => (if t595 = true then ((laws_markSpotS.f kj12 t581 1).bind fun bt596 => (if bt596.1 < 0 then (laws_FnExactGreedyPosts.j1 kj12 l1 a2 t577 t580 t587 true a0_0 a0_1 a0_2) else ((laws_eqSpotS.f kj12 t587 t577).bind fun t598 => (if t598 = true then (laws_FnExactGreedyPosts.j1 kj12 l1 a2 t577 t580 t587 (t590 != t580) a0_0 a0_1 a0_2) else (laws_FnExactGreedyPosts.j1 kj12 l1 a2 t577 t580 t587 true a0_0 a0_1 a0_2))))) else (some false))) = some r := H; have A34 := Aside0.mk A340; clear A340; replace H := Option.bind_eq_some_iff.mp H; obtain ⟨t595, A350, H⟩ := H; replace H : (if t595 = true then ((laws_markSpotS.f kj12 t581 1).bind fun bt596 => (if bt596.1 < 0 then (laws_FnExactGreedyPosts.j1 kj12 l1 a2 t577 t580 t587 true a0_0 a0_1 a0_2) else ((laws_eqSpotS.f kj12 t587 t577).bind fun t598 => (if t598 = true then (laws_FnExactGreedyPosts.j1 kj12 l1 a2 t577 t580 t587 (t590 != t580) a0_0 a0_1 a0_2) else (laws_FnExactGreedyPosts.j1 kj12 l1 a2 t577 t580 t587 true a0_0 a0_1 a0_2))))) else (some false)) = some r := H; have A35 := Aside0.mk A350; clear A350
     by_cases c36 : t595 = true
     ·subst c36
      have H1 : ((laws_markSpotS.f kj12 t581 1).bind fun bt596 => (if bt596.1 < 0 then (laws_FnExactGreedyPosts.j1 kj12 l1 a2 t577 t580 t587 true a0_0 a0_1 a0_2) else ((laws_eqSpotS.f kj12 t587 t577).bind fun t598 => (if t598 = true then (laws_FnExactGreedyPosts.j1 kj12 l1 a2 t577 t580 t587 (t590 != t580) a0_0 a0_1 a0_2) else (laws_FnExactGreedyPosts.j1 kj12 l1 a2 t577 t580 t587 true a0_0 a0_1 a0_2))))) = some r := by rw [if_pos rfl] at H; exact H
      clear H; have H := H1; clear H1; replace H := Option.bind_eq_some_iff.mp H; obtain ⟨⟨t596, t597⟩, A370, H⟩ := H; replace H : (if t596 < 0 then (laws_FnExactGreedyPosts.j1 kj12 l1 a2 t577 t580 t587 true a0_0 a0_1 a0_2) else ((laws_eqSpotS.f kj12 t587 t577).bind fun t598 => (if t598 = true then (laws_FnExactGreedyPosts.j1 kj12 l1 a2 t577 t580 t587 (t590 != t580) a0_0 a0_1 a0_2) else (laws_FnExactGreedyPosts.j1 kj12 l1 a2 t577 t580 t587 true a0_0 a0_1 a0_2)))) = some r := H; have A37 := Aside0.mk A370; clear A370; have HC38 := Aside0.mk H; clear H
      go_upto_region 14 with (first | ((with_reducible refine gate_callee (f := 12) rfl ?_); refine goesL_ (some 53) rfl rfl Try.func12 (by kernel_rfl) rfl #[.slice A1 l1.length c1] rfl (by (try simp only [List.map_toArray, List.map_cons, List.map_nil]); first | done | rfl | (simp only [List.length_drop, List.length_take]; rfl)) ?_; (with_reducible refine (laws_toSpotS.calls kj12 _ _ l1 t592 _ ?side1 ?side2 A34.out).mono ?_); (case side1 => repeat (first | exact (Kd.C_below HR1.out HB.out) | (with_reducible refine Kd.C_alloc ?_ _) | (with_reducible refine Kd.C_drewN ?_ _) | (with_reducible refine Kd.C_drew ?_))); (case side2 => exact HC1.out); rintro e w39 ⟨v593, rfl, ho0, hb⟩; refine ⟨_, rfl, ?_⟩; have n0_ := Aside0.mk (Kd.R_elder' (by (with_reducible repeat (first | apply Kd.R_alloc | apply Kd.R_drewN | apply Kd.R_drew)); exact HO_8.out) (Kd.R_base ho0) hb); have n1_ := Aside0.mk (Kd.R_elder' (by (with_reducible repeat (first | apply Kd.R_alloc | apply Kd.R_drewN | apply Kd.R_drew)); exact HO_10.out) (Kd.R_base ho0) hb); have n2_ := Aside0.mk (Kd.R_elder' (by (with_reducible repeat (first | apply Kd.R_alloc | apply Kd.R_drewN | apply Kd.R_drew)); exact HO_11.out) (Kd.R_base ho0) hb); have n3_ := Aside0.mk (Kd.R_lower (Kd.R_new' (Kd.R_new' (Kd.R_new' ho0 (Kd.R_lt (by (with_reducible repeat (first | apply Kd.R_alloc | apply Kd.R_drewN | apply Kd.R_drew)); exact HO_8.out))) (Kd.R_lt (by (with_reducible repeat (first | apply Kd.R_alloc | apply Kd.R_drewN | apply Kd.R_drew)); exact HO_10.out))) (Kd.R_lt (by (with_reducible repeat (first | apply Kd.R_alloc | apply Kd.R_drewN | apply Kd.R_drew)); exact HO_11.out))) (below_size (by repeat (first | (with_reducible first | exact HB.out | apply below_alloc | apply pw_below_drewN | apply below_drew1 | refine below_set ?_ GE569.out) | exact HB.out)))); have n4_ := bkb BK569 hb; have n5_ := bst HB hb; clear HO_8; clear HO_10; clear HO_11; clear BK569; clear HB; have HO_8 := n0_; have HO_10 := n1_; have HO_11 := n2_; have HO594 := n3_; have BK569 := n4_; have HB := n5_; clear n0_ n1_ n2_ n3_ n4_ n5_; (try clear hb); (try clear hb2); (try clear hk); (try clear hi); (try clear ho0); obtain ⟨Ao40, co40, eo40⟩ := Kd.R_slice HO594.out; subst eo40) | ((with_reducible refine gate_callee (f := 14) rfl ?_); refine goesL_ (some 54) rfl rfl Try.func14 (by kernel_rfl) rfl #[.slice Ao23 t581.length co23, .slice Ao40 t592.length co40] rfl (by (try simp only [List.map_toArray, List.map_cons, List.map_nil]); first | done | rfl | (simp only [List.length_drop, List.length_take]; rfl)) ?_; (with_reducible refine (laws_eqSpotS.calls kj12 _ _ t581 _ _ t592 true _ ?side1 ?side2 ?side3 ?side4 A35.out).mono ?_); (case side1 => repeat (first | exact (Kd.R_reads' HO_10.out).2.2 | (with_reducible refine Kd.C_alloc ?_ _) | (with_reducible refine Kd.C_drewN ?_ _) | (with_reducible refine Kd.C_drew ?_))); (case side2 => exact (Kd.R_reads' HO_10.out).2.1); (case side3 => repeat (first | exact (Kd.R_reads' HO594.out).2.2 | (with_reducible refine Kd.C_alloc ?_ _) | (with_reducible refine Kd.C_drewN ?_ _) | (with_reducible refine Kd.C_drew ?_))); (case side4 => exact (Kd.R_reads' HO594.out).2.1); rintro e w41 ⟨rfl, hb⟩; refine ⟨_, rfl, ?_⟩; have n0_ := krb HO_8 hb; have n1_ := krb HO_10 hb; have n2_ := krb HO_11 hb; have n3_ := krb HO594 hb; have n4_ := bkb BK569 hb; have n5_ := bst HB hb; clear HO_8; clear HO_10; clear HO_11; clear HO594; clear BK569; clear HB; have HO_8 := n0_; have HO_10 := n1_; have HO_11 := n2_; have HO594 := n3_; have BK569 := n4_; have HB := n5_; clear n0_ n1_ n2_ n3_ n4_ n5_; (try clear hb); (try clear hb2); (try clear hk); (try clear hi)) | ((with_reducible refine gate_callee (f := 17) rfl ?_); refine goesL_ (some 58) rfl rfl Try.func17 (by kernel_rfl) rfl #[.slice Ao23 t581.length co23, .int .i64 1] rfl (by (try simp only [List.map_toArray, List.map_cons, List.map_nil]); first | done | rfl | (simp only [List.length_drop, List.length_take]; rfl)) ?_; (with_reducible refine (laws_markSpotS.calls kj12 (fun k_ => some k_ = (.slice Ao23 t581.length co23 : Value).ownBlock) (.slice Ao23 t581.length co23) t581 1 t596 t597 w _ ?side1 ?side2 A37.out).mono ?_); (case side1 => repeat (first | (with_reducible first | exact HB.out | apply below_alloc | apply pw_below_drewN | apply below_drew1 | refine below_set ?_ GE569.out) | exact HB.out)); (case side2 => exact Kd.R_tight rfl HO_10.out); rintro e w42 ⟨rfl, hy0, hb, hkp⟩; refine ⟨_, rfl, ?_⟩; have n0_ := Aside0.mk (Kd.R_mono (ok' := fun k_ => some k_ ≠ (.slice Ao23 t581.length co23 : Value).ownBlock ∧ some k_ ≠ (v588 : Value).ownBlock ∧ some k_ ≠ (.slice Ao40 t592.length co40 : Value).ownBlock) (Kd.R_keptB (HO_8.out) hkp (fun k_ hk_ hs_ => (hk_.1.1) hs_)) (fun k_ hk_ => ⟨hk_.1.1.1, hk_.1.1.2, hk_.1.2⟩)); have n1_ := Aside0.mk (Kd.R_reok rfl hy0 (fun k_ e_ => HO_10.out.1 k_ e_)); have n2_ := Aside0.mk (Kd.R_mono (ok' := fun k_ => some k_ ≠ (v578 : Value).ownBlock ∧ some k_ ≠ (.slice Ao23 t581.length co23 : Value).ownBlock ∧ some k_ ≠ (.slice Ao40 t592.length co40 : Value).ownBlock) (Kd.R_keptB (HO_11.out) hkp (fun k_ hk_ hs_ => (hk_.1.2) hs_)) (fun k_ hk_ => ⟨hk_.1.1.1, hk_.1.1.2, hk_.1.2⟩)); have n3_ := Aside0.mk (blk_kept (pk BK569) hkp (fun hs_ => (fun e_ => (Kd.R_ne HO_10.out BK569.out (by decide)) e_) hs_)); have n4_ := Aside0.mk (Kd.R_mono (ok' := fun k_ => some k_ ≠ (v578 : Value).ownBlock ∧ some k_ ≠ (.slice Ao23 t581.length co23 : Value).ownBlock ∧ some k_ ≠ (v588 : Value).ownBlock) (Kd.R_keptB (HO594.out) hkp (fun k_ hk_ hs_ => (hk_.1.2) hs_)) (fun k_ hk_ => ⟨hk_.1.1.1.2, hk_.1.1.2, hk_.1.2⟩)); have n5_ := Aside0.mk (hb); clear HO_8; clear HO_10; clear HO_11; clear BK569; clear HO594; clear HB; have HO_8 := n0_; have HO_10 := n1_; have HO_11 := n2_; have BK569 := n3_; have HO594 := n4_; have HB := n5_; clear n0_ n1_ n2_ n3_ n4_ n5_; (try clear hb); (try clear hkp); (try clear hy0)))
      (try simp only [Act.put, List.setIfInBounds_toArray, List.set_cons_zero, List.set_cons_succ])
      go_cut [71] (fun v71 wc => ∃ (kq : Nat) (x71_37 : Bool), v71 = .bool x71_37 ∧ Aside0 (laws_FnExactGreedyPosts.j1 kq l1 a2 t577 t580 t587 x71_37 a0_0 a0_1 a0_2 = some r) ∧ Aside0 (kq ≤ kj12) ∧ Aside0 (Kd.R k54 54 wc w.heap.size (fun k_ => some k_ ≠ (v588 : Value).ownBlock) v578 t577) ∧ Aside0 (Kd.R k54 54 wc w.heap.size (fun k_ => some k_ ≠ (v578 : Value).ownBlock) v588 t587) ∧ Aside0 (wc.heap[gb569]? = some (.cells (mixA (Value.int .u16) [.int .i8 a0_0, .int .i8 a0_1] a0_2) 26 (0, 0))) ∧ Aside0 (Below w.heap.size w wc))
      case first =>
       have H := HC38.out; clear HC38
       by_cases c43 : t596 < 0
       ·rw [if_pos c43] at H
        have c43b0 : decide (t596 < 0) = true := decide_eq_true c43; clear c43; (first | rw [c43b0] | (simp only [i64_w, i32_w]; rw [c43b0]) | skip); have H' := Aside0.mk H; clear H
        go_wp2
        go_meet
        case rel => exact ⟨_, (true), (by first | rfl | (simp; done) | (simp [*]; done)), H', ⟨by have := HJ12.out; first | omega | exact Nat.le_refl _⟩, ⟨by (with_reducible repeat (first | apply Kd.R_alloc | apply Kd.R_drewN | apply Kd.R_drew)); exact Kd.R_mono HO_8.out (fun _ hk => hk.2.1)⟩, ⟨by (with_reducible repeat (first | apply Kd.R_alloc | apply Kd.R_drewN | apply Kd.R_drew)); exact Kd.R_mono HO_11.out (fun _ hk => hk.1)⟩, ⟨pk BK569⟩, ⟨pbs HB⟩⟩
       ·rw [if_neg c43] at H
        have c43b0 : decide (t596 < 0) = false := decide_eq_false c43; clear c43; (first | rw [c43b0] | (simp only [i64_w, i32_w]; rw [c43b0]) | skip); replace H := Option.bind_eq_some_iff.mp H; obtain ⟨t598, A440, H⟩ := H; replace H : (if t598 = true then (laws_FnExactGreedyPosts.j1 kj12 l1 a2 t577 t580 t587 (t590 != t580) a0_0 a0_1 a0_2) else (laws_FnExactGreedyPosts.j1 kj12 l1 a2 t577 t580 t587 true a0_0 a0_1 a0_2)) = some r := H; have A44 := Aside0.mk A440; clear A440
        by_cases c45 : t598 = true
        ·subst c45
         have H1 : (laws_FnExactGreedyPosts.j1 kj12 l1 a2 t577 t580 t587 (t590 != t580) a0_0 a0_1 a0_2) = some r := by rw [if_pos rfl] at H; exact H
         clear H; have H := H1; clear H1; have H' := Aside0.mk H; clear H; obtain ⟨Ao46, co46, eo46⟩ := Kd.R_slice HO_11.out; subst eo46; obtain ⟨Ao47, co47, eo47⟩ := Kd.R_slice HO_8.out; subst eo47
         go_wp2_with (first | (go_at_call 14; (with_reducible refine (laws_eqSpotS.calls kj12 _ _ t587 _ _ t577 true _ ?side1 ?side2 ?side3 ?side4 A44.out).mono ?_); (case side1 => repeat (first | exact (Kd.R_reads' HO_11.out).2.2 | (with_reducible refine Kd.C_alloc ?_ _) | (with_reducible refine Kd.C_drewN ?_ _) | (with_reducible refine Kd.C_drew ?_))); (case side2 => exact (Kd.R_reads' HO_11.out).2.1); (case side3 => repeat (first | exact (Kd.R_reads' HO_8.out).2.2 | (with_reducible refine Kd.C_alloc ?_ _) | (with_reducible refine Kd.C_drewN ?_ _) | (with_reducible refine Kd.C_drew ?_))); (case side4 => exact (Kd.R_reads' HO_8.out).2.1); rintro e w48 ⟨rfl, hb⟩; have n0_ := krb HO_8 hb; have n1_ := krb HO_10 hb; have n2_ := krb HO_11 hb; have n3_ := krb HO594 hb; have n4_ := bkb BK569 hb; have n5_ := bst HB hb; clear HO_8; clear HO_10; clear HO_11; clear HO594; clear BK569; clear HB; have HO_8 := n0_; have HO_10 := n1_; have HO_11 := n2_; have HO594 := n3_; have BK569 := n4_; have HB := n5_; clear n0_ n1_ n2_ n3_ n4_ n5_; (try clear hb); (try clear hb2); (try clear hk); (try clear hi)))
         go_meet
         case rel => exact ⟨_, ((t590 != t580)), (by first | rfl | (simp; done) | (simp [*]; done)), H', ⟨by have := HJ12.out; first | omega | exact Nat.le_refl _⟩, ⟨by (with_reducible repeat (first | apply Kd.R_alloc | apply Kd.R_drewN | apply Kd.R_drew)); exact Kd.R_mono HO_8.out (fun _ hk => hk.2.1)⟩, ⟨by (with_reducible repeat (first | apply Kd.R_alloc | apply Kd.R_drewN | apply Kd.R_drew)); exact Kd.R_mono HO_11.out (fun _ hk => hk.1)⟩, ⟨pk BK569⟩, ⟨pbs HB⟩⟩
        ·replace c45 := Bool.eq_false_iff.mpr c45
         subst c45
         have H1 : (laws_FnExactGreedyPosts.j1 kj12 l1 a2 t577 t580 t587 true a0_0 a0_1 a0_2) = some r := by rw [if_neg (show ¬ (false = true) by decide)] at H; exact H
         clear H; have H := H1; clear H1; have H' := Aside0.mk H; clear H; obtain ⟨Ao49, co49, eo49⟩ := Kd.R_slice HO_11.out; subst eo49; obtain ⟨Ao50, co50, eo50⟩ := Kd.R_slice HO_8.out; subst eo50
         go_wp2_with (first | (go_at_call 14; (with_reducible refine (laws_eqSpotS.calls kj12 _ _ t587 _ _ t577 false _ ?side1 ?side2 ?side3 ?side4 A44.out).mono ?_); (case side1 => repeat (first | exact (Kd.R_reads' HO_11.out).2.2 | (with_reducible refine Kd.C_alloc ?_ _) | (with_reducible refine Kd.C_drewN ?_ _) | (with_reducible refine Kd.C_drew ?_))); (case side2 => exact (Kd.R_reads' HO_11.out).2.1); (case side3 => repeat (first | exact (Kd.R_reads' HO_8.out).2.2 | (with_reducible refine Kd.C_alloc ?_ _) | (with_reducible refine Kd.C_drewN ?_ _) | (with_reducible refine Kd.C_drew ?_))); (case side4 => exact (Kd.R_reads' HO_8.out).2.1); rintro e w51 ⟨rfl, hb⟩; have n0_ := krb HO_8 hb; have n1_ := krb HO_10 hb; have n2_ := krb HO_11 hb; have n3_ := krb HO594 hb; have n4_ := bkb BK569 hb; have n5_ := bst HB hb; clear HO_8; clear HO_10; clear HO_11; clear HO594; clear BK569; clear HB; have HO_8 := n0_; have HO_10 := n1_; have HO_11 := n2_; have HO594 := n3_; have BK569 := n4_; have HB := n5_; clear n0_ n1_ n2_ n3_ n4_ n5_; (try clear hb); (try clear hb2); (try clear hk); (try clear hi)))
         go_meet
         case rel => exact ⟨_, (true), (by first | rfl | (simp; done) | (simp [*]; done)), H', ⟨by have := HJ12.out; first | omega | exact Nat.le_refl _⟩, ⟨by (with_reducible repeat (first | apply Kd.R_alloc | apply Kd.R_drewN | apply Kd.R_drew)); exact Kd.R_mono HO_8.out (fun _ hk => hk.2.1)⟩, ⟨by (with_reducible repeat (first | apply Kd.R_alloc | apply Kd.R_drewN | apply Kd.R_drew)); exact Kd.R_mono HO_11.out (fun _ hk => hk.1)⟩, ⟨pk BK569⟩, ⟨pbs HB⟩⟩
      case rest =>
       clear HC38
       try clear c1
       try clear c2
       try clear p2
       try clear c3
       try clear c4
       try clear c5
       try clear c5b0
       try clear c6
       try clear c9
       try clear c11
       try clear c12
       try clear c14
       try clear c17
       try clear c21
       try clear c22
       try clear c26
       try clear c33
       try clear c36
       try clear c43
       try clear c43b0
       try clear c45
       try clear p2
       obtain ⟨kq, x71_37, rfl, HA, HJ37, HO_8, HO_11, BK569, HB⟩ := hcut
       cases kq with
       | zero => exact absurd HA.out (by simp [laws_FnExactGreedyPosts.j1])
       | succ kj37 =>
        have H := HA.out; clear HA; simp only [laws_FnExactGreedyPosts.j1] at H
        by_cases c52 : x71_37 = true
        ·subst c52
         have H1 : (some false) = some r := by rw [if_pos rfl] at H; exact H
         clear H; have H := H1; clear H1; obtain rfl := Option.some.inj H
         go_wp2
         go_ret
         exact ⟨by first | rfl | (simp [errW_none, errW_some] <;> rfl) | (simp [*, errW_none, errW_some] <;> rfl), pbs HB⟩
        ·replace c52 := Bool.eq_false_iff.mpr c52
         subst c52
         have H1 : ((laws_markSpotS.f kj37 t587 1).bind fun bt599 => ((laws_heldSpotS.f kj37 bt599.2 1).bind fun t601 => (if t601 < 0 then (some false) else (if t601 = bt599.1 then ((laws_toRoom.f kj37 a0_0 a0_1 a0_2).bind fun bt602 => ((laws_toSpotS.f kj37 l1).bind fun t605 => ((impl_GreedyPosts.f kj37 bt602.1 bt602.2.1 bt602.2.2 t605 a2).bind fun bt608 => ((laws_eqSpotS.f kj37 bt608.1 t577).bind fun t612 => (if t612 = true then (laws_FnExactGreedyPosts.j2 kj37 bt599.2 bt599.1 (bt608.2 != t580)) else (laws_FnExactGreedyPosts.j2 kj37 bt599.2 bt599.1 true)))))) else (some false))))) = some r := by rw [if_neg (show ¬ (false = true) by decide)] at H; exact H
         clear H; have H := H1; clear H1; replace H := Option.bind_eq_some_iff.mp H; obtain ⟨⟨t599, t600⟩, A530, H⟩ := H; replace H : ((laws_heldSpotS.f kj37 t600 1).bind fun t601 => (if t601 < 0 then (some false) else (if t601 = t599 then ((laws_toRoom.f kj37 a0_0 a0_1 a0_2).bind fun bt602 => ((laws_toSpotS.f kj37 l1).bind fun t605 => ((impl_GreedyPosts.f kj37 bt602.1 bt602.2.1 bt602.2.2 t605 a2).bind fun bt608 => ((laws_eqSpotS.f kj37 bt608.1 t577).bind fun t612 => (if t612 = true then (laws_FnExactGreedyPosts.j2 kj37 t600 t599 (bt608.2 != t580)) else (laws_FnExactGreedyPosts.j2 kj37 t600 t599 true)))))) else (some false)))) = some r := H; have A53 := Aside0.mk A530; clear A530; replace H := Option.bind_eq_some_iff.mp H; obtain ⟨t601, A540, H⟩ := H; replace H : (if t601 < 0 then (some false) else (if t601 = t599 then ((laws_toRoom.f kj37 a0_0 a0_1 a0_2).bind fun bt602 => ((laws_toSpotS.f kj37 l1).bind fun t605 => ((impl_GreedyPosts.f kj37 bt602.1 bt602.2.1 bt602.2.2 t605 a2).bind fun bt608 => ((laws_eqSpotS.f kj37 bt608.1 t577).bind fun t612 => (if t612 = true then (laws_FnExactGreedyPosts.j2 kj37 t600 t599 (bt608.2 != t580)) else (laws_FnExactGreedyPosts.j2 kj37 t600 t599 true)))))) else (some false))) = some r := H; have A54 := Aside0.mk A540; clear A540
         by_cases c55 : t601 < 0
         ·rw [if_pos c55] at H
          have c55b0 : decide (t601 < 0) = true := decide_eq_true c55; clear c55; obtain rfl := Option.some.inj H; obtain ⟨Ao56, co56, eo56⟩ := Kd.R_slice HO_11.out; subst eo56
          go_wp2_with (first | ((with_reducible refine gate_callee (f := 17) rfl ?_); refine goesL_ (some 74) rfl rfl Try.func17 (by kernel_rfl) rfl #[.slice Ao56 t587.length co56, .int .i64 1] rfl (by (try simp only [List.map_toArray, List.map_cons, List.map_nil]); first | done | rfl | (simp only [List.length_drop, List.length_take]; rfl)) ?_; (with_reducible refine (laws_markSpotS.calls kj37 (fun k_ => some k_ = (.slice Ao56 t587.length co56 : Value).ownBlock) (.slice Ao56 t587.length co56) t587 1 t599 t600 w _ ?side1 ?side2 A53.out).mono ?_); (case side1 => repeat (first | (with_reducible first | exact HB.out | apply below_alloc | apply pw_below_drewN | apply below_drew1 | refine below_set ?_ GE569.out) | exact HB.out)); (case side2 => exact Kd.R_tight rfl HO_11.out); rintro e w57 ⟨rfl, hy0, hb, hkp⟩; refine ⟨_, rfl, ?_⟩; have n0_ := Aside0.mk (Kd.R_mono (ok' := fun k_ => some k_ ≠ (.slice Ao56 t587.length co56 : Value).ownBlock) (Kd.R_keptB (HO_8.out) hkp (fun k_ hk_ hs_ => (hk_) hs_)) (fun k_ hk_ => hk_.1)); have n1_ := Aside0.mk (Kd.R_reok rfl hy0 (fun k_ e_ => HO_11.out.1 k_ e_)); have n2_ := Aside0.mk (blk_kept (pk BK569) hkp (fun hs_ => (fun e_ => (Kd.R_ne HO_11.out BK569.out (by decide)) e_) hs_)); have n3_ := Aside0.mk (hb); clear HO_8; clear HO_11; clear BK569; clear HB; have HO_8 := n0_; have HO_11 := n1_; have BK569 := n2_; have HB := n3_; clear n0_ n1_ n2_ n3_; (try clear hb); (try clear hkp); (try clear hy0)) | ((with_reducible refine gate_callee (f := 18) rfl ?_); refine goesL_ (some 77) rfl rfl Try.func18 (by kernel_rfl) rfl #[.slice Ao56 t600.length co56, .int .i64 1] rfl (by (try simp only [List.map_toArray, List.map_cons, List.map_nil]); first | done | (rw [show t600.length = t587.length from (Kd.R_reads' HO_11.out).1.symm] <;> rfl) | rfl | (simp only [List.length_drop, List.length_take]; rfl)) ?_; (with_reducible refine (laws_heldSpotS.calls kj37 _ _ t600 1 t601 _ ?side1 ?side2 A54.out).mono ?_); (case side1 => repeat (first | exact (Kd.R_reads' HO_11.out).2.2 | (with_reducible refine Kd.C_alloc ?_ _) | (with_reducible refine Kd.C_drewN ?_ _) | (with_reducible refine Kd.C_drew ?_))); (case side2 => rw [show t600.length = t587.length from (Kd.R_reads' HO_11.out).1.symm]; exact (Kd.R_reads' HO_11.out).2.1); rintro e w' ⟨rfl, ⟨nd, rfl⟩⟩; refine ⟨_, rfl, ?_⟩))
          go_ret
          exact ⟨by first | rfl | (simp [errW_none, errW_some] <;> rfl) | (simp [*, errW_none, errW_some] <;> rfl), pbs HB⟩
         ·rw [if_neg c55] at H
          have c55b0 : decide (t601 < 0) = false := decide_eq_false c55; clear c55
          by_cases c58 : t601 = t599
          ·rw [if_pos c58] at H
           have c58b0 : (t601 == t599) = true := beq_iff_eq.mpr c58; have c58b1 : (t601 != t599) = false := bne_eq_false_iff_eq.mpr c58; clear c58; replace H := Option.bind_eq_some_iff.mp H; obtain ⟨⟨t602, t603, t604⟩, A590, H⟩ := H; replace H : ((laws_toSpotS.f kj37 l1).bind fun t605 => ((impl_GreedyPosts.f kj37 t602 t603 t604 t605 a2).bind fun bt608 => ((laws_eqSpotS.f kj37 bt608.1 t577).bind fun t612 => (if t612 = true then (laws_FnExactGreedyPosts.j2 kj37 t600 t599 (bt608.2 != t580)) else (laws_FnExactGreedyPosts.j2 kj37 t600 t599 true))))) = some r := H; have A59 := Aside0.mk A590; clear A590; replace H := Option.bind_eq_some_iff.mp H; obtain ⟨t605, A600, H⟩ := H; replace H : ((impl_GreedyPosts.f kj37 t602 t603 t604 t605 a2).bind fun bt608 => ((laws_eqSpotS.f kj37 bt608.1 t577).bind fun t612 => (if t612 = true then (laws_FnExactGreedyPosts.j2 kj37 t600 t599 (bt608.2 != t580)) else (laws_FnExactGreedyPosts.j2 kj37 t600 t599 true)))) = some r := H; have A60 := Aside0.mk A600; clear A600; replace H := Option.bind_eq_some_iff.mp H; obtain ⟨⟨t608, t611⟩, A610, H⟩ := H; replace H : ((laws_eqSpotS.f kj37 t608 t577).bind fun t612 => (if t612 = true then (laws_FnExactGreedyPosts.j2 kj37 t600 t599 (t611 != t580)) else (laws_FnExactGreedyPosts.j2 kj37 t600 t599 true))) = some r := H; have A61 := Aside0.mk A610; clear A610; have HC62 := Aside0.mk H; clear H; obtain ⟨Ao63, co63, eo63⟩ := Kd.R_slice HO_11.out; subst eo63
           go_upto_region 25 with (first | ((with_reducible refine gate_callee (f := 17) rfl ?_); refine goesL_ (some 74) rfl rfl Try.func17 (by kernel_rfl) rfl #[.slice Ao63 t587.length co63, .int .i64 1] rfl (by (try simp only [List.map_toArray, List.map_cons, List.map_nil]); first | done | rfl | (simp only [List.length_drop, List.length_take]; rfl)) ?_; (with_reducible refine (laws_markSpotS.calls kj37 (fun k_ => some k_ = (.slice Ao63 t587.length co63 : Value).ownBlock) (.slice Ao63 t587.length co63) t587 1 t599 t600 w _ ?side1 ?side2 A53.out).mono ?_); (case side1 => repeat (first | (with_reducible first | exact HB.out | apply below_alloc | apply pw_below_drewN | apply below_drew1 | refine below_set ?_ GE569.out) | exact HB.out)); (case side2 => exact Kd.R_tight rfl HO_11.out); rintro e w64 ⟨rfl, hy0, hb, hkp⟩; refine ⟨_, rfl, ?_⟩; have n0_ := Aside0.mk (Kd.R_mono (ok' := fun k_ => some k_ ≠ (.slice Ao63 t587.length co63 : Value).ownBlock) (Kd.R_keptB (HO_8.out) hkp (fun k_ hk_ hs_ => (hk_) hs_)) (fun k_ hk_ => hk_.1)); have n1_ := Aside0.mk (Kd.R_reok rfl hy0 (fun k_ e_ => HO_11.out.1 k_ e_)); have n2_ := Aside0.mk (blk_kept (pk BK569) hkp (fun hs_ => (fun e_ => (Kd.R_ne HO_11.out BK569.out (by decide)) e_) hs_)); have n3_ := Aside0.mk (hb); clear HO_8; clear HO_11; clear BK569; clear HB; have HO_8 := n0_; have HO_11 := n1_; have BK569 := n2_; have HB := n3_; clear n0_ n1_ n2_ n3_; (try clear hb); (try clear hkp); (try clear hy0)) | ((with_reducible refine gate_callee (f := 18) rfl ?_); refine goesL_ (some 77) rfl rfl Try.func18 (by kernel_rfl) rfl #[.slice Ao63 t600.length co63, .int .i64 1] rfl (by (try simp only [List.map_toArray, List.map_cons, List.map_nil]); first | done | (rw [show t600.length = t587.length from (Kd.R_reads' HO_11.out).1.symm] <;> rfl) | rfl | (simp only [List.length_drop, List.length_take]; rfl)) ?_; (with_reducible refine (laws_heldSpotS.calls kj37 _ _ t600 1 t601 _ ?side1 ?side2 A54.out).mono ?_); (case side1 => repeat (first | exact (Kd.R_reads' HO_11.out).2.2 | (with_reducible refine Kd.C_alloc ?_ _) | (with_reducible refine Kd.C_drewN ?_ _) | (with_reducible refine Kd.C_drew ?_))); (case side2 => rw [show t600.length = t587.length from (Kd.R_reads' HO_11.out).1.symm]; exact (Kd.R_reads' HO_11.out).2.1); rintro e w' ⟨rfl, ⟨nd, rfl⟩⟩; refine ⟨_, rfl, ?_⟩) | ((with_reducible refine gate_dst (N := 84) rfl ?_); refine wpList_run0 (v := .agg (mixA (Value.int .u16) [.int .i8 a0_0, .int .i8 a0_1] a0_2)) rfl (load_mix_run (P := Try.prog) 26 (.tmp 3) rfl gb569 rfl (show World.rangeAt _ gb569 0 ([.int .i8 a0_0, .int .i8 a0_1] ++ a0_2.l.map (Value.int .u16)) from mix_range (show (World.heap _)[gb569]? = some (.cells (mixA (Value.int .u16) [.int .i8 a0_0, .int .i8 a0_1] a0_2) 26 (0, 0)) from by (with_reducible repeat (first | refine blk_drewN ?_ _ | refine blk_drew ?_ | refine blk_alloc ?_ _)); exact BK569.out)) Try.underlying26 rfl (by kernel_rfl) rfl) ?_) | ((with_reducible refine gate_callee (f := 11) rfl ?_); refine goesL_ (some 85) rfl rfl Try.func11 (by kernel_rfl) rfl #[.agg (mixA (Value.int .u16) [.int .i8 a0_0, .int .i8 a0_1] a0_2)] rfl (by (try simp only [List.map_toArray, List.map_cons, List.map_nil]); first | done | rfl | (simp only [List.length_drop, List.length_take]; rfl)) ?_; (with_reducible refine (laws_toRoom.calls kj37 a0_0 a0_1 a0_2 t602 t603 t604 _ A59.out).mono ?_); rintro e w66 ⟨rfl, hb⟩; refine ⟨_, rfl, ?_⟩; have n0_ := krb HO_8 hb; have n1_ := krb HO_11 hb; have n2_ := bkb BK569 hb; have n3_ := bst HB hb; clear HO_8; clear HO_11; clear BK569; clear HB; have HO_8 := n0_; have HO_11 := n1_; have BK569 := n2_; have HB := n3_; clear n0_ n1_ n2_ n3_; (try clear hb); (try clear hb2); (try clear hk); (try clear hi)) | ((with_reducible refine gate_callee (f := 12) rfl ?_); refine goesL_ (some 87) rfl rfl Try.func12 (by kernel_rfl) rfl #[.slice A1 l1.length c1] rfl (by (try simp only [List.map_toArray, List.map_cons, List.map_nil]); first | done | rfl | (simp only [List.length_drop, List.length_take]; rfl)) ?_; (with_reducible refine (laws_toSpotS.calls kj37 _ _ l1 t605 _ ?side1 ?side2 A60.out).mono ?_); (case side1 => repeat (first | exact (Kd.C_below HR1.out HB.out) | (with_reducible refine Kd.C_alloc ?_ _) | (with_reducible refine Kd.C_drewN ?_ _) | (with_reducible refine Kd.C_drew ?_))); (case side2 => exact HC1.out); rintro e w67 ⟨v606, rfl, ho0, hb⟩; refine ⟨_, rfl, ?_⟩; have n0_ := Aside0.mk (Kd.R_elder' (by (with_reducible repeat (first | apply Kd.R_alloc | apply Kd.R_drewN | apply Kd.R_drew)); exact HO_8.out) (Kd.R_base ho0) hb); have n1_ := Aside0.mk (Kd.R_elder' (by (with_reducible repeat (first | apply Kd.R_alloc | apply Kd.R_drewN | apply Kd.R_drew)); exact HO_11.out) (Kd.R_base ho0) hb); have n2_ := Aside0.mk (Kd.R_lower (Kd.R_new' (Kd.R_new' ho0 (Kd.R_lt (by (with_reducible repeat (first | apply Kd.R_alloc | apply Kd.R_drewN | apply Kd.R_drew)); exact HO_8.out))) (Kd.R_lt (by (with_reducible repeat (first | apply Kd.R_alloc | apply Kd.R_drewN | apply Kd.R_drew)); exact HO_11.out))) (below_size (by repeat (first | (with_reducible first | exact HB.out | apply below_alloc | apply pw_below_drewN | apply below_drew1 | refine below_set ?_ GE569.out) | exact HB.out)))); have n3_ := bkb BK569 hb; have n4_ := bst HB hb; clear HO_8; clear HO_11; clear BK569; clear HB; have HO_8 := n0_; have HO_11 := n1_; have HO607 := n2_; have BK569 := n3_; have HB := n4_; clear n0_ n1_ n2_ n3_ n4_; (try clear hb); (try clear hb2); (try clear hk); (try clear hi); (try clear ho0); obtain ⟨Ao68, co68, eo68⟩ := Kd.R_slice HO607.out; subst eo68) | ((with_reducible refine gate_callee (f := 22) rfl ?_); refine goesL_ (some 89) rfl rfl Try.func22 (by kernel_rfl) rfl #[.agg (mixA (Value.int .u16) [.int .i8 t602, .int .i8 t603] t604), .slice Ao68 t605.length co68, .int .i64 a2] rfl (by (try simp only [List.map_toArray, List.map_cons, List.map_nil]); first | done | rfl | (simp only [List.length_drop, List.length_take]; rfl)) ?_; (with_reducible refine (impl_GreedyPosts.calls kj37 t602 t603 t604 _ _ t605 a2 t608 t611 _ ?side1 ?side2 A61.out).mono ?_); (case side1 => repeat (first | exact (Kd.R_reads' HO607.out).2.2 | (with_reducible refine Kd.C_alloc ?_ _) | (with_reducible refine Kd.C_drewN ?_ _) | (with_reducible refine Kd.C_drew ?_))); (case side2 => exact (Kd.R_reads' HO607.out).2.1); rintro e w69 ⟨v609, rfl, ho0, hb⟩; refine ⟨_, rfl, ?_⟩; have n0_ := Aside0.mk (Kd.R_elder' (by (with_reducible repeat (first | apply Kd.R_alloc | apply Kd.R_drewN | apply Kd.R_drew)); exact HO_8.out) (Kd.R_base ho0) hb); have n1_ := Aside0.mk (Kd.R_elder' (by (with_reducible repeat (first | apply Kd.R_alloc | apply Kd.R_drewN | apply Kd.R_drew)); exact HO_11.out) (Kd.R_base ho0) hb); have n2_ := Aside0.mk (Kd.R_elder' (by (with_reducible repeat (first | apply Kd.R_alloc | apply Kd.R_drewN | apply Kd.R_drew)); exact HO607.out) (Kd.R_base ho0) hb); have n3_ := Aside0.mk (Kd.R_lower (Kd.R_new' (Kd.R_new' (Kd.R_new' ho0 (Kd.R_lt (by (with_reducible repeat (first | apply Kd.R_alloc | apply Kd.R_drewN | apply Kd.R_drew)); exact HO_8.out))) (Kd.R_lt (by (with_reducible repeat (first | apply Kd.R_alloc | apply Kd.R_drewN | apply Kd.R_drew)); exact HO_11.out))) (Kd.R_lt (by (with_reducible repeat (first | apply Kd.R_alloc | apply Kd.R_drewN | apply Kd.R_drew)); exact HO607.out))) (below_size (by repeat (first | (with_reducible first | exact HB.out | apply below_alloc | apply pw_below_drewN | apply below_drew1 | refine below_set ?_ GE569.out) | exact HB.out)))); have n4_ := bkb BK569 hb; have n5_ := bst HB hb; clear HO_8; clear HO_11; clear HO607; clear BK569; clear HB; have HO_8 := n0_; have HO_11 := n1_; have HO607 := n2_; have HO610 := n3_; have BK569 := n4_; have HB := n5_; clear n0_ n1_ n2_ n3_ n4_ n5_; (try clear hb); (try clear hb2); (try clear hk); (try clear hi); (try clear ho0)))
           (try simp only [Act.put, List.setIfInBounds_toArray, List.set_cons_zero, List.set_cons_succ])
           go_cut [100] (fun v100 wc => ∃ (kq : Nat) (x100_61 : Bool), v100 = .bool x100_61 ∧ Aside0 (laws_FnExactGreedyPosts.j2 kq t600 t599 x100_61 = some r) ∧ Aside0 (kq ≤ kj37) ∧ Aside0 (Kd.R k54 54 wc w.heap.size (fun _ => True) (.slice Ao63 t587.length co63) t600) ∧ Aside0 (wc.heap[gb569]? = some (.cells (mixA (Value.int .u16) [.int .i8 a0_0, .int .i8 a0_1] a0_2) 26 (0, 0))) ∧ Aside0 (Below w.heap.size w wc))
           case first =>
            have H := HC62.out; clear HC62; replace H := Option.bind_eq_some_iff.mp H; obtain ⟨t612, A700, H⟩ := H; replace H : (if t612 = true then (laws_FnExactGreedyPosts.j2 kj37 t600 t599 (t611 != t580)) else (laws_FnExactGreedyPosts.j2 kj37 t600 t599 true)) = some r := H; have A70 := Aside0.mk A700; clear A700
            by_cases c71 : t612 = true
            ·subst c71
             have H1 : (laws_FnExactGreedyPosts.j2 kj37 t600 t599 (t611 != t580)) = some r := by rw [if_pos rfl] at H; exact H
             clear H; have H := H1; clear H1; have H' := Aside0.mk H; clear H; obtain ⟨Ao72, co72, eo72⟩ := Kd.R_slice HO610.out; subst eo72; obtain ⟨Ao73, co73, eo73⟩ := Kd.R_slice HO_8.out; subst eo73
             go_wp2_with (first | ((with_reducible refine gate_callee (f := 14) rfl ?_); refine goesL_ (some 94) rfl rfl Try.func14 (by kernel_rfl) rfl #[.slice Ao72 t608.length co72, .slice Ao73 t577.length co73] rfl (by (try simp only [List.map_toArray, List.map_cons, List.map_nil]); first | done | rfl | (simp only [List.length_drop, List.length_take]; rfl)) ?_; (with_reducible refine (laws_eqSpotS.calls kj37 _ _ t608 _ _ t577 true _ ?side1 ?side2 ?side3 ?side4 A70.out).mono ?_); (case side1 => repeat (first | exact (Kd.R_reads' HO610.out).2.2 | (with_reducible refine Kd.C_alloc ?_ _) | (with_reducible refine Kd.C_drewN ?_ _) | (with_reducible refine Kd.C_drew ?_))); (case side2 => exact (Kd.R_reads' HO610.out).2.1); (case side3 => repeat (first | exact (Kd.R_reads' HO_8.out).2.2 | (with_reducible refine Kd.C_alloc ?_ _) | (with_reducible refine Kd.C_drewN ?_ _) | (with_reducible refine Kd.C_drew ?_))); (case side4 => exact (Kd.R_reads' HO_8.out).2.1); rintro e w74 ⟨rfl, hb⟩; refine ⟨_, rfl, ?_⟩; have n0_ := krb HO_8 hb; have n1_ := krb HO_11 hb; have n2_ := krb HO607 hb; have n3_ := krb HO610 hb; have n4_ := bkb BK569 hb; have n5_ := bst HB hb; clear HO_8; clear HO_11; clear HO607; clear HO610; clear BK569; clear HB; have HO_8 := n0_; have HO_11 := n1_; have HO607 := n2_; have HO610 := n3_; have BK569 := n4_; have HB := n5_; clear n0_ n1_ n2_ n3_ n4_ n5_; (try clear hb); (try clear hb2); (try clear hk); (try clear hi)))
             go_meet
             case rel => exact ⟨_, ((t611 != t580)), (by first | rfl | (simp; done) | (simp [*]; done)), H', ⟨by have := HJ12.out; have := HJ37.out; first | omega | exact Nat.le_refl _⟩, ⟨by (with_reducible repeat (first | apply Kd.R_alloc | apply Kd.R_drewN | apply Kd.R_drew)); exact Kd.R_mono HO_11.out (fun _ hk => trivial)⟩, ⟨pk BK569⟩, ⟨pbs HB⟩⟩
            ·replace c71 := Bool.eq_false_iff.mpr c71
             subst c71
             have H1 : (laws_FnExactGreedyPosts.j2 kj37 t600 t599 true) = some r := by rw [if_neg (show ¬ (false = true) by decide)] at H; exact H
             clear H; have H := H1; clear H1; have H' := Aside0.mk H; clear H; obtain ⟨Ao75, co75, eo75⟩ := Kd.R_slice HO610.out; subst eo75; obtain ⟨Ao76, co76, eo76⟩ := Kd.R_slice HO_8.out; subst eo76
             go_wp2_with (first | ((with_reducible refine gate_callee (f := 14) rfl ?_); refine goesL_ (some 94) rfl rfl Try.func14 (by kernel_rfl) rfl #[.slice Ao75 t608.length co75, .slice Ao76 t577.length co76] rfl (by (try simp only [List.map_toArray, List.map_cons, List.map_nil]); first | done | rfl | (simp only [List.length_drop, List.length_take]; rfl)) ?_; (with_reducible refine (laws_eqSpotS.calls kj37 _ _ t608 _ _ t577 false _ ?side1 ?side2 ?side3 ?side4 A70.out).mono ?_); (case side1 => repeat (first | exact (Kd.R_reads' HO610.out).2.2 | (with_reducible refine Kd.C_alloc ?_ _) | (with_reducible refine Kd.C_drewN ?_ _) | (with_reducible refine Kd.C_drew ?_))); (case side2 => exact (Kd.R_reads' HO610.out).2.1); (case side3 => repeat (first | exact (Kd.R_reads' HO_8.out).2.2 | (with_reducible refine Kd.C_alloc ?_ _) | (with_reducible refine Kd.C_drewN ?_ _) | (with_reducible refine Kd.C_drew ?_))); (case side4 => exact (Kd.R_reads' HO_8.out).2.1); rintro e w77 ⟨rfl, hb⟩; refine ⟨_, rfl, ?_⟩; have n0_ := krb HO_8 hb; have n1_ := krb HO_11 hb; have n2_ := krb HO607 hb; have n3_ := krb HO610 hb; have n4_ := bkb BK569 hb; have n5_ := bst HB hb; clear HO_8; clear HO_11; clear HO607; clear HO610; clear BK569; clear HB; have HO_8 := n0_; have HO_11 := n1_; have HO607 := n2_; have HO610 := n3_; have BK569 := n4_; have HB := n5_; clear n0_ n1_ n2_ n3_ n4_ n5_; (try clear hb); (try clear hb2); (try clear hk); (try clear hi)))
             go_meet
             case rel => exact ⟨_, (true), (by first | rfl | (simp; done) | (simp [*]; done)), H', ⟨by have := HJ12.out; have := HJ37.out; first | omega | exact Nat.le_refl _⟩, ⟨by (with_reducible repeat (first | apply Kd.R_alloc | apply Kd.R_drewN | apply Kd.R_drew)); exact Kd.R_mono HO_11.out (fun _ hk => trivial)⟩, ⟨pk BK569⟩, ⟨pbs HB⟩⟩
           case rest =>
            clear HC62
            try clear c1
            try clear c2
            try clear p2
            try clear c3
            try clear c4
            try clear c5
            try clear c5b0
            try clear c6
            try clear c7
            try clear c9
            try clear c11
            try clear c12
            try clear c14
            try clear c17
            try clear c18
            try clear c21
            try clear c22
            try clear c26
            try clear c33
            try clear c36
            try clear c43
            try clear c43b0
            try clear c45
            try clear c52
            try clear c55
            try clear c55b0
            try clear c58
            try clear c58b0
            try clear c58b1
            try clear c71
            try clear p2
            obtain ⟨kq, x100_61, rfl, HA, HJ61, HO_11, BK569, HB⟩ := hcut; have hl11_61 := (Kd.R_reads' HO_11.out).1; rw [hl11_61] at HO_11; (try simp only [hl11_61]); (try simp only [hl11_61] at BK569)
            cases kq with
            | zero => exact absurd HA.out (by simp [laws_FnExactGreedyPosts.j2])
            | succ kj61 =>
             have H := HA.out; clear HA; simp only [laws_FnExactGreedyPosts.j2] at H
             by_cases c78 : x100_61 = true
             ·subst c78
              have H1 : (some false) = some r := by rw [if_pos rfl] at H; exact H
              clear H; have H := H1; clear H1; obtain rfl := Option.some.inj H
              go_wp2
              go_ret
              exact ⟨by first | rfl | (simp [errW_none, errW_some] <;> rfl) | (simp [*, errW_none, errW_some] <;> rfl), pbs HB⟩
             ·replace c78 := Bool.eq_false_iff.mpr c78
              subst c78
              have H1 : ((laws_heldSpotS.f kj61 t600 1).bind fun t613 => (if t613 < 0 then (some false) else (if t613 = t599 then (some true) else (some false)))) = some r := by rw [if_neg (show ¬ (false = true) by decide)] at H; exact H
              clear H; have H := H1; clear H1; replace H := Option.bind_eq_some_iff.mp H; obtain ⟨t613, A790, H⟩ := H; replace H : (if t613 < 0 then (some false) else (if t613 = t599 then (some true) else (some false))) = some r := H; have A79 := Aside0.mk A790; clear A790
              by_cases c80 : t613 < 0
              ·rw [if_pos c80] at H
               have c80b0 : decide (t613 < 0) = true := decide_eq_true c80; clear c80; obtain rfl := Option.some.inj H
               go_wp2_with (first | ((with_reducible refine gate_callee (f := 18) rfl ?_); refine goesL_ (some 103) rfl rfl Try.func18 (by kernel_rfl) rfl #[.slice Ao63 t600.length co63, .int .i64 1] rfl (by (try simp only [List.map_toArray, List.map_cons, List.map_nil]); first | done | rfl | (simp only [List.length_drop, List.length_take]; rfl)) ?_; (with_reducible refine (laws_heldSpotS.calls kj61 _ _ t600 1 t613 _ ?side1 ?side2 A79.out).mono ?_); (case side1 => repeat (first | exact (Kd.R_reads' HO_11.out).2.2 | (with_reducible refine Kd.C_alloc ?_ _) | (with_reducible refine Kd.C_drewN ?_ _) | (with_reducible refine Kd.C_drew ?_))); (case side2 => exact (Kd.R_reads' HO_11.out).2.1); rintro e w' ⟨rfl, ⟨nd, rfl⟩⟩; refine ⟨_, rfl, ?_⟩))
               go_ret
               exact ⟨by first | rfl | (simp [errW_none, errW_some] <;> rfl) | (simp [*, errW_none, errW_some] <;> rfl), pbs HB⟩
              ·rw [if_neg c80] at H
               have c80b0 : decide (t613 < 0) = false := decide_eq_false c80; clear c80
               by_cases c81 : t613 = t599
               ·rw [if_pos c81] at H
                have c81b0 : (t613 == t599) = true := beq_iff_eq.mpr c81; have c81b1 : (t613 != t599) = false := bne_eq_false_iff_eq.mpr c81; clear c81; obtain rfl := Option.some.inj H
                go_wp2_with (first | ((with_reducible refine gate_callee (f := 18) rfl ?_); refine goesL_ (some 103) rfl rfl Try.func18 (by kernel_rfl) rfl #[.slice Ao63 t600.length co63, .int .i64 1] rfl (by (try simp only [List.map_toArray, List.map_cons, List.map_nil]); first | done | rfl | (simp only [List.length_drop, List.length_take]; rfl)) ?_; (with_reducible refine (laws_heldSpotS.calls kj61 _ _ t600 1 t613 _ ?side1 ?side2 A79.out).mono ?_); (case side1 => repeat (first | exact (Kd.R_reads' HO_11.out).2.2 | (with_reducible refine Kd.C_alloc ?_ _) | (with_reducible refine Kd.C_drewN ?_ _) | (with_reducible refine Kd.C_drew ?_))); (case side2 => exact (Kd.R_reads' HO_11.out).2.1); rintro e w' ⟨rfl, ⟨nd, rfl⟩⟩; refine ⟨_, rfl, ?_⟩))
                go_ret
                exact ⟨by first | rfl | (simp [errW_none, errW_some] <;> rfl) | (simp [*, errW_none, errW_some] <;> rfl), pbs HB⟩
               ·rw [if_neg c81] at H
                have c81b0 : (t613 == t599) = false := beq_eq_false_iff_ne.mpr c81; have c81b1 : (t613 != t599) = true := bne_iff_ne.mpr c81; obtain rfl := Option.some.inj H
                go_wp2_with (first | ((with_reducible refine gate_callee (f := 18) rfl ?_); refine goesL_ (some 103) rfl rfl Try.func18 (by kernel_rfl) rfl #[.slice Ao63 t600.length co63, .int .i64 1] rfl (by (try simp only [List.map_toArray, List.map_cons, List.map_nil]); first | done | rfl | (simp only [List.length_drop, List.length_take]; rfl)) ?_; (with_reducible refine (laws_heldSpotS.calls kj61 _ _ t600 1 t613 _ ?side1 ?side2 A79.out).mono ?_); (case side1 => repeat (first | exact (Kd.R_reads' HO_11.out).2.2 | (with_reducible refine Kd.C_alloc ?_ _) | (with_reducible refine Kd.C_drewN ?_ _) | (with_reducible refine Kd.C_drew ?_))); (case side2 => exact (Kd.R_reads' HO_11.out).2.1); rintro e w' ⟨rfl, ⟨nd, rfl⟩⟩; refine ⟨_, rfl, ?_⟩))
                go_ret
                exact ⟨by first | rfl | (simp [errW_none, errW_some] <;> rfl) | (simp [*, errW_none, errW_some] <;> rfl), pbs HB⟩
          ·rw [if_neg c58] at H
           have c58b0 : (t601 == t599) = false := beq_eq_false_iff_ne.mpr c58; have c58b1 : (t601 != t599) = true := bne_iff_ne.mpr c58; obtain rfl := Option.some.inj H; obtain ⟨Ao82, co82, eo82⟩ := Kd.R_slice HO_11.out; subst eo82
           go_wp2_with (first | ((with_reducible refine gate_callee (f := 17) rfl ?_); refine goesL_ (some 74) rfl rfl Try.func17 (by kernel_rfl) rfl #[.slice Ao82 t587.length co82, .int .i64 1] rfl (by (try simp only [List.map_toArray, List.map_cons, List.map_nil]); first | done | rfl | (simp only [List.length_drop, List.length_take]; rfl)) ?_; (with_reducible refine (laws_markSpotS.calls kj37 (fun k_ => some k_ = (.slice Ao82 t587.length co82 : Value).ownBlock) (.slice Ao82 t587.length co82) t587 1 t599 t600 w _ ?side1 ?side2 A53.out).mono ?_); (case side1 => repeat (first | (with_reducible first | exact HB.out | apply below_alloc | apply pw_below_drewN | apply below_drew1 | refine below_set ?_ GE569.out) | exact HB.out)); (case side2 => exact Kd.R_tight rfl HO_11.out); rintro e w83 ⟨rfl, hy0, hb, hkp⟩; refine ⟨_, rfl, ?_⟩; have n0_ := Aside0.mk (Kd.R_mono (ok' := fun k_ => some k_ ≠ (.slice Ao82 t587.length co82 : Value).ownBlock) (Kd.R_keptB (HO_8.out) hkp (fun k_ hk_ hs_ => (hk_) hs_)) (fun k_ hk_ => hk_.1)); have n1_ := Aside0.mk (Kd.R_reok rfl hy0 (fun k_ e_ => HO_11.out.1 k_ e_)); have n2_ := Aside0.mk (blk_kept (pk BK569) hkp (fun hs_ => (fun e_ => (Kd.R_ne HO_11.out BK569.out (by decide)) e_) hs_)); have n3_ := Aside0.mk (hb); clear HO_8; clear HO_11; clear BK569; clear HB; have HO_8 := n0_; have HO_11 := n1_; have BK569 := n2_; have HB := n3_; clear n0_ n1_ n2_ n3_; (try clear hb); (try clear hkp); (try clear hy0)) | ((with_reducible refine gate_callee (f := 18) rfl ?_); refine goesL_ (some 77) rfl rfl Try.func18 (by kernel_rfl) rfl #[.slice Ao82 t600.length co82, .int .i64 1] rfl (by (try simp only [List.map_toArray, List.map_cons, List.map_nil]); first | done | (rw [show t600.length = t587.length from (Kd.R_reads' HO_11.out).1.symm] <;> rfl) | rfl | (simp only [List.length_drop, List.length_take]; rfl)) ?_; (with_reducible refine (laws_heldSpotS.calls kj37 _ _ t600 1 t601 _ ?side1 ?side2 A54.out).mono ?_); (case side1 => repeat (first | exact (Kd.R_reads' HO_11.out).2.2 | (with_reducible refine Kd.C_alloc ?_ _) | (with_reducible refine Kd.C_drewN ?_ _) | (with_reducible refine Kd.C_drew ?_))); (case side2 => rw [show t600.length = t587.length from (Kd.R_reads' HO_11.out).1.symm]; exact (Kd.R_reads' HO_11.out).2.1); rintro e w' ⟨rfl, ⟨nd, rfl⟩⟩; refine ⟨_, rfl, ?_⟩))
           go_ret
           exact ⟨by first | rfl | (simp [errW_none, errW_some] <;> rfl) | (simp [*, errW_none, errW_some] <;> rfl), pbs HB⟩
     ·replace c36 := Bool.eq_false_iff.mpr c36
      subst c36
      have H1 : (some false) = some r := by rw [if_neg (show ¬ (false = true) by decide)] at H; exact H
      clear H; have H := H1; clear H1; obtain rfl := Option.some.inj H
      go_wp2_with (first | ((with_reducible refine gate_callee (f := 12) rfl ?_); refine goesL_ (some 53) rfl rfl Try.func12 (by kernel_rfl) rfl #[.slice A1 l1.length c1] rfl (by (try simp only [List.map_toArray, List.map_cons, List.map_nil]); first | done | rfl | (simp only [List.length_drop, List.length_take]; rfl)) ?_; (with_reducible refine (laws_toSpotS.calls kj12 _ _ l1 t592 _ ?side1 ?side2 A34.out).mono ?_); (case side1 => repeat (first | exact (Kd.C_below HR1.out HB.out) | (with_reducible refine Kd.C_alloc ?_ _) | (with_reducible refine Kd.C_drewN ?_ _) | (with_reducible refine Kd.C_drew ?_))); (case side2 => exact HC1.out); rintro e w84 ⟨v593, rfl, ho0, hb⟩; refine ⟨_, rfl, ?_⟩; have n0_ := Aside0.mk (Kd.R_elder' (by (with_reducible repeat (first | apply Kd.R_alloc | apply Kd.R_drewN | apply Kd.R_drew)); exact HO_8.out) (Kd.R_base ho0) hb); have n1_ := Aside0.mk (Kd.R_elder' (by (with_reducible repeat (first | apply Kd.R_alloc | apply Kd.R_drewN | apply Kd.R_drew)); exact HO_10.out) (Kd.R_base ho0) hb); have n2_ := Aside0.mk (Kd.R_elder' (by (with_reducible repeat (first | apply Kd.R_alloc | apply Kd.R_drewN | apply Kd.R_drew)); exact HO_11.out) (Kd.R_base ho0) hb); have n3_ := Aside0.mk (Kd.R_lower (Kd.R_new' (Kd.R_new' (Kd.R_new' ho0 (Kd.R_lt (by (with_reducible repeat (first | apply Kd.R_alloc | apply Kd.R_drewN | apply Kd.R_drew)); exact HO_8.out))) (Kd.R_lt (by (with_reducible repeat (first | apply Kd.R_alloc | apply Kd.R_drewN | apply Kd.R_drew)); exact HO_10.out))) (Kd.R_lt (by (with_reducible repeat (first | apply Kd.R_alloc | apply Kd.R_drewN | apply Kd.R_drew)); exact HO_11.out))) (below_size (by repeat (first | (with_reducible first | exact HB.out | apply below_alloc | apply pw_below_drewN | apply below_drew1 | refine below_set ?_ GE569.out) | exact HB.out)))); have n4_ := bkb BK569 hb; have n5_ := bst HB hb; clear HO_8; clear HO_10; clear HO_11; clear BK569; clear HB; have HO_8 := n0_; have HO_10 := n1_; have HO_11 := n2_; have HO594 := n3_; have BK569 := n4_; have HB := n5_; clear n0_ n1_ n2_ n3_ n4_ n5_; (try clear hb); (try clear hb2); (try clear hk); (try clear hi); (try clear ho0); obtain ⟨Ao85, co85, eo85⟩ := Kd.R_slice HO594.out; subst eo85) | ((with_reducible refine gate_callee (f := 14) rfl ?_); refine goesL_ (some 54) rfl rfl Try.func14 (by kernel_rfl) rfl #[.slice Ao23 t581.length co23, .slice Ao85 t592.length co85] rfl (by (try simp only [List.map_toArray, List.map_cons, List.map_nil]); first | done | rfl | (simp only [List.length_drop, List.length_take]; rfl)) ?_; (with_reducible refine (laws_eqSpotS.calls kj12 _ _ t581 _ _ t592 false _ ?side1 ?side2 ?side3 ?side4 A35.out).mono ?_); (case side1 => repeat (first | exact (Kd.R_reads' HO_10.out).2.2 | (with_reducible refine Kd.C_alloc ?_ _) | (with_reducible refine Kd.C_drewN ?_ _) | (with_reducible refine Kd.C_drew ?_))); (case side2 => exact (Kd.R_reads' HO_10.out).2.1); (case side3 => repeat (first | exact (Kd.R_reads' HO594.out).2.2 | (with_reducible refine Kd.C_alloc ?_ _) | (with_reducible refine Kd.C_drewN ?_ _) | (with_reducible refine Kd.C_drew ?_))); (case side4 => exact (Kd.R_reads' HO594.out).2.1); rintro e w86 ⟨rfl, hb⟩; refine ⟨_, rfl, ?_⟩; have n0_ := krb HO_8 hb; have n1_ := krb HO_10 hb; have n2_ := krb HO_11 hb; have n3_ := krb HO594 hb; have n4_ := bkb BK569 hb; have n5_ := bst HB hb; clear HO_8; clear HO_10; clear HO_11; clear HO594; clear BK569; clear HB; have HO_8 := n0_; have HO_10 := n1_; have HO_11 := n2_; have HO594 := n3_; have BK569 := n4_; have HB := n5_; clear n0_ n1_ n2_ n3_ n4_ n5_; (try clear hb); (try clear hb2); (try clear hk); (try clear hi)))
      go_ret
      exact ⟨by first | rfl | (simp [errW_none, errW_some] <;> rfl) | (simp [*, errW_none, errW_some] <;> rfl), pbs HB⟩
end Go.Proofs.Ytmcjgpbhjpakhaa.PB
end
section
namespace Go.Proofs.Ytmcjgpbhjpakhaa.PB
open Go.RowKit Go.Proofs.YtmcjgpbhjpakhaaW.PrintWords Go.Proofs.YtmcjgpbhjpakhaaW.PrintLast Go.Proofs.YtmcjgpbhjpakhaaW.PrintMore Go.Proofs.Ytmcjgpbhjpakhaa.La Go.Proofs.Ytmcjgpbhjpakhaa.Mp
attribute [local go_sem] max2_int min2_int max_two min_two max_three min_three max_four min_four   -- for this text's walks alone
set_option linter.unusedVariables false
set_option linter.unusedSimpArgs false
def impl_posts_chosen.l0 : Nat → List Bool → Bool → List (S54) → List (S54) → Int → Int → Option ((List (S54)))
 | 0, _, _, _, _, _, _ => none
 | k + 1, x1, x2, x7, x12, x13, x14 => if x14 < x13 then (if 0 ≤ x14 then (if x14 < (x12.length : Int) then (if x14 < (x1.length : Int) then (if ((rdOf false x1 x14) == x2) = true then (if x7.length < 70368744177664 then (impl_posts_chosen.l0 k x1 x2 (x7 ++ [(⟨(rd_T54 x12 x14).f0, (rd_T54 x12 x14).f1⟩ : S54)]) x12 x13 (wrap64 (x14 + 1))) else (none)) else (impl_posts_chosen.l0 k x1 x2 x7 x12 x13 (wrap64 (x14 + 1)))) else (none)) else (none)) else (none)) else (some x7)
def impl_posts_chosen.f (k : Nat) (l0_0 : List (S54)) (l0_1 : List (List Int)) (l1 : List Bool) (a2 : Bool) : Option ((List (S54))) := impl_posts_chosen.l0 k l1 a2 (([] : List (S54))) l0_0 (l0_0.length : Int) 0
theorem impl_posts_chosen.mono_l : ∀ k, (∀ y0 y1 y2 y3 y4 y5, LeO (impl_posts_chosen.l0 k y0 y1 y2 y3 y4 y5) (impl_posts_chosen.l0 (k + 1) y0 y1 y2 y3 y4 y5))
 | 0 => fun _ _ _ _ _ _ r h => by simp [impl_posts_chosen.l0] at h
 | k + 1 => by
  have ih0 := impl_posts_chosen.mono_l k
  ·intro y0 y1 y2 y3 y4 y5
   unfold impl_posts_chosen.l0
   repeat' first
   | (with_reducible exact ih0 _ _ _ _ _ _)
   | (with_reducible exact LeO.refl _)
   | (with_reducible exact LeO.none _)
   | (with_reducible refine LeO.ite ?_ ?_)
   | (with_reducible refine LeO.bind ?_ (fun _ => ?_))
   | exact ih0 _ _ _ _ _ _
   | exact LeO.none _
   | refine LeO.ite ?_ ?_
   | refine LeO.bind ?_ (fun _ => ?_)
theorem impl_posts_chosen.mono : ∀ a0 a1 a2 a3 k, LeO (impl_posts_chosen.f k a0 a1 a2 a3) (impl_posts_chosen.f (k + 1) a0 a1 a2 a3) := by
 intro a0 a1 a2 a3 k
 have ih0 := impl_posts_chosen.mono_l k
 unfold impl_posts_chosen.f
 repeat' first
   | (with_reducible exact ih0 _ _ _ _ _ _)
   | (with_reducible exact LeO.refl _)
   | (with_reducible exact LeO.none _)
   | (with_reducible refine LeO.ite ?_ ?_)
   | (with_reducible refine LeO.bind ?_ (fun _ => ?_))
   | exact ih0 _ _ _ _ _ _
   | exact LeO.none _
   | refine LeO.ite ?_ ?_
   | refine LeO.bind ?_ (fun _ => ?_)
def impl_reachedFrom.f (k : Nat) (a0_0 : Int) (a0_1 : Int) (a0_2 : LA 10) (l1 : List (S54)) (a2 : Int) (a3 : Bool) : Option ((List (S54)) × Int) := (impl_postCode.f k a0_0 a0_1 a0_2 l1 a2 0).bind fun t370 => (if t370 = 0 then ((impl_Room_postsOf.f k a0_0 a0_1 a0_2 a2).bind fun bt371 => ((impl_posts_far.f k bt371.1 bt371.2 l1).bind fun t378 => ((impl_posts_chosen.f k bt371.1 bt371.2 t378 a3).bind fun t381 => (some (t381, 0))))) else (some (([] : List (S54)), t370)))
theorem impl_reachedFrom.mono : ∀ a0 a1 a2 a3 a4 a5 k, LeO (impl_reachedFrom.f k a0 a1 a2 a3 a4 a5) (impl_reachedFrom.f (k + 1) a0 a1 a2 a3 a4 a5) := by
 intro a0 a1 a2 a3 a4 a5 k
 unfold impl_reachedFrom.f
 repeat' first
   | (with_reducible exact impl_Room_postsOf.mono _ _ _ _ _)
   | (with_reducible exact impl_postCode.mono _ _ _ _ _ _ _)
   | (with_reducible exact impl_posts_chosen.mono _ _ _ _ _)
   | (with_reducible exact impl_posts_far.mono _ _ _ _)
   | (with_reducible exact LeO.refl _)
   | (with_reducible exact LeO.none _)
   | (with_reducible refine LeO.ite ?_ ?_)
   | (with_reducible refine LeO.bind ?_ (fun _ => ?_))
   | exact impl_Room_postsOf.mono _ _ _ _ _
   | exact impl_postCode.mono _ _ _ _ _ _ _
   | exact impl_posts_chosen.mono _ _ _ _ _
   | exact impl_posts_far.mono _ _ _ _
   | exact LeO.none _
   | refine LeO.ite ?_ ?_
   | refine LeO.bind ?_ (fun _ => ?_)
end Go.Proofs.Ytmcjgpbhjpakhaa.PB
end
section
namespace Go.Proofs.Ytmcjgpbhjpakhaa.PB
open Go.RowKit Go.Proofs.YtmcjgpbhjpakhaaW.PrintWords Go.Proofs.YtmcjgpbhjpakhaaW.PrintLast Go.Proofs.YtmcjgpbhjpakhaaW.PrintMore Go.Proofs.Ytmcjgpbhjpakhaa.La Go.Proofs.Ytmcjgpbhjpakhaa.Mp
attribute [local go_sem] max2_int min2_int max_two min_two max_three min_three max_four min_four   -- for this text's walks alone
set_option linter.unusedVariables false
set_option linter.unusedSimpArgs false
def spec_FarCells.f (k : Nat) (a0_0 : Int) (a0_1 : Int) (a0_2 : LA 10) (l1 : List (S54)) (a2 : Int) : Option ((List (S54)) × Int) := (spec_l07Reach.f a2).bind fun t222 => ((spec_l07Asked.f k a0_0 a0_1 a0_2 l1 t222).bind fun t223 => (if t223 = 0 then ((spec_l07Split.f k a0_0 a0_1 a0_2 l1 a2).bind fun bt224 => (some (bt224.2, 0))) else (some ((([] : List (S54))), t223))))
theorem spec_FarCells.mono : ∀ a0 a1 a2 a3 a4 k, LeO (spec_FarCells.f k a0 a1 a2 a3 a4) (spec_FarCells.f (k + 1) a0 a1 a2 a3 a4) := by
 intro a0 a1 a2 a3 a4 k
 unfold spec_FarCells.f
 repeat' first
   | (with_reducible exact spec_l07Asked.mono _ _ _ _ _ _)
   | (with_reducible exact spec_l07Split.mono _ _ _ _ _ _)
   | (with_reducible exact LeO.refl _)
   | (with_reducible exact LeO.none _)
   | (with_reducible refine LeO.ite ?_ ?_)
   | (with_reducible refine LeO.bind ?_ (fun _ => ?_))
   | exact spec_l07Asked.mono _ _ _ _ _ _
   | exact spec_l07Split.mono _ _ _ _ _ _
   | exact LeO.none _
   | refine LeO.ite ?_ ?_
   | refine LeO.bind ?_ (fun _ => ?_)
def impl_FarCells.f (k : Nat) (a0_0 : Int) (a0_1 : Int) (a0_2 : LA 10) (l1 : List (S54)) (a2 : Int) : Option ((List (S54)) × Int) := (impl_reachedFrom.f k a0_0 a0_1 a0_2 l1 a2 true).bind fun bt385 => (some (bt385.1, bt385.2))
theorem impl_FarCells.mono : ∀ a0 a1 a2 a3 a4 k, LeO (impl_FarCells.f k a0 a1 a2 a3 a4) (impl_FarCells.f (k + 1) a0 a1 a2 a3 a4) := by
 intro a0 a1 a2 a3 a4 k
 unfold impl_FarCells.f
 repeat' first
   | (with_reducible exact impl_reachedFrom.mono _ _ _ _ _ _ _)
   | (with_reducible exact LeO.refl _)
   | (with_reducible exact LeO.none _)
   | (with_reducible refine LeO.ite ?_ ?_)
   | (with_reducible refine LeO.bind ?_ (fun _ => ?_))
   | exact impl_reachedFrom.mono _ _ _ _ _ _ _
   | exact LeO.none _
   | refine LeO.ite ?_ ?_
   | refine LeO.bind ?_ (fun _ => ?_)
end Go.Proofs.Ytmcjgpbhjpakhaa.PB
end
section
namespace Go.Proofs.Ytmcjgpbhjpakhaa.PB
open Go.RowKit Go.Proofs.YtmcjgpbhjpakhaaW.PrintWords Go.Proofs.YtmcjgpbhjpakhaaW.PrintLast Go.Proofs.YtmcjgpbhjpakhaaW.PrintMore Go.Proofs.Ytmcjgpbhjpakhaa.La Go.Proofs.Ytmcjgpbhjpakhaa.Mp
attribute [local go_sem] max2_int min2_int max_two min_two max_three min_three max_four min_four   -- for this text's walks alone
set_option linter.unusedVariables false
set_option linter.unusedSimpArgs false
def spec_NearExits.f (k : Nat) (a0_0 : Int) (a0_1 : Int) (a0_2 : LA 10) (l1 : List (S54)) (a2 : Int) : Option ((List (S54)) × Int) := (spec_l07Reach.f a2).bind fun t439 => ((spec_l07Asked.f k a0_0 a0_1 a0_2 l1 t439).bind fun t440 => (if t440 = 0 then ((spec_l07Split.f k a0_0 a0_1 a0_2 l1 a2).bind fun bt441 => (some (bt441.1, 0))) else (some ((([] : List (S54))), t440))))
theorem spec_NearExits.mono : ∀ a0 a1 a2 a3 a4 k, LeO (spec_NearExits.f k a0 a1 a2 a3 a4) (spec_NearExits.f (k + 1) a0 a1 a2 a3 a4) := by
 intro a0 a1 a2 a3 a4 k
 unfold spec_NearExits.f
 repeat' first
   | (with_reducible exact spec_l07Asked.mono _ _ _ _ _ _)
   | (with_reducible exact spec_l07Split.mono _ _ _ _ _ _)
   | (with_reducible exact LeO.refl _)
   | (with_reducible exact LeO.none _)
   | (with_reducible refine LeO.ite ?_ ?_)
   | (with_reducible refine LeO.bind ?_ (fun _ => ?_))
   | exact spec_l07Asked.mono _ _ _ _ _ _
   | exact spec_l07Split.mono _ _ _ _ _ _
   | exact LeO.none _
   | refine LeO.ite ?_ ?_
   | refine LeO.bind ?_ (fun _ => ?_)
def impl_NearExits.f (k : Nat) (a0_0 : Int) (a0_1 : Int) (a0_2 : LA 10) (l1 : List (S54)) (a2 : Int) : Option ((List (S54)) × Int) := (impl_reachedFrom.f k a0_0 a0_1 a0_2 l1 a2 false).bind fun bt451 => (some (bt451.1, bt451.2))
theorem impl_NearExits.mono : ∀ a0 a1 a2 a3 a4 k, LeO (impl_NearExits.f k a0 a1 a2 a3 a4) (impl_NearExits.f (k + 1) a0 a1 a2 a3 a4) := by
 intro a0 a1 a2 a3 a4 k
 unfold impl_NearExits.f
 repeat' first
   | (with_reducible exact impl_reachedFrom.mono _ _ _ _ _ _ _)
   | (with_reducible exact LeO.refl _)
   | (with_reducible exact LeO.none _)
   | (with_reducible refine LeO.ite ?_ ?_)
   | (with_reducible refine LeO.bind ?_ (fun _ => ?_))
   | exact impl_reachedFrom.mono _ _ _ _ _ _ _
   | exact LeO.none _
   | refine LeO.ite ?_ ?_
   | refine LeO.bind ?_ (fun _ => ?_)
end Go.Proofs.Ytmcjgpbhjpakhaa.PB
end
