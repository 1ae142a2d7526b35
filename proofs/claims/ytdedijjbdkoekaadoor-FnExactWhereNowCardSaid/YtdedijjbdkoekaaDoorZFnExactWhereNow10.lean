/- The statement FnExactWhereNow of this program: what its proof uses, part 11 of 13. The call returns true for all arguments. No condition of its own. -/
import Derived.Test.YtdedijjbdkoekaaDoorZFnExactWhereNow9
section
namespace Go.Proofs.YtdedijjbdkoekaaDoor.PB
open Go.RowKit Go.Proofs.YtdedijjbdkoekaaDoorW.PrintWords Go.Proofs.YtdedijjbdkoekaaDoorW.PrintLast Go.Proofs.YtdedijjbdkoekaaDoorW.PrintMore Go.Proofs.YtdedijjbdkoekaaDoor.La
attribute [local go_sem] max2_int min2_int max_two min_two max_three min_three max_four min_four   -- for this text's walks alone
set_option linter.unusedVariables false
set_option linter.unusedSimpArgs false
def spec_WhereNow.l0 : Nat → Int → LA 40 → Int → Int → Option (Int × Int × Int × Int)
 | 0, _, _, _, _ => none
 | k + 1, x11, x375000, x381000, x381001 => (spec_l06Has.f x375000 x381000 x381001 x11).bind fun t381 => (if t381 = true then (some (x381000, x381001, x11, 0)) else (spec_WhereNow.l0 k (wrap64 (x11 + 1)) x375000 x381000 x381001))
def spec_WhereNow.f (k : Nat) (a0_0 : Int) (a0_1 : Int) (a0_2 : LA 10) (a1 : ByteArray) : Option (Int × Int × Int × Int) := (spec_l01Ok.f k a0_0 a0_1 a0_2).bind fun t370 => (if t370 = true then ((spec_l06Plain.f k a0_0 a0_1 a0_2).bind fun t371 => ((spec_MovesCrowd.f k a0_0 a0_1 a0_2 t371 a1).bind fun bt372 => (if bt372.2 = 0 then ((spec_CountCrowd.f k bt372.1).bind fun t375 => (if t375 > 1 then (some (0, 0, 0, 4)) else (if t375 = 0 then (some (0, 0, 0, 6)) else ((spec_l06Spots.f k bt372.1).bind fun t376 => (if 0 < (t376.length : Int) then (spec_WhereNow.l0 k 0 bt372.1 ((rd_T41 t376 0).f0) ((rd_T41 t376 0).f1)) else (none)))))) else (some (0, 0, 0, bt372.2))))) else (some (0, 0, 0, 1)))
theorem spec_WhereNow.mono_l : ∀ k, (∀ y0 y1 y2 y3, LeO (spec_WhereNow.l0 k y0 y1 y2 y3) (spec_WhereNow.l0 (k + 1) y0 y1 y2 y3))
 | 0 => fun _ _ _ _ r h => by simp [spec_WhereNow.l0] at h
 | k + 1 => by
  have ih0 := spec_WhereNow.mono_l k
  ·intro y0 y1 y2 y3
   unfold spec_WhereNow.l0
   repeat' first
   | (with_reducible exact ih0 _ _ _ _)
   | (with_reducible exact spec_CountCrowd.mono _ _)
   | (with_reducible exact spec_MovesCrowd.mono _ _ _ _ _ _)
   | (with_reducible exact spec_l01Ok.mono _ _ _ _)
   | (with_reducible exact spec_l06Plain.mono _ _ _ _)
   | (with_reducible exact spec_l06Spots.mono _ _)
   | (with_reducible exact LeO.refl _)
   | (with_reducible exact LeO.none _)
   | (with_reducible refine LeO.ite ?_ ?_)
   | (with_reducible refine LeO.bind ?_ (fun _ => ?_))
   | exact ih0 _ _ _ _
   | exact spec_CountCrowd.mono _ _
   | exact spec_MovesCrowd.mono _ _ _ _ _ _
   | exact spec_l01Ok.mono _ _ _ _
   | exact spec_l06Plain.mono _ _ _ _
   | exact spec_l06Spots.mono _ _
   | exact LeO.none _
   | refine LeO.ite ?_ ?_
   | refine LeO.bind ?_ (fun _ => ?_)
theorem spec_WhereNow.mono : ∀ a0 a1 a2 a3 k, LeO (spec_WhereNow.f k a0 a1 a2 a3) (spec_WhereNow.f (k + 1) a0 a1 a2 a3) := by
 intro a0 a1 a2 a3 k
 have ih0 := spec_WhereNow.mono_l k
 unfold spec_WhereNow.f
 repeat' first
   | (with_reducible exact ih0 _ _ _ _)
   | (with_reducible exact spec_CountCrowd.mono _ _)
   | (with_reducible exact spec_MovesCrowd.mono _ _ _ _ _ _)
   | (with_reducible exact spec_l01Ok.mono _ _ _ _)
   | (with_reducible exact spec_l06Plain.mono _ _ _ _)
   | (with_reducible exact spec_l06Spots.mono _ _)
   | (with_reducible exact LeO.refl _)
   | (with_reducible exact LeO.none _)
   | (with_reducible refine LeO.ite ?_ ?_)
   | (with_reducible refine LeO.bind ?_ (fun _ => ?_))
   | exact ih0 _ _ _ _
   | exact spec_CountCrowd.mono _ _
   | exact spec_MovesCrowd.mono _ _ _ _ _ _
   | exact spec_l01Ok.mono _ _ _ _
   | exact spec_l06Plain.mono _ _ _ _
   | exact spec_l06Spots.mono _ _
   | exact LeO.none _
   | refine LeO.ite ?_ ?_
   | refine LeO.bind ?_ (fun _ => ?_)
def spec_WhereNow.T3 : Bool × List (List Nat × List Nat) := (true, [([], []), ([], []), ([], []), ([0, 1, 2, 1], [0, 1, 2]), ([3], [3]), ([4], [4]), ([4], [4]), ([], []), ([7, 5, 3, 0, 1, 2, 3, 4, 5, 7], [5, 7]), ([6, 8, 0, 1, 2, 3, 4, 5, 6, 7, 8], [6])])
def spec_WhereNow.B3 : List Nat := [0, 0, 0, 7, 15, 31, 31, 0, 191, 511]
theorem spec_WhereNow.tab3 : rtab .any (opsOf Tryd.f16 3) = spec_WhereNow.T3 := by kernel_rfl
theorem spec_WhereNow.bits3 : waitsOk spec_WhereNow.T3.2 spec_WhereNow.B3 = true := by kernel_rfl
set_option maxHeartbeats 8000000 in
set_option maxRecDepth 100000 in
theorem spec_WhereNow.calls (k : Nat) (a0_0 : Int) (a0_1 : Int) (a0_2 : LA 10) (a1 : ByteArray) (r1 : Int) (r2 : Int) (r3 : Int) (r4 : Int) (w : World) (h : spec_WhereNow.f k a0_0 a0_1 a0_2 a1 = some (r1, r2, r3, r4)) :
  Calls Tryd.prog 16 #[.agg (mixA (Value.int .u16) [.int .i8 a0_0, .int .i8 a0_1] a0_2), .string a1] w fun e w' => e = .returned (.tuple #[.agg #[.int .i8 r1, .int .i8 r2], .int .i64 r3, .int .i64 r4]) ∧ Below w.heap.size w w' := by
 have hu31 := Tryd.underlying31
 have hu41 := Tryd.underlying41
 have HB := Aside0.mk (Below.refl w.heap.size w)
 have H : ((spec_l01Ok.f k a0_0 a0_1 a0_2).bind fun t370 => (if t370 = true then ((spec_l06Plain.f k a0_0 a0_1 a0_2).bind fun t371 => ((spec_MovesCrowd.f k a0_0 a0_1 a0_2 t371 a1).bind fun bt372 => (if bt372.2 = 0 then ((spec_CountCrowd.f k bt372.1).bind fun t375 => (if t375 > 1 then (some (0, 0, 0, 4)) else (if t375 = 0 then (some (0, 0, 0, 6)) else ((spec_l06Spots.f k bt372.1).bind fun t376 => (if 0 < (t376.length : Int) then (spec_WhereNow.l0 k 0 bt372.1 ((rd_T41 t376 0).f0) ((rd_T41 t376 0).f1)) else (none)))))) else (some (0, 0, 0, bt372.2))))) else (some (0, 0, 0, 1)))) = some (r1, r2, r3, r4) := h
 clear h
 replace H := Option.bind_eq_some_iff.mp H
 obtain ⟨t370, A30, H⟩ := H
 replace H : (if t370 = true then ((spec_l06Plain.f k a0_0 a0_1 a0_2).bind fun t371 => ((spec_MovesCrowd.f k a0_0 a0_1 a0_2 t371 a1).bind fun bt372 => (if bt372.2 = 0 then ((spec_CountCrowd.f k bt372.1).bind fun t375 => (if t375 > 1 then (some (0, 0, 0, 4)) else (if t375 = 0 then (some (0, 0, 0, 6)) else ((spec_l06Spots.f k bt372.1).bind fun t376 => (if 0 < (t376.length : Int) then (spec_WhereNow.l0 k 0 bt372.1 ((rd_T41 t376 0).f0) ((rd_T41 t376 0).f1)) else (none)))))) else (some (0, 0, 0, bt372.2))))) else (some (0, 0, 0, 1))) = some (r1, r2, r3, r4) := H
 have A3 := Aside0.mk A30
 clear A30
 by_cases c4 : t370 = true
 ·subst c4
  have H1 : ((spec_l06Plain.f k a0_0 a0_1 a0_2).bind fun t371 => ((spec_MovesCrowd.f k a0_0 a0_1 a0_2 t371 a1).bind fun bt372 => (if bt372.2 = 0 then ((spec_CountCrowd.f k bt372.1).bind fun t375 => (if t375 > 1 then (some (0, 0, 0, 4)) else (if t375 = 0 then (some (0, 0, 0, 6)) else ((spec_l06Spots.f k bt372.1).bind fun t376 => (if 0 < (t376.length : Int) then (spec_WhereNow.l0 k 0 bt372.1 ((rd_T41 t376 0).f0) ((rd_T41 t376 0).f1)) else (none)))))) else (some (0, 0, 0, bt372.2))))) = some (r1, r2, r3, r4) := by rw [if_pos rfl] at H; exact H
  clear H
  have H := H1
  clear H1
  replace H := Option.bind_eq_some_iff.mp H
  obtain ⟨t371, A50, H⟩ := H
  replace H : ((spec_MovesCrowd.f k a0_0 a0_1 a0_2 t371 a1).bind fun bt372 => (if bt372.2 = 0 then ((spec_CountCrowd.f k bt372.1).bind fun t375 => (if t375 > 1 then (some (0, 0, 0, 4)) else (if t375 = 0 then (some (0, 0, 0, 6)) else ((spec_l06Spots.f k bt372.1).bind fun t376 => (if 0 < (t376.length : Int) then (spec_WhereNow.l0 k 0 bt372.1 ((rd_T41 t376 0).f0) ((rd_T41 t376 0).f1)) else (none)))))) else (some (0, 0, 0, bt372.2)))) = some (r1, r2, r3, r4) := H
  have A5 := Aside0.mk A50
  clear A50
  replace H := Option.bind_eq_some_iff.mp H
  obtain ⟨⟨t372, t373⟩, A60, H⟩ := H
  replace H : (if t373 = 0 then ((spec_CountCrowd.f k t372).bind fun t375 => (if t375 > 1 then (some (0, 0, 0, 4)) else (if t375 = 0 then (some (0, 0, 0, 6)) else ((spec_l06Spots.f k t372).bind fun t376 => (if 0 < (t376.length : Int) then (spec_WhereNow.l0 k 0 t372 ((rd_T41 t376 0).f0) ((rd_T41 t376 0).f1)) else (none)))))) else (some (0, 0, 0, t373))) = some (r1, r2, r3, r4) := H
  have A6 := Aside0.mk A60
  clear A60
  by_cases c7 : t373 = 0
  ·rw [if_pos c7] at H
   have c7b0 : (t373 == 0) = true := beq_iff_eq.mpr c7
   have c7b1 : (t373 != 0) = false := bne_eq_false_iff_eq.mpr c7
   clear c7
   replace H := Option.bind_eq_some_iff.mp H
   obtain ⟨t375, A80, H⟩ := H
   replace H : (if t375 > 1 then (some (0, 0, 0, 4)) else (if t375 = 0 then (some (0, 0, 0, 6)) else ((spec_l06Spots.f k t372).bind fun t376 => (if 0 < (t376.length : Int) then (spec_WhereNow.l0 k 0 t372 ((rd_T41 t376 0).f0) ((rd_T41 t376 0).f1)) else (none))))) = some (r1, r2, r3, r4) := H
   have A8 := Aside0.mk A80
   clear A80
   by_cases c9 : t375 > 1
   ·rw [if_pos c9] at H
    have c9b0 : decide (1 < t375) = true := decide_eq_true c9
    clear c9
    simp only [Option.some.injEq, Prod.mk.injEq] at H
    obtain ⟨rfl, rfl, rfl, rfl⟩ := H
    go_enter Tryd.func16, Tryd.ntmps16
    try go_wp2_with (first | ((with_reducible refine gate_dst (N := 2) rfl ?_); refine box_event ?hg (N := 2) ?hd (cs := (mixA (Value.int .u16) [.int .i8 a0_0, .int .i8 a0_1] a0_2)) (t := 31) ?hr ?_; (case hd => rfl); (case hg => rfl); (case hr => first | (go_simp; done) | (go_simp; rfl)); intro gb368 hg w10 hbox hb; have n0_ := bst HB hb; have n1_ := Aside0.mk (hbox); have n2_ := gwl HB hg; have n3_ := gwl HB hg; clear HB; have HB := n0_; have BK368 := n1_; have GW368 := n2_; have GE368 := n3_; clear n0_ n1_ n2_ n3_; clear hb hbox hg) | ((with_reducible refine gate_dst (N := 4) rfl ?_); refine box_event ?hg (N := 4) ?hd (cs := #[.int .i8 0, .int .i8 0]) (t := 41) ?hr ?_; (case hd => rfl); (case hg => rfl); (case hr => first | (go_simp; done) | (go_simp; rfl)); intro gb369 hg w11 hbox hb; have n0_ := bkb BK368 hb; have n1_ := bst HB hb; have n2_ := Aside0.mk (hbox); have n3_ := gwl HB hg; have n4_ := gwl HB hg; have n5_ := nbl BK368 hg; have n6_ := nbg BK368 hg; clear BK368; clear HB; have BK368 := n0_; have HB := n1_; have BK369 := n2_; have GW369 := n3_; have GE369 := n4_; have NB368_369 := n5_; have NB369_368 := n6_; clear n0_ n1_ n2_ n3_ n4_ n5_ n6_; clear hb hbox hg) | ((with_reducible refine gate_callee (f := 19) rfl ?_); refine goesL_ (some 12) rfl rfl Tryd.func19 (by kernel_rfl) rfl #[.pointer (some ⟨gb368, 0, none⟩)] rfl (by (try simp only [List.map_toArray, List.map_cons, List.map_nil]); first | done | rfl | (simp only [List.length_drop, List.length_take]; rfl)) ?_; (with_reducible refine (spec_l01Ok.calls k gb368 a0_0 a0_1 a0_2 true _ ?side1 A3.out).mono ?_); (case side1 => exact (pk BK368)); rintro e w12 ⟨rfl, hb⟩; refine ⟨_, rfl, ?_⟩; have n0_ := bkb BK368 hb; have n1_ := bkb BK369 hb; have n2_ := bst HB hb; clear BK368; clear BK369; clear HB; have BK368 := n0_; have BK369 := n1_; have HB := n2_; clear n0_ n1_ n2_; (try clear hb); (try clear hb2); (try clear hk); (try clear hi)))
    have n0_ := Aside0.mk (blk_drew BK368.out)
    have n1_ := Aside0.mk (blk_drew BK369.out)
    have n2_ := Aside0.mk (below_drew1 HB.out)
    clear BK368
    clear BK369
    clear HB
    have BK368 := n0_
    have BK369 := n1_
    have HB := n2_
    clear n0_ n1_ n2_
    refine start_ (n := 10) (S := fun w' => True) (ds := []) #[false, false, false, false, false, false, false, false, false, false] (by kernel_rfl) rfl rfl trivial (fun hHeld => ?_); refine with_tabW spec_WhereNow.tab3 spec_WhereNow.bits3 (fun HT_ HW_ => ?_)
    generalize w12.drew = w13 at BK368 BK369 HB hHeld ⊢
    refine pure_ (i := 2) (N := some 18) (v := ?_) (a' := ?_) #[false, false, true, false, false, false, false, false, false, false] rfl rfl (any_of HT_.out (by kernel_rfl)) (fun _ _ _ h => h) (Or.inl ⟨by rfl, ?_⟩) ?_ ?_
    rotate_left
    ·intro w'
     go_simp
     with_reducible rfl
    rotate_left
    ·simp only [Act.put, List.setIfInBounds_toArray, List.set_cons_zero, List.set_cons_succ, i64_w, i32_w]
     rfl
    refine inv_at [0, 1, 3, 4, 5, 6, 7, 8, 9] (fun a0_ b a w' => ∃ (gb374 : Nat) (m7_ : Value), a = putSel a0_ b [(0, 16, .agg (mixA (Value.int .u16) [.int .i8 a0_0, .int .i8 a0_1] a0_2)), (1, 17, .agg (mixA (Value.int .u16) [] t371)), (3, 19, .tuple #[.agg (mixA (Value.int .u16) [] t372), .int .i64 t373]), (4, 15, .tuple #[.agg (mixA (Value.int .u16) [] t372), .int .i64 t373]), (5, 20, .agg (mixA (Value.int .u16) [] t372)), (6, 21, .int .i64 t373), (7, 7, m7_), (9, 8, .int .i64 t373)] ∧ (w'.heap[gb368]? = some (.cells (mixA (Value.int .u16) [.int .i8 a0_0, .int .i8 a0_1] a0_2) 31 (0, 0))) ∧ (w'.heap[gb369]? = some (.cells #[.int .i8 0, .int .i8 0] 41 (0, 0))) ∧ (Below w.heap.size w w') ∧ (b 7 = true → b 8 = false → w'.heap[gb374]? = some (.cells (mixA (Value.int .u16) [] (LA.zero 40)) 28 (0, 0))) ∧ (b 7 = true → w.heap.size ≤ gb374) ∧ (b 7 = true → w.heap.size ≤ gb374) ∧ (b 7 = true → gb368 ≠ gb374) ∧ (b 7 = true → gb374 ≠ gb368) ∧ (b 7 = true → gb369 ≠ gb374) ∧ (b 7 = true → gb374 ≠ gb369) ∧ (b 8 = true → w'.heap[gb374]? = some (.cells (mixA (Value.int .u16) [] t372) 28 (0, 0))) ∧ (b 7 = true → (m7_ : Value) = .pointer (some ⟨gb374, 0, none⟩))) HT_.out HW_.out (by kernel_rfl) (by kernel_rfl) ?_ ?_ ?_
    ·exact ⟨0, .bool false, by simp only [putSel, Bool.false_eq_true, if_false], BK368.out, BK369.out, HB.out, fun h_ => absurd h_ (by decide), fun h_ => absurd h_ (by decide), fun h_ => absurd h_ (by decide), fun h_ => absurd h_ (by decide), fun h_ => absurd h_ (by decide), fun h_ => absurd h_ (by decide), fun h_ => absurd h_ (by decide), fun h_ => absurd h_ (by decide), fun h_ => absurd h_ (by decide)⟩
    ·skip
     clear BK368 BK369 HB
     refine steps_cons ?_ ?_
     ·rintro b a w' ⟨gb374, m7_, ha, Q_BK368, Q_BK369, Q_HB, Q_BK374, Q_GW374, Q_GE374, Q_NB368_374, Q_NB374_368, Q_NB369_374, Q_NB374_369, Q_BK374_e8, Q_X7_⟩ hb_ hon hoff
      refine ⟨_, rfl, fun K hK => ?_⟩
      have e2 : a.tmps[2]? = some (.pointer (some ⟨gb368, 0, none⟩)) := by rw [ha]; exact (putSel_off rfl).trans rfl
      replace ha := Aside0.mk ha
      have BK368 := Aside0.mk Q_BK368
      have BK369 := Aside0.mk Q_BK369
      have HB := Aside0.mk Q_HB
      have hL_ : World.rangeAt w' gb368 0 ([.int .i8 a0_0, .int .i8 a0_1] ++ a0_2.l.map (Value.int .u16)) := mix_range BK368.out
      refine value_ (w1 := w') (v := .agg (mixA (Value.int .u16) [.int .i8 a0_0, .int .i8 a0_1] a0_2)) (by rfl) rfl ?_ ?_
      ·exact load_mix_run (P := Tryd.prog) 31 (.tmp 2) rfl gb368 (by simp only [Act.eval, Array.getD_eq_getD_getElem?, e2, Option.getD_some]) hL_ Tryd.underlying31 rfl (by kernel_rfl) rfl
      refine hK.out _ _ ⟨gb374, m7_, (by rw [ha.out]; exact putSel_upk 0 hb_ rfl rfl rfl), Q_BK368, Q_BK369, Q_HB, Q_BK374, Q_GW374, Q_GE374, Q_NB368_374, Q_NB374_368, Q_NB369_374, Q_NB374_369, fun h0_ => absurd ((hoff 8 (by kernel_rfl)).symm.trans h0_) (by decide), Q_X7_⟩
     refine steps_cons ?_ ?_
     ·rintro b a w' ⟨gb374, m7_, ha, Q_BK368, Q_BK369, Q_HB, Q_BK374, Q_GW374, Q_GE374, Q_NB368_374, Q_NB374_368, Q_NB369_374, Q_NB374_369, Q_BK374_e8, Q_X7_⟩ hb_ hon hoff
      refine ⟨_, rfl, fun K hK => ?_⟩
      have e2 : a.tmps[2]? = some (.pointer (some ⟨gb368, 0, none⟩)) := by rw [ha]; exact (putSel_off rfl).trans rfl
      replace ha := Aside0.mk ha
      have BK368 := Aside0.mk Q_BK368
      have BK369 := Aside0.mk Q_BK369
      have HB := Aside0.mk Q_HB
      refine goes_ Tryd.func37 (by kernel_rfl) rfl #[.pointer (some ⟨gb368, 0, none⟩)] (by rfl) rfl rfl (by first | (simp only [List.map_toArray, List.map_cons, List.map_nil, Act.eval, Array.getD_eq_getD_getElem?, Option.getD_some, e2]; done) | (simp only [List.map_toArray, List.map_cons, List.map_nil, Act.eval, Array.getD_eq_getD_getElem?, Option.getD_some, e2]; rfl)) ?_
      with_reducible refine (spec_l06Plain.calls k gb368 a0_0 a0_1 a0_2 t371 _ ?side1 A5.out).mono ?_
      (case side1 => exact (pk BK368))
      rintro e w14 ⟨rfl, hb⟩
      refine ⟨_, rfl, ?_⟩
      have n0_ := bkb BK368 hb
      have n1_ := bkb BK369 hb
      have n2_ := bst HB hb
      have z_BK374 := fun (h0_ : b 7 = true) (h1_ : b 8 = false) => (show w14.heap[gb374]? = some (.cells (mixA (Value.int .u16) [] (LA.zero 40)) 28 (0, 0)) from by first | exact (blk_below (g := gb374) (o := .cells (mixA (Value.int .u16) [] (LA.zero 40)) 28 (0, 0)) (by (with_reducible repeat (first | refine blk_drewN ?_ _ | refine blk_drew ?_ | refine blk_alloc ?_ _)); exact (Q_BK374 h0_ h1_)) hb))
      clear BK368
      clear BK369
      clear HB
      have BK368 := n0_
      have BK369 := n1_
      have HB := n2_
      clear n0_ n1_ n2_
      (try clear hb)
      (try clear hb2)
      (try clear hk)
      (try clear hi)
      refine hK.out _ _ ⟨gb374, m7_, (by rw [ha.out]; exact putSel_upk 1 hb_ rfl rfl rfl), (pk BK368), (pk BK369), (pbs HB), z_BK374, Q_GW374, Q_GE374, Q_NB368_374, Q_NB374_368, Q_NB369_374, Q_NB374_369, fun h0_ => absurd ((hoff 8 (by kernel_rfl)).symm.trans h0_) (by decide), Q_X7_⟩
     refine steps_cons ?_ ?_
     ·rintro b a w' ⟨gb374, m7_, ha, Q_BK368, Q_BK369, Q_HB, Q_BK374, Q_GW374, Q_GE374, Q_NB368_374, Q_NB374_368, Q_NB369_374, Q_NB374_369, Q_BK374_e8, Q_X7_⟩ hb_ hon hoff
      refine ⟨_, rfl, fun K hK => ?_⟩
      have e16 : a.tmps[16]? = some (.agg (mixA (Value.int .u16) [.int .i8 a0_0, .int .i8 a0_1] a0_2)) := by rw [ha]; exact putSel_on (e := (0, 16, .agg (mixA (Value.int .u16) [.int .i8 a0_0, .int .i8 a0_1] a0_2))) 0 rfl rfl (hon 0 (by kernel_rfl)) rfl
      have e17 : a.tmps[17]? = some (.agg (mixA (Value.int .u16) [] t371)) := by rw [ha]; exact putSel_on (e := (1, 17, .agg (mixA (Value.int .u16) [] t371))) 1 rfl rfl (hon 1 (by kernel_rfl)) rfl
      have e18 : a.tmps[18]? = some (.string a1) := by rw [ha]; exact (putSel_off rfl).trans rfl
      replace ha := Aside0.mk ha
      have BK368 := Aside0.mk Q_BK368
      have BK369 := Aside0.mk Q_BK369
      have HB := Aside0.mk Q_HB
      refine goes_ Tryd.func14 (by kernel_rfl) rfl #[.agg (mixA (Value.int .u16) [.int .i8 a0_0, .int .i8 a0_1] a0_2), .agg (mixA (Value.int .u16) [] t371), .string a1] (by rfl) rfl rfl (by first | (simp only [List.map_toArray, List.map_cons, List.map_nil, Act.eval, Array.getD_eq_getD_getElem?, Option.getD_some, e16, e17, e18]; done) | (simp only [List.map_toArray, List.map_cons, List.map_nil, Act.eval, Array.getD_eq_getD_getElem?, Option.getD_some, e16, e17, e18]; rfl)) ?_
      with_reducible refine (spec_MovesCrowd.calls k a0_0 a0_1 a0_2 t371 a1 t372 t373 _ A6.out).mono ?_
      rintro e w16 ⟨rfl, hb⟩
      refine ⟨_, rfl, ?_⟩
      have n0_ := bkb BK368 hb
      have n1_ := bkb BK369 hb
      have n2_ := bst HB hb
      have z_BK374 := fun (h0_ : b 7 = true) (h1_ : b 8 = false) => (show w16.heap[gb374]? = some (.cells (mixA (Value.int .u16) [] (LA.zero 40)) 28 (0, 0)) from by first | exact (blk_below (g := gb374) (o := .cells (mixA (Value.int .u16) [] (LA.zero 40)) 28 (0, 0)) (by (with_reducible repeat (first | refine blk_drewN ?_ _ | refine blk_drew ?_ | refine blk_alloc ?_ _)); exact (Q_BK374 h0_ h1_)) hb))
      clear BK368
      clear BK369
      clear HB
      have BK368 := n0_
      have BK369 := n1_
      have HB := n2_
      clear n0_ n1_ n2_
      (try clear hb)
      (try clear hb2)
      (try clear hk)
      (try clear hi)
      refine hK.out _ _ ⟨gb374, m7_, (by rw [ha.out]; exact putSel_upk 2 hb_ rfl rfl rfl), (pk BK368), (pk BK369), (pbs HB), z_BK374, Q_GW374, Q_GE374, Q_NB368_374, Q_NB374_368, Q_NB369_374, Q_NB374_369, fun h0_ => absurd ((hoff 8 (by kernel_rfl)).symm.trans h0_) (by decide), Q_X7_⟩
     refine steps_cons ?_ ?_
     ·rintro b a w' ⟨gb374, m7_, ha, Q_BK368, Q_BK369, Q_HB, Q_BK374, Q_GW374, Q_GE374, Q_NB368_374, Q_NB374_368, Q_NB369_374, Q_NB374_369, Q_BK374_e8, Q_X7_⟩ hb_ hon hoff
      refine ⟨_, rfl, fun K hK => ?_⟩
      have e19 : a.tmps[19]? = some (.tuple #[.agg (mixA (Value.int .u16) [] t372), .int .i64 t373]) := by rw [ha]; exact putSel_on (e := (3, 19, .tuple #[.agg (mixA (Value.int .u16) [] t372), .int .i64 t373])) 2 rfl rfl (hon 3 (by kernel_rfl)) rfl
      replace ha := Aside0.mk ha
      have BK368 := Aside0.mk Q_BK368
      have BK369 := Aside0.mk Q_BK369
      have HB := Aside0.mk Q_HB
      refine value_ (w1 := w') (v := .tuple #[.agg (mixA (Value.int .u16) [] t372), .int .i64 t373]) (by rfl) rfl ?_ ?_
      ·go_simp
       (try simp only [i64_w])
       try rfl
      refine hK.out _ _ ⟨gb374, m7_, (by rw [ha.out]; exact putSel_upk 3 hb_ rfl rfl rfl), Q_BK368, Q_BK369, Q_HB, Q_BK374, Q_GW374, Q_GE374, Q_NB368_374, Q_NB374_368, Q_NB369_374, Q_NB374_369, fun h0_ => absurd ((hoff 8 (by kernel_rfl)).symm.trans h0_) (by decide), Q_X7_⟩
     refine steps_cons ?_ ?_
     ·rintro b a w' ⟨gb374, m7_, ha, Q_BK368, Q_BK369, Q_HB, Q_BK374, Q_GW374, Q_GE374, Q_NB368_374, Q_NB374_368, Q_NB369_374, Q_NB374_369, Q_BK374_e8, Q_X7_⟩ hb_ hon hoff
      refine ⟨_, rfl, fun K hK => ?_⟩
      have e15 : a.tmps[15]? = some (.tuple #[.agg (mixA (Value.int .u16) [] t372), .int .i64 t373]) := by rw [ha]; exact putSel_on (e := (4, 15, .tuple #[.agg (mixA (Value.int .u16) [] t372), .int .i64 t373])) 3 rfl rfl (hon 4 (by kernel_rfl)) rfl
      replace ha := Aside0.mk ha
      have BK368 := Aside0.mk Q_BK368
      have BK369 := Aside0.mk Q_BK369
      have HB := Aside0.mk Q_HB
      refine value_ (w1 := w') (v := .agg (mixA (Value.int .u16) [] t372)) (by rfl) rfl ?_ ?_
      ·go_simp
       (try simp only [i64_w])
       try rfl
      refine hK.out _ _ ⟨gb374, m7_, (by rw [ha.out]; exact putSel_upk 4 hb_ rfl rfl rfl), Q_BK368, Q_BK369, Q_HB, Q_BK374, Q_GW374, Q_GE374, Q_NB368_374, Q_NB374_368, Q_NB369_374, Q_NB374_369, fun h0_ => absurd ((hoff 8 (by kernel_rfl)).symm.trans h0_) (by decide), Q_X7_⟩
     refine steps_cons ?_ ?_
     ·rintro b a w' ⟨gb374, m7_, ha, Q_BK368, Q_BK369, Q_HB, Q_BK374, Q_GW374, Q_GE374, Q_NB368_374, Q_NB374_368, Q_NB369_374, Q_NB374_369, Q_BK374_e8, Q_X7_⟩ hb_ hon hoff
      refine ⟨_, rfl, fun K hK => ?_⟩
      have e15 : a.tmps[15]? = some (.tuple #[.agg (mixA (Value.int .u16) [] t372), .int .i64 t373]) := by rw [ha]; exact putSel_on (e := (4, 15, .tuple #[.agg (mixA (Value.int .u16) [] t372), .int .i64 t373])) 3 rfl rfl (hon 4 (by kernel_rfl)) rfl
      replace ha := Aside0.mk ha
      have BK368 := Aside0.mk Q_BK368
      have BK369 := Aside0.mk Q_BK369
      have HB := Aside0.mk Q_HB
      refine value_ (w1 := w') (v := .int .i64 t373) (by rfl) rfl ?_ ?_
      ·go_simp
       (try simp only [i64_w])
       try rfl
      refine hK.out _ _ ⟨gb374, m7_, (by rw [ha.out]; exact putSel_upk 5 hb_ rfl rfl rfl), Q_BK368, Q_BK369, Q_HB, Q_BK374, Q_GW374, Q_GE374, Q_NB368_374, Q_NB374_368, Q_NB369_374, Q_NB374_369, Q_BK374_e8, Q_X7_⟩
     refine steps_cons ?_ ?_
     ·rintro b a w' ⟨gb374, m7_, ha, Q_BK368, Q_BK369, Q_HB, Q_BK374, Q_GW374, Q_GE374, Q_NB368_374, Q_NB374_368, Q_NB369_374, Q_NB374_369, Q_BK374_e8, Q_X7_⟩ hb_ hon hoff
      refine ⟨_, rfl, fun K hK => ?_⟩
      replace ha := Aside0.mk ha
      have BK368 := Aside0.mk Q_BK368
      have BK369 := Aside0.mk Q_BK369
      have HB := Aside0.mk Q_HB
      refine box_step ?hg (N := 7) ?hd (cs := (mixA (Value.int .u16) [] (LA.zero 40))) (t := 28) ?hr ?_; (case hd => rfl); (case hg => rfl); (case hr => first | (go_simp; done) | (go_simp; rfl))
      intro gb374 hg w14 hbox hb
      have n0_ := bkb BK368 hb
      have n1_ := bkb BK369 hb
      have n2_ := bst HB hb
      have n3_ := Aside0.mk (hbox)
      have n4_ := gwl HB hg
      have n5_ := gwl HB hg
      have n6_ := nbl BK368 hg
      have n7_ := nbg BK368 hg
      have n8_ := nbl BK369 hg
      have n9_ := nbg BK369 hg
      clear BK368
      clear BK369
      clear HB
      have BK368 := n0_
      have BK369 := n1_
      have HB := n2_
      have BK374 := n3_
      have GW374 := n4_
      have GE374 := n5_
      have NB368_374 := n6_
      have NB374_368 := n7_
      have NB369_374 := n8_
      have NB374_369 := n9_
      clear n0_ n1_ n2_ n3_ n4_ n5_ n6_ n7_ n8_ n9_
      clear hb hbox hg
      refine hK.out _ _ ⟨gb374, (.pointer (some ⟨gb374, 0, none⟩)), (by rw [ha.out]; exact putSel_upk 6 hb_ rfl rfl rfl), (pk BK368), (pk BK369), (pbs HB), fun _ _ => (pk BK374), fun _ => GW374.out, fun _ => GE374.out, fun _ => NB368_374.out, fun _ => NB374_368.out, fun _ => NB369_374.out, fun _ => NB374_369.out, fun h0_ => absurd ((hoff 8 (by kernel_rfl)).symm.trans h0_) (by decide), fun _ => rfl⟩
     refine steps_cons ?_ ?_
     ·rintro b a w' ⟨gb374, m7_, ha, Q_BK368, Q_BK369, Q_HB, Q_BK374, Q_GW374, Q_GE374, Q_NB368_374, Q_NB374_368, Q_NB369_374, Q_NB374_369, Q_BK374_e8, Q_X7_⟩ hb_ hon hoff
      refine ⟨_, rfl, fun K hK => ?_⟩
      have e7 : a.tmps[7]? = some (m7_) := by rw [ha]; exact putSel_on (e := (7, 7, m7_)) 6 rfl rfl (hon 7 (by kernel_rfl)) rfl
      rw [Q_X7_ (hon 7 (by kernel_rfl))] at e7
      have e20 : a.tmps[20]? = some (.agg (mixA (Value.int .u16) [] t372)) := by rw [ha]; exact putSel_on (e := (5, 20, .agg (mixA (Value.int .u16) [] t372))) 4 rfl rfl (hon 5 (by kernel_rfl)) rfl
      replace ha := Aside0.mk ha
      have BK368 := Aside0.mk Q_BK368
      have BK369 := Aside0.mk Q_BK369
      have HB := Aside0.mk Q_HB
      have BK374 := Aside0.mk (Q_BK374 (hon 7 (by kernel_rfl)) hb_)
      have GW374 := Aside0.mk (Q_GW374 (hon 7 (by kernel_rfl)))
      have GE374 := Aside0.mk (Q_GE374 (hon 7 (by kernel_rfl)))
      have NB368_374 := Aside0.mk (Q_NB368_374 (hon 7 (by kernel_rfl)))
      have NB374_368 := Aside0.mk (Q_NB374_368 (hon 7 (by kernel_rfl)))
      have NB369_374 := Aside0.mk (Q_NB369_374 (hon 7 (by kernel_rfl)))
      have NB374_369 := Aside0.mk (Q_NB374_369 (hon 7 (by kernel_rfl)))
      refine step_store_lmix (by rfl) rfl 28 _ _ rfl gb374 (e := (Value.int .u16)) (cs' := []) (W' := t372) (cs := []) (W := (LA.zero 40)) (T := 28) (by first | (simp only [List.map_toArray, List.map_cons, List.map_nil, Act.eval, Array.getD_eq_getD_getElem?, Option.getD_some, e7, e20]; done) | (simp only [List.map_toArray, List.map_cons, List.map_nil, Act.eval, Array.getD_eq_getD_getElem?, Option.getD_some, e7, e20]; rfl)) (by first | (simp only [List.map_toArray, List.map_cons, List.map_nil, Act.eval, Array.getD_eq_getD_getElem?, Option.getD_some, e7, e20]; done) | (simp only [List.map_toArray, List.map_cons, List.map_nil, Act.eval, Array.getD_eq_getD_getElem?, Option.getD_some, e7, e20]; rfl)) (pk BK374) rfl (by kernel_rfl) rfl (fun _ => rfl) rfl ?_
      intro w18 hi hk hbl
      have n0_ := Aside0.mk (KeepBut.blk hk (g' := gb368) (o := .cells (mixA (Value.int .u16) [.int .i8 a0_0, .int .i8 a0_1] a0_2) 31 (0, 0)) (pk BK368) NB368_374.out (by simp))
      have n1_ := Aside0.mk (KeepBut.blk hk (g' := gb369) (o := .cells #[.int .i8 0, .int .i8 0] 41 (0, 0)) (pk BK369) NB369_374.out (by simp))
      have n2_ := Aside0.mk (hbl _ _ (pbs HB) GE374.out)
      have n3_ := Aside0.mk (hi)
      clear BK368
      clear BK369
      clear HB
      clear BK374
      have BK368 := n0_
      have BK369 := n1_
      have HB := n2_
      have BK374 := n3_
      clear n0_ n1_ n2_ n3_
      clear hi hk hbl
      refine hK.out _ _ ⟨gb374, m7_, (by rw [ha.out]; exact putSel_none (v := undef) rfl), (pk BK368), (pk BK369), (pbs HB), fun _ h1_ => absurd ((up_self b 8).symm.trans h1_) (by decide), fun _ => GW374.out, fun _ => GE374.out, fun _ => NB368_374.out, fun _ => NB374_368.out, fun _ => NB369_374.out, fun _ => NB374_369.out, fun _ => (pk BK374), Q_X7_⟩
     refine steps_cons ?_ ?_
     ·rintro b a w' ⟨gb374, m7_, ha, Q_BK368, Q_BK369, Q_HB, Q_BK374, Q_GW374, Q_GE374, Q_NB368_374, Q_NB374_368, Q_NB369_374, Q_NB374_369, Q_BK374_e8, Q_X7_⟩ hb_ hon hoff
      refine ⟨_, rfl, fun K hK => ?_⟩
      have e21 : a.tmps[21]? = some (.int .i64 t373) := by rw [ha]; exact putSel_on (e := (6, 21, .int .i64 t373)) 5 rfl rfl (hon 6 (by kernel_rfl)) rfl
      replace ha := Aside0.mk ha
      have BK368 := Aside0.mk Q_BK368
      have BK369 := Aside0.mk Q_BK369
      have HB := Aside0.mk Q_HB
      have GW374 := Aside0.mk (Q_GW374 (hon 7 (by kernel_rfl)))
      have GE374 := Aside0.mk (Q_GE374 (hon 7 (by kernel_rfl)))
      have NB368_374 := Aside0.mk (Q_NB368_374 (hon 7 (by kernel_rfl)))
      have NB374_368 := Aside0.mk (Q_NB374_368 (hon 7 (by kernel_rfl)))
      have NB369_374 := Aside0.mk (Q_NB369_374 (hon 7 (by kernel_rfl)))
      have NB374_369 := Aside0.mk (Q_NB374_369 (hon 7 (by kernel_rfl)))
      have BK374 := Aside0.mk (Q_BK374_e8 (hon 8 (by kernel_rfl)))
      refine value_ (w1 := w') (v := .int .i64 t373) (by rfl) rfl ?_ ?_
      ·go_simp
       (try simp only [i64_w])
       try rfl
      refine hK.out _ _ ⟨gb374, m7_, (by rw [ha.out]; exact putSel_upk 7 hb_ rfl rfl rfl), Q_BK368, Q_BK369, Q_HB, fun _ h1_ => absurd ((hon 8 (by kernel_rfl)).symm.trans h1_) (by decide), Q_GW374, Q_GE374, Q_NB368_374, Q_NB374_368, Q_NB369_374, Q_NB374_369, Q_BK374_e8, Q_X7_⟩
     exact steps_nil
    rintro b a w18 hall ⟨gb374, m7_, ha, Q_BK368, Q_BK369, Q_HB, Q_BK374, Q_GW374, Q_GE374, Q_NB368_374, Q_NB374_368, Q_NB369_374, Q_NB374_369, Q_BK374_e8, Q_X7_⟩
    clear BK368 BK369 HB
    have hb0_ := hall 0 (by kernel_rfl)
    have hb1_ := hall 1 (by kernel_rfl)
    have hb3_ := hall 3 (by kernel_rfl)
    have hb4_ := hall 4 (by kernel_rfl)
    have hb5_ := hall 5 (by kernel_rfl)
    have hb6_ := hall 6 (by kernel_rfl)
    have hb7_ := hall 7 (by kernel_rfl)
    have hb8_ := hall 8 (by kernel_rfl)
    have hb9_ := hall 9 (by kernel_rfl)
    subst ha
    obtain rfl := (Q_X7_ hb7_).symm
    simp only [putSel, hb0_, hb1_, hb3_, hb4_, hb5_, hb6_, hb7_, hb8_, hb9_, if_true, Act.put, List.setIfInBounds_toArray, List.set_cons_zero, List.set_cons_succ]
    have BK368 := Aside0.mk Q_BK368
    clear Q_BK368
    have BK369 := Aside0.mk Q_BK369
    clear Q_BK369
    have HB := Aside0.mk Q_HB
    clear Q_HB
    clear Q_BK374
    have GW374 := Aside0.mk (Q_GW374 hb7_)
    clear Q_GW374
    have GE374 := Aside0.mk (Q_GE374 hb7_)
    clear Q_GE374
    have NB368_374 := Aside0.mk (Q_NB368_374 hb7_)
    clear Q_NB368_374
    have NB374_368 := Aside0.mk (Q_NB374_368 hb7_)
    clear Q_NB374_368
    have NB369_374 := Aside0.mk (Q_NB369_374 hb7_)
    clear Q_NB369_374
    have NB374_369 := Aside0.mk (Q_NB374_369 hb7_)
    clear Q_NB374_369
    have BK374 := Aside0.mk (Q_BK374_e8 hb8_)
    clear Q_BK374_e8
    clear hall hb0_ hb1_ hb3_ hb4_ hb5_ hb6_ hb7_ hb8_ hb9_
    try go_wp2_with (first | ((with_reducible refine gate_dst (N := 26) rfl ?_); refine wpList_run0 (v := .agg (mixA (Value.int .u16) [] t372)) rfl (load_mix_run (P := Tryd.prog) 28 (.tmp 7) rfl gb374 rfl (show World.rangeAt _ gb374 0 ([] ++ t372.l.map (Value.int .u16)) from mix_range (show (World.heap _)[gb374]? = some (.cells (mixA (Value.int .u16) [] t372) 28 (0, 0)) from by (with_reducible repeat (first | refine blk_drewN ?_ _ | refine blk_drew ?_ | refine blk_alloc ?_ _)); exact BK374.out)) Tryd.underlying28 rfl (by kernel_rfl) rfl) ?_) | ((with_reducible refine gate_callee (f := 38) rfl ?_); refine goesL_ (some 27) rfl rfl Tryd.func38 (by kernel_rfl) rfl #[.agg (mixA (Value.int .u16) [] t372)] rfl (by (try simp only [List.map_toArray, List.map_cons, List.map_nil]); first | done | rfl | (simp only [List.length_drop, List.length_take]; rfl)) ?_; (with_reducible refine (spec_CountCrowd.calls k t372 t375 _ A8.out).mono ?_); rintro e w22 ⟨rfl, hb⟩; refine ⟨_, rfl, ?_⟩; have n0_ := bkb BK368 hb; have n1_ := bkb BK369 hb; have n2_ := bkb BK374 hb; have n3_ := bst HB hb; clear BK368; clear BK369; clear BK374; clear HB; have BK368 := n0_; have BK369 := n1_; have BK374 := n2_; have HB := n3_; clear n0_ n1_ n2_ n3_; (try clear hb); (try clear hb2); (try clear hk); (try clear hi); have hnb23 := NB369_368.out; have hnc23 := NB368_369.out; have hnb24 := NB369_374.out; have hnc24 := NB374_369.out; have hcz25_0 : w22.cell? ⟨gb369, 0, none⟩ = some (.int .i8 0) := (blk_cell BK369.out 0).trans rfl; have hcz25_1 : w22.cell? ⟨gb369, 1, none⟩ = some (.int .i8 0) := (blk_cell BK369.out 1).trans rfl; have hfz25_0 := blk_frozen BK369.out 0; have hfz25_1 := blk_frozen BK369.out 1))
    refine bodyPost_ret (results_ctt rfl _ _ gb369 41 #[.int .i8 0, .int .i8 0] (0, 0) _ rfl (by (with_reducible repeat (first | refine blk_drewN ?_ _ | refine blk_drew ?_ | refine blk_alloc ?_ _)); refine blk_put (cs := #[.int .i8 0, .int .i8 0]) ?_ 1 _ rfl; (with_reducible repeat (first | refine blk_drewN ?_ _ | refine blk_drew ?_ | refine blk_alloc ?_ _)); refine blk_put (cs := #[.int .i8 0, .int .i8 0]) ?_ 0 _ rfl; (with_reducible repeat (first | refine blk_drewN ?_ _ | refine blk_drew ?_ | refine blk_alloc ?_ _)); exact BK369.out) Tryd.underlying41 rfl (by kernel_rfl)) rfl ?_
    exact ⟨by first | rfl | (simp [errW_none, errW_some] <;> rfl) | (simp [*, errW_none, errW_some] <;> rfl), pbs HB⟩
   ·rw [if_neg c9] at H
    have c9b0 : decide (1 < t375) = false := decide_eq_false c9
    clear c9
    by_cases c26 : t375 = 0
    ·rw [if_pos c26] at H
     have c26b0 : (t375 == 0) = true := beq_iff_eq.mpr c26
     have c26b1 : (t375 != 0) = false := bne_eq_false_iff_eq.mpr c26
     clear c26
     simp only [Option.some.injEq, Prod.mk.injEq] at H
     obtain ⟨rfl, rfl, rfl, rfl⟩ := H
     go_enter Tryd.func16, Tryd.ntmps16
     try go_wp2_with (first | ((with_reducible refine gate_dst (N := 2) rfl ?_); refine box_event ?hg (N := 2) ?hd (cs := (mixA (Value.int .u16) [.int .i8 a0_0, .int .i8 a0_1] a0_2)) (t := 31) ?hr ?_; (case hd => rfl); (case hg => rfl); (case hr => first | (go_simp; done) | (go_simp; rfl)); intro gb368 hg w27 hbox hb; have n0_ := bst HB hb; have n1_ := Aside0.mk (hbox); have n2_ := gwl HB hg; have n3_ := gwl HB hg; clear HB; have HB := n0_; have BK368 := n1_; have GW368 := n2_; have GE368 := n3_; clear n0_ n1_ n2_ n3_; clear hb hbox hg) | ((with_reducible refine gate_dst (N := 4) rfl ?_); refine box_event ?hg (N := 4) ?hd (cs := #[.int .i8 0, .int .i8 0]) (t := 41) ?hr ?_; (case hd => rfl); (case hg => rfl); (case hr => first | (go_simp; done) | (go_simp; rfl)); intro gb369 hg w28 hbox hb; have n0_ := bkb BK368 hb; have n1_ := bst HB hb; have n2_ := Aside0.mk (hbox); have n3_ := gwl HB hg; have n4_ := gwl HB hg; have n5_ := nbl BK368 hg; have n6_ := nbg BK368 hg; clear BK368; clear HB; have BK368 := n0_; have HB := n1_; have BK369 := n2_; have GW369 := n3_; have GE369 := n4_; have NB368_369 := n5_; have NB369_368 := n6_; clear n0_ n1_ n2_ n3_ n4_ n5_ n6_; clear hb hbox hg) | ((with_reducible refine gate_callee (f := 19) rfl ?_); refine goesL_ (some 12) rfl rfl Tryd.func19 (by kernel_rfl) rfl #[.pointer (some ⟨gb368, 0, none⟩)] rfl (by (try simp only [List.map_toArray, List.map_cons, List.map_nil]); first | done | rfl | (simp only [List.length_drop, List.length_take]; rfl)) ?_; (with_reducible refine (spec_l01Ok.calls k gb368 a0_0 a0_1 a0_2 true _ ?side1 A3.out).mono ?_); (case side1 => exact (pk BK368)); rintro e w29 ⟨rfl, hb⟩; refine ⟨_, rfl, ?_⟩; have n0_ := bkb BK368 hb; have n1_ := bkb BK369 hb; have n2_ := bst HB hb; clear BK368; clear BK369; clear HB; have BK368 := n0_; have BK369 := n1_; have HB := n2_; clear n0_ n1_ n2_; (try clear hb); (try clear hb2); (try clear hk); (try clear hi)))
     have n0_ := Aside0.mk (blk_drew BK368.out)
     have n1_ := Aside0.mk (blk_drew BK369.out)
     have n2_ := Aside0.mk (below_drew1 HB.out)
     clear BK368
     clear BK369
     clear HB
     have BK368 := n0_
     have BK369 := n1_
     have HB := n2_
     clear n0_ n1_ n2_
     refine start_ (n := 10) (S := fun w' => True) (ds := []) #[false, false, false, false, false, false, false, false, false, false] (by kernel_rfl) rfl rfl trivial (fun hHeld => ?_); refine with_tabW spec_WhereNow.tab3 spec_WhereNow.bits3 (fun HT_ HW_ => ?_)
     generalize w29.drew = w30 at BK368 BK369 HB hHeld ⊢
     refine pure_ (i := 2) (N := some 18) (v := ?_) (a' := ?_) #[false, false, true, false, false, false, false, false, false, false] rfl rfl (any_of HT_.out (by kernel_rfl)) (fun _ _ _ h => h) (Or.inl ⟨by rfl, ?_⟩) ?_ ?_
     rotate_left
     ·intro w'
      go_simp
      with_reducible rfl
     rotate_left
     ·simp only [Act.put, List.setIfInBounds_toArray, List.set_cons_zero, List.set_cons_succ, i64_w, i32_w]
      rfl
     refine inv_at [0, 1, 3, 4, 5, 6, 7, 8, 9] (fun a0_ b a w' => ∃ (gb374 : Nat) (m7_ : Value), a = putSel a0_ b [(0, 16, .agg (mixA (Value.int .u16) [.int .i8 a0_0, .int .i8 a0_1] a0_2)), (1, 17, .agg (mixA (Value.int .u16) [] t371)), (3, 19, .tuple #[.agg (mixA (Value.int .u16) [] t372), .int .i64 t373]), (4, 15, .tuple #[.agg (mixA (Value.int .u16) [] t372), .int .i64 t373]), (5, 20, .agg (mixA (Value.int .u16) [] t372)), (6, 21, .int .i64 t373), (7, 7, m7_), (9, 8, .int .i64 t373)] ∧ (w'.heap[gb368]? = some (.cells (mixA (Value.int .u16) [.int .i8 a0_0, .int .i8 a0_1] a0_2) 31 (0, 0))) ∧ (w'.heap[gb369]? = some (.cells #[.int .i8 0, .int .i8 0] 41 (0, 0))) ∧ (Below w.heap.size w w') ∧ (b 7 = true → b 8 = false → w'.heap[gb374]? = some (.cells (mixA (Value.int .u16) [] (LA.zero 40)) 28 (0, 0))) ∧ (b 7 = true → w.heap.size ≤ gb374) ∧ (b 7 = true → w.heap.size ≤ gb374) ∧ (b 7 = true → gb368 ≠ gb374) ∧ (b 7 = true → gb374 ≠ gb368) ∧ (b 7 = true → gb369 ≠ gb374) ∧ (b 7 = true → gb374 ≠ gb369) ∧ (b 8 = true → w'.heap[gb374]? = some (.cells (mixA (Value.int .u16) [] t372) 28 (0, 0))) ∧ (b 7 = true → (m7_ : Value) = .pointer (some ⟨gb374, 0, none⟩))) HT_.out HW_.out (by kernel_rfl) (by kernel_rfl) ?_ ?_ ?_
     ·exact ⟨0, .bool false, by simp only [putSel, Bool.false_eq_true, if_false], BK368.out, BK369.out, HB.out, fun h_ => absurd h_ (by decide), fun h_ => absurd h_ (by decide), fun h_ => absurd h_ (by decide), fun h_ => absurd h_ (by decide), fun h_ => absurd h_ (by decide), fun h_ => absurd h_ (by decide), fun h_ => absurd h_ (by decide), fun h_ => absurd h_ (by decide), fun h_ => absurd h_ (by decide)⟩
     ·skip
      clear BK368 BK369 HB
      refine steps_cons ?_ ?_
      ·rintro b a w' ⟨gb374, m7_, ha, Q_BK368, Q_BK369, Q_HB, Q_BK374, Q_GW374, Q_GE374, Q_NB368_374, Q_NB374_368, Q_NB369_374, Q_NB374_369, Q_BK374_e8, Q_X7_⟩ hb_ hon hoff
       refine ⟨_, rfl, fun K hK => ?_⟩
       have e2 : a.tmps[2]? = some (.pointer (some ⟨gb368, 0, none⟩)) := by rw [ha]; exact (putSel_off rfl).trans rfl
       replace ha := Aside0.mk ha
       have BK368 := Aside0.mk Q_BK368
       have BK369 := Aside0.mk Q_BK369
       have HB := Aside0.mk Q_HB
       have hL_ : World.rangeAt w' gb368 0 ([.int .i8 a0_0, .int .i8 a0_1] ++ a0_2.l.map (Value.int .u16)) := mix_range BK368.out
       refine value_ (w1 := w') (v := .agg (mixA (Value.int .u16) [.int .i8 a0_0, .int .i8 a0_1] a0_2)) (by rfl) rfl ?_ ?_
       ·exact load_mix_run (P := Tryd.prog) 31 (.tmp 2) rfl gb368 (by simp only [Act.eval, Array.getD_eq_getD_getElem?, e2, Option.getD_some]) hL_ Tryd.underlying31 rfl (by kernel_rfl) rfl
       refine hK.out _ _ ⟨gb374, m7_, (by rw [ha.out]; exact putSel_upk 0 hb_ rfl rfl rfl), Q_BK368, Q_BK369, Q_HB, Q_BK374, Q_GW374, Q_GE374, Q_NB368_374, Q_NB374_368, Q_NB369_374, Q_NB374_369, fun h0_ => absurd ((hoff 8 (by kernel_rfl)).symm.trans h0_) (by decide), Q_X7_⟩
      refine steps_cons ?_ ?_
      ·rintro b a w' ⟨gb374, m7_, ha, Q_BK368, Q_BK369, Q_HB, Q_BK374, Q_GW374, Q_GE374, Q_NB368_374, Q_NB374_368, Q_NB369_374, Q_NB374_369, Q_BK374_e8, Q_X7_⟩ hb_ hon hoff
       refine ⟨_, rfl, fun K hK => ?_⟩
       have e2 : a.tmps[2]? = some (.pointer (some ⟨gb368, 0, none⟩)) := by rw [ha]; exact (putSel_off rfl).trans rfl
       replace ha := Aside0.mk ha
       have BK368 := Aside0.mk Q_BK368
       have BK369 := Aside0.mk Q_BK369
       have HB := Aside0.mk Q_HB
       refine goes_ Tryd.func37 (by kernel_rfl) rfl #[.pointer (some ⟨gb368, 0, none⟩)] (by rfl) rfl rfl (by first | (simp only [List.map_toArray, List.map_cons, List.map_nil, Act.eval, Array.getD_eq_getD_getElem?, Option.getD_some, e2]; done) | (simp only [List.map_toArray, List.map_cons, List.map_nil, Act.eval, Array.getD_eq_getD_getElem?, Option.getD_some, e2]; rfl)) ?_
       with_reducible refine (spec_l06Plain.calls k gb368 a0_0 a0_1 a0_2 t371 _ ?side1 A5.out).mono ?_
       (case side1 => exact (pk BK368))
       rintro e w31 ⟨rfl, hb⟩
       refine ⟨_, rfl, ?_⟩
       have n0_ := bkb BK368 hb
       have n1_ := bkb BK369 hb
       have n2_ := bst HB hb
       have z_BK374 := fun (h0_ : b 7 = true) (h1_ : b 8 = false) => (show w31.heap[gb374]? = some (.cells (mixA (Value.int .u16) [] (LA.zero 40)) 28 (0, 0)) from by first | exact (blk_below (g := gb374) (o := .cells (mixA (Value.int .u16) [] (LA.zero 40)) 28 (0, 0)) (by (with_reducible repeat (first | refine blk_drewN ?_ _ | refine blk_drew ?_ | refine blk_alloc ?_ _)); exact (Q_BK374 h0_ h1_)) hb))
       clear BK368
       clear BK369
       clear HB
       have BK368 := n0_
       have BK369 := n1_
       have HB := n2_
       clear n0_ n1_ n2_
       (try clear hb)
       (try clear hb2)
       (try clear hk)
       (try clear hi)
       refine hK.out _ _ ⟨gb374, m7_, (by rw [ha.out]; exact putSel_upk 1 hb_ rfl rfl rfl), (pk BK368), (pk BK369), (pbs HB), z_BK374, Q_GW374, Q_GE374, Q_NB368_374, Q_NB374_368, Q_NB369_374, Q_NB374_369, fun h0_ => absurd ((hoff 8 (by kernel_rfl)).symm.trans h0_) (by decide), Q_X7_⟩
      refine steps_cons ?_ ?_
      ·rintro b a w' ⟨gb374, m7_, ha, Q_BK368, Q_BK369, Q_HB, Q_BK374, Q_GW374, Q_GE374, Q_NB368_374, Q_NB374_368, Q_NB369_374, Q_NB374_369, Q_BK374_e8, Q_X7_⟩ hb_ hon hoff
       refine ⟨_, rfl, fun K hK => ?_⟩
       have e16 : a.tmps[16]? = some (.agg (mixA (Value.int .u16) [.int .i8 a0_0, .int .i8 a0_1] a0_2)) := by rw [ha]; exact putSel_on (e := (0, 16, .agg (mixA (Value.int .u16) [.int .i8 a0_0, .int .i8 a0_1] a0_2))) 0 rfl rfl (hon 0 (by kernel_rfl)) rfl
       have e17 : a.tmps[17]? = some (.agg (mixA (Value.int .u16) [] t371)) := by rw [ha]; exact putSel_on (e := (1, 17, .agg (mixA (Value.int .u16) [] t371))) 1 rfl rfl (hon 1 (by kernel_rfl)) rfl
       have e18 : a.tmps[18]? = some (.string a1) := by rw [ha]; exact (putSel_off rfl).trans rfl
       replace ha := Aside0.mk ha
       have BK368 := Aside0.mk Q_BK368
       have BK369 := Aside0.mk Q_BK369
       have HB := Aside0.mk Q_HB
       refine goes_ Tryd.func14 (by kernel_rfl) rfl #[.agg (mixA (Value.int .u16) [.int .i8 a0_0, .int .i8 a0_1] a0_2), .agg (mixA (Value.int .u16) [] t371), .string a1] (by rfl) rfl rfl (by first | (simp only [List.map_toArray, List.map_cons, List.map_nil, Act.eval, Array.getD_eq_getD_getElem?, Option.getD_some, e16, e17, e18]; done) | (simp only [List.map_toArray, List.map_cons, List.map_nil, Act.eval, Array.getD_eq_getD_getElem?, Option.getD_some, e16, e17, e18]; rfl)) ?_
       with_reducible refine (spec_MovesCrowd.calls k a0_0 a0_1 a0_2 t371 a1 t372 t373 _ A6.out).mono ?_
       rintro e w33 ⟨rfl, hb⟩
       refine ⟨_, rfl, ?_⟩
       have n0_ := bkb BK368 hb
       have n1_ := bkb BK369 hb
       have n2_ := bst HB hb
       have z_BK374 := fun (h0_ : b 7 = true) (h1_ : b 8 = false) => (show w33.heap[gb374]? = some (.cells (mixA (Value.int .u16) [] (LA.zero 40)) 28 (0, 0)) from by first | exact (blk_below (g := gb374) (o := .cells (mixA (Value.int .u16) [] (LA.zero 40)) 28 (0, 0)) (by (with_reducible repeat (first | refine blk_drewN ?_ _ | refine blk_drew ?_ | refine blk_alloc ?_ _)); exact (Q_BK374 h0_ h1_)) hb))
       clear BK368
       clear BK369
       clear HB
       have BK368 := n0_
       have BK369 := n1_
       have HB := n2_
       clear n0_ n1_ n2_
       (try clear hb)
       (try clear hb2)
       (try clear hk)
       (try clear hi)
       refine hK.out _ _ ⟨gb374, m7_, (by rw [ha.out]; exact putSel_upk 2 hb_ rfl rfl rfl), (pk BK368), (pk BK369), (pbs HB), z_BK374, Q_GW374, Q_GE374, Q_NB368_374, Q_NB374_368, Q_NB369_374, Q_NB374_369, fun h0_ => absurd ((hoff 8 (by kernel_rfl)).symm.trans h0_) (by decide), Q_X7_⟩
      refine steps_cons ?_ ?_
      ·rintro b a w' ⟨gb374, m7_, ha, Q_BK368, Q_BK369, Q_HB, Q_BK374, Q_GW374, Q_GE374, Q_NB368_374, Q_NB374_368, Q_NB369_374, Q_NB374_369, Q_BK374_e8, Q_X7_⟩ hb_ hon hoff
       refine ⟨_, rfl, fun K hK => ?_⟩
       have e19 : a.tmps[19]? = some (.tuple #[.agg (mixA (Value.int .u16) [] t372), .int .i64 t373]) := by rw [ha]; exact putSel_on (e := (3, 19, .tuple #[.agg (mixA (Value.int .u16) [] t372), .int .i64 t373])) 2 rfl rfl (hon 3 (by kernel_rfl)) rfl
       replace ha := Aside0.mk ha
       have BK368 := Aside0.mk Q_BK368
       have BK369 := Aside0.mk Q_BK369
       have HB := Aside0.mk Q_HB
       refine value_ (w1 := w') (v := .tuple #[.agg (mixA (Value.int .u16) [] t372), .int .i64 t373]) (by rfl) rfl ?_ ?_
       ·go_simp
        (try simp only [i64_w])
        try rfl
       refine hK.out _ _ ⟨gb374, m7_, (by rw [ha.out]; exact putSel_upk 3 hb_ rfl rfl rfl), Q_BK368, Q_BK369, Q_HB, Q_BK374, Q_GW374, Q_GE374, Q_NB368_374, Q_NB374_368, Q_NB369_374, Q_NB374_369, fun h0_ => absurd ((hoff 8 (by kernel_rfl)).symm.trans h0_) (by decide), Q_X7_⟩
      refine steps_cons ?_ ?_
      ·rintro b a w' ⟨gb374, m7_, ha, Q_BK368, Q_BK369, Q_HB, Q_BK374, Q_GW374, Q_GE374, Q_NB368_374, Q_NB374_368, Q_NB369_374, Q_NB374_369, Q_BK374_e8, Q_X7_⟩ hb_ hon hoff
       refine ⟨_, rfl, fun K hK => ?_⟩
       have e15 : a.tmps[15]? = some (.tuple #[.agg (mixA (Value.int .u16) [] t372), .int .i64 t373]) := by rw [ha]; exact putSel_on (e := (4, 15, .tuple #[.agg (mixA (Value.int .u16) [] t372), .int .i64 t373])) 3 rfl rfl (hon 4 (by kernel_rfl)) rfl
       replace ha := Aside0.mk ha
       have BK368 := Aside0.mk Q_BK368
       have BK369 := Aside0.mk Q_BK369
       have HB := Aside0.mk Q_HB
       refine value_ (w1 := w') (v := .agg (mixA (Value.int .u16) [] t372)) (by rfl) rfl ?_ ?_
       ·go_simp
        (try simp only [i64_w])
        try rfl
       refine hK.out _ _ ⟨gb374, m7_, (by rw [ha.out]; exact putSel_upk 4 hb_ rfl rfl rfl), Q_BK368, Q_BK369, Q_HB, Q_BK374, Q_GW374, Q_GE374, Q_NB368_374, Q_NB374_368, Q_NB369_374, Q_NB374_369, fun h0_ => absurd ((hoff 8 (by kernel_rfl)).symm.trans h0_) (by decide), Q_X7_⟩
      refine steps_cons ?_ ?_
      ·rintro b a w' ⟨gb374, m7_, ha, Q_BK368, Q_BK369, Q_HB, Q_BK374, Q_GW374, Q_GE374, Q_NB368_374, Q_NB374_368, Q_NB369_374, Q_NB374_369, Q_BK374_e8, Q_X7_⟩ hb_ hon hoff
       refine ⟨_, rfl, fun K hK => ?_⟩
       have e15 : a.tmps[15]? = some (.tuple #[.agg (mixA (Value.int .u16) [] t372), .int .i64 t373]) := by rw [ha]; exact putSel_on (e := (4, 15, .tuple #[.agg (mixA (Value.int .u16) [] t372), .int .i64 t373])) 3 rfl rfl (hon 4 (by kernel_rfl)) rfl
       replace ha := Aside0.mk ha
       have BK368 := Aside0.mk Q_BK368
       have BK369 := Aside0.mk Q_BK369
       have HB := Aside0.mk Q_HB
       refine value_ (w1 := w') (v := .int .i64 t373) (by rfl) rfl ?_ ?_
       ·go_simp
        (try simp only [i64_w])
        try rfl
       refine hK.out _ _ ⟨gb374, m7_, (by rw [ha.out]; exact putSel_upk 5 hb_ rfl rfl rfl), Q_BK368, Q_BK369, Q_HB, Q_BK374, Q_GW374, Q_GE374, Q_NB368_374, Q_NB374_368, Q_NB369_374, Q_NB374_369, Q_BK374_e8, Q_X7_⟩
      refine steps_cons ?_ ?_
      ·rintro b a w' ⟨gb374, m7_, ha, Q_BK368, Q_BK369, Q_HB, Q_BK374, Q_GW374, Q_GE374, Q_NB368_374, Q_NB374_368, Q_NB369_374, Q_NB374_369, Q_BK374_e8, Q_X7_⟩ hb_ hon hoff
       refine ⟨_, rfl, fun K hK => ?_⟩
       replace ha := Aside0.mk ha
       have BK368 := Aside0.mk Q_BK368
       have BK369 := Aside0.mk Q_BK369
       have HB := Aside0.mk Q_HB
       refine box_step ?hg (N := 7) ?hd (cs := (mixA (Value.int .u16) [] (LA.zero 40))) (t := 28) ?hr ?_; (case hd => rfl); (case hg => rfl); (case hr => first | (go_simp; done) | (go_simp; rfl))
       intro gb374 hg w31 hbox hb
       have n0_ := bkb BK368 hb
       have n1_ := bkb BK369 hb
       have n2_ := bst HB hb
       have n3_ := Aside0.mk (hbox)
       have n4_ := gwl HB hg
       have n5_ := gwl HB hg
       have n6_ := nbl BK368 hg
       have n7_ := nbg BK368 hg
       have n8_ := nbl BK369 hg
       have n9_ := nbg BK369 hg
       clear BK368
       clear BK369
       clear HB
       have BK368 := n0_
       have BK369 := n1_
       have HB := n2_
       have BK374 := n3_
       have GW374 := n4_
       have GE374 := n5_
       have NB368_374 := n6_
       have NB374_368 := n7_
       have NB369_374 := n8_
       have NB374_369 := n9_
       clear n0_ n1_ n2_ n3_ n4_ n5_ n6_ n7_ n8_ n9_
       clear hb hbox hg
       refine hK.out _ _ ⟨gb374, (.pointer (some ⟨gb374, 0, none⟩)), (by rw [ha.out]; exact putSel_upk 6 hb_ rfl rfl rfl), (pk BK368), (pk BK369), (pbs HB), fun _ _ => (pk BK374), fun _ => GW374.out, fun _ => GE374.out, fun _ => NB368_374.out, fun _ => NB374_368.out, fun _ => NB369_374.out, fun _ => NB374_369.out, fun h0_ => absurd ((hoff 8 (by kernel_rfl)).symm.trans h0_) (by decide), fun _ => rfl⟩
      refine steps_cons ?_ ?_
      ·rintro b a w' ⟨gb374, m7_, ha, Q_BK368, Q_BK369, Q_HB, Q_BK374, Q_GW374, Q_GE374, Q_NB368_374, Q_NB374_368, Q_NB369_374, Q_NB374_369, Q_BK374_e8, Q_X7_⟩ hb_ hon hoff
       refine ⟨_, rfl, fun K hK => ?_⟩
       have e7 : a.tmps[7]? = some (m7_) := by rw [ha]; exact putSel_on (e := (7, 7, m7_)) 6 rfl rfl (hon 7 (by kernel_rfl)) rfl
       rw [Q_X7_ (hon 7 (by kernel_rfl))] at e7
       have e20 : a.tmps[20]? = some (.agg (mixA (Value.int .u16) [] t372)) := by rw [ha]; exact putSel_on (e := (5, 20, .agg (mixA (Value.int .u16) [] t372))) 4 rfl rfl (hon 5 (by kernel_rfl)) rfl
       replace ha := Aside0.mk ha
       have BK368 := Aside0.mk Q_BK368
       have BK369 := Aside0.mk Q_BK369
       have HB := Aside0.mk Q_HB
       have BK374 := Aside0.mk (Q_BK374 (hon 7 (by kernel_rfl)) hb_)
       have GW374 := Aside0.mk (Q_GW374 (hon 7 (by kernel_rfl)))
       have GE374 := Aside0.mk (Q_GE374 (hon 7 (by kernel_rfl)))
       have NB368_374 := Aside0.mk (Q_NB368_374 (hon 7 (by kernel_rfl)))
       have NB374_368 := Aside0.mk (Q_NB374_368 (hon 7 (by kernel_rfl)))
       have NB369_374 := Aside0.mk (Q_NB369_374 (hon 7 (by kernel_rfl)))
       have NB374_369 := Aside0.mk (Q_NB374_369 (hon 7 (by kernel_rfl)))
       refine step_store_lmix (by rfl) rfl 28 _ _ rfl gb374 (e := (Value.int .u16)) (cs' := []) (W' := t372) (cs := []) (W := (LA.zero 40)) (T := 28) (by first | (simp only [List.map_toArray, List.map_cons, List.map_nil, Act.eval, Array.getD_eq_getD_getElem?, Option.getD_some, e7, e20]; done) | (simp only [List.map_toArray, List.map_cons, List.map_nil, Act.eval, Array.getD_eq_getD_getElem?, Option.getD_some, e7, e20]; rfl)) (by first | (simp only [List.map_toArray, List.map_cons, List.map_nil, Act.eval, Array.getD_eq_getD_getElem?, Option.getD_some, e7, e20]; done) | (simp only [List.map_toArray, List.map_cons, List.map_nil, Act.eval, Array.getD_eq_getD_getElem?, Option.getD_some, e7, e20]; rfl)) (pk BK374) rfl (by kernel_rfl) rfl (fun _ => rfl) rfl ?_
       intro w35 hi hk hbl
       have n0_ := Aside0.mk (KeepBut.blk hk (g' := gb368) (o := .cells (mixA (Value.int .u16) [.int .i8 a0_0, .int .i8 a0_1] a0_2) 31 (0, 0)) (pk BK368) NB368_374.out (by simp))
       have n1_ := Aside0.mk (KeepBut.blk hk (g' := gb369) (o := .cells #[.int .i8 0, .int .i8 0] 41 (0, 0)) (pk BK369) NB369_374.out (by simp))
       have n2_ := Aside0.mk (hbl _ _ (pbs HB) GE374.out)
       have n3_ := Aside0.mk (hi)
       clear BK368
       clear BK369
       clear HB
       clear BK374
       have BK368 := n0_
       have BK369 := n1_
       have HB := n2_
       have BK374 := n3_
       clear n0_ n1_ n2_ n3_
       clear hi hk hbl
       refine hK.out _ _ ⟨gb374, m7_, (by rw [ha.out]; exact putSel_none (v := undef) rfl), (pk BK368), (pk BK369), (pbs HB), fun _ h1_ => absurd ((up_self b 8).symm.trans h1_) (by decide), fun _ => GW374.out, fun _ => GE374.out, fun _ => NB368_374.out, fun _ => NB374_368.out, fun _ => NB369_374.out, fun _ => NB374_369.out, fun _ => (pk BK374), Q_X7_⟩
      refine steps_cons ?_ ?_
      ·rintro b a w' ⟨gb374, m7_, ha, Q_BK368, Q_BK369, Q_HB, Q_BK374, Q_GW374, Q_GE374, Q_NB368_374, Q_NB374_368, Q_NB369_374, Q_NB374_369, Q_BK374_e8, Q_X7_⟩ hb_ hon hoff
       refine ⟨_, rfl, fun K hK => ?_⟩
       have e21 : a.tmps[21]? = some (.int .i64 t373) := by rw [ha]; exact putSel_on (e := (6, 21, .int .i64 t373)) 5 rfl rfl (hon 6 (by kernel_rfl)) rfl
       replace ha := Aside0.mk ha
       have BK368 := Aside0.mk Q_BK368
       have BK369 := Aside0.mk Q_BK369
       have HB := Aside0.mk Q_HB
       have GW374 := Aside0.mk (Q_GW374 (hon 7 (by kernel_rfl)))
       have GE374 := Aside0.mk (Q_GE374 (hon 7 (by kernel_rfl)))
       have NB368_374 := Aside0.mk (Q_NB368_374 (hon 7 (by kernel_rfl)))
       have NB374_368 := Aside0.mk (Q_NB374_368 (hon 7 (by kernel_rfl)))
       have NB369_374 := Aside0.mk (Q_NB369_374 (hon 7 (by kernel_rfl)))
       have NB374_369 := Aside0.mk (Q_NB374_369 (hon 7 (by kernel_rfl)))
       have BK374 := Aside0.mk (Q_BK374_e8 (hon 8 (by kernel_rfl)))
       refine value_ (w1 := w') (v := .int .i64 t373) (by rfl) rfl ?_ ?_
       ·go_simp
        (try simp only [i64_w])
        try rfl
       refine hK.out _ _ ⟨gb374, m7_, (by rw [ha.out]; exact putSel_upk 7 hb_ rfl rfl rfl), Q_BK368, Q_BK369, Q_HB, fun _ h1_ => absurd ((hon 8 (by kernel_rfl)).symm.trans h1_) (by decide), Q_GW374, Q_GE374, Q_NB368_374, Q_NB374_368, Q_NB369_374, Q_NB374_369, Q_BK374_e8, Q_X7_⟩
      exact steps_nil
     rintro b a w35 hall ⟨gb374, m7_, ha, Q_BK368, Q_BK369, Q_HB, Q_BK374, Q_GW374, Q_GE374, Q_NB368_374, Q_NB374_368, Q_NB369_374, Q_NB374_369, Q_BK374_e8, Q_X7_⟩
     clear BK368 BK369 HB
     have hb0_ := hall 0 (by kernel_rfl)
     have hb1_ := hall 1 (by kernel_rfl)
     have hb3_ := hall 3 (by kernel_rfl)
     have hb4_ := hall 4 (by kernel_rfl)
     have hb5_ := hall 5 (by kernel_rfl)
     have hb6_ := hall 6 (by kernel_rfl)
     have hb7_ := hall 7 (by kernel_rfl)
     have hb8_ := hall 8 (by kernel_rfl)
     have hb9_ := hall 9 (by kernel_rfl)
     subst ha
     obtain rfl := (Q_X7_ hb7_).symm
     simp only [putSel, hb0_, hb1_, hb3_, hb4_, hb5_, hb6_, hb7_, hb8_, hb9_, if_true, Act.put, List.setIfInBounds_toArray, List.set_cons_zero, List.set_cons_succ]
     have BK368 := Aside0.mk Q_BK368
     clear Q_BK368
     have BK369 := Aside0.mk Q_BK369
     clear Q_BK369
     have HB := Aside0.mk Q_HB
     clear Q_HB
     clear Q_BK374
     have GW374 := Aside0.mk (Q_GW374 hb7_)
     clear Q_GW374
     have GE374 := Aside0.mk (Q_GE374 hb7_)
     clear Q_GE374
     have NB368_374 := Aside0.mk (Q_NB368_374 hb7_)
     clear Q_NB368_374
     have NB374_368 := Aside0.mk (Q_NB374_368 hb7_)
     clear Q_NB374_368
     have NB369_374 := Aside0.mk (Q_NB369_374 hb7_)
     clear Q_NB369_374
     have NB374_369 := Aside0.mk (Q_NB374_369 hb7_)
     clear Q_NB374_369
     have BK374 := Aside0.mk (Q_BK374_e8 hb8_)
     clear Q_BK374_e8
     clear hall hb0_ hb1_ hb3_ hb4_ hb5_ hb6_ hb7_ hb8_ hb9_
     try go_wp2_with (first | ((with_reducible refine gate_dst (N := 26) rfl ?_); refine wpList_run0 (v := .agg (mixA (Value.int .u16) [] t372)) rfl (load_mix_run (P := Tryd.prog) 28 (.tmp 7) rfl gb374 rfl (show World.rangeAt _ gb374 0 ([] ++ t372.l.map (Value.int .u16)) from mix_range (show (World.heap _)[gb374]? = some (.cells (mixA (Value.int .u16) [] t372) 28 (0, 0)) from by (with_reducible repeat (first | refine blk_drewN ?_ _ | refine blk_drew ?_ | refine blk_alloc ?_ _)); exact BK374.out)) Tryd.underlying28 rfl (by kernel_rfl) rfl) ?_) | ((with_reducible refine gate_callee (f := 38) rfl ?_); refine goesL_ (some 27) rfl rfl Tryd.func38 (by kernel_rfl) rfl #[.agg (mixA (Value.int .u16) [] t372)] rfl (by (try simp only [List.map_toArray, List.map_cons, List.map_nil]); first | done | rfl | (simp only [List.length_drop, List.length_take]; rfl)) ?_; (with_reducible refine (spec_CountCrowd.calls k t372 t375 _ A8.out).mono ?_); rintro e w39 ⟨rfl, hb⟩; refine ⟨_, rfl, ?_⟩; have n0_ := bkb BK368 hb; have n1_ := bkb BK369 hb; have n2_ := bkb BK374 hb; have n3_ := bst HB hb; clear BK368; clear BK369; clear BK374; clear HB; have BK368 := n0_; have BK369 := n1_; have BK374 := n2_; have HB := n3_; clear n0_ n1_ n2_ n3_; (try clear hb); (try clear hb2); (try clear hk); (try clear hi); have hnb40 := NB369_368.out; have hnc40 := NB368_369.out; have hnb41 := NB369_374.out; have hnc41 := NB374_369.out; have hcz42_0 : w39.cell? ⟨gb369, 0, none⟩ = some (.int .i8 0) := (blk_cell BK369.out 0).trans rfl; have hcz42_1 : w39.cell? ⟨gb369, 1, none⟩ = some (.int .i8 0) := (blk_cell BK369.out 1).trans rfl; have hfz42_0 := blk_frozen BK369.out 0; have hfz42_1 := blk_frozen BK369.out 1))
     refine bodyPost_ret (results_ctt rfl _ _ gb369 41 #[.int .i8 0, .int .i8 0] (0, 0) _ rfl (by (with_reducible repeat (first | refine blk_drewN ?_ _ | refine blk_drew ?_ | refine blk_alloc ?_ _)); refine blk_put (cs := #[.int .i8 0, .int .i8 0]) ?_ 1 _ rfl; (with_reducible repeat (first | refine blk_drewN ?_ _ | refine blk_drew ?_ | refine blk_alloc ?_ _)); refine blk_put (cs := #[.int .i8 0, .int .i8 0]) ?_ 0 _ rfl; (with_reducible repeat (first | refine blk_drewN ?_ _ | refine blk_drew ?_ | refine blk_alloc ?_ _)); exact BK369.out) Tryd.underlying41 rfl (by kernel_rfl)) rfl ?_
     exact ⟨by first | rfl | (simp [errW_none, errW_some] <;> rfl) | (simp [*, errW_none, errW_some] <;> rfl), pbs HB⟩
    ·rw [if_neg c26] at H
     have c26b0 : (t375 == 0) = false := beq_eq_false_iff_ne.mpr c26
     have c26b1 : (t375 != 0) = true := bne_iff_ne.mpr c26
     replace H := Option.bind_eq_some_iff.mp H
     obtain ⟨t376, A430, H⟩ := H
     replace H : (if 0 < (t376.length : Int) then (spec_WhereNow.l0 k 0 t372 ((rd_T41 t376 0).f0) ((rd_T41 t376 0).f1)) else (none)) = some (r1, r2, r3, r4) := H
     have A43 := Aside0.mk A430
     clear A430
     by_cases c44 : 0 < (t376.length : Int)
     ·rw [if_pos c44] at H
      have c44b0 : decide (0 < (t376.length : Int)) = true := decide_eq_true c44
      have c44b1 : decide (0 < t376.length) = true := decide_eq_true (by omega)
      clear c44
      have H' := Aside0.mk H
      clear H
      go_enter Tryd.func16, Tryd.ntmps16
      try go_wp2_with (first | ((with_reducible refine gate_dst (N := 2) rfl ?_); refine box_event ?hg (N := 2) ?hd (cs := (mixA (Value.int .u16) [.int .i8 a0_0, .int .i8 a0_1] a0_2)) (t := 31) ?hr ?_; (case hd => rfl); (case hg => rfl); (case hr => first | (go_simp; done) | (go_simp; rfl)); intro gb368 hg w45 hbox hb; have n0_ := bst HB hb; have n1_ := Aside0.mk (hbox); have n2_ := gwl HB hg; have n3_ := gwl HB hg; clear HB; have HB := n0_; have BK368 := n1_; have GW368 := n2_; have GE368 := n3_; clear n0_ n1_ n2_ n3_; clear hb hbox hg) | ((with_reducible refine gate_dst (N := 4) rfl ?_); refine box_event ?hg (N := 4) ?hd (cs := #[.int .i8 0, .int .i8 0]) (t := 41) ?hr ?_; (case hd => rfl); (case hg => rfl); (case hr => first | (go_simp; done) | (go_simp; rfl)); intro gb369 hg w46 hbox hb; have n0_ := bkb BK368 hb; have n1_ := bst HB hb; have n2_ := Aside0.mk (hbox); have n3_ := gwl HB hg; have n4_ := gwl HB hg; have n5_ := nbl BK368 hg; have n6_ := nbg BK368 hg; clear BK368; clear HB; have BK368 := n0_; have HB := n1_; have BK369 := n2_; have GW369 := n3_; have GE369 := n4_; have NB368_369 := n5_; have NB369_368 := n6_; clear n0_ n1_ n2_ n3_ n4_ n5_ n6_; clear hb hbox hg) | ((with_reducible refine gate_callee (f := 19) rfl ?_); refine goesL_ (some 12) rfl rfl Tryd.func19 (by kernel_rfl) rfl #[.pointer (some ⟨gb368, 0, none⟩)] rfl (by (try simp only [List.map_toArray, List.map_cons, List.map_nil]); first | done | rfl | (simp only [List.length_drop, List.length_take]; rfl)) ?_; (with_reducible refine (spec_l01Ok.calls k gb368 a0_0 a0_1 a0_2 true _ ?side1 A3.out).mono ?_); (case side1 => exact (pk BK368)); rintro e w47 ⟨rfl, hb⟩; refine ⟨_, rfl, ?_⟩; have n0_ := bkb BK368 hb; have n1_ := bkb BK369 hb; have n2_ := bst HB hb; clear BK368; clear BK369; clear HB; have BK368 := n0_; have BK369 := n1_; have HB := n2_; clear n0_ n1_ n2_; (try clear hb); (try clear hb2); (try clear hk); (try clear hi)))
      have n0_ := Aside0.mk (blk_drew BK368.out)
      have n1_ := Aside0.mk (blk_drew BK369.out)
      have n2_ := Aside0.mk (below_drew1 HB.out)
      clear BK368
      clear BK369
      clear HB
      have BK368 := n0_
      have BK369 := n1_
      have HB := n2_
      clear n0_ n1_ n2_
      refine start_ (n := 10) (S := fun w' => True) (ds := []) #[false, false, false, false, false, false, false, false, false, false] (by kernel_rfl) rfl rfl trivial (fun hHeld => ?_); refine with_tabW spec_WhereNow.tab3 spec_WhereNow.bits3 (fun HT_ HW_ => ?_)
      generalize w47.drew = w48 at BK368 BK369 HB hHeld ⊢
      refine pure_ (i := 2) (N := some 18) (v := ?_) (a' := ?_) #[false, false, true, false, false, false, false, false, false, false] rfl rfl (any_of HT_.out (by kernel_rfl)) (fun _ _ _ h => h) (Or.inl ⟨by rfl, ?_⟩) ?_ ?_
      rotate_left
      ·intro w'
       go_simp
       with_reducible rfl
      rotate_left
      ·simp only [Act.put, List.setIfInBounds_toArray, List.set_cons_zero, List.set_cons_succ, i64_w, i32_w]
       rfl
      refine inv_at [0, 1, 3, 4, 5, 6, 7, 8, 9] (fun a0_ b a w' => ∃ (gb374 : Nat) (m7_ : Value), a = putSel a0_ b [(0, 16, .agg (mixA (Value.int .u16) [.int .i8 a0_0, .int .i8 a0_1] a0_2)), (1, 17, .agg (mixA (Value.int .u16) [] t371)), (3, 19, .tuple #[.agg (mixA (Value.int .u16) [] t372), .int .i64 t373]), (4, 15, .tuple #[.agg (mixA (Value.int .u16) [] t372), .int .i64 t373]), (5, 20, .agg (mixA (Value.int .u16) [] t372)), (6, 21, .int .i64 t373), (7, 7, m7_), (9, 8, .int .i64 t373)] ∧ (w'.heap[gb368]? = some (.cells (mixA (Value.int .u16) [.int .i8 a0_0, .int .i8 a0_1] a0_2) 31 (0, 0))) ∧ (w'.heap[gb369]? = some (.cells #[.int .i8 0, .int .i8 0] 41 (0, 0))) ∧ (Below w.heap.size w w') ∧ (b 7 = true → b 8 = false → w'.heap[gb374]? = some (.cells (mixA (Value.int .u16) [] (LA.zero 40)) 28 (0, 0))) ∧ (b 7 = true → w.heap.size ≤ gb374) ∧ (b 7 = true → w.heap.size ≤ gb374) ∧ (b 7 = true → gb368 ≠ gb374) ∧ (b 7 = true → gb374 ≠ gb368) ∧ (b 7 = true → gb369 ≠ gb374) ∧ (b 7 = true → gb374 ≠ gb369) ∧ (b 8 = true → w'.heap[gb374]? = some (.cells (mixA (Value.int .u16) [] t372) 28 (0, 0))) ∧ (b 7 = true → (m7_ : Value) = .pointer (some ⟨gb374, 0, none⟩))) HT_.out HW_.out (by kernel_rfl) (by kernel_rfl) ?_ ?_ ?_
      ·exact ⟨0, .bool false, by simp only [putSel, Bool.false_eq_true, if_false], BK368.out, BK369.out, HB.out, fun h_ => absurd h_ (by decide), fun h_ => absurd h_ (by decide), fun h_ => absurd h_ (by decide), fun h_ => absurd h_ (by decide), fun h_ => absurd h_ (by decide), fun h_ => absurd h_ (by decide), fun h_ => absurd h_ (by decide), fun h_ => absurd h_ (by decide), fun h_ => absurd h_ (by decide)⟩
      ·skip
       clear BK368 BK369 HB
       refine steps_cons ?_ ?_
       ·rintro b a w' ⟨gb374, m7_, ha, Q_BK368, Q_BK369, Q_HB, Q_BK374, Q_GW374, Q_GE374, Q_NB368_374, Q_NB374_368, Q_NB369_374, Q_NB374_369, Q_BK374_e8, Q_X7_⟩ hb_ hon hoff
        refine ⟨_, rfl, fun K hK => ?_⟩
        have e2 : a.tmps[2]? = some (.pointer (some ⟨gb368, 0, none⟩)) := by rw [ha]; exact (putSel_off rfl).trans rfl
        replace ha := Aside0.mk ha
        have BK368 := Aside0.mk Q_BK368
        have BK369 := Aside0.mk Q_BK369
        have HB := Aside0.mk Q_HB
        have hL_ : World.rangeAt w' gb368 0 ([.int .i8 a0_0, .int .i8 a0_1] ++ a0_2.l.map (Value.int .u16)) := mix_range BK368.out
        refine value_ (w1 := w') (v := .agg (mixA (Value.int .u16) [.int .i8 a0_0, .int .i8 a0_1] a0_2)) (by rfl) rfl ?_ ?_
        ·exact load_mix_run (P := Tryd.prog) 31 (.tmp 2) rfl gb368 (by simp only [Act.eval, Array.getD_eq_getD_getElem?, e2, Option.getD_some]) hL_ Tryd.underlying31 rfl (by kernel_rfl) rfl
        refine hK.out _ _ ⟨gb374, m7_, (by rw [ha.out]; exact putSel_upk 0 hb_ rfl rfl rfl), Q_BK368, Q_BK369, Q_HB, Q_BK374, Q_GW374, Q_GE374, Q_NB368_374, Q_NB374_368, Q_NB369_374, Q_NB374_369, fun h0_ => absurd ((hoff 8 (by kernel_rfl)).symm.trans h0_) (by decide), Q_X7_⟩
       refine steps_cons ?_ ?_
       ·rintro b a w' ⟨gb374, m7_, ha, Q_BK368, Q_BK369, Q_HB, Q_BK374, Q_GW374, Q_GE374, Q_NB368_374, Q_NB374_368, Q_NB369_374, Q_NB374_369, Q_BK374_e8, Q_X7_⟩ hb_ hon hoff
        refine ⟨_, rfl, fun K hK => ?_⟩
        have e2 : a.tmps[2]? = some (.pointer (some ⟨gb368, 0, none⟩)) := by rw [ha]; exact (putSel_off rfl).trans rfl
        replace ha := Aside0.mk ha
        have BK368 := Aside0.mk Q_BK368
        have BK369 := Aside0.mk Q_BK369
        have HB := Aside0.mk Q_HB
        refine goes_ Tryd.func37 (by kernel_rfl) rfl #[.pointer (some ⟨gb368, 0, none⟩)] (by rfl) rfl rfl (by first | (simp only [List.map_toArray, List.map_cons, List.map_nil, Act.eval, Array.getD_eq_getD_getElem?, Option.getD_some, e2]; done) | (simp only [List.map_toArray, List.map_cons, List.map_nil, Act.eval, Array.getD_eq_getD_getElem?, Option.getD_some, e2]; rfl)) ?_
        with_reducible refine (spec_l06Plain.calls k gb368 a0_0 a0_1 a0_2 t371 _ ?side1 A5.out).mono ?_
        (case side1 => exact (pk BK368))
        rintro e w49 ⟨rfl, hb⟩
        refine ⟨_, rfl, ?_⟩
        have n0_ := bkb BK368 hb
        have n1_ := bkb BK369 hb
        have n2_ := bst HB hb
        have z_BK374 := fun (h0_ : b 7 = true) (h1_ : b 8 = false) => (show w49.heap[gb374]? = some (.cells (mixA (Value.int .u16) [] (LA.zero 40)) 28 (0, 0)) from by first | exact (blk_below (g := gb374) (o := .cells (mixA (Value.int .u16) [] (LA.zero 40)) 28 (0, 0)) (by (with_reducible repeat (first | refine blk_drewN ?_ _ | refine blk_drew ?_ | refine blk_alloc ?_ _)); exact (Q_BK374 h0_ h1_)) hb))
        clear BK368
        clear BK369
        clear HB
        have BK368 := n0_
        have BK369 := n1_
        have HB := n2_
        clear n0_ n1_ n2_
        (try clear hb)
        (try clear hb2)
        (try clear hk)
        (try clear hi)
        refine hK.out _ _ ⟨gb374, m7_, (by rw [ha.out]; exact putSel_upk 1 hb_ rfl rfl rfl), (pk BK368), (pk BK369), (pbs HB), z_BK374, Q_GW374, Q_GE374, Q_NB368_374, Q_NB374_368, Q_NB369_374, Q_NB374_369, fun h0_ => absurd ((hoff 8 (by kernel_rfl)).symm.trans h0_) (by decide), Q_X7_⟩
       refine steps_cons ?_ ?_
       ·rintro b a w' ⟨gb374, m7_, ha, Q_BK368, Q_BK369, Q_HB, Q_BK374, Q_GW374, Q_GE374, Q_NB368_374, Q_NB374_368, Q_NB369_374, Q_NB374_369, Q_BK374_e8, Q_X7_⟩ hb_ hon hoff
        refine ⟨_, rfl, fun K hK => ?_⟩
        have e16 : a.tmps[16]? = some (.agg (mixA (Value.int .u16) [.int .i8 a0_0, .int .i8 a0_1] a0_2)) := by rw [ha]; exact putSel_on (e := (0, 16, .agg (mixA (Value.int .u16) [.int .i8 a0_0, .int .i8 a0_1] a0_2))) 0 rfl rfl (hon 0 (by kernel_rfl)) rfl
        have e17 : a.tmps[17]? = some (.agg (mixA (Value.int .u16) [] t371)) := by rw [ha]; exact putSel_on (e := (1, 17, .agg (mixA (Value.int .u16) [] t371))) 1 rfl rfl (hon 1 (by kernel_rfl)) rfl
        have e18 : a.tmps[18]? = some (.string a1) := by rw [ha]; exact (putSel_off rfl).trans rfl
        replace ha := Aside0.mk ha
        have BK368 := Aside0.mk Q_BK368
        have BK369 := Aside0.mk Q_BK369
        have HB := Aside0.mk Q_HB
        refine goes_ Tryd.func14 (by kernel_rfl) rfl #[.agg (mixA (Value.int .u16) [.int .i8 a0_0, .int .i8 a0_1] a0_2), .agg (mixA (Value.int .u16) [] t371), .string a1] (by rfl) rfl rfl (by first | (simp only [List.map_toArray, List.map_cons, List.map_nil, Act.eval, Array.getD_eq_getD_getElem?, Option.getD_some, e16, e17, e18]; done) | (simp only [List.map_toArray, List.map_cons, List.map_nil, Act.eval, Array.getD_eq_getD_getElem?, Option.getD_some, e16, e17, e18]; rfl)) ?_
        with_reducible refine (spec_MovesCrowd.calls k a0_0 a0_1 a0_2 t371 a1 t372 t373 _ A6.out).mono ?_
        rintro e w51 ⟨rfl, hb⟩
        refine ⟨_, rfl, ?_⟩
        have n0_ := bkb BK368 hb
        have n1_ := bkb BK369 hb
        have n2_ := bst HB hb
        have z_BK374 := fun (h0_ : b 7 = true) (h1_ : b 8 = false) => (show w51.heap[gb374]? = some (.cells (mixA (Value.int .u16) [] (LA.zero 40)) 28 (0, 0)) from by first | exact (blk_below (g := gb374) (o := .cells (mixA (Value.int .u16) [] (LA.zero 40)) 28 (0, 0)) (by (with_reducible repeat (first | refine blk_drewN ?_ _ | refine blk_drew ?_ | refine blk_alloc ?_ _)); exact (Q_BK374 h0_ h1_)) hb))
        clear BK368
        clear BK369
        clear HB
        have BK368 := n0_
        have BK369 := n1_
        have HB := n2_
        clear n0_ n1_ n2_
        (try clear hb)
        (try clear hb2)
        (try clear hk)
        (try clear hi)
        refine hK.out _ _ ⟨gb374, m7_, (by rw [ha.out]; exact putSel_upk 2 hb_ rfl rfl rfl), (pk BK368), (pk BK369), (pbs HB), z_BK374, Q_GW374, Q_GE374, Q_NB368_374, Q_NB374_368, Q_NB369_374, Q_NB374_369, fun h0_ => absurd ((hoff 8 (by kernel_rfl)).symm.trans h0_) (by decide), Q_X7_⟩
       refine steps_cons ?_ ?_
       ·rintro b a w' ⟨gb374, m7_, ha, Q_BK368, Q_BK369, Q_HB, Q_BK374, Q_GW374, Q_GE374, Q_NB368_374, Q_NB374_368, Q_NB369_374, Q_NB374_369, Q_BK374_e8, Q_X7_⟩ hb_ hon hoff
        refine ⟨_, rfl, fun K hK => ?_⟩
        have e19 : a.tmps[19]? = some (.tuple #[.agg (mixA (Value.int .u16) [] t372), .int .i64 t373]) := by rw [ha]; exact putSel_on (e := (3, 19, .tuple #[.agg (mixA (Value.int .u16) [] t372), .int .i64 t373])) 2 rfl rfl (hon 3 (by kernel_rfl)) rfl
        replace ha := Aside0.mk ha
        have BK368 := Aside0.mk Q_BK368
        have BK369 := Aside0.mk Q_BK369
        have HB := Aside0.mk Q_HB
        refine value_ (w1 := w') (v := .tuple #[.agg (mixA (Value.int .u16) [] t372), .int .i64 t373]) (by rfl) rfl ?_ ?_
        ·go_simp
         (try simp only [i64_w])
         try rfl
        refine hK.out _ _ ⟨gb374, m7_, (by rw [ha.out]; exact putSel_upk 3 hb_ rfl rfl rfl), Q_BK368, Q_BK369, Q_HB, Q_BK374, Q_GW374, Q_GE374, Q_NB368_374, Q_NB374_368, Q_NB369_374, Q_NB374_369, fun h0_ => absurd ((hoff 8 (by kernel_rfl)).symm.trans h0_) (by decide), Q_X7_⟩
       refine steps_cons ?_ ?_
       ·rintro b a w' ⟨gb374, m7_, ha, Q_BK368, Q_BK369, Q_HB, Q_BK374, Q_GW374, Q_GE374, Q_NB368_374, Q_NB374_368, Q_NB369_374, Q_NB374_369, Q_BK374_e8, Q_X7_⟩ hb_ hon hoff
        refine ⟨_, rfl, fun K hK => ?_⟩
        have e15 : a.tmps[15]? = some (.tuple #[.agg (mixA (Value.int .u16) [] t372), .int .i64 t373]) := by rw [ha]; exact putSel_on (e := (4, 15, .tuple #[.agg (mixA (Value.int .u16) [] t372), .int .i64 t373])) 3 rfl rfl (hon 4 (by kernel_rfl)) rfl
        replace ha := Aside0.mk ha
        have BK368 := Aside0.mk Q_BK368
        have BK369 := Aside0.mk Q_BK369
        have HB := Aside0.mk Q_HB
        refine value_ (w1 := w') (v := .agg (mixA (Value.int .u16) [] t372)) (by rfl) rfl ?_ ?_
        ·go_simp
         (try simp only [i64_w])
         try rfl
        refine hK.out _ _ ⟨gb374, m7_, (by rw [ha.out]; exact putSel_upk 4 hb_ rfl rfl rfl), Q_BK368, Q_BK369, Q_HB, Q_BK374, Q_GW374, Q_GE374, Q_NB368_374, Q_NB374_368, Q_NB369_374, Q_NB374_369, fun h0_ => absurd ((hoff 8 (by kernel_rfl)).symm.trans h0_) (by decide), Q_X7_⟩
       refine steps_cons ?_ ?_
       ·rintro b a w' ⟨gb374, m7_, ha, Q_BK368, Q_BK369, Q_HB, Q_BK374, Q_GW374, Q_GE374, Q_NB368_374, Q_NB374_368, Q_NB369_374, Q_NB374_369, Q_BK374_e8, Q_X7_⟩ hb_ hon hoff
        refine ⟨_, rfl, fun K hK => ?_⟩
        have e15 : a.tmps[15]? = some (.tuple #[.agg (mixA (Value.int .u16) [] t372), .int .i64 t373]) := by rw [ha]; exact putSel_on (e := (4, 15, .tuple #[.agg (mixA (Value.int .u16) [] t372), .int .i64 t373])) 3 rfl rfl (hon 4 (by kernel_rfl)) rfl
        replace ha := Aside0.mk ha
        have BK368 := Aside0.mk Q_BK368
        have BK369 := Aside0.mk Q_BK369
        have HB := Aside0.mk Q_HB
        refine value_ (w1 := w') (v := .int .i64 t373) (by rfl) rfl ?_ ?_
        ·go_simp
         (try simp only [i64_w])
         try rfl
        refine hK.out _ _ ⟨gb374, m7_, (by rw [ha.out]; exact putSel_upk 5 hb_ rfl rfl rfl), Q_BK368, Q_BK369, Q_HB, Q_BK374, Q_GW374, Q_GE374, Q_NB368_374, Q_NB374_368, Q_NB369_374, Q_NB374_369, Q_BK374_e8, Q_X7_⟩
       refine steps_cons ?_ ?_
       ·rintro b a w' ⟨gb374, m7_, ha, Q_BK368, Q_BK369, Q_HB, Q_BK374, Q_GW374, Q_GE374, Q_NB368_374, Q_NB374_368, Q_NB369_374, Q_NB374_369, Q_BK374_e8, Q_X7_⟩ hb_ hon hoff
        refine ⟨_, rfl, fun K hK => ?_⟩
        replace ha := Aside0.mk ha
        have BK368 := Aside0.mk Q_BK368
        have BK369 := Aside0.mk Q_BK369
        have HB := Aside0.mk Q_HB
        refine box_step ?hg (N := 7) ?hd (cs := (mixA (Value.int .u16) [] (LA.zero 40))) (t := 28) ?hr ?_; (case hd => rfl); (case hg => rfl); (case hr => first | (go_simp; done) | (go_simp; rfl))
        intro gb374 hg w49 hbox hb
        have n0_ := bkb BK368 hb
        have n1_ := bkb BK369 hb
        have n2_ := bst HB hb
        have n3_ := Aside0.mk (hbox)
        have n4_ := gwl HB hg
        have n5_ := gwl HB hg
        have n6_ := nbl BK368 hg
        have n7_ := nbg BK368 hg
        have n8_ := nbl BK369 hg
        have n9_ := nbg BK369 hg
        clear BK368
        clear BK369
        clear HB
        have BK368 := n0_
        have BK369 := n1_
        have HB := n2_
        have BK374 := n3_
        have GW374 := n4_
        have GE374 := n5_
        have NB368_374 := n6_
        have NB374_368 := n7_
        have NB369_374 := n8_
        have NB374_369 := n9_
        clear n0_ n1_ n2_ n3_ n4_ n5_ n6_ n7_ n8_ n9_
        clear hb hbox hg
        refine hK.out _ _ ⟨gb374, (.pointer (some ⟨gb374, 0, none⟩)), (by rw [ha.out]; exact putSel_upk 6 hb_ rfl rfl rfl), (pk BK368), (pk BK369), (pbs HB), fun _ _ => (pk BK374), fun _ => GW374.out, fun _ => GE374.out, fun _ => NB368_374.out, fun _ => NB374_368.out, fun _ => NB369_374.out, fun _ => NB374_369.out, fun h0_ => absurd ((hoff 8 (by kernel_rfl)).symm.trans h0_) (by decide), fun _ => rfl⟩
       refine steps_cons ?_ ?_
       ·rintro b a w' ⟨gb374, m7_, ha, Q_BK368, Q_BK369, Q_HB, Q_BK374, Q_GW374, Q_GE374, Q_NB368_374, Q_NB374_368, Q_NB369_374, Q_NB374_369, Q_BK374_e8, Q_X7_⟩ hb_ hon hoff
        refine ⟨_, rfl, fun K hK => ?_⟩
        have e7 : a.tmps[7]? = some (m7_) := by rw [ha]; exact putSel_on (e := (7, 7, m7_)) 6 rfl rfl (hon 7 (by kernel_rfl)) rfl
        rw [Q_X7_ (hon 7 (by kernel_rfl))] at e7
        have e20 : a.tmps[20]? = some (.agg (mixA (Value.int .u16) [] t372)) := by rw [ha]; exact putSel_on (e := (5, 20, .agg (mixA (Value.int .u16) [] t372))) 4 rfl rfl (hon 5 (by kernel_rfl)) rfl
        replace ha := Aside0.mk ha
        have BK368 := Aside0.mk Q_BK368
        have BK369 := Aside0.mk Q_BK369
        have HB := Aside0.mk Q_HB
        have BK374 := Aside0.mk (Q_BK374 (hon 7 (by kernel_rfl)) hb_)
        have GW374 := Aside0.mk (Q_GW374 (hon 7 (by kernel_rfl)))
        have GE374 := Aside0.mk (Q_GE374 (hon 7 (by kernel_rfl)))
        have NB368_374 := Aside0.mk (Q_NB368_374 (hon 7 (by kernel_rfl)))
        have NB374_368 := Aside0.mk (Q_NB374_368 (hon 7 (by kernel_rfl)))
        have NB369_374 := Aside0.mk (Q_NB369_374 (hon 7 (by kernel_rfl)))
        have NB374_369 := Aside0.mk (Q_NB374_369 (hon 7 (by kernel_rfl)))
        refine step_store_lmix (by rfl) rfl 28 _ _ rfl gb374 (e := (Value.int .u16)) (cs' := []) (W' := t372) (cs := []) (W := (LA.zero 40)) (T := 28) (by first | (simp only [List.map_toArray, List.map_cons, List.map_nil, Act.eval, Array.getD_eq_getD_getElem?, Option.getD_some, e7, e20]; done) | (simp only [List.map_toArray, List.map_cons, List.map_nil, Act.eval, Array.getD_eq_getD_getElem?, Option.getD_some, e7, e20]; rfl)) (by first | (simp only [List.map_toArray, List.map_cons, List.map_nil, Act.eval, Array.getD_eq_getD_getElem?, Option.getD_some, e7, e20]; done) | (simp only [List.map_toArray, List.map_cons, List.map_nil, Act.eval, Array.getD_eq_getD_getElem?, Option.getD_some, e7, e20]; rfl)) (pk BK374) rfl (by kernel_rfl) rfl (fun _ => rfl) rfl ?_
        intro w53 hi hk hbl
        have n0_ := Aside0.mk (KeepBut.blk hk (g' := gb368) (o := .cells (mixA (Value.int .u16) [.int .i8 a0_0, .int .i8 a0_1] a0_2) 31 (0, 0)) (pk BK368) NB368_374.out (by simp))
        have n1_ := Aside0.mk (KeepBut.blk hk (g' := gb369) (o := .cells #[.int .i8 0, .int .i8 0] 41 (0, 0)) (pk BK369) NB369_374.out (by simp))
        have n2_ := Aside0.mk (hbl _ _ (pbs HB) GE374.out)
        have n3_ := Aside0.mk (hi)
        clear BK368
        clear BK369
        clear HB
        clear BK374
        have BK368 := n0_
        have BK369 := n1_
        have HB := n2_
        have BK374 := n3_
        clear n0_ n1_ n2_ n3_
        clear hi hk hbl
        refine hK.out _ _ ⟨gb374, m7_, (by rw [ha.out]; exact putSel_none (v := undef) rfl), (pk BK368), (pk BK369), (pbs HB), fun _ h1_ => absurd ((up_self b 8).symm.trans h1_) (by decide), fun _ => GW374.out, fun _ => GE374.out, fun _ => NB368_374.out, fun _ => NB374_368.out, fun _ => NB369_374.out, fun _ => NB374_369.out, fun _ => (pk BK374), Q_X7_⟩
       refine steps_cons ?_ ?_
       ·rintro b a w' ⟨gb374, m7_, ha, Q_BK368, Q_BK369, Q_HB, Q_BK374, Q_GW374, Q_GE374, Q_NB368_374, Q_NB374_368, Q_NB369_374, Q_NB374_369, Q_BK374_e8, Q_X7_⟩ hb_ hon hoff
        refine ⟨_, rfl, fun K hK => ?_⟩
        have e21 : a.tmps[21]? = some (.int .i64 t373) := by rw [ha]; exact putSel_on (e := (6, 21, .int .i64 t373)) 5 rfl rfl (hon 6 (by kernel_rfl)) rfl
        replace ha := Aside0.mk ha
        have BK368 := Aside0.mk Q_BK368
        have BK369 := Aside0.mk Q_BK369
        have HB := Aside0.mk Q_HB
        have GW374 := Aside0.mk (Q_GW374 (hon 7 (by kernel_rfl)))
        have GE374 := Aside0.mk (Q_GE374 (hon 7 (by kernel_rfl)))
        have NB368_374 := Aside0.mk (Q_NB368_374 (hon 7 (by kernel_rfl)))
        have NB374_368 := Aside0.mk (Q_NB374_368 (hon 7 (by kernel_rfl)))
        have NB369_374 := Aside0.mk (Q_NB369_374 (hon 7 (by kernel_rfl)))
        have NB374_369 := Aside0.mk (Q_NB374_369 (hon 7 (by kernel_rfl)))
        have BK374 := Aside0.mk (Q_BK374_e8 (hon 8 (by kernel_rfl)))
        refine value_ (w1 := w') (v := .int .i64 t373) (by rfl) rfl ?_ ?_
        ·go_simp
         (try simp only [i64_w])
         try rfl
        refine hK.out _ _ ⟨gb374, m7_, (by rw [ha.out]; exact putSel_upk 7 hb_ rfl rfl rfl), Q_BK368, Q_BK369, Q_HB, fun _ h1_ => absurd ((hon 8 (by kernel_rfl)).symm.trans h1_) (by decide), Q_GW374, Q_GE374, Q_NB368_374, Q_NB374_368, Q_NB369_374, Q_NB374_369, Q_BK374_e8, Q_X7_⟩
       exact steps_nil
      rintro b a w53 hall ⟨gb374, m7_, ha, Q_BK368, Q_BK369, Q_HB, Q_BK374, Q_GW374, Q_GE374, Q_NB368_374, Q_NB374_368, Q_NB369_374, Q_NB374_369, Q_BK374_e8, Q_X7_⟩
      clear BK368 BK369 HB
      have hb0_ := hall 0 (by kernel_rfl)
      have hb1_ := hall 1 (by kernel_rfl)
      have hb3_ := hall 3 (by kernel_rfl)
      have hb4_ := hall 4 (by kernel_rfl)
      have hb5_ := hall 5 (by kernel_rfl)
      have hb6_ := hall 6 (by kernel_rfl)
      have hb7_ := hall 7 (by kernel_rfl)
      have hb8_ := hall 8 (by kernel_rfl)
      have hb9_ := hall 9 (by kernel_rfl)
      subst ha
      obtain rfl := (Q_X7_ hb7_).symm
      simp only [putSel, hb0_, hb1_, hb3_, hb4_, hb5_, hb6_, hb7_, hb8_, hb9_, if_true, Act.put, List.setIfInBounds_toArray, List.set_cons_zero, List.set_cons_succ]
      have BK368 := Aside0.mk Q_BK368
      clear Q_BK368
      have BK369 := Aside0.mk Q_BK369
      clear Q_BK369
      have HB := Aside0.mk Q_HB
      clear Q_HB
      clear Q_BK374
      have GW374 := Aside0.mk (Q_GW374 hb7_)
      clear Q_GW374
      have GE374 := Aside0.mk (Q_GE374 hb7_)
      clear Q_GE374
      have NB368_374 := Aside0.mk (Q_NB368_374 hb7_)
      clear Q_NB368_374
      have NB374_368 := Aside0.mk (Q_NB374_368 hb7_)
      clear Q_NB374_368
      have NB369_374 := Aside0.mk (Q_NB369_374 hb7_)
      clear Q_NB369_374
      have NB374_369 := Aside0.mk (Q_NB374_369 hb7_)
      clear Q_NB374_369
      have BK374 := Aside0.mk (Q_BK374_e8 hb8_)
      clear Q_BK374_e8
      clear hall hb0_ hb1_ hb3_ hb4_ hb5_ hb6_ hb7_ hb8_ hb9_
      try go_wp2_with (first | ((with_reducible refine gate_dst (N := 26) rfl ?_); refine wpList_run0 (v := .agg (mixA (Value.int .u16) [] t372)) rfl (load_mix_run (P := Tryd.prog) 28 (.tmp 7) rfl gb374 rfl (show World.rangeAt _ gb374 0 ([] ++ t372.l.map (Value.int .u16)) from mix_range (show (World.heap _)[gb374]? = some (.cells (mixA (Value.int .u16) [] t372) 28 (0, 0)) from by (with_reducible repeat (first | refine blk_drewN ?_ _ | refine blk_drew ?_ | refine blk_alloc ?_ _)); exact BK374.out)) Tryd.underlying28 rfl (by kernel_rfl) rfl) ?_) | ((with_reducible refine gate_callee (f := 38) rfl ?_); refine goesL_ (some 27) rfl rfl Tryd.func38 (by kernel_rfl) rfl #[.agg (mixA (Value.int .u16) [] t372)] rfl (by (try simp only [List.map_toArray, List.map_cons, List.map_nil]); first | done | rfl | (simp only [List.length_drop, List.length_take]; rfl)) ?_; (with_reducible refine (spec_CountCrowd.calls k t372 t375 _ A8.out).mono ?_); rintro e w57 ⟨rfl, hb⟩; refine ⟨_, rfl, ?_⟩; have n0_ := bkb BK368 hb; have n1_ := bkb BK369 hb; have n2_ := bkb BK374 hb; have n3_ := bst HB hb; clear BK368; clear BK369; clear BK374; clear HB; have BK368 := n0_; have BK369 := n1_; have BK374 := n2_; have HB := n3_; clear n0_ n1_ n2_ n3_; (try clear hb); (try clear hb2); (try clear hk); (try clear hi)) | ((with_reducible refine gate_callee (f := 39) rfl ?_); refine goesL_ (some 34) rfl rfl Tryd.func39 (by kernel_rfl) rfl #[.pointer (some ⟨gb374, 0, none⟩)] rfl (by (try simp only [List.map_toArray, List.map_cons, List.map_nil]); first | done | rfl | (simp only [List.length_drop, List.length_take]; rfl)) ?_; (with_reducible refine (spec_l06Spots.calls k gb374 t372 t376 _ ?side1 A43.out).mono ?_); (case side1 => exact (pk BK374)); rintro e w58 ⟨v377, rfl, ho0, hb⟩; refine ⟨_, rfl, ?_⟩; have n0_ := Aside0.mk (Kd.R_lower (Kd.R_newB ho0 (g := gb369) (o := .cells #[.int .i8 0, .int .i8 0] 41 (0, 0)) (pk BK369)) (below_size (by repeat (first | (with_reducible first | exact HB.out | apply below_alloc | apply pw_below_drewN | apply below_drew1 | refine below_set ?_ GE368.out | refine below_set ?_ GE369.out | refine below_set ?_ GE374.out) | exact HB.out)))); have n1_ := bkb BK368 hb; have n2_ := bkb BK369 hb; have n3_ := bkb BK374 hb; have n4_ := bst HB hb; clear BK368; clear BK369; clear BK374; clear HB; have HO378 := n0_; have BK368 := n1_; have BK369 := n2_; have BK374 := n3_; have HB := n4_; clear n0_ n1_ n2_ n3_ n4_; (try clear hb); (try clear hb2); (try clear hk); (try clear hi); (try clear ho0); obtain ⟨Ao59, co59, eo59⟩ := Kd.R_slice HO378.out; subst eo59; have p379 : 0 ≤ (0 : Int) := (by omega); have q379 : 0 < (t376.length : Int) := of_decide_eq_true (by first | (with_reducible assumption) | assumption); obtain ⟨ad379, e379, hx379_0, hx379_1⟩ := at_T41 (Kd.R_reads' HO378.out).2.2 0 p379 q379; cases e379; have qi379 : (0 < t376.length) = True := eq_true (by omega); (try rw [show ((0 : Int)).toNat = 0 from rfl] at hx379_0); (try rw [show 0 * 2 = 0 from rfl] at hx379_0); (try rw [Addr.add_zero'] at hx379_0); (try rw [show ((0 : Int)).toNat = 0 from rfl] at hx379_1); (try rw [show 0 * 2 = 0 from rfl] at hx379_1); (try rw [Addr.add_zero'] at hx379_1); replace p379 := eq_true p379; replace q379 := eq_true q379) | ((with_reducible refine gate_dst (N := 10) rfl ?_); refine box_event ?hg (N := 10) ?hd (cs := #[.int .i8 0, .int .i8 0]) (t := 41) ?hr ?_; (case hd => rfl); (case hg => rfl); (case hr => first | (go_simp; done) | (go_simp; rfl)); intro gb380 hg w60 hbox hb; have n0_ := Aside0.mk (Kd.R_below (Kd.R_elderB (by (with_reducible repeat (first | apply Kd.R_alloc | apply Kd.R_drewN | apply Kd.R_drew)); exact HO378.out) gb380 (Nat.le_of_eq hg.symm)) hb); have n1_ := bkb BK368 hb; have n2_ := bkb BK369 hb; have n3_ := bkb BK374 hb; have n4_ := bst HB hb; have n5_ := Aside0.mk (hbox); have n6_ := gwl HB hg; have n7_ := gwl HB hg; have n8_ := nbl BK368 hg; have n9_ := nbg BK368 hg; have n10_ := nbl BK369 hg; have n11_ := nbg BK369 hg; have n12_ := nbl BK374 hg; have n13_ := nbg BK374 hg; clear HO378; clear BK368; clear BK369; clear BK374; clear HB; have HO378 := n0_; have BK368 := n1_; have BK369 := n2_; have BK374 := n3_; have HB := n4_; have BK380 := n5_; have GW380 := n6_; have GE380 := n7_; have NB368_380 := n8_; have NB380_368 := n9_; have NB369_380 := n10_; have NB380_369 := n11_; have NB374_380 := n12_; have NB380_374 := n13_; clear n0_ n1_ n2_ n3_ n4_ n5_ n6_ n7_ n8_ n9_ n10_ n11_ n12_ n13_; clear hb hbox hg; have hnb61 := NB380_368.out; have hnc61 := NB368_380.out; have hnb62 := NB380_369.out; have hnc62 := NB369_380.out; have hnb63 := NB380_374.out; have hnc63 := NB374_380.out; have hcz64_0 : w60.cell? ⟨gb380, 0, none⟩ = some (.int .i8 0) := (blk_cell BK380.out 0).trans rfl; have hcz64_1 : w60.cell? ⟨gb380, 1, none⟩ = some (.int .i8 0) := (blk_cell BK380.out 1).trans rfl; have hfz64_0 := blk_frozen BK380.out 0; have hfz64_1 := blk_frozen BK380.out 1))
      go_loopg [11] k (fun kq v11 w' => ∃ (x11_1 : Int), v11 = .int .i64 x11_1 ∧ Aside0 (spec_WhereNow.l0 kq x11_1 t372 ((rd_T41 t376 0).f0) ((rd_T41 t376 0).f1) = some (r1, r2, r3, r4)) ∧ Aside0 (kq ≤ k) ∧ Aside0 (w'.heap[gb368]? = some (.cells (mixA (Value.int .u16) [.int .i8 a0_0, .int .i8 a0_1] a0_2) 31 (0, 0))) ∧ Aside0 (w'.heap[gb369]? = some (.cells #[.int .i8 0, .int .i8 0] 41 (0, 0))) ∧ Aside0 (w'.heap[gb374]? = some (.cells (mixA (Value.int .u16) [] t372) 28 (0, 0))) ∧ Aside0 (w'.heap[gb380]? = some (.cells #[.int .i8 ((rd_T41 t376 0).f0), .int .i8 ((rd_T41 t376 0).f1)] 41 (0, 0))) ∧ Aside0 (Below w.heap.size w w'))
      case atStart => exact ⟨(0), (by first | rfl | (simp; done) | (simp [*]; done)), H', ⟨Nat.le_refl _⟩, ⟨by (with_reducible repeat (first | refine blk_drewN ?_ _ | refine blk_drew ?_ | refine blk_alloc ?_ _)); refine blk_far ?_ NB368_380.out _; (with_reducible repeat (first | refine blk_drewN ?_ _ | refine blk_drew ?_ | refine blk_alloc ?_ _)); refine blk_far ?_ NB368_380.out _; (with_reducible repeat (first | refine blk_drewN ?_ _ | refine blk_drew ?_ | refine blk_alloc ?_ _)); exact BK368.out⟩, ⟨by (with_reducible repeat (first | refine blk_drewN ?_ _ | refine blk_drew ?_ | refine blk_alloc ?_ _)); refine blk_far ?_ NB369_380.out _; (with_reducible repeat (first | refine blk_drewN ?_ _ | refine blk_drew ?_ | refine blk_alloc ?_ _)); refine blk_far ?_ NB369_380.out _; (with_reducible repeat (first | refine blk_drewN ?_ _ | refine blk_drew ?_ | refine blk_alloc ?_ _)); exact BK369.out⟩, ⟨by (with_reducible repeat (first | refine blk_drewN ?_ _ | refine blk_drew ?_ | refine blk_alloc ?_ _)); refine blk_far ?_ NB374_380.out _; (with_reducible repeat (first | refine blk_drewN ?_ _ | refine blk_drew ?_ | refine blk_alloc ?_ _)); refine blk_far ?_ NB374_380.out _; (with_reducible repeat (first | refine blk_drewN ?_ _ | refine blk_drew ?_ | refine blk_alloc ?_ _)); exact BK374.out⟩, ⟨by (with_reducible repeat (first | refine blk_drewN ?_ _ | refine blk_drew ?_ | refine blk_alloc ?_ _)); refine blk_put (cs := #[.int .i8 ((rd_T41 t376 0).f0), .int .i8 0]) ?_ 1 _ rfl; (with_reducible repeat (first | refine blk_drewN ?_ _ | refine blk_drew ?_ | refine blk_alloc ?_ _)); refine blk_put (cs := #[.int .i8 0, .int .i8 0]) ?_ 0 _ rfl; (with_reducible repeat (first | refine blk_drewN ?_ _ | refine blk_drew ?_ | refine blk_alloc ?_ _)); exact BK380.out⟩, ⟨pbs HB⟩⟩
      case round =>
       clear H'
       try clear c1
       try clear c2
       try clear p2
       try clear c3
       try clear p3
       try clear q3
       try clear hx3
       try clear qi3
       try clear c4
       try clear c6
       try clear c9
       try clear c9b0
       try clear c14
       try clear c16
       try clear c19
       try clear c23
       try clear c24
       try clear c26
       try clear c26b0
       try clear c26b1
       try clear c37
       try clear p37
       try clear q37
       try clear hx37
       try clear qi37
       try clear c38
       try clear c39
       try clear c40
       try clear c41
       try clear c44
       try clear c44b0
       try clear c44b1
       try clear c61
       try clear c62
       try clear c63
       try clear hcz25_0
       try clear hcz25_1
       try clear hcz42_0
       try clear hcz42_1
       try clear hcz64_0
       try clear hcz64_1
       try clear hfz25_0
       try clear hfz25_1
       try clear hfz42_0
       try clear hfz42_1
       try clear hfz64_0
       try clear hfz64_1
       try clear hx379_0
       try clear hx379_1
       try clear p379
       try clear q379
       obtain ⟨x11_1, rfl, HA, HK1, BK368, BK369, BK374, BK380, HB⟩ := hrel
       cases gk with
       | zero => exact absurd HA.out (by simp [spec_WhereNow.l0])
       | succ k1 =>
        have H := HA.out
        clear HA
        simp only [spec_WhereNow.l0] at H
        replace H := Option.bind_eq_some_iff.mp H
        obtain ⟨t381, A650, H⟩ := H
        replace H : (if t381 = true then (some (((rd_T41 t376 0).f0), ((rd_T41 t376 0).f1), x11_1, 0)) else (spec_WhereNow.l0 k1 (wrap64 (x11_1 + 1)) t372 ((rd_T41 t376 0).f0) ((rd_T41 t376 0).f1))) = some (r1, r2, r3, r4) := H
        have A65 := Aside0.mk A650
        clear A650
        by_cases c66 : t381 = true
        ·subst c66
         have H1 : (some (((rd_T41 t376 0).f0), ((rd_T41 t376 0).f1), x11_1, 0)) = some (r1, r2, r3, r4) := by rw [if_pos rfl] at H; exact H
         clear H
         have H := H1
         clear H1
         simp only [Option.some.injEq, Prod.mk.injEq] at H
         obtain ⟨rfl, rfl, rfl, rfl⟩ := H
         have hnb67 := NB380_368.out
         have hnc67 := NB368_380.out
         have hnb68 := NB380_369.out
         have hnc68 := NB369_380.out
         have hnb69 := NB380_374.out
         have hnc69 := NB374_380.out
         have hcz70_0 : wr.cell? ⟨gb380, 0, none⟩ = some (.int .i8 ((rd_T41 t376 0).f0)) := bc_ BK380.out 0
         have hcz70_1 : wr.cell? ⟨gb380, 1, none⟩ = some (.int .i8 ((rd_T41 t376 0).f1)) := bc_ BK380.out 1
         have hfz70_0 := blk_frozen BK380.out 0
         have hfz70_1 := blk_frozen BK380.out 1
         go_wp2_with (first | ((with_reducible refine gate_callee (f := 40) rfl ?_); refine goesL_ (some 39) rfl rfl Tryd.func40 (by kernel_rfl) rfl #[.pointer (some ⟨gb374, 0, none⟩), .agg #[.int .i8 ((rd_T41 t376 0).f0), .int .i8 ((rd_T41 t376 0).f1)], .int .i64 x11_1] rfl (by (try simp only [List.map_toArray, List.map_cons, List.map_nil]); first | done | rfl | (simp only [List.length_drop, List.length_take]; rfl)) ?_; (with_reducible refine (spec_l06Has.calls gb374 t372 ((rd_T41 t376 0).f0) ((rd_T41 t376 0).f1) x11_1 true _ ?side1 A65.out).mono ?_); (case side1 => exact (pk BK374)); rintro e w71 ⟨rfl, hb⟩; refine ⟨_, rfl, ?_⟩; have n0_ := bkb BK368 hb; have n1_ := bkb BK369 hb; have n2_ := bkb BK374 hb; have n3_ := bkb BK380 hb; have n4_ := bst HB hb; clear BK368; clear BK369; clear BK374; clear BK380; clear HB; have BK368 := n0_; have BK369 := n1_; have BK374 := n2_; have BK380 := n3_; have HB := n4_; clear n0_ n1_ n2_ n3_ n4_; (try clear hb); (try clear hb2); (try clear hk); (try clear hi); have hcz72_0 : w71.cell? ⟨gb380, 0, none⟩ = some (.int .i8 ((rd_T41 t376 0).f0)) := (blk_cell BK380.out 0).trans rfl; have hcz72_1 : w71.cell? ⟨gb380, 1, none⟩ = some (.int .i8 ((rd_T41 t376 0).f1)) := (blk_cell BK380.out 1).trans rfl; have hfz72_0 := blk_frozen BK380.out 0; have hfz72_1 := blk_frozen BK380.out 1; have hnb73 := NB369_368.out; have hnc73 := NB368_369.out; have hnb74 := NB369_374.out; have hnc74 := NB374_369.out; have hcz75_0 : w71.cell? ⟨gb369, 0, none⟩ = some (.int .i8 0) := (blk_cell BK369.out 0).trans rfl; have hcz75_1 : w71.cell? ⟨gb369, 1, none⟩ = some (.int .i8 0) := (blk_cell BK369.out 1).trans rfl; have hfz75_0 := blk_frozen BK369.out 0; have hfz75_1 := blk_frozen BK369.out 1))
         refine bodyPost_ret (results_ctt rfl _ _ gb369 41 #[.int .i8 ((rd_T41 t376 0).f0), .int .i8 ((rd_T41 t376 0).f1)] (0, 0) _ rfl (by (with_reducible repeat (first | refine blk_drewN ?_ _ | refine blk_drew ?_ | refine blk_alloc ?_ _)); refine blk_put (cs := #[.int .i8 ((rd_T41 t376 0).f0), .int .i8 0]) ?_ 1 _ rfl; (with_reducible repeat (first | refine blk_drewN ?_ _ | refine blk_drew ?_ | refine blk_alloc ?_ _)); refine blk_put (cs := #[.int .i8 0, .int .i8 0]) ?_ 0 _ rfl; (with_reducible repeat (first | refine blk_drewN ?_ _ | refine blk_drew ?_ | refine blk_alloc ?_ _)); exact BK369.out) Tryd.underlying41 rfl (by kernel_rfl)) rfl ?_
         exact ⟨by first | rfl | (simp [errW_none, errW_some] <;> rfl) | (simp [*, errW_none, errW_some] <;> rfl), pbs HB⟩
        ·replace c66 := Bool.eq_false_iff.mpr c66
         subst c66
         have H1 : (spec_WhereNow.l0 k1 (wrap64 (x11_1 + 1)) t372 ((rd_T41 t376 0).f0) ((rd_T41 t376 0).f1)) = some (r1, r2, r3, r4) := by rw [if_neg (show ¬ (false = true) by decide)] at H; exact H
         clear H
         have H := H1
         clear H1
         have H' := Aside0.mk H
         clear H
         have hnb76 := NB380_368.out
         have hnc76 := NB368_380.out
         have hnb77 := NB380_369.out
         have hnc77 := NB369_380.out
         have hnb78 := NB380_374.out
         have hnc78 := NB374_380.out
         have hcz79_0 : wr.cell? ⟨gb380, 0, none⟩ = some (.int .i8 ((rd_T41 t376 0).f0)) := bc_ BK380.out 0
         have hcz79_1 : wr.cell? ⟨gb380, 1, none⟩ = some (.int .i8 ((rd_T41 t376 0).f1)) := bc_ BK380.out 1
         have hfz79_0 := blk_frozen BK380.out 0
         have hfz79_1 := blk_frozen BK380.out 1
         go_wp2_with (first | ((with_reducible refine gate_callee (f := 40) rfl ?_); refine goesL_ (some 39) rfl rfl Tryd.func40 (by kernel_rfl) rfl #[.pointer (some ⟨gb374, 0, none⟩), .agg #[.int .i8 ((rd_T41 t376 0).f0), .int .i8 ((rd_T41 t376 0).f1)], .int .i64 x11_1] rfl (by (try simp only [List.map_toArray, List.map_cons, List.map_nil]); first | done | rfl | (simp only [List.length_drop, List.length_take]; rfl)) ?_; (with_reducible refine (spec_l06Has.calls gb374 t372 ((rd_T41 t376 0).f0) ((rd_T41 t376 0).f1) x11_1 false _ ?side1 A65.out).mono ?_); (case side1 => exact (pk BK374)); rintro e w80 ⟨rfl, hb⟩; refine ⟨_, rfl, ?_⟩; have n0_ := bkb BK368 hb; have n1_ := bkb BK369 hb; have n2_ := bkb BK374 hb; have n3_ := bkb BK380 hb; have n4_ := bst HB hb; clear BK368; clear BK369; clear BK374; clear BK380; clear HB; have BK368 := n0_; have BK369 := n1_; have BK374 := n2_; have BK380 := n3_; have HB := n4_; clear n0_ n1_ n2_ n3_ n4_; (try clear hb); (try clear hb2); (try clear hk); (try clear hi)))
         go_roundg k1
         case measure => have := HK1.out; omega
         case rel => exact ⟨(wrap64 (x11_1 + 1)), (by first | rfl | (simp; done) | (simp [*]; done)), H', ⟨by have := HK1.out; omega⟩, ⟨pk BK368⟩, ⟨pk BK369⟩, ⟨pk BK374⟩, ⟨pk BK380⟩, ⟨pbs HB⟩⟩
     ·rw [if_neg c44] at H
      exact absurd H (by simp)
  ·rw [if_neg c7] at H
   have c7b0 : (t373 == 0) = false := beq_eq_false_iff_ne.mpr c7
   have c7b1 : (t373 != 0) = true := bne_iff_ne.mpr c7
   simp only [Option.some.injEq, Prod.mk.injEq] at H
   obtain ⟨rfl, rfl, rfl, rfl⟩ := H
   go_enter Tryd.func16, Tryd.ntmps16
   try go_wp2_with (first | ((with_reducible refine gate_dst (N := 2) rfl ?_); refine box_event ?hg (N := 2) ?hd (cs := (mixA (Value.int .u16) [.int .i8 a0_0, .int .i8 a0_1] a0_2)) (t := 31) ?hr ?_; (case hd => rfl); (case hg => rfl); (case hr => first | (go_simp; done) | (go_simp; rfl)); intro gb368 hg w81 hbox hb; have n0_ := bst HB hb; have n1_ := Aside0.mk (hbox); have n2_ := gwl HB hg; have n3_ := gwl HB hg; clear HB; have HB := n0_; have BK368 := n1_; have GW368 := n2_; have GE368 := n3_; clear n0_ n1_ n2_ n3_; clear hb hbox hg) | ((with_reducible refine gate_dst (N := 4) rfl ?_); refine box_event ?hg (N := 4) ?hd (cs := #[.int .i8 0, .int .i8 0]) (t := 41) ?hr ?_; (case hd => rfl); (case hg => rfl); (case hr => first | (go_simp; done) | (go_simp; rfl)); intro gb369 hg w82 hbox hb; have n0_ := bkb BK368 hb; have n1_ := bst HB hb; have n2_ := Aside0.mk (hbox); have n3_ := gwl HB hg; have n4_ := gwl HB hg; have n5_ := nbl BK368 hg; have n6_ := nbg BK368 hg; clear BK368; clear HB; have BK368 := n0_; have HB := n1_; have BK369 := n2_; have GW369 := n3_; have GE369 := n4_; have NB368_369 := n5_; have NB369_368 := n6_; clear n0_ n1_ n2_ n3_ n4_ n5_ n6_; clear hb hbox hg) | ((with_reducible refine gate_callee (f := 19) rfl ?_); refine goesL_ (some 12) rfl rfl Tryd.func19 (by kernel_rfl) rfl #[.pointer (some ⟨gb368, 0, none⟩)] rfl (by (try simp only [List.map_toArray, List.map_cons, List.map_nil]); first | done | rfl | (simp only [List.length_drop, List.length_take]; rfl)) ?_; (with_reducible refine (spec_l01Ok.calls k gb368 a0_0 a0_1 a0_2 true _ ?side1 A3.out).mono ?_); (case side1 => exact (pk BK368)); rintro e w83 ⟨rfl, hb⟩; refine ⟨_, rfl, ?_⟩; have n0_ := bkb BK368 hb; have n1_ := bkb BK369 hb; have n2_ := bst HB hb; clear BK368; clear BK369; clear HB; have BK368 := n0_; have BK369 := n1_; have HB := n2_; clear n0_ n1_ n2_; (try clear hb); (try clear hb2); (try clear hk); (try clear hi)))
   have n0_ := Aside0.mk (blk_drew BK368.out)
   have n1_ := Aside0.mk (blk_drew BK369.out)
   have n2_ := Aside0.mk (below_drew1 HB.out)
   clear BK368
   clear BK369
   clear HB
   have BK368 := n0_
   have BK369 := n1_
   have HB := n2_
   clear n0_ n1_ n2_
   refine start_ (n := 10) (S := fun w' => True) (ds := []) #[false, false, false, false, false, false, false, false, false, false] (by kernel_rfl) rfl rfl trivial (fun hHeld => ?_); refine with_tabW spec_WhereNow.tab3 spec_WhereNow.bits3 (fun HT_ HW_ => ?_)
   generalize w83.drew = w84 at BK368 BK369 HB hHeld ⊢
   refine pure_ (i := 2) (N := some 18) (v := ?_) (a' := ?_) #[false, false, true, false, false, false, false, false, false, false] rfl rfl (any_of HT_.out (by kernel_rfl)) (fun _ _ _ h => h) (Or.inl ⟨by rfl, ?_⟩) ?_ ?_
   rotate_left
   ·intro w'
    go_simp
    with_reducible rfl
   rotate_left
   ·simp only [Act.put, List.setIfInBounds_toArray, List.set_cons_zero, List.set_cons_succ, i64_w, i32_w]
    rfl
   refine inv_at [0, 1, 3, 4, 5, 6, 7, 8, 9] (fun a0_ b a w' => ∃ (gb374 : Nat) (m7_ : Value), a = putSel a0_ b [(0, 16, .agg (mixA (Value.int .u16) [.int .i8 a0_0, .int .i8 a0_1] a0_2)), (1, 17, .agg (mixA (Value.int .u16) [] t371)), (3, 19, .tuple #[.agg (mixA (Value.int .u16) [] t372), .int .i64 t373]), (4, 15, .tuple #[.agg (mixA (Value.int .u16) [] t372), .int .i64 t373]), (5, 20, .agg (mixA (Value.int .u16) [] t372)), (6, 21, .int .i64 t373), (7, 7, m7_), (9, 8, .int .i64 t373)] ∧ (w'.heap[gb368]? = some (.cells (mixA (Value.int .u16) [.int .i8 a0_0, .int .i8 a0_1] a0_2) 31 (0, 0))) ∧ (w'.heap[gb369]? = some (.cells #[.int .i8 0, .int .i8 0] 41 (0, 0))) ∧ (Below w.heap.size w w') ∧ (b 7 = true → b 8 = false → w'.heap[gb374]? = some (.cells (mixA (Value.int .u16) [] (LA.zero 40)) 28 (0, 0))) ∧ (b 7 = true → w.heap.size ≤ gb374) ∧ (b 7 = true → w.heap.size ≤ gb374) ∧ (b 7 = true → gb368 ≠ gb374) ∧ (b 7 = true → gb374 ≠ gb368) ∧ (b 7 = true → gb369 ≠ gb374) ∧ (b 7 = true → gb374 ≠ gb369) ∧ (b 8 = true → w'.heap[gb374]? = some (.cells (mixA (Value.int .u16) [] t372) 28 (0, 0))) ∧ (b 7 = true → (m7_ : Value) = .pointer (some ⟨gb374, 0, none⟩))) HT_.out HW_.out (by kernel_rfl) (by kernel_rfl) ?_ ?_ ?_
   ·exact ⟨0, .bool false, by simp only [putSel, Bool.false_eq_true, if_false], BK368.out, BK369.out, HB.out, fun h_ => absurd h_ (by decide), fun h_ => absurd h_ (by decide), fun h_ => absurd h_ (by decide), fun h_ => absurd h_ (by decide), fun h_ => absurd h_ (by decide), fun h_ => absurd h_ (by decide), fun h_ => absurd h_ (by decide), fun h_ => absurd h_ (by decide), fun h_ => absurd h_ (by decide)⟩
   ·skip
    clear BK368 BK369 HB
    refine steps_cons ?_ ?_
    ·rintro b a w' ⟨gb374, m7_, ha, Q_BK368, Q_BK369, Q_HB, Q_BK374, Q_GW374, Q_GE374, Q_NB368_374, Q_NB374_368, Q_NB369_374, Q_NB374_369, Q_BK374_e8, Q_X7_⟩ hb_ hon hoff
     refine ⟨_, rfl, fun K hK => ?_⟩
     have e2 : a.tmps[2]? = some (.pointer (some ⟨gb368, 0, none⟩)) := by rw [ha]; exact (putSel_off rfl).trans rfl
     replace ha := Aside0.mk ha
     have BK368 := Aside0.mk Q_BK368
     have BK369 := Aside0.mk Q_BK369
     have HB := Aside0.mk Q_HB
     have hL_ : World.rangeAt w' gb368 0 ([.int .i8 a0_0, .int .i8 a0_1] ++ a0_2.l.map (Value.int .u16)) := mix_range BK368.out
     refine value_ (w1 := w') (v := .agg (mixA (Value.int .u16) [.int .i8 a0_0, .int .i8 a0_1] a0_2)) (by rfl) rfl ?_ ?_
     ·exact load_mix_run (P := Tryd.prog) 31 (.tmp 2) rfl gb368 (by simp only [Act.eval, Array.getD_eq_getD_getElem?, e2, Option.getD_some]) hL_ Tryd.underlying31 rfl (by kernel_rfl) rfl
     refine hK.out _ _ ⟨gb374, m7_, (by rw [ha.out]; exact putSel_upk 0 hb_ rfl rfl rfl), Q_BK368, Q_BK369, Q_HB, Q_BK374, Q_GW374, Q_GE374, Q_NB368_374, Q_NB374_368, Q_NB369_374, Q_NB374_369, fun h0_ => absurd ((hoff 8 (by kernel_rfl)).symm.trans h0_) (by decide), Q_X7_⟩
    refine steps_cons ?_ ?_
    ·rintro b a w' ⟨gb374, m7_, ha, Q_BK368, Q_BK369, Q_HB, Q_BK374, Q_GW374, Q_GE374, Q_NB368_374, Q_NB374_368, Q_NB369_374, Q_NB374_369, Q_BK374_e8, Q_X7_⟩ hb_ hon hoff
     refine ⟨_, rfl, fun K hK => ?_⟩
     have e2 : a.tmps[2]? = some (.pointer (some ⟨gb368, 0, none⟩)) := by rw [ha]; exact (putSel_off rfl).trans rfl
     replace ha := Aside0.mk ha
     have BK368 := Aside0.mk Q_BK368
     have BK369 := Aside0.mk Q_BK369
     have HB := Aside0.mk Q_HB
     refine goes_ Tryd.func37 (by kernel_rfl) rfl #[.pointer (some ⟨gb368, 0, none⟩)] (by rfl) rfl rfl (by first | (simp only [List.map_toArray, List.map_cons, List.map_nil, Act.eval, Array.getD_eq_getD_getElem?, Option.getD_some, e2]; done) | (simp only [List.map_toArray, List.map_cons, List.map_nil, Act.eval, Array.getD_eq_getD_getElem?, Option.getD_some, e2]; rfl)) ?_
     with_reducible refine (spec_l06Plain.calls k gb368 a0_0 a0_1 a0_2 t371 _ ?side1 A5.out).mono ?_
     (case side1 => exact (pk BK368))
     rintro e w85 ⟨rfl, hb⟩
     refine ⟨_, rfl, ?_⟩
     have n0_ := bkb BK368 hb
     have n1_ := bkb BK369 hb
     have n2_ := bst HB hb
     have z_BK374 := fun (h0_ : b 7 = true) (h1_ : b 8 = false) => (show w85.heap[gb374]? = some (.cells (mixA (Value.int .u16) [] (LA.zero 40)) 28 (0, 0)) from by first | exact (blk_below (g := gb374) (o := .cells (mixA (Value.int .u16) [] (LA.zero 40)) 28 (0, 0)) (by (with_reducible repeat (first | refine blk_drewN ?_ _ | refine blk_drew ?_ | refine blk_alloc ?_ _)); exact (Q_BK374 h0_ h1_)) hb))
     clear BK368
     clear BK369
     clear HB
     have BK368 := n0_
     have BK369 := n1_
     have HB := n2_
     clear n0_ n1_ n2_
     (try clear hb)
     (try clear hb2)
     (try clear hk)
     (try clear hi)
     refine hK.out _ _ ⟨gb374, m7_, (by rw [ha.out]; exact putSel_upk 1 hb_ rfl rfl rfl), (pk BK368), (pk BK369), (pbs HB), z_BK374, Q_GW374, Q_GE374, Q_NB368_374, Q_NB374_368, Q_NB369_374, Q_NB374_369, fun h0_ => absurd ((hoff 8 (by kernel_rfl)).symm.trans h0_) (by decide), Q_X7_⟩
    refine steps_cons ?_ ?_
    ·rintro b a w' ⟨gb374, m7_, ha, Q_BK368, Q_BK369, Q_HB, Q_BK374, Q_GW374, Q_GE374, Q_NB368_374, Q_NB374_368, Q_NB369_374, Q_NB374_369, Q_BK374_e8, Q_X7_⟩ hb_ hon hoff
     refine ⟨_, rfl, fun K hK => ?_⟩
     have e16 : a.tmps[16]? = some (.agg (mixA (Value.int .u16) [.int .i8 a0_0, .int .i8 a0_1] a0_2)) := by rw [ha]; exact putSel_on (e := (0, 16, .agg (mixA (Value.int .u16) [.int .i8 a0_0, .int .i8 a0_1] a0_2))) 0 rfl rfl (hon 0 (by kernel_rfl)) rfl
     have e17 : a.tmps[17]? = some (.agg (mixA (Value.int .u16) [] t371)) := by rw [ha]; exact putSel_on (e := (1, 17, .agg (mixA (Value.int .u16) [] t371))) 1 rfl rfl (hon 1 (by kernel_rfl)) rfl
     have e18 : a.tmps[18]? = some (.string a1) := by rw [ha]; exact (putSel_off rfl).trans rfl
     replace ha := Aside0.mk ha
     have BK368 := Aside0.mk Q_BK368
     have BK369 := Aside0.mk Q_BK369
     have HB := Aside0.mk Q_HB
     refine goes_ Tryd.func14 (by kernel_rfl) rfl #[.agg (mixA (Value.int .u16) [.int .i8 a0_0, .int .i8 a0_1] a0_2), .agg (mixA (Value.int .u16) [] t371), .string a1] (by rfl) rfl rfl (by first | (simp only [List.map_toArray, List.map_cons, List.map_nil, Act.eval, Array.getD_eq_getD_getElem?, Option.getD_some, e16, e17, e18]; done) | (simp only [List.map_toArray, List.map_cons, List.map_nil, Act.eval, Array.getD_eq_getD_getElem?, Option.getD_some, e16, e17, e18]; rfl)) ?_
     with_reducible refine (spec_MovesCrowd.calls k a0_0 a0_1 a0_2 t371 a1 t372 t373 _ A6.out).mono ?_
     rintro e w87 ⟨rfl, hb⟩
     refine ⟨_, rfl, ?_⟩
     have n0_ := bkb BK368 hb
     have n1_ := bkb BK369 hb
     have n2_ := bst HB hb
     have z_BK374 := fun (h0_ : b 7 = true) (h1_ : b 8 = false) => (show w87.heap[gb374]? = some (.cells (mixA (Value.int .u16) [] (LA.zero 40)) 28 (0, 0)) from by first | exact (blk_below (g := gb374) (o := .cells (mixA (Value.int .u16) [] (LA.zero 40)) 28 (0, 0)) (by (with_reducible repeat (first | refine blk_drewN ?_ _ | refine blk_drew ?_ | refine blk_alloc ?_ _)); exact (Q_BK374 h0_ h1_)) hb))
     clear BK368
     clear BK369
     clear HB
     have BK368 := n0_
     have BK369 := n1_
     have HB := n2_
     clear n0_ n1_ n2_
     (try clear hb)
     (try clear hb2)
     (try clear hk)
     (try clear hi)
     refine hK.out _ _ ⟨gb374, m7_, (by rw [ha.out]; exact putSel_upk 2 hb_ rfl rfl rfl), (pk BK368), (pk BK369), (pbs HB), z_BK374, Q_GW374, Q_GE374, Q_NB368_374, Q_NB374_368, Q_NB369_374, Q_NB374_369, fun h0_ => absurd ((hoff 8 (by kernel_rfl)).symm.trans h0_) (by decide), Q_X7_⟩
    refine steps_cons ?_ ?_
    ·rintro b a w' ⟨gb374, m7_, ha, Q_BK368, Q_BK369, Q_HB, Q_BK374, Q_GW374, Q_GE374, Q_NB368_374, Q_NB374_368, Q_NB369_374, Q_NB374_369, Q_BK374_e8, Q_X7_⟩ hb_ hon hoff
     refine ⟨_, rfl, fun K hK => ?_⟩
     have e19 : a.tmps[19]? = some (.tuple #[.agg (mixA (Value.int .u16) [] t372), .int .i64 t373]) := by rw [ha]; exact putSel_on (e := (3, 19, .tuple #[.agg (mixA (Value.int .u16) [] t372), .int .i64 t373])) 2 rfl rfl (hon 3 (by kernel_rfl)) rfl
     replace ha := Aside0.mk ha
     have BK368 := Aside0.mk Q_BK368
     have BK369 := Aside0.mk Q_BK369
     have HB := Aside0.mk Q_HB
     refine value_ (w1 := w') (v := .tuple #[.agg (mixA (Value.int .u16) [] t372), .int .i64 t373]) (by rfl) rfl ?_ ?_
     ·go_simp
      (try simp only [i64_w])
      try rfl
     refine hK.out _ _ ⟨gb374, m7_, (by rw [ha.out]; exact putSel_upk 3 hb_ rfl rfl rfl), Q_BK368, Q_BK369, Q_HB, Q_BK374, Q_GW374, Q_GE374, Q_NB368_374, Q_NB374_368, Q_NB369_374, Q_NB374_369, fun h0_ => absurd ((hoff 8 (by kernel_rfl)).symm.trans h0_) (by decide), Q_X7_⟩
    refine steps_cons ?_ ?_
    ·rintro b a w' ⟨gb374, m7_, ha, Q_BK368, Q_BK369, Q_HB, Q_BK374, Q_GW374, Q_GE374, Q_NB368_374, Q_NB374_368, Q_NB369_374, Q_NB374_369, Q_BK374_e8, Q_X7_⟩ hb_ hon hoff
     refine ⟨_, rfl, fun K hK => ?_⟩
     have e15 : a.tmps[15]? = some (.tuple #[.agg (mixA (Value.int .u16) [] t372), .int .i64 t373]) := by rw [ha]; exact putSel_on (e := (4, 15, .tuple #[.agg (mixA (Value.int .u16) [] t372), .int .i64 t373])) 3 rfl rfl (hon 4 (by kernel_rfl)) rfl
     replace ha := Aside0.mk ha
     have BK368 := Aside0.mk Q_BK368
     have BK369 := Aside0.mk Q_BK369
     have HB := Aside0.mk Q_HB
     refine value_ (w1 := w') (v := .agg (mixA (Value.int .u16) [] t372)) (by rfl) rfl ?_ ?_
     ·go_simp
      (try simp only [i64_w])
      try rfl
     refine hK.out _ _ ⟨gb374, m7_, (by rw [ha.out]; exact putSel_upk 4 hb_ rfl rfl rfl), Q_BK368, Q_BK369, Q_HB, Q_BK374, Q_GW374, Q_GE374, Q_NB368_374, Q_NB374_368, Q_NB369_374, Q_NB374_369, fun h0_ => absurd ((hoff 8 (by kernel_rfl)).symm.trans h0_) (by decide), Q_X7_⟩
    refine steps_cons ?_ ?_
    ·rintro b a w' ⟨gb374, m7_, ha, Q_BK368, Q_BK369, Q_HB, Q_BK374, Q_GW374, Q_GE374, Q_NB368_374, Q_NB374_368, Q_NB369_374, Q_NB374_369, Q_BK374_e8, Q_X7_⟩ hb_ hon hoff
     refine ⟨_, rfl, fun K hK => ?_⟩
     have e15 : a.tmps[15]? = some (.tuple #[.agg (mixA (Value.int .u16) [] t372), .int .i64 t373]) := by rw [ha]; exact putSel_on (e := (4, 15, .tuple #[.agg (mixA (Value.int .u16) [] t372), .int .i64 t373])) 3 rfl rfl (hon 4 (by kernel_rfl)) rfl
     replace ha := Aside0.mk ha
     have BK368 := Aside0.mk Q_BK368
     have BK369 := Aside0.mk Q_BK369
     have HB := Aside0.mk Q_HB
     refine value_ (w1 := w') (v := .int .i64 t373) (by rfl) rfl ?_ ?_
     ·go_simp
      (try simp only [i64_w])
      try rfl
     refine hK.out _ _ ⟨gb374, m7_, (by rw [ha.out]; exact putSel_upk 5 hb_ rfl rfl rfl), Q_BK368, Q_BK369, Q_HB, Q_BK374, Q_GW374, Q_GE374, Q_NB368_374, Q_NB374_368, Q_NB369_374, Q_NB374_369, Q_BK374_e8, Q_X7_⟩
    refine steps_cons ?_ ?_
    ·rintro b a w' ⟨gb374, m7_, ha, Q_BK368, Q_BK369, Q_HB, Q_BK374, Q_GW374, Q_GE374, Q_NB368_374, Q_NB374_368, Q_NB369_374, Q_NB374_369, Q_BK374_e8, Q_X7_⟩ hb_ hon hoff
     refine ⟨_, rfl, fun K hK => ?_⟩
     replace ha := Aside0.mk ha
     have BK368 := Aside0.mk Q_BK368
     have BK369 := Aside0.mk Q_BK369
     have HB := Aside0.mk Q_HB
     refine box_step ?hg (N := 7) ?hd (cs := (mixA (Value.int .u16) [] (LA.zero 40))) (t := 28) ?hr ?_; (case hd => rfl); (case hg => rfl); (case hr => first | (go_simp; done) | (go_simp; rfl))
     intro gb374 hg w85 hbox hb
     have n0_ := bkb BK368 hb
     have n1_ := bkb BK369 hb
     have n2_ := bst HB hb
     have n3_ := Aside0.mk (hbox)
     have n4_ := gwl HB hg
     have n5_ := gwl HB hg
     have n6_ := nbl BK368 hg
     have n7_ := nbg BK368 hg
     have n8_ := nbl BK369 hg
     have n9_ := nbg BK369 hg
     clear BK368
     clear BK369
     clear HB
     have BK368 := n0_
     have BK369 := n1_
     have HB := n2_
     have BK374 := n3_
     have GW374 := n4_
     have GE374 := n5_
     have NB368_374 := n6_
     have NB374_368 := n7_
     have NB369_374 := n8_
     have NB374_369 := n9_
     clear n0_ n1_ n2_ n3_ n4_ n5_ n6_ n7_ n8_ n9_
     clear hb hbox hg
     refine hK.out _ _ ⟨gb374, (.pointer (some ⟨gb374, 0, none⟩)), (by rw [ha.out]; exact putSel_upk 6 hb_ rfl rfl rfl), (pk BK368), (pk BK369), (pbs HB), fun _ _ => (pk BK374), fun _ => GW374.out, fun _ => GE374.out, fun _ => NB368_374.out, fun _ => NB374_368.out, fun _ => NB369_374.out, fun _ => NB374_369.out, fun h0_ => absurd ((hoff 8 (by kernel_rfl)).symm.trans h0_) (by decide), fun _ => rfl⟩
    refine steps_cons ?_ ?_
    ·rintro b a w' ⟨gb374, m7_, ha, Q_BK368, Q_BK369, Q_HB, Q_BK374, Q_GW374, Q_GE374, Q_NB368_374, Q_NB374_368, Q_NB369_374, Q_NB374_369, Q_BK374_e8, Q_X7_⟩ hb_ hon hoff
     refine ⟨_, rfl, fun K hK => ?_⟩
     have e7 : a.tmps[7]? = some (m7_) := by rw [ha]; exact putSel_on (e := (7, 7, m7_)) 6 rfl rfl (hon 7 (by kernel_rfl)) rfl
     rw [Q_X7_ (hon 7 (by kernel_rfl))] at e7
     have e20 : a.tmps[20]? = some (.agg (mixA (Value.int .u16) [] t372)) := by rw [ha]; exact putSel_on (e := (5, 20, .agg (mixA (Value.int .u16) [] t372))) 4 rfl rfl (hon 5 (by kernel_rfl)) rfl
     replace ha := Aside0.mk ha
     have BK368 := Aside0.mk Q_BK368
     have BK369 := Aside0.mk Q_BK369
     have HB := Aside0.mk Q_HB
     have BK374 := Aside0.mk (Q_BK374 (hon 7 (by kernel_rfl)) hb_)
     have GW374 := Aside0.mk (Q_GW374 (hon 7 (by kernel_rfl)))
     have GE374 := Aside0.mk (Q_GE374 (hon 7 (by kernel_rfl)))
     have NB368_374 := Aside0.mk (Q_NB368_374 (hon 7 (by kernel_rfl)))
     have NB374_368 := Aside0.mk (Q_NB374_368 (hon 7 (by kernel_rfl)))
     have NB369_374 := Aside0.mk (Q_NB369_374 (hon 7 (by kernel_rfl)))
     have NB374_369 := Aside0.mk (Q_NB374_369 (hon 7 (by kernel_rfl)))
     refine step_store_lmix (by rfl) rfl 28 _ _ rfl gb374 (e := (Value.int .u16)) (cs' := []) (W' := t372) (cs := []) (W := (LA.zero 40)) (T := 28) (by first | (simp only [List.map_toArray, List.map_cons, List.map_nil, Act.eval, Array.getD_eq_getD_getElem?, Option.getD_some, e7, e20]; done) | (simp only [List.map_toArray, List.map_cons, List.map_nil, Act.eval, Array.getD_eq_getD_getElem?, Option.getD_some, e7, e20]; rfl)) (by first | (simp only [List.map_toArray, List.map_cons, List.map_nil, Act.eval, Array.getD_eq_getD_getElem?, Option.getD_some, e7, e20]; done) | (simp only [List.map_toArray, List.map_cons, List.map_nil, Act.eval, Array.getD_eq_getD_getElem?, Option.getD_some, e7, e20]; rfl)) (pk BK374) rfl (by kernel_rfl) rfl (fun _ => rfl) rfl ?_
     intro w89 hi hk hbl
     have n0_ := Aside0.mk (KeepBut.blk hk (g' := gb368) (o := .cells (mixA (Value.int .u16) [.int .i8 a0_0, .int .i8 a0_1] a0_2) 31 (0, 0)) (pk BK368) NB368_374.out (by simp))
     have n1_ := Aside0.mk (KeepBut.blk hk (g' := gb369) (o := .cells #[.int .i8 0, .int .i8 0] 41 (0, 0)) (pk BK369) NB369_374.out (by simp))
     have n2_ := Aside0.mk (hbl _ _ (pbs HB) GE374.out)
     have n3_ := Aside0.mk (hi)
     clear BK368
     clear BK369
     clear HB
     clear BK374
     have BK368 := n0_
     have BK369 := n1_
     have HB := n2_
     have BK374 := n3_
     clear n0_ n1_ n2_ n3_
     clear hi hk hbl
     refine hK.out _ _ ⟨gb374, m7_, (by rw [ha.out]; exact putSel_none (v := undef) rfl), (pk BK368), (pk BK369), (pbs HB), fun _ h1_ => absurd ((up_self b 8).symm.trans h1_) (by decide), fun _ => GW374.out, fun _ => GE374.out, fun _ => NB368_374.out, fun _ => NB374_368.out, fun _ => NB369_374.out, fun _ => NB374_369.out, fun _ => (pk BK374), Q_X7_⟩
    refine steps_cons ?_ ?_
    ·rintro b a w' ⟨gb374, m7_, ha, Q_BK368, Q_BK369, Q_HB, Q_BK374, Q_GW374, Q_GE374, Q_NB368_374, Q_NB374_368, Q_NB369_374, Q_NB374_369, Q_BK374_e8, Q_X7_⟩ hb_ hon hoff
     refine ⟨_, rfl, fun K hK => ?_⟩
     have e21 : a.tmps[21]? = some (.int .i64 t373) := by rw [ha]; exact putSel_on (e := (6, 21, .int .i64 t373)) 5 rfl rfl (hon 6 (by kernel_rfl)) rfl
     replace ha := Aside0.mk ha
     have BK368 := Aside0.mk Q_BK368
     have BK369 := Aside0.mk Q_BK369
     have HB := Aside0.mk Q_HB
     have GW374 := Aside0.mk (Q_GW374 (hon 7 (by kernel_rfl)))
     have GE374 := Aside0.mk (Q_GE374 (hon 7 (by kernel_rfl)))
     have NB368_374 := Aside0.mk (Q_NB368_374 (hon 7 (by kernel_rfl)))
     have NB374_368 := Aside0.mk (Q_NB374_368 (hon 7 (by kernel_rfl)))
     have NB369_374 := Aside0.mk (Q_NB369_374 (hon 7 (by kernel_rfl)))
     have NB374_369 := Aside0.mk (Q_NB374_369 (hon 7 (by kernel_rfl)))
     have BK374 := Aside0.mk (Q_BK374_e8 (hon 8 (by kernel_rfl)))
     refine value_ (w1 := w') (v := .int .i64 t373) (by rfl) rfl ?_ ?_
     ·go_simp
      (try simp only [i64_w])
      try rfl
     refine hK.out _ _ ⟨gb374, m7_, (by rw [ha.out]; exact putSel_upk 7 hb_ rfl rfl rfl), Q_BK368, Q_BK369, Q_HB, fun _ h1_ => absurd ((hon 8 (by kernel_rfl)).symm.trans h1_) (by decide), Q_GW374, Q_GE374, Q_NB368_374, Q_NB374_368, Q_NB369_374, Q_NB374_369, Q_BK374_e8, Q_X7_⟩
    exact steps_nil
   rintro b a w89 hall ⟨gb374, m7_, ha, Q_BK368, Q_BK369, Q_HB, Q_BK374, Q_GW374, Q_GE374, Q_NB368_374, Q_NB374_368, Q_NB369_374, Q_NB374_369, Q_BK374_e8, Q_X7_⟩
   clear BK368 BK369 HB
   have hb0_ := hall 0 (by kernel_rfl)
   have hb1_ := hall 1 (by kernel_rfl)
   have hb3_ := hall 3 (by kernel_rfl)
   have hb4_ := hall 4 (by kernel_rfl)
   have hb5_ := hall 5 (by kernel_rfl)
   have hb6_ := hall 6 (by kernel_rfl)
   have hb7_ := hall 7 (by kernel_rfl)
   have hb8_ := hall 8 (by kernel_rfl)
   have hb9_ := hall 9 (by kernel_rfl)
   subst ha
   obtain rfl := (Q_X7_ hb7_).symm
   simp only [putSel, hb0_, hb1_, hb3_, hb4_, hb5_, hb6_, hb7_, hb8_, hb9_, if_true, Act.put, List.setIfInBounds_toArray, List.set_cons_zero, List.set_cons_succ]
   have BK368 := Aside0.mk Q_BK368
   clear Q_BK368
   have BK369 := Aside0.mk Q_BK369
   clear Q_BK369
   have HB := Aside0.mk Q_HB
   clear Q_HB
   clear Q_BK374
   have GW374 := Aside0.mk (Q_GW374 hb7_)
   clear Q_GW374
   have GE374 := Aside0.mk (Q_GE374 hb7_)
   clear Q_GE374
   have NB368_374 := Aside0.mk (Q_NB368_374 hb7_)
   clear Q_NB368_374
   have NB374_368 := Aside0.mk (Q_NB374_368 hb7_)
   clear Q_NB374_368
   have NB369_374 := Aside0.mk (Q_NB369_374 hb7_)
   clear Q_NB369_374
   have NB374_369 := Aside0.mk (Q_NB374_369 hb7_)
   clear Q_NB374_369
   have BK374 := Aside0.mk (Q_BK374_e8 hb8_)
   clear Q_BK374_e8
   clear hall hb0_ hb1_ hb3_ hb4_ hb5_ hb6_ hb7_ hb8_ hb9_
   have hnb92 := NB369_368.out
   have hnc92 := NB368_369.out
   have hnb93 := NB369_374.out
   have hnc93 := NB374_369.out
   have hcz94_0 : w89.cell? ⟨gb369, 0, none⟩ = some (.int .i8 0) := bc_ BK369.out 0
   have hcz94_1 : w89.cell? ⟨gb369, 1, none⟩ = some (.int .i8 0) := bc_ BK369.out 1
   have hfz94_0 := blk_frozen BK369.out 0
   have hfz94_1 := blk_frozen BK369.out 1
   try go_wp2
   refine bodyPost_ret (results_ctt rfl _ _ gb369 41 #[.int .i8 0, .int .i8 0] (0, 0) _ rfl (by (with_reducible repeat (first | refine blk_drewN ?_ _ | refine blk_drew ?_ | refine blk_alloc ?_ _)); refine blk_put (cs := #[.int .i8 0, .int .i8 0]) ?_ 1 _ rfl; (with_reducible repeat (first | refine blk_drewN ?_ _ | refine blk_drew ?_ | refine blk_alloc ?_ _)); refine blk_put (cs := #[.int .i8 0, .int .i8 0]) ?_ 0 _ rfl; (with_reducible repeat (first | refine blk_drewN ?_ _ | refine blk_drew ?_ | refine blk_alloc ?_ _)); exact BK369.out) Tryd.underlying41 rfl (by kernel_rfl)) rfl ?_
   exact ⟨by first | rfl | (simp [errW_none, errW_some] <;> rfl) | (simp [*, errW_none, errW_some] <;> rfl), pbs HB⟩
 ·replace c4 := Bool.eq_false_iff.mpr c4
  subst c4
  have H1 : (some (0, 0, 0, 1)) = some (r1, r2, r3, r4) := by rw [if_neg (show ¬ (false = true) by decide)] at H; exact H
  clear H
  have H := H1
  clear H1
  simp only [Option.some.injEq, Prod.mk.injEq] at H
  obtain ⟨rfl, rfl, rfl, rfl⟩ := H
  go_enter Tryd.func16, Tryd.ntmps16
  go_wp2_with (first | ((with_reducible refine gate_dst (N := 2) rfl ?_); refine box_event ?hg (N := 2) ?hd (cs := (mixA (Value.int .u16) [.int .i8 a0_0, .int .i8 a0_1] a0_2)) (t := 31) ?hr ?_; (case hd => rfl); (case hg => rfl); (case hr => first | (go_simp; done) | (go_simp; rfl)); intro gb368 hg w95 hbox hb; have n0_ := bst HB hb; have n1_ := Aside0.mk (hbox); have n2_ := gwl HB hg; have n3_ := gwl HB hg; clear HB; have HB := n0_; have BK368 := n1_; have GW368 := n2_; have GE368 := n3_; clear n0_ n1_ n2_ n3_; clear hb hbox hg) | ((with_reducible refine gate_dst (N := 4) rfl ?_); refine box_event ?hg (N := 4) ?hd (cs := #[.int .i8 0, .int .i8 0]) (t := 41) ?hr ?_; (case hd => rfl); (case hg => rfl); (case hr => first | (go_simp; done) | (go_simp; rfl)); intro gb369 hg w96 hbox hb; have n0_ := bkb BK368 hb; have n1_ := bst HB hb; have n2_ := Aside0.mk (hbox); have n3_ := gwl HB hg; have n4_ := gwl HB hg; have n5_ := nbl BK368 hg; have n6_ := nbg BK368 hg; clear BK368; clear HB; have BK368 := n0_; have HB := n1_; have BK369 := n2_; have GW369 := n3_; have GE369 := n4_; have NB368_369 := n5_; have NB369_368 := n6_; clear n0_ n1_ n2_ n3_ n4_ n5_ n6_; clear hb hbox hg) | ((with_reducible refine gate_callee (f := 19) rfl ?_); refine goesL_ (some 12) rfl rfl Tryd.func19 (by kernel_rfl) rfl #[.pointer (some ⟨gb368, 0, none⟩)] rfl (by (try simp only [List.map_toArray, List.map_cons, List.map_nil]); first | done | rfl | (simp only [List.length_drop, List.length_take]; rfl)) ?_; (with_reducible refine (spec_l01Ok.calls k gb368 a0_0 a0_1 a0_2 false _ ?side1 A3.out).mono ?_); (case side1 => exact (pk BK368)); rintro e w97 ⟨rfl, hb⟩; refine ⟨_, rfl, ?_⟩; have n0_ := bkb BK368 hb; have n1_ := bkb BK369 hb; have n2_ := bst HB hb; clear BK368; clear BK369; clear HB; have BK368 := n0_; have BK369 := n1_; have HB := n2_; clear n0_ n1_ n2_; (try clear hb); (try clear hb2); (try clear hk); (try clear hi); have hnb98 := NB369_368.out; have hnc98 := NB368_369.out; have hcz99_0 : w97.cell? ⟨gb369, 0, none⟩ = some (.int .i8 0) := (blk_cell BK369.out 0).trans rfl; have hcz99_1 : w97.cell? ⟨gb369, 1, none⟩ = some (.int .i8 0) := (blk_cell BK369.out 1).trans rfl; have hfz99_0 := blk_frozen BK369.out 0; have hfz99_1 := blk_frozen BK369.out 1))
  refine bodyPost_ret (results_ctt rfl _ _ gb369 41 #[.int .i8 0, .int .i8 0] (0, 0) _ rfl (by (with_reducible repeat (first | refine blk_drewN ?_ _ | refine blk_drew ?_ | refine blk_alloc ?_ _)); refine blk_put (cs := #[.int .i8 0, .int .i8 0]) ?_ 1 _ rfl; (with_reducible repeat (first | refine blk_drewN ?_ _ | refine blk_drew ?_ | refine blk_alloc ?_ _)); refine blk_put (cs := #[.int .i8 0, .int .i8 0]) ?_ 0 _ rfl; (with_reducible repeat (first | refine blk_drewN ?_ _ | refine blk_drew ?_ | refine blk_alloc ?_ _)); exact BK369.out) Tryd.underlying41 rfl (by kernel_rfl)) rfl ?_
  exact ⟨by first | rfl | (simp [errW_none, errW_some] <;> rfl) | (simp [*, errW_none, errW_some] <;> rfl), pbs HB⟩
end Go.Proofs.YtdedijjbdkoekaaDoor.PB
end
section
namespace Go.Proofs.YtdedijjbdkoekaaDoor.PB
open Go.RowKit Go.Proofs.YtdedijjbdkoekaaDoorW.PrintWords Go.Proofs.YtdedijjbdkoekaaDoorW.PrintLast Go.Proofs.YtdedijjbdkoekaaDoorW.PrintMore Go.Proofs.YtdedijjbdkoekaaDoor.La
attribute [local go_sem] max2_int min2_int max_two min_two max_three min_three max_four min_four   -- for this text's walks alone
set_option linter.unusedVariables false
set_option linter.unusedSimpArgs false
def laws_FnExactWhereNow.f (k : Nat) (a0_0 : Int) (a0_1 : Int) (a0_2 : LA 10) (a1 : ByteArray) : Option (Bool) := if (a1.size : Int) > 1048576 then (some true) else ((laws_toRoom.f k a0_0 a0_1 a0_2).bind fun bt420 => ((spec_WhereNow.f k bt420.1 bt420.2.1 bt420.2.2 a1).bind fun bt423 => ((laws_toRoom.f k a0_0 a0_1 a0_2).bind fun bt428 => ((impl_WhereNow.f k bt428.1 bt428.2.1 bt428.2.2 a1).bind fun bt431 => ((laws_eqSpot.f bt431.1 bt431.2.1 bt423.1 bt423.2.1).bind fun t436 => (if t436 = true then (if bt431.2.2.1 = bt423.2.2.1 then (if bt431.2.2.2 = bt423.2.2.2 then (some true) else (some false)) else (some false)) else (some false)))))))
theorem laws_FnExactWhereNow.mono : ∀ a0 a1 a2 a3 k, LeO (laws_FnExactWhereNow.f k a0 a1 a2 a3) (laws_FnExactWhereNow.f (k + 1) a0 a1 a2 a3) := by
 intro a0 a1 a2 a3 k
 unfold laws_FnExactWhereNow.f
 repeat' first
   | (with_reducible exact impl_WhereNow.mono _ _ _ _ _)
   | (with_reducible exact laws_toRoom.mono _ _ _ _)
   | (with_reducible exact spec_WhereNow.mono _ _ _ _ _)
   | (with_reducible exact LeO.refl _)
   | (with_reducible exact LeO.none _)
   | (with_reducible refine LeO.ite ?_ ?_)
   | (with_reducible refine LeO.bind ?_ (fun _ => ?_))
   | exact impl_WhereNow.mono _ _ _ _ _
   | exact laws_toRoom.mono _ _ _ _
   | exact spec_WhereNow.mono _ _ _ _ _
   | exact LeO.none _
   | refine LeO.ite ?_ ?_
   | refine LeO.bind ?_ (fun _ => ?_)
set_option maxHeartbeats 8000000 in
set_option maxRecDepth 100000 in
theorem laws_FnExactWhereNow.calls (k : Nat) (a0_0 : Int) (a0_1 : Int) (a0_2 : LA 10) (a1 : ByteArray) (r : Bool) (w : World) (h : laws_FnExactWhereNow.f k a0_0 a0_1 a0_2 a1 = some r) :
  Calls Tryd.prog 6 #[.agg (mixA (Value.int .u16) [.int .i8 a0_0, .int .i8 a0_1] a0_2), .string a1] w fun e w' => e = .returned (.bool r) ∧ Below w.heap.size w w' := by
 have hu26 := Tryd.underlying26
 have hu41 := Tryd.underlying41
 have HB := Aside0.mk (Below.refl w.heap.size w)
 have H : (if (a1.size : Int) > 1048576 then (some true) else ((laws_toRoom.f k a0_0 a0_1 a0_2).bind fun bt420 => ((spec_WhereNow.f k bt420.1 bt420.2.1 bt420.2.2 a1).bind fun bt423 => ((laws_toRoom.f k a0_0 a0_1 a0_2).bind fun bt428 => ((impl_WhereNow.f k bt428.1 bt428.2.1 bt428.2.2 a1).bind fun bt431 => ((laws_eqSpot.f bt431.1 bt431.2.1 bt423.1 bt423.2.1).bind fun t436 => (if t436 = true then (if bt431.2.2.1 = bt423.2.2.1 then (if bt431.2.2.2 = bt423.2.2.2 then (some true) else (some false)) else (some false)) else (some false)))))))) = some r := h
 clear h
 by_cases c3 : (a1.size : Int) > 1048576
 ·rw [if_pos c3] at H
  have c3b0 : decide (1048576 < (a1.size : Int)) = true := decide_eq_true c3
  have c3b1 : decide (1048576 < a1.size) = true := decide_eq_true (by omega)
  clear c3
  obtain rfl := Option.some.inj H
  go_enter Tryd.func6, Tryd.ntmps6
  go_wp2_with (first | ((with_reducible refine gate_dst (N := 2) rfl ?_); refine box_event ?hg (N := 2) ?hd (cs := (mixA (Value.int .u16) [.int .i8 a0_0, .int .i8 a0_1] a0_2)) (t := 26) ?hr ?_; (case hd => rfl); (case hg => rfl); (case hr => first | (go_simp; done) | (go_simp; rfl)); intro gb419 hg w4 hbox hb; have n0_ := bst HB hb; have n1_ := Aside0.mk (hbox); have n2_ := gwl HB hg; have n3_ := gwl HB hg; clear HB; have HB := n0_; have BK419 := n1_; have GW419 := n2_; have GE419 := n3_; clear n0_ n1_ n2_ n3_; clear hb hbox hg))
  go_ret
  exact ⟨by first | rfl | (simp [errW_none, errW_some] <;> rfl) | (simp [*, errW_none, errW_some] <;> rfl), pbs HB⟩
 ·rw [if_neg c3] at H
  have c3b0 : decide (1048576 < (a1.size : Int)) = false := decide_eq_false c3
  have c3b1 : decide (1048576 < a1.size) = false := decide_eq_false (by omega)
  clear c3
  replace H := Option.bind_eq_some_iff.mp H
  obtain ⟨⟨t420, t421, t422⟩, A50, H⟩ := H
  replace H : ((spec_WhereNow.f k t420 t421 t422 a1).bind fun bt423 => ((laws_toRoom.f k a0_0 a0_1 a0_2).bind fun bt428 => ((impl_WhereNow.f k bt428.1 bt428.2.1 bt428.2.2 a1).bind fun bt431 => ((laws_eqSpot.f bt431.1 bt431.2.1 bt423.1 bt423.2.1).bind fun t436 => (if t436 = true then (if bt431.2.2.1 = bt423.2.2.1 then (if bt431.2.2.2 = bt423.2.2.2 then (some true) else (some false)) else (some false)) else (some false)))))) = some r := H
  have A5 := Aside0.mk A50
  clear A50
  replace H := Option.bind_eq_some_iff.mp H
  obtain ⟨⟨t423, t424, t425, t426⟩, A60, H⟩ := H
  replace H : ((laws_toRoom.f k a0_0 a0_1 a0_2).bind fun bt428 => ((impl_WhereNow.f k bt428.1 bt428.2.1 bt428.2.2 a1).bind fun bt431 => ((laws_eqSpot.f bt431.1 bt431.2.1 t423 t424).bind fun t436 => (if t436 = true then (if bt431.2.2.1 = t425 then (if bt431.2.2.2 = t426 then (some true) else (some false)) else (some false)) else (some false))))) = some r := H
  have A6 := Aside0.mk A60
  clear A60
  replace H := Option.bind_eq_some_iff.mp H
  obtain ⟨⟨t428, t429, t430⟩, A70, H⟩ := H
  replace H : ((impl_WhereNow.f k t428 t429 t430 a1).bind fun bt431 => ((laws_eqSpot.f bt431.1 bt431.2.1 t423 t424).bind fun t436 => (if t436 = true then (if bt431.2.2.1 = t425 then (if bt431.2.2.2 = t426 then (some true) else (some false)) else (some false)) else (some false)))) = some r := H
  have A7 := Aside0.mk A70
  clear A70
  replace H := Option.bind_eq_some_iff.mp H
  obtain ⟨⟨t431, t432, t433, t434⟩, A80, H⟩ := H
  replace H : ((laws_eqSpot.f t431 t432 t423 t424).bind fun t436 => (if t436 = true then (if t433 = t425 then (if t434 = t426 then (some true) else (some false)) else (some false)) else (some false))) = some r := H
  have A8 := Aside0.mk A80
  clear A80
  replace H := Option.bind_eq_some_iff.mp H
  obtain ⟨t436, A90, H⟩ := H
  replace H : (if t436 = true then (if t433 = t425 then (if t434 = t426 then (some true) else (some false)) else (some false)) else (some false)) = some r := H
  have A9 := Aside0.mk A90
  clear A90
  by_cases c10 : t436 = true
  ·subst c10
   have H1 : (if t433 = t425 then (if t434 = t426 then (some true) else (some false)) else (some false)) = some r := by rw [if_pos rfl] at H; exact H
   clear H
   have H := H1
   clear H1
   by_cases c11 : t433 = t425
   ·rw [if_pos c11] at H
    have c11b0 : (t433 == t425) = true := beq_iff_eq.mpr c11
    have c11b1 : (t433 != t425) = false := bne_eq_false_iff_eq.mpr c11
    clear c11
    by_cases c12 : t434 = t426
    ·rw [if_pos c12] at H
     have c12b0 : (t434 == t426) = true := beq_iff_eq.mpr c12
     have c12b1 : (t434 != t426) = false := bne_eq_false_iff_eq.mpr c12
     clear c12
     obtain rfl := Option.some.inj H
     go_enter Tryd.func6, Tryd.ntmps6
     go_wp2_with (first | ((with_reducible refine gate_dst (N := 2) rfl ?_); refine box_event ?hg (N := 2) ?hd (cs := (mixA (Value.int .u16) [.int .i8 a0_0, .int .i8 a0_1] a0_2)) (t := 26) ?hr ?_; (case hd => rfl); (case hg => rfl); (case hr => first | (go_simp; done) | (go_simp; rfl)); intro gb419 hg w13 hbox hb; have n0_ := bst HB hb; have n1_ := Aside0.mk (hbox); have n2_ := gwl HB hg; have n3_ := gwl HB hg; clear HB; have HB := n0_; have BK419 := n1_; have GW419 := n2_; have GE419 := n3_; clear n0_ n1_ n2_ n3_; clear hb hbox hg) | ((with_reducible refine gate_dst (N := 15) rfl ?_); refine wpList_run0 (v := .agg (mixA (Value.int .u16) [.int .i8 a0_0, .int .i8 a0_1] a0_2)) rfl (load_mix_run (P := Tryd.prog) 26 (.tmp 2) rfl gb419 rfl (show World.rangeAt _ gb419 0 ([.int .i8 a0_0, .int .i8 a0_1] ++ a0_2.l.map (Value.int .u16)) from mix_range (show (World.heap _)[gb419]? = some (.cells (mixA (Value.int .u16) [.int .i8 a0_0, .int .i8 a0_1] a0_2) 26 (0, 0)) from by (with_reducible repeat (first | refine blk_drewN ?_ _ | refine blk_drew ?_ | refine blk_alloc ?_ _)); exact BK419.out)) Tryd.underlying26 rfl (by kernel_rfl) rfl) ?_) | ((with_reducible refine gate_callee (f := 8) rfl ?_); refine goesL_ (some 16) rfl rfl Tryd.func8 (by kernel_rfl) rfl #[.agg (mixA (Value.int .u16) [.int .i8 a0_0, .int .i8 a0_1] a0_2)] rfl (by (try simp only [List.map_toArray, List.map_cons, List.map_nil]); first | done | rfl | (simp only [List.length_drop, List.length_take]; rfl)) ?_; (with_reducible refine (laws_toRoom.calls k a0_0 a0_1 a0_2 t420 t421 t422 _ A5.out).mono ?_); rintro e w15 ⟨rfl, hb⟩; refine ⟨_, rfl, ?_⟩; have n0_ := bkb BK419 hb; have n1_ := bst HB hb; clear BK419; clear HB; have BK419 := n0_; have HB := n1_; clear n0_ n1_; (try clear hb); (try clear hb2); (try clear hk); (try clear hi)) | ((with_reducible refine gate_callee (f := 16) rfl ?_); refine goesL_ (some 18) rfl rfl Tryd.func16 (by kernel_rfl) rfl #[.agg (mixA (Value.int .u16) [.int .i8 t420, .int .i8 t421] t422), .string a1] rfl (by (try simp only [List.map_toArray, List.map_cons, List.map_nil]); first | done | rfl | (simp only [List.length_drop, List.length_take]; rfl)) ?_; (with_reducible refine (spec_WhereNow.calls k t420 t421 t422 a1 t423 t424 t425 t426 _ A6.out).mono ?_); rintro e w16 ⟨rfl, hb⟩; refine ⟨_, rfl, ?_⟩; have n0_ := bkb BK419 hb; have n1_ := bst HB hb; clear BK419; clear HB; have BK419 := n0_; have HB := n1_; clear n0_ n1_; (try clear hb); (try clear hb2); (try clear hk); (try clear hi)) | ((with_reducible refine gate_dst (N := 5) rfl ?_); refine box_event ?hg (N := 5) ?hd (cs := #[.int .i8 0, .int .i8 0]) (t := 41) ?hr ?_; (case hd => rfl); (case hg => rfl); (case hr => first | (go_simp; done) | (go_simp; rfl)); intro gb427 hg w17 hbox hb; have n0_ := bkb BK419 hb; have n1_ := bst HB hb; have n2_ := Aside0.mk (hbox); have n3_ := gwl HB hg; have n4_ := gwl HB hg; have n5_ := nbl BK419 hg; have n6_ := nbg BK419 hg; clear BK419; clear HB; have BK419 := n0_; have HB := n1_; have BK427 := n2_; have GW427 := n3_; have GE427 := n4_; have NB419_427 := n5_; have NB427_419 := n6_; clear n0_ n1_ n2_ n3_ n4_ n5_ n6_; clear hb hbox hg; have hnb18 := NB427_419.out; have hnc18 := NB419_427.out; have hcz19_0 : w17.cell? ⟨gb427, 0, none⟩ = some (.int .i8 0) := (blk_cell BK427.out 0).trans rfl; have hcz19_1 : w17.cell? ⟨gb427, 1, none⟩ = some (.int .i8 0) := (blk_cell BK427.out 1).trans rfl; have hfz19_0 := blk_frozen BK427.out 0; have hfz19_1 := blk_frozen BK427.out 1) | ((with_reducible refine gate_dst (N := 23) rfl ?_); refine wpList_run0 (v := .agg (mixA (Value.int .u16) [.int .i8 a0_0, .int .i8 a0_1] a0_2)) rfl (load_mix_run (P := Tryd.prog) 26 (.tmp 2) rfl gb419 rfl (show World.rangeAt _ gb419 0 ([.int .i8 a0_0, .int .i8 a0_1] ++ a0_2.l.map (Value.int .u16)) from mix_range (show (World.heap _)[gb419]? = some (.cells (mixA (Value.int .u16) [.int .i8 a0_0, .int .i8 a0_1] a0_2) 26 (0, 0)) from by (with_reducible repeat (first | refine blk_drewN ?_ _ | refine blk_drew ?_ | refine blk_alloc ?_ _)); refine blk_far ?_ NB419_427.out _; (with_reducible repeat (first | refine blk_drewN ?_ _ | refine blk_drew ?_ | refine blk_alloc ?_ _)); refine blk_far ?_ NB419_427.out _; (with_reducible repeat (first | refine blk_drewN ?_ _ | refine blk_drew ?_ | refine blk_alloc ?_ _)); exact BK419.out)) Tryd.underlying26 rfl (by kernel_rfl) rfl) ?_) | ((with_reducible refine gate_callee (f := 8) rfl ?_); refine goesL_ (some 24) rfl rfl Tryd.func8 (by kernel_rfl) rfl #[.agg (mixA (Value.int .u16) [.int .i8 a0_0, .int .i8 a0_1] a0_2)] rfl (by (try simp only [List.map_toArray, List.map_cons, List.map_nil]); first | done | rfl | (simp only [List.length_drop, List.length_take]; rfl)) ?_; (with_reducible refine (laws_toRoom.calls k a0_0 a0_1 a0_2 t428 t429 t430 _ A7.out).mono ?_); rintro e w21 ⟨rfl, hb⟩; refine ⟨_, rfl, ?_⟩; have n0_ := Aside0.mk (blk_below (g := gb419) (o := .cells (mixA (Value.int .u16) [.int .i8 a0_0, .int .i8 a0_1] a0_2) 26 (0, 0)) (by (with_reducible repeat (first | refine blk_drewN ?_ _ | refine blk_drew ?_ | refine blk_alloc ?_ _)); refine blk_far ?_ NB419_427.out _; (with_reducible repeat (first | refine blk_drewN ?_ _ | refine blk_drew ?_ | refine blk_alloc ?_ _)); refine blk_far ?_ NB419_427.out _; (with_reducible repeat (first | refine blk_drewN ?_ _ | refine blk_drew ?_ | refine blk_alloc ?_ _)); exact BK419.out) hb); have n1_ := Aside0.mk (blk_below (g := gb427) (o := .cells #[.int .i8 t423, .int .i8 t424] 41 (0, 0)) (by (with_reducible repeat (first | refine blk_drewN ?_ _ | refine blk_drew ?_ | refine blk_alloc ?_ _)); refine blk_put (cs := #[.int .i8 t423, .int .i8 0]) ?_ 1 _ rfl; (with_reducible repeat (first | refine blk_drewN ?_ _ | refine blk_drew ?_ | refine blk_alloc ?_ _)); refine blk_put (cs := #[.int .i8 0, .int .i8 0]) ?_ 0 _ rfl; (with_reducible repeat (first | refine blk_drewN ?_ _ | refine blk_drew ?_ | refine blk_alloc ?_ _)); exact BK427.out) hb); have n2_ := bst HB hb; clear BK419; clear BK427; clear HB; have BK419 := n0_; have BK427 := n1_; have HB := n2_; clear n0_ n1_ n2_; (try clear hb); (try clear hb2); (try clear hk); (try clear hi)) | ((with_reducible refine gate_callee (f := 17) rfl ?_); refine goesL_ (some 26) rfl rfl Tryd.func17 (by kernel_rfl) rfl #[.agg (mixA (Value.int .u16) [.int .i8 t428, .int .i8 t429] t430), .string a1] rfl (by (try simp only [List.map_toArray, List.map_cons, List.map_nil]); first | done | rfl | (simp only [List.length_drop, List.length_take]; rfl)) ?_; (with_reducible refine (impl_WhereNow.calls k t428 t429 t430 a1 t431 t432 t433 t434 _ A8.out).mono ?_); rintro e w22 ⟨rfl, hb⟩; refine ⟨_, rfl, ?_⟩; have n0_ := bkb BK419 hb; have n1_ := bkb BK427 hb; have n2_ := bst HB hb; clear BK419; clear BK427; clear HB; have BK419 := n0_; have BK427 := n1_; have HB := n2_; clear n0_ n1_ n2_; (try clear hb); (try clear hb2); (try clear hk); (try clear hi)) | ((with_reducible refine gate_dst (N := 8) rfl ?_); refine box_event ?hg (N := 8) ?hd (cs := #[.int .i8 0, .int .i8 0]) (t := 41) ?hr ?_; (case hd => rfl); (case hg => rfl); (case hr => first | (go_simp; done) | (go_simp; rfl)); intro gb435 hg w23 hbox hb; have n0_ := bkb BK419 hb; have n1_ := bkb BK427 hb; have n2_ := bst HB hb; have n3_ := Aside0.mk (hbox); have n4_ := gwl HB hg; have n5_ := gwl HB hg; have n6_ := nbl BK419 hg; have n7_ := nbg BK419 hg; have n8_ := nbl BK427 hg; have n9_ := nbg BK427 hg; clear BK419; clear BK427; clear HB; have BK419 := n0_; have BK427 := n1_; have HB := n2_; have BK435 := n3_; have GW435 := n4_; have GE435 := n5_; have NB419_435 := n6_; have NB435_419 := n7_; have NB427_435 := n8_; have NB435_427 := n9_; clear n0_ n1_ n2_ n3_ n4_ n5_ n6_ n7_ n8_ n9_; clear hb hbox hg; have hnb24 := NB435_419.out; have hnc24 := NB419_435.out; have hnb25 := NB435_427.out; have hnc25 := NB427_435.out; have hcz26_0 : w23.cell? ⟨gb435, 0, none⟩ = some (.int .i8 0) := (blk_cell BK435.out 0).trans rfl; have hcz26_1 : w23.cell? ⟨gb435, 1, none⟩ = some (.int .i8 0) := (blk_cell BK435.out 1).trans rfl; have hfz26_0 := blk_frozen BK435.out 0; have hfz26_1 := blk_frozen BK435.out 1; have hcz27_0 : w23.cell? ⟨gb427, 0, none⟩ = some (.int .i8 t423) := (blk_cell BK427.out 0).trans rfl; have hcz27_1 : w23.cell? ⟨gb427, 1, none⟩ = some (.int .i8 t424) := (blk_cell BK427.out 1).trans rfl; have hfz27_0 := blk_frozen BK427.out 0; have hfz27_1 := blk_frozen BK427.out 1) | ((with_reducible refine gate_callee (f := 18) rfl ?_); refine goesL_ (some 32) rfl rfl Tryd.func18 (by kernel_rfl) rfl #[.agg #[.int .i8 t431, .int .i8 t432], .agg #[.int .i8 t423, .int .i8 t424]] rfl (by (try simp only [List.map_toArray, List.map_cons, List.map_nil]); first | done | rfl | (simp only [List.length_drop, List.length_take]; rfl)) ?_; (with_reducible refine (laws_eqSpot.calls t431 t432 t423 t424 true _ A9.out).mono ?_); rintro e w28 ⟨rfl, hb⟩; refine ⟨_, rfl, ?_⟩; have n0_ := Aside0.mk (blk_below (g := gb419) (o := .cells (mixA (Value.int .u16) [.int .i8 a0_0, .int .i8 a0_1] a0_2) 26 (0, 0)) (by (with_reducible repeat (first | refine blk_drewN ?_ _ | refine blk_drew ?_ | refine blk_alloc ?_ _)); refine blk_far ?_ NB419_435.out _; (with_reducible repeat (first | refine blk_drewN ?_ _ | refine blk_drew ?_ | refine blk_alloc ?_ _)); refine blk_far ?_ NB419_435.out _; (with_reducible repeat (first | refine blk_drewN ?_ _ | refine blk_drew ?_ | refine blk_alloc ?_ _)); exact BK419.out) hb); have n1_ := Aside0.mk (blk_below (g := gb427) (o := .cells #[.int .i8 t423, .int .i8 t424] 41 (0, 0)) (by (with_reducible repeat (first | refine blk_drewN ?_ _ | refine blk_drew ?_ | refine blk_alloc ?_ _)); refine blk_far ?_ NB427_435.out _; (with_reducible repeat (first | refine blk_drewN ?_ _ | refine blk_drew ?_ | refine blk_alloc ?_ _)); refine blk_far ?_ NB427_435.out _; (with_reducible repeat (first | refine blk_drewN ?_ _ | refine blk_drew ?_ | refine blk_alloc ?_ _)); exact BK427.out) hb); have n2_ := Aside0.mk (blk_below (g := gb435) (o := .cells #[.int .i8 t431, .int .i8 t432] 41 (0, 0)) (by (with_reducible repeat (first | refine blk_drewN ?_ _ | refine blk_drew ?_ | refine blk_alloc ?_ _)); refine blk_put (cs := #[.int .i8 t431, .int .i8 0]) ?_ 1 _ rfl; (with_reducible repeat (first | refine blk_drewN ?_ _ | refine blk_drew ?_ | refine blk_alloc ?_ _)); refine blk_put (cs := #[.int .i8 0, .int .i8 0]) ?_ 0 _ rfl; (with_reducible repeat (first | refine blk_drewN ?_ _ | refine blk_drew ?_ | refine blk_alloc ?_ _)); exact BK435.out) hb); have n3_ := bst HB hb; clear BK419; clear BK427; clear BK435; clear HB; have BK419 := n0_; have BK427 := n1_; have BK435 := n2_; have HB := n3_; clear n0_ n1_ n2_ n3_; (try clear hb); (try clear hb2); (try clear hk); (try clear hi)))
     go_ret
     exact ⟨by first | rfl | (simp [errW_none, errW_some] <;> rfl) | (simp [*, errW_none, errW_some] <;> rfl), pbs HB⟩
    ·rw [if_neg c12] at H
     have c12b0 : (t434 == t426) = false := beq_eq_false_iff_ne.mpr c12
     have c12b1 : (t434 != t426) = true := bne_iff_ne.mpr c12
     obtain rfl := Option.some.inj H
     go_enter Tryd.func6, Tryd.ntmps6
     go_wp2_with (first | ((with_reducible refine gate_dst (N := 2) rfl ?_); refine box_event ?hg (N := 2) ?hd (cs := (mixA (Value.int .u16) [.int .i8 a0_0, .int .i8 a0_1] a0_2)) (t := 26) ?hr ?_; (case hd => rfl); (case hg => rfl); (case hr => first | (go_simp; done) | (go_simp; rfl)); intro gb419 hg w29 hbox hb; have n0_ := bst HB hb; have n1_ := Aside0.mk (hbox); have n2_ := gwl HB hg; have n3_ := gwl HB hg; clear HB; have HB := n0_; have BK419 := n1_; have GW419 := n2_; have GE419 := n3_; clear n0_ n1_ n2_ n3_; clear hb hbox hg) | ((with_reducible refine gate_dst (N := 15) rfl ?_); refine wpList_run0 (v := .agg (mixA (Value.int .u16) [.int .i8 a0_0, .int .i8 a0_1] a0_2)) rfl (load_mix_run (P := Tryd.prog) 26 (.tmp 2) rfl gb419 rfl (show World.rangeAt _ gb419 0 ([.int .i8 a0_0, .int .i8 a0_1] ++ a0_2.l.map (Value.int .u16)) from mix_range (show (World.heap _)[gb419]? = some (.cells (mixA (Value.int .u16) [.int .i8 a0_0, .int .i8 a0_1] a0_2) 26 (0, 0)) from by (with_reducible repeat (first | refine blk_drewN ?_ _ | refine blk_drew ?_ | refine blk_alloc ?_ _)); exact BK419.out)) Tryd.underlying26 rfl (by kernel_rfl) rfl) ?_) | ((with_reducible refine gate_callee (f := 8) rfl ?_); refine goesL_ (some 16) rfl rfl Tryd.func8 (by kernel_rfl) rfl #[.agg (mixA (Value.int .u16) [.int .i8 a0_0, .int .i8 a0_1] a0_2)] rfl (by (try simp only [List.map_toArray, List.map_cons, List.map_nil]); first | done | rfl | (simp only [List.length_drop, List.length_take]; rfl)) ?_; (with_reducible refine (laws_toRoom.calls k a0_0 a0_1 a0_2 t420 t421 t422 _ A5.out).mono ?_); rintro e w31 ⟨rfl, hb⟩; refine ⟨_, rfl, ?_⟩; have n0_ := bkb BK419 hb; have n1_ := bst HB hb; clear BK419; clear HB; have BK419 := n0_; have HB := n1_; clear n0_ n1_; (try clear hb); (try clear hb2); (try clear hk); (try clear hi)) | ((with_reducible refine gate_callee (f := 16) rfl ?_); refine goesL_ (some 18) rfl rfl Tryd.func16 (by kernel_rfl) rfl #[.agg (mixA (Value.int .u16) [.int .i8 t420, .int .i8 t421] t422), .string a1] rfl (by (try simp only [List.map_toArray, List.map_cons, List.map_nil]); first | done | rfl | (simp only [List.length_drop, List.length_take]; rfl)) ?_; (with_reducible refine (spec_WhereNow.calls k t420 t421 t422 a1 t423 t424 t425 t426 _ A6.out).mono ?_); rintro e w32 ⟨rfl, hb⟩; refine ⟨_, rfl, ?_⟩; have n0_ := bkb BK419 hb; have n1_ := bst HB hb; clear BK419; clear HB; have BK419 := n0_; have HB := n1_; clear n0_ n1_; (try clear hb); (try clear hb2); (try clear hk); (try clear hi)) | ((with_reducible refine gate_dst (N := 5) rfl ?_); refine box_event ?hg (N := 5) ?hd (cs := #[.int .i8 0, .int .i8 0]) (t := 41) ?hr ?_; (case hd => rfl); (case hg => rfl); (case hr => first | (go_simp; done) | (go_simp; rfl)); intro gb427 hg w33 hbox hb; have n0_ := bkb BK419 hb; have n1_ := bst HB hb; have n2_ := Aside0.mk (hbox); have n3_ := gwl HB hg; have n4_ := gwl HB hg; have n5_ := nbl BK419 hg; have n6_ := nbg BK419 hg; clear BK419; clear HB; have BK419 := n0_; have HB := n1_; have BK427 := n2_; have GW427 := n3_; have GE427 := n4_; have NB419_427 := n5_; have NB427_419 := n6_; clear n0_ n1_ n2_ n3_ n4_ n5_ n6_; clear hb hbox hg; have hnb34 := NB427_419.out; have hnc34 := NB419_427.out; have hcz35_0 : w33.cell? ⟨gb427, 0, none⟩ = some (.int .i8 0) := (blk_cell BK427.out 0).trans rfl; have hcz35_1 : w33.cell? ⟨gb427, 1, none⟩ = some (.int .i8 0) := (blk_cell BK427.out 1).trans rfl; have hfz35_0 := blk_frozen BK427.out 0; have hfz35_1 := blk_frozen BK427.out 1) | ((with_reducible refine gate_dst (N := 23) rfl ?_); refine wpList_run0 (v := .agg (mixA (Value.int .u16) [.int .i8 a0_0, .int .i8 a0_1] a0_2)) rfl (load_mix_run (P := Tryd.prog) 26 (.tmp 2) rfl gb419 rfl (show World.rangeAt _ gb419 0 ([.int .i8 a0_0, .int .i8 a0_1] ++ a0_2.l.map (Value.int .u16)) from mix_range (show (World.heap _)[gb419]? = some (.cells (mixA (Value.int .u16) [.int .i8 a0_0, .int .i8 a0_1] a0_2) 26 (0, 0)) from by (with_reducible repeat (first | refine blk_drewN ?_ _ | refine blk_drew ?_ | refine blk_alloc ?_ _)); refine blk_far ?_ NB419_427.out _; (with_reducible repeat (first | refine blk_drewN ?_ _ | refine blk_drew ?_ | refine blk_alloc ?_ _)); refine blk_far ?_ NB419_427.out _; (with_reducible repeat (first | refine blk_drewN ?_ _ | refine blk_drew ?_ | refine blk_alloc ?_ _)); exact BK419.out)) Tryd.underlying26 rfl (by kernel_rfl) rfl) ?_) | ((with_reducible refine gate_callee (f := 8) rfl ?_); refine goesL_ (some 24) rfl rfl Tryd.func8 (by kernel_rfl) rfl #[.agg (mixA (Value.int .u16) [.int .i8 a0_0, .int .i8 a0_1] a0_2)] rfl (by (try simp only [List.map_toArray, List.map_cons, List.map_nil]); first | done | rfl | (simp only [List.length_drop, List.length_take]; rfl)) ?_; (with_reducible refine (laws_toRoom.calls k a0_0 a0_1 a0_2 t428 t429 t430 _ A7.out).mono ?_); rintro e w37 ⟨rfl, hb⟩; refine ⟨_, rfl, ?_⟩; have n0_ := Aside0.mk (blk_below (g := gb419) (o := .cells (mixA (Value.int .u16) [.int .i8 a0_0, .int .i8 a0_1] a0_2) 26 (0, 0)) (by (with_reducible repeat (first | refine blk_drewN ?_ _ | refine blk_drew ?_ | refine blk_alloc ?_ _)); refine blk_far ?_ NB419_427.out _; (with_reducible repeat (first | refine blk_drewN ?_ _ | refine blk_drew ?_ | refine blk_alloc ?_ _)); refine blk_far ?_ NB419_427.out _; (with_reducible repeat (first | refine blk_drewN ?_ _ | refine blk_drew ?_ | refine blk_alloc ?_ _)); exact BK419.out) hb); have n1_ := Aside0.mk (blk_below (g := gb427) (o := .cells #[.int .i8 t423, .int .i8 t424] 41 (0, 0)) (by (with_reducible repeat (first | refine blk_drewN ?_ _ | refine blk_drew ?_ | refine blk_alloc ?_ _)); refine blk_put (cs := #[.int .i8 t423, .int .i8 0]) ?_ 1 _ rfl; (with_reducible repeat (first | refine blk_drewN ?_ _ | refine blk_drew ?_ | refine blk_alloc ?_ _)); refine blk_put (cs := #[.int .i8 0, .int .i8 0]) ?_ 0 _ rfl; (with_reducible repeat (first | refine blk_drewN ?_ _ | refine blk_drew ?_ | refine blk_alloc ?_ _)); exact BK427.out) hb); have n2_ := bst HB hb; clear BK419; clear BK427; clear HB; have BK419 := n0_; have BK427 := n1_; have HB := n2_; clear n0_ n1_ n2_; (try clear hb); (try clear hb2); (try clear hk); (try clear hi)) | ((with_reducible refine gate_callee (f := 17) rfl ?_); refine goesL_ (some 26) rfl rfl Tryd.func17 (by kernel_rfl) rfl #[.agg (mixA (Value.int .u16) [.int .i8 t428, .int .i8 t429] t430), .string a1] rfl (by (try simp only [List.map_toArray, List.map_cons, List.map_nil]); first | done | rfl | (simp only [List.length_drop, List.length_take]; rfl)) ?_; (with_reducible refine (impl_WhereNow.calls k t428 t429 t430 a1 t431 t432 t433 t434 _ A8.out).mono ?_); rintro e w38 ⟨rfl, hb⟩; refine ⟨_, rfl, ?_⟩; have n0_ := bkb BK419 hb; have n1_ := bkb BK427 hb; have n2_ := bst HB hb; clear BK419; clear BK427; clear HB; have BK419 := n0_; have BK427 := n1_; have HB := n2_; clear n0_ n1_ n2_; (try clear hb); (try clear hb2); (try clear hk); (try clear hi)) | ((with_reducible refine gate_dst (N := 8) rfl ?_); refine box_event ?hg (N := 8) ?hd (cs := #[.int .i8 0, .int .i8 0]) (t := 41) ?hr ?_; (case hd => rfl); (case hg => rfl); (case hr => first | (go_simp; done) | (go_simp; rfl)); intro gb435 hg w39 hbox hb; have n0_ := bkb BK419 hb; have n1_ := bkb BK427 hb; have n2_ := bst HB hb; have n3_ := Aside0.mk (hbox); have n4_ := gwl HB hg; have n5_ := gwl HB hg; have n6_ := nbl BK419 hg; have n7_ := nbg BK419 hg; have n8_ := nbl BK427 hg; have n9_ := nbg BK427 hg; clear BK419; clear BK427; clear HB; have BK419 := n0_; have BK427 := n1_; have HB := n2_; have BK435 := n3_; have GW435 := n4_; have GE435 := n5_; have NB419_435 := n6_; have NB435_419 := n7_; have NB427_435 := n8_; have NB435_427 := n9_; clear n0_ n1_ n2_ n3_ n4_ n5_ n6_ n7_ n8_ n9_; clear hb hbox hg; have hnb40 := NB435_419.out; have hnc40 := NB419_435.out; have hnb41 := NB435_427.out; have hnc41 := NB427_435.out; have hcz42_0 : w39.cell? ⟨gb435, 0, none⟩ = some (.int .i8 0) := (blk_cell BK435.out 0).trans rfl; have hcz42_1 : w39.cell? ⟨gb435, 1, none⟩ = some (.int .i8 0) := (blk_cell BK435.out 1).trans rfl; have hfz42_0 := blk_frozen BK435.out 0; have hfz42_1 := blk_frozen BK435.out 1; have hcz43_0 : w39.cell? ⟨gb427, 0, none⟩ = some (.int .i8 t423) := (blk_cell BK427.out 0).trans rfl; have hcz43_1 : w39.cell? ⟨gb427, 1, none⟩ = some (.int .i8 t424) := (blk_cell BK427.out 1).trans rfl; have hfz43_0 := blk_frozen BK427.out 0; have hfz43_1 := blk_frozen BK427.out 1) | ((with_reducible refine gate_callee (f := 18) rfl ?_); refine goesL_ (some 32) rfl rfl Tryd.func18 (by kernel_rfl) rfl #[.agg #[.int .i8 t431, .int .i8 t432], .agg #[.int .i8 t423, .int .i8 t424]] rfl (by (try simp only [List.map_toArray, List.map_cons, List.map_nil]); first | done | rfl | (simp only [List.length_drop, List.length_take]; rfl)) ?_; (with_reducible refine (laws_eqSpot.calls t431 t432 t423 t424 true _ A9.out).mono ?_); rintro e w44 ⟨rfl, hb⟩; refine ⟨_, rfl, ?_⟩; have n0_ := Aside0.mk (blk_below (g := gb419) (o := .cells (mixA (Value.int .u16) [.int .i8 a0_0, .int .i8 a0_1] a0_2) 26 (0, 0)) (by (with_reducible repeat (first | refine blk_drewN ?_ _ | refine blk_drew ?_ | refine blk_alloc ?_ _)); refine blk_far ?_ NB419_435.out _; (with_reducible repeat (first | refine blk_drewN ?_ _ | refine blk_drew ?_ | refine blk_alloc ?_ _)); refine blk_far ?_ NB419_435.out _; (with_reducible repeat (first | refine blk_drewN ?_ _ | refine blk_drew ?_ | refine blk_alloc ?_ _)); exact BK419.out) hb); have n1_ := Aside0.mk (blk_below (g := gb427) (o := .cells #[.int .i8 t423, .int .i8 t424] 41 (0, 0)) (by (with_reducible repeat (first | refine blk_drewN ?_ _ | refine blk_drew ?_ | refine blk_alloc ?_ _)); refine blk_far ?_ NB427_435.out _; (with_reducible repeat (first | refine blk_drewN ?_ _ | refine blk_drew ?_ | refine blk_alloc ?_ _)); refine blk_far ?_ NB427_435.out _; (with_reducible repeat (first | refine blk_drewN ?_ _ | refine blk_drew ?_ | refine blk_alloc ?_ _)); exact BK427.out) hb); have n2_ := Aside0.mk (blk_below (g := gb435) (o := .cells #[.int .i8 t431, .int .i8 t432] 41 (0, 0)) (by (with_reducible repeat (first | refine blk_drewN ?_ _ | refine blk_drew ?_ | refine blk_alloc ?_ _)); refine blk_put (cs := #[.int .i8 t431, .int .i8 0]) ?_ 1 _ rfl; (with_reducible repeat (first | refine blk_drewN ?_ _ | refine blk_drew ?_ | refine blk_alloc ?_ _)); refine blk_put (cs := #[.int .i8 0, .int .i8 0]) ?_ 0 _ rfl; (with_reducible repeat (first | refine blk_drewN ?_ _ | refine blk_drew ?_ | refine blk_alloc ?_ _)); exact BK435.out) hb); have n3_ := bst HB hb; clear BK419; clear BK427; clear BK435; clear HB; have BK419 := n0_; have BK427 := n1_; have BK435 := n2_; have HB := n3_; clear n0_ n1_ n2_ n3_; (try clear hb); (try clear hb2); (try clear hk); (try clear hi)))
     go_ret
     exact ⟨by first | rfl | (simp [errW_none, errW_some] <;> rfl) | (simp [*, errW_none, errW_some] <;> rfl), pbs HB⟩
   ·rw [if_neg c11] at H
    have c11b0 : (t433 == t425) = false := beq_eq_false_iff_ne.mpr c11
    have c11b1 : (t433 != t425) = true := bne_iff_ne.mpr c11
    obtain rfl := Option.some.inj H
    go_enter Tryd.func6, Tryd.ntmps6
    go_wp2_with (first | ((with_reducible refine gate_dst (N := 2) rfl ?_); refine box_event ?hg (N := 2) ?hd (cs := (mixA (Value.int .u16) [.int .i8 a0_0, .int .i8 a0_1] a0_2)) (t := 26) ?hr ?_; (case hd => rfl); (case hg => rfl); (case hr => first | (go_simp; done) | (go_simp; rfl)); intro gb419 hg w45 hbox hb; have n0_ := bst HB hb; have n1_ := Aside0.mk (hbox); have n2_ := gwl HB hg; have n3_ := gwl HB hg; clear HB; have HB := n0_; have BK419 := n1_; have GW419 := n2_; have GE419 := n3_; clear n0_ n1_ n2_ n3_; clear hb hbox hg) | ((with_reducible refine gate_dst (N := 15) rfl ?_); refine wpList_run0 (v := .agg (mixA (Value.int .u16) [.int .i8 a0_0, .int .i8 a0_1] a0_2)) rfl (load_mix_run (P := Tryd.prog) 26 (.tmp 2) rfl gb419 rfl (show World.rangeAt _ gb419 0 ([.int .i8 a0_0, .int .i8 a0_1] ++ a0_2.l.map (Value.int .u16)) from mix_range (show (World.heap _)[gb419]? = some (.cells (mixA (Value.int .u16) [.int .i8 a0_0, .int .i8 a0_1] a0_2) 26 (0, 0)) from by (with_reducible repeat (first | refine blk_drewN ?_ _ | refine blk_drew ?_ | refine blk_alloc ?_ _)); exact BK419.out)) Tryd.underlying26 rfl (by kernel_rfl) rfl) ?_) | ((with_reducible refine gate_callee (f := 8) rfl ?_); refine goesL_ (some 16) rfl rfl Tryd.func8 (by kernel_rfl) rfl #[.agg (mixA (Value.int .u16) [.int .i8 a0_0, .int .i8 a0_1] a0_2)] rfl (by (try simp only [List.map_toArray, List.map_cons, List.map_nil]); first | done | rfl | (simp only [List.length_drop, List.length_take]; rfl)) ?_; (with_reducible refine (laws_toRoom.calls k a0_0 a0_1 a0_2 t420 t421 t422 _ A5.out).mono ?_); rintro e w47 ⟨rfl, hb⟩; refine ⟨_, rfl, ?_⟩; have n0_ := bkb BK419 hb; have n1_ := bst HB hb; clear BK419; clear HB; have BK419 := n0_; have HB := n1_; clear n0_ n1_; (try clear hb); (try clear hb2); (try clear hk); (try clear hi)) | ((with_reducible refine gate_callee (f := 16) rfl ?_); refine goesL_ (some 18) rfl rfl Tryd.func16 (by kernel_rfl) rfl #[.agg (mixA (Value.int .u16) [.int .i8 t420, .int .i8 t421] t422), .string a1] rfl (by (try simp only [List.map_toArray, List.map_cons, List.map_nil]); first | done | rfl | (simp only [List.length_drop, List.length_take]; rfl)) ?_; (with_reducible refine (spec_WhereNow.calls k t420 t421 t422 a1 t423 t424 t425 t426 _ A6.out).mono ?_); rintro e w48 ⟨rfl, hb⟩; refine ⟨_, rfl, ?_⟩; have n0_ := bkb BK419 hb; have n1_ := bst HB hb; clear BK419; clear HB; have BK419 := n0_; have HB := n1_; clear n0_ n1_; (try clear hb); (try clear hb2); (try clear hk); (try clear hi)) | ((with_reducible refine gate_dst (N := 5) rfl ?_); refine box_event ?hg (N := 5) ?hd (cs := #[.int .i8 0, .int .i8 0]) (t := 41) ?hr ?_; (case hd => rfl); (case hg => rfl); (case hr => first | (go_simp; done) | (go_simp; rfl)); intro gb427 hg w49 hbox hb; have n0_ := bkb BK419 hb; have n1_ := bst HB hb; have n2_ := Aside0.mk (hbox); have n3_ := gwl HB hg; have n4_ := gwl HB hg; have n5_ := nbl BK419 hg; have n6_ := nbg BK419 hg; clear BK419; clear HB; have BK419 := n0_; have HB := n1_; have BK427 := n2_; have GW427 := n3_; have GE427 := n4_; have NB419_427 := n5_; have NB427_419 := n6_; clear n0_ n1_ n2_ n3_ n4_ n5_ n6_; clear hb hbox hg; have hnb50 := NB427_419.out; have hnc50 := NB419_427.out; have hcz51_0 : w49.cell? ⟨gb427, 0, none⟩ = some (.int .i8 0) := (blk_cell BK427.out 0).trans rfl; have hcz51_1 : w49.cell? ⟨gb427, 1, none⟩ = some (.int .i8 0) := (blk_cell BK427.out 1).trans rfl; have hfz51_0 := blk_frozen BK427.out 0; have hfz51_1 := blk_frozen BK427.out 1) | ((with_reducible refine gate_dst (N := 23) rfl ?_); refine wpList_run0 (v := .agg (mixA (Value.int .u16) [.int .i8 a0_0, .int .i8 a0_1] a0_2)) rfl (load_mix_run (P := Tryd.prog) 26 (.tmp 2) rfl gb419 rfl (show World.rangeAt _ gb419 0 ([.int .i8 a0_0, .int .i8 a0_1] ++ a0_2.l.map (Value.int .u16)) from mix_range (show (World.heap _)[gb419]? = some (.cells (mixA (Value.int .u16) [.int .i8 a0_0, .int .i8 a0_1] a0_2) 26 (0, 0)) from by (with_reducible repeat (first | refine blk_drewN ?_ _ | refine blk_drew ?_ | refine blk_alloc ?_ _)); refine blk_far ?_ NB419_427.out _; (with_reducible repeat (first | refine blk_drewN ?_ _ | refine blk_drew ?_ | refine blk_alloc ?_ _)); refine blk_far ?_ NB419_427.out _; (with_reducible repeat (first | refine blk_drewN ?_ _ | refine blk_drew ?_ | refine blk_alloc ?_ _)); exact BK419.out)) Tryd.underlying26 rfl (by kernel_rfl) rfl) ?_) | ((with_reducible refine gate_callee (f := 8) rfl ?_); refine goesL_ (some 24) rfl rfl Tryd.func8 (by kernel_rfl) rfl #[.agg (mixA (Value.int .u16) [.int .i8 a0_0, .int .i8 a0_1] a0_2)] rfl (by (try simp only [List.map_toArray, List.map_cons, List.map_nil]); first | done | rfl | (simp only [List.length_drop, List.length_take]; rfl)) ?_; (with_reducible refine (laws_toRoom.calls k a0_0 a0_1 a0_2 t428 t429 t430 _ A7.out).mono ?_); rintro e w53 ⟨rfl, hb⟩; refine ⟨_, rfl, ?_⟩; have n0_ := Aside0.mk (blk_below (g := gb419) (o := .cells (mixA (Value.int .u16) [.int .i8 a0_0, .int .i8 a0_1] a0_2) 26 (0, 0)) (by (with_reducible repeat (first | refine blk_drewN ?_ _ | refine blk_drew ?_ | refine blk_alloc ?_ _)); refine blk_far ?_ NB419_427.out _; (with_reducible repeat (first | refine blk_drewN ?_ _ | refine blk_drew ?_ | refine blk_alloc ?_ _)); refine blk_far ?_ NB419_427.out _; (with_reducible repeat (first | refine blk_drewN ?_ _ | refine blk_drew ?_ | refine blk_alloc ?_ _)); exact BK419.out) hb); have n1_ := Aside0.mk (blk_below (g := gb427) (o := .cells #[.int .i8 t423, .int .i8 t424] 41 (0, 0)) (by (with_reducible repeat (first | refine blk_drewN ?_ _ | refine blk_drew ?_ | refine blk_alloc ?_ _)); refine blk_put (cs := #[.int .i8 t423, .int .i8 0]) ?_ 1 _ rfl; (with_reducible repeat (first | refine blk_drewN ?_ _ | refine blk_drew ?_ | refine blk_alloc ?_ _)); refine blk_put (cs := #[.int .i8 0, .int .i8 0]) ?_ 0 _ rfl; (with_reducible repeat (first | refine blk_drewN ?_ _ | refine blk_drew ?_ | refine blk_alloc ?_ _)); exact BK427.out) hb); have n2_ := bst HB hb; clear BK419; clear BK427; clear HB; have BK419 := n0_; have BK427 := n1_; have HB := n2_; clear n0_ n1_ n2_; (try clear hb); (try clear hb2); (try clear hk); (try clear hi)) | ((with_reducible refine gate_callee (f := 17) rfl ?_); refine goesL_ (some 26) rfl rfl Tryd.func17 (by kernel_rfl) rfl #[.agg (mixA (Value.int .u16) [.int .i8 t428, .int .i8 t429] t430), .string a1] rfl (by (try simp only [List.map_toArray, List.map_cons, List.map_nil]); first | done | rfl | (simp only [List.length_drop, List.length_take]; rfl)) ?_; (with_reducible refine (impl_WhereNow.calls k t428 t429 t430 a1 t431 t432 t433 t434 _ A8.out).mono ?_); rintro e w54 ⟨rfl, hb⟩; refine ⟨_, rfl, ?_⟩; have n0_ := bkb BK419 hb; have n1_ := bkb BK427 hb; have n2_ := bst HB hb; clear BK419; clear BK427; clear HB; have BK419 := n0_; have BK427 := n1_; have HB := n2_; clear n0_ n1_ n2_; (try clear hb); (try clear hb2); (try clear hk); (try clear hi)) | ((with_reducible refine gate_dst (N := 8) rfl ?_); refine box_event ?hg (N := 8) ?hd (cs := #[.int .i8 0, .int .i8 0]) (t := 41) ?hr ?_; (case hd => rfl); (case hg => rfl); (case hr => first | (go_simp; done) | (go_simp; rfl)); intro gb435 hg w55 hbox hb; have n0_ := bkb BK419 hb; have n1_ := bkb BK427 hb; have n2_ := bst HB hb; have n3_ := Aside0.mk (hbox); have n4_ := gwl HB hg; have n5_ := gwl HB hg; have n6_ := nbl BK419 hg; have n7_ := nbg BK419 hg; have n8_ := nbl BK427 hg; have n9_ := nbg BK427 hg; clear BK419; clear BK427; clear HB; have BK419 := n0_; have BK427 := n1_; have HB := n2_; have BK435 := n3_; have GW435 := n4_; have GE435 := n5_; have NB419_435 := n6_; have NB435_419 := n7_; have NB427_435 := n8_; have NB435_427 := n9_; clear n0_ n1_ n2_ n3_ n4_ n5_ n6_ n7_ n8_ n9_; clear hb hbox hg; have hnb56 := NB435_419.out; have hnc56 := NB419_435.out; have hnb57 := NB435_427.out; have hnc57 := NB427_435.out; have hcz58_0 : w55.cell? ⟨gb435, 0, none⟩ = some (.int .i8 0) := (blk_cell BK435.out 0).trans rfl; have hcz58_1 : w55.cell? ⟨gb435, 1, none⟩ = some (.int .i8 0) := (blk_cell BK435.out 1).trans rfl; have hfz58_0 := blk_frozen BK435.out 0; have hfz58_1 := blk_frozen BK435.out 1; have hcz59_0 : w55.cell? ⟨gb427, 0, none⟩ = some (.int .i8 t423) := (blk_cell BK427.out 0).trans rfl; have hcz59_1 : w55.cell? ⟨gb427, 1, none⟩ = some (.int .i8 t424) := (blk_cell BK427.out 1).trans rfl; have hfz59_0 := blk_frozen BK427.out 0; have hfz59_1 := blk_frozen BK427.out 1) | ((with_reducible refine gate_callee (f := 18) rfl ?_); refine goesL_ (some 32) rfl rfl Tryd.func18 (by kernel_rfl) rfl #[.agg #[.int .i8 t431, .int .i8 t432], .agg #[.int .i8 t423, .int .i8 t424]] rfl (by (try simp only [List.map_toArray, List.map_cons, List.map_nil]); first | done | rfl | (simp only [List.length_drop, List.length_take]; rfl)) ?_; (with_reducible refine (laws_eqSpot.calls t431 t432 t423 t424 true _ A9.out).mono ?_); rintro e w60 ⟨rfl, hb⟩; refine ⟨_, rfl, ?_⟩; have n0_ := Aside0.mk (blk_below (g := gb419) (o := .cells (mixA (Value.int .u16) [.int .i8 a0_0, .int .i8 a0_1] a0_2) 26 (0, 0)) (by (with_reducible repeat (first | refine blk_drewN ?_ _ | refine blk_drew ?_ | refine blk_alloc ?_ _)); refine blk_far ?_ NB419_435.out _; (with_reducible repeat (first | refine blk_drewN ?_ _ | refine blk_drew ?_ | refine blk_alloc ?_ _)); refine blk_far ?_ NB419_435.out _; (with_reducible repeat (first | refine blk_drewN ?_ _ | refine blk_drew ?_ | refine blk_alloc ?_ _)); exact BK419.out) hb); have n1_ := Aside0.mk (blk_below (g := gb427) (o := .cells #[.int .i8 t423, .int .i8 t424] 41 (0, 0)) (by (with_reducible repeat (first | refine blk_drewN ?_ _ | refine blk_drew ?_ | refine blk_alloc ?_ _)); refine blk_far ?_ NB427_435.out _; (with_reducible repeat (first | refine blk_drewN ?_ _ | refine blk_drew ?_ | refine blk_alloc ?_ _)); refine blk_far ?_ NB427_435.out _; (with_reducible repeat (first | refine blk_drewN ?_ _ | refine blk_drew ?_ | refine blk_alloc ?_ _)); exact BK427.out) hb); have n2_ := Aside0.mk (blk_below (g := gb435) (o := .cells #[.int .i8 t431, .int .i8 t432] 41 (0, 0)) (by (with_reducible repeat (first | refine blk_drewN ?_ _ | refine blk_drew ?_ | refine blk_alloc ?_ _)); refine blk_put (cs := #[.int .i8 t431, .int .i8 0]) ?_ 1 _ rfl; (with_reducible repeat (first | refine blk_drewN ?_ _ | refine blk_drew ?_ | refine blk_alloc ?_ _)); refine blk_put (cs := #[.int .i8 0, .int .i8 0]) ?_ 0 _ rfl; (with_reducible repeat (first | refine blk_drewN ?_ _ | refine blk_drew ?_ | refine blk_alloc ?_ _)); exact BK435.out) hb); have n3_ := bst HB hb; clear BK419; clear BK427; clear BK435; clear HB; have BK419 := n0_; have BK427 := n1_; have BK435 := n2_; have HB := n3_; clear n0_ n1_ n2_ n3_; (try clear hb); (try clear hb2); (try clear hk); (try clear hi)))
    go_ret
    exact ⟨by first | rfl | (simp [errW_none, errW_some] <;> rfl) | (simp [*, errW_none, errW_some] <;> rfl), pbs HB⟩
  ·replace c10 := Bool.eq_false_iff.mpr c10
   subst c10
   have H1 : (some false) = some r := by rw [if_neg (show ¬ (false = true) by decide)] at H; exact H
   clear H
   have H := H1
   clear H1
   obtain rfl := Option.some.inj H
   go_enter Tryd.func6, Tryd.ntmps6
   go_wp2_with (first | ((with_reducible refine gate_dst (N := 2) rfl ?_); refine box_event ?hg (N := 2) ?hd (cs := (mixA (Value.int .u16) [.int .i8 a0_0, .int .i8 a0_1] a0_2)) (t := 26) ?hr ?_; (case hd => rfl); (case hg => rfl); (case hr => first | (go_simp; done) | (go_simp; rfl)); intro gb419 hg w61 hbox hb; have n0_ := bst HB hb; have n1_ := Aside0.mk (hbox); have n2_ := gwl HB hg; have n3_ := gwl HB hg; clear HB; have HB := n0_; have BK419 := n1_; have GW419 := n2_; have GE419 := n3_; clear n0_ n1_ n2_ n3_; clear hb hbox hg) | ((with_reducible refine gate_dst (N := 15) rfl ?_); refine wpList_run0 (v := .agg (mixA (Value.int .u16) [.int .i8 a0_0, .int .i8 a0_1] a0_2)) rfl (load_mix_run (P := Tryd.prog) 26 (.tmp 2) rfl gb419 rfl (show World.rangeAt _ gb419 0 ([.int .i8 a0_0, .int .i8 a0_1] ++ a0_2.l.map (Value.int .u16)) from mix_range (show (World.heap _)[gb419]? = some (.cells (mixA (Value.int .u16) [.int .i8 a0_0, .int .i8 a0_1] a0_2) 26 (0, 0)) from by (with_reducible repeat (first | refine blk_drewN ?_ _ | refine blk_drew ?_ | refine blk_alloc ?_ _)); exact BK419.out)) Tryd.underlying26 rfl (by kernel_rfl) rfl) ?_) | ((with_reducible refine gate_callee (f := 8) rfl ?_); refine goesL_ (some 16) rfl rfl Tryd.func8 (by kernel_rfl) rfl #[.agg (mixA (Value.int .u16) [.int .i8 a0_0, .int .i8 a0_1] a0_2)] rfl (by (try simp only [List.map_toArray, List.map_cons, List.map_nil]); first | done | rfl | (simp only [List.length_drop, List.length_take]; rfl)) ?_; (with_reducible refine (laws_toRoom.calls k a0_0 a0_1 a0_2 t420 t421 t422 _ A5.out).mono ?_); rintro e w63 ⟨rfl, hb⟩; refine ⟨_, rfl, ?_⟩; have n0_ := bkb BK419 hb; have n1_ := bst HB hb; clear BK419; clear HB; have BK419 := n0_; have HB := n1_; clear n0_ n1_; (try clear hb); (try clear hb2); (try clear hk); (try clear hi)) | ((with_reducible refine gate_callee (f := 16) rfl ?_); refine goesL_ (some 18) rfl rfl Tryd.func16 (by kernel_rfl) rfl #[.agg (mixA (Value.int .u16) [.int .i8 t420, .int .i8 t421] t422), .string a1] rfl (by (try simp only [List.map_toArray, List.map_cons, List.map_nil]); first | done | rfl | (simp only [List.length_drop, List.length_take]; rfl)) ?_; (with_reducible refine (spec_WhereNow.calls k t420 t421 t422 a1 t423 t424 t425 t426 _ A6.out).mono ?_); rintro e w64 ⟨rfl, hb⟩; refine ⟨_, rfl, ?_⟩; have n0_ := bkb BK419 hb; have n1_ := bst HB hb; clear BK419; clear HB; have BK419 := n0_; have HB := n1_; clear n0_ n1_; (try clear hb); (try clear hb2); (try clear hk); (try clear hi)) | ((with_reducible refine gate_dst (N := 5) rfl ?_); refine box_event ?hg (N := 5) ?hd (cs := #[.int .i8 0, .int .i8 0]) (t := 41) ?hr ?_; (case hd => rfl); (case hg => rfl); (case hr => first | (go_simp; done) | (go_simp; rfl)); intro gb427 hg w65 hbox hb; have n0_ := bkb BK419 hb; have n1_ := bst HB hb; have n2_ := Aside0.mk (hbox); have n3_ := gwl HB hg; have n4_ := gwl HB hg; have n5_ := nbl BK419 hg; have n6_ := nbg BK419 hg; clear BK419; clear HB; have BK419 := n0_; have HB := n1_; have BK427 := n2_; have GW427 := n3_; have GE427 := n4_; have NB419_427 := n5_; have NB427_419 := n6_; clear n0_ n1_ n2_ n3_ n4_ n5_ n6_; clear hb hbox hg; have hnb66 := NB427_419.out; have hnc66 := NB419_427.out; have hcz67_0 : w65.cell? ⟨gb427, 0, none⟩ = some (.int .i8 0) := (blk_cell BK427.out 0).trans rfl; have hcz67_1 : w65.cell? ⟨gb427, 1, none⟩ = some (.int .i8 0) := (blk_cell BK427.out 1).trans rfl; have hfz67_0 := blk_frozen BK427.out 0; have hfz67_1 := blk_frozen BK427.out 1) | ((with_reducible refine gate_dst (N := 23) rfl ?_); refine wpList_run0 (v := .agg (mixA (Value.int .u16) [.int .i8 a0_0, .int .i8 a0_1] a0_2)) rfl (load_mix_run (P := Tryd.prog) 26 (.tmp 2) rfl gb419 rfl (show World.rangeAt _ gb419 0 ([.int .i8 a0_0, .int .i8 a0_1] ++ a0_2.l.map (Value.int .u16)) from mix_range (show (World.heap _)[gb419]? = some (.cells (mixA (Value.int .u16) [.int .i8 a0_0, .int .i8 a0_1] a0_2) 26 (0, 0)) from by (with_reducible repeat (first | refine blk_drewN ?_ _ | refine blk_drew ?_ | refine blk_alloc ?_ _)); refine blk_far ?_ NB419_427.out _; (with_reducible repeat (first | refine blk_drewN ?_ _ | refine blk_drew ?_ | refine blk_alloc ?_ _)); refine blk_far ?_ NB419_427.out _; (with_reducible repeat (first | refine blk_drewN ?_ _ | refine blk_drew ?_ | refine blk_alloc ?_ _)); exact BK419.out)) Tryd.underlying26 rfl (by kernel_rfl) rfl) ?_) | ((with_reducible refine gate_callee (f := 8) rfl ?_); refine goesL_ (some 24) rfl rfl Tryd.func8 (by kernel_rfl) rfl #[.agg (mixA (Value.int .u16) [.int .i8 a0_0, .int .i8 a0_1] a0_2)] rfl (by (try simp only [List.map_toArray, List.map_cons, List.map_nil]); first | done | rfl | (simp only [List.length_drop, List.length_take]; rfl)) ?_; (with_reducible refine (laws_toRoom.calls k a0_0 a0_1 a0_2 t428 t429 t430 _ A7.out).mono ?_); rintro e w69 ⟨rfl, hb⟩; refine ⟨_, rfl, ?_⟩; have n0_ := Aside0.mk (blk_below (g := gb419) (o := .cells (mixA (Value.int .u16) [.int .i8 a0_0, .int .i8 a0_1] a0_2) 26 (0, 0)) (by (with_reducible repeat (first | refine blk_drewN ?_ _ | refine blk_drew ?_ | refine blk_alloc ?_ _)); refine blk_far ?_ NB419_427.out _; (with_reducible repeat (first | refine blk_drewN ?_ _ | refine blk_drew ?_ | refine blk_alloc ?_ _)); refine blk_far ?_ NB419_427.out _; (with_reducible repeat (first | refine blk_drewN ?_ _ | refine blk_drew ?_ | refine blk_alloc ?_ _)); exact BK419.out) hb); have n1_ := Aside0.mk (blk_below (g := gb427) (o := .cells #[.int .i8 t423, .int .i8 t424] 41 (0, 0)) (by (with_reducible repeat (first | refine blk_drewN ?_ _ | refine blk_drew ?_ | refine blk_alloc ?_ _)); refine blk_put (cs := #[.int .i8 t423, .int .i8 0]) ?_ 1 _ rfl; (with_reducible repeat (first | refine blk_drewN ?_ _ | refine blk_drew ?_ | refine blk_alloc ?_ _)); refine blk_put (cs := #[.int .i8 0, .int .i8 0]) ?_ 0 _ rfl; (with_reducible repeat (first | refine blk_drewN ?_ _ | refine blk_drew ?_ | refine blk_alloc ?_ _)); exact BK427.out) hb); have n2_ := bst HB hb; clear BK419; clear BK427; clear HB; have BK419 := n0_; have BK427 := n1_; have HB := n2_; clear n0_ n1_ n2_; (try clear hb); (try clear hb2); (try clear hk); (try clear hi)) | ((with_reducible refine gate_callee (f := 17) rfl ?_); refine goesL_ (some 26) rfl rfl Tryd.func17 (by kernel_rfl) rfl #[.agg (mixA (Value.int .u16) [.int .i8 t428, .int .i8 t429] t430), .string a1] rfl (by (try simp only [List.map_toArray, List.map_cons, List.map_nil]); first | done | rfl | (simp only [List.length_drop, List.length_take]; rfl)) ?_; (with_reducible refine (impl_WhereNow.calls k t428 t429 t430 a1 t431 t432 t433 t434 _ A8.out).mono ?_); rintro e w70 ⟨rfl, hb⟩; refine ⟨_, rfl, ?_⟩; have n0_ := bkb BK419 hb; have n1_ := bkb BK427 hb; have n2_ := bst HB hb; clear BK419; clear BK427; clear HB; have BK419 := n0_; have BK427 := n1_; have HB := n2_; clear n0_ n1_ n2_; (try clear hb); (try clear hb2); (try clear hk); (try clear hi)) | ((with_reducible refine gate_dst (N := 8) rfl ?_); refine box_event ?hg (N := 8) ?hd (cs := #[.int .i8 0, .int .i8 0]) (t := 41) ?hr ?_; (case hd => rfl); (case hg => rfl); (case hr => first | (go_simp; done) | (go_simp; rfl)); intro gb435 hg w71 hbox hb; have n0_ := bkb BK419 hb; have n1_ := bkb BK427 hb; have n2_ := bst HB hb; have n3_ := Aside0.mk (hbox); have n4_ := gwl HB hg; have n5_ := gwl HB hg; have n6_ := nbl BK419 hg; have n7_ := nbg BK419 hg; have n8_ := nbl BK427 hg; have n9_ := nbg BK427 hg; clear BK419; clear BK427; clear HB; have BK419 := n0_; have BK427 := n1_; have HB := n2_; have BK435 := n3_; have GW435 := n4_; have GE435 := n5_; have NB419_435 := n6_; have NB435_419 := n7_; have NB427_435 := n8_; have NB435_427 := n9_; clear n0_ n1_ n2_ n3_ n4_ n5_ n6_ n7_ n8_ n9_; clear hb hbox hg; have hnb72 := NB435_419.out; have hnc72 := NB419_435.out; have hnb73 := NB435_427.out; have hnc73 := NB427_435.out; have hcz74_0 : w71.cell? ⟨gb435, 0, none⟩ = some (.int .i8 0) := (blk_cell BK435.out 0).trans rfl; have hcz74_1 : w71.cell? ⟨gb435, 1, none⟩ = some (.int .i8 0) := (blk_cell BK435.out 1).trans rfl; have hfz74_0 := blk_frozen BK435.out 0; have hfz74_1 := blk_frozen BK435.out 1; have hcz75_0 : w71.cell? ⟨gb427, 0, none⟩ = some (.int .i8 t423) := (blk_cell BK427.out 0).trans rfl; have hcz75_1 : w71.cell? ⟨gb427, 1, none⟩ = some (.int .i8 t424) := (blk_cell BK427.out 1).trans rfl; have hfz75_0 := blk_frozen BK427.out 0; have hfz75_1 := blk_frozen BK427.out 1) | ((with_reducible refine gate_callee (f := 18) rfl ?_); refine goesL_ (some 32) rfl rfl Tryd.func18 (by kernel_rfl) rfl #[.agg #[.int .i8 t431, .int .i8 t432], .agg #[.int .i8 t423, .int .i8 t424]] rfl (by (try simp only [List.map_toArray, List.map_cons, List.map_nil]); first | done | rfl | (simp only [List.length_drop, List.length_take]; rfl)) ?_; (with_reducible refine (laws_eqSpot.calls t431 t432 t423 t424 false _ A9.out).mono ?_); rintro e w76 ⟨rfl, hb⟩; refine ⟨_, rfl, ?_⟩; have n0_ := Aside0.mk (blk_below (g := gb419) (o := .cells (mixA (Value.int .u16) [.int .i8 a0_0, .int .i8 a0_1] a0_2) 26 (0, 0)) (by (with_reducible repeat (first | refine blk_drewN ?_ _ | refine blk_drew ?_ | refine blk_alloc ?_ _)); refine blk_far ?_ NB419_435.out _; (with_reducible repeat (first | refine blk_drewN ?_ _ | refine blk_drew ?_ | refine blk_alloc ?_ _)); refine blk_far ?_ NB419_435.out _; (with_reducible repeat (first | refine blk_drewN ?_ _ | refine blk_drew ?_ | refine blk_alloc ?_ _)); exact BK419.out) hb); have n1_ := Aside0.mk (blk_below (g := gb427) (o := .cells #[.int .i8 t423, .int .i8 t424] 41 (0, 0)) (by (with_reducible repeat (first | refine blk_drewN ?_ _ | refine blk_drew ?_ | refine blk_alloc ?_ _)); refine blk_far ?_ NB427_435.out _; (with_reducible repeat (first | refine blk_drewN ?_ _ | refine blk_drew ?_ | refine blk_alloc ?_ _)); refine blk_far ?_ NB427_435.out _; (with_reducible repeat (first | refine blk_drewN ?_ _ | refine blk_drew ?_ | refine blk_alloc ?_ _)); exact BK427.out) hb); have n2_ := Aside0.mk (blk_below (g := gb435) (o := .cells #[.int .i8 t431, .int .i8 t432] 41 (0, 0)) (by (with_reducible repeat (first | refine blk_drewN ?_ _ | refine blk_drew ?_ | refine blk_alloc ?_ _)); refine blk_put (cs := #[.int .i8 t431, .int .i8 0]) ?_ 1 _ rfl; (with_reducible repeat (first | refine blk_drewN ?_ _ | refine blk_drew ?_ | refine blk_alloc ?_ _)); refine blk_put (cs := #[.int .i8 0, .int .i8 0]) ?_ 0 _ rfl; (with_reducible repeat (first | refine blk_drewN ?_ _ | refine blk_drew ?_ | refine blk_alloc ?_ _)); exact BK435.out) hb); have n3_ := bst HB hb; clear BK419; clear BK427; clear BK435; clear HB; have BK419 := n0_; have BK427 := n1_; have BK435 := n2_; have HB := n3_; clear n0_ n1_ n2_ n3_; (try clear hb); (try clear hb2); (try clear hk); (try clear hi)))
   go_ret
   exact ⟨by first | rfl | (simp [errW_none, errW_some] <;> rfl) | (simp [*, errW_none, errW_some] <;> rfl), pbs HB⟩
end Go.Proofs.YtdedijjbdkoekaaDoor.PB
end
section
namespace Go.Proofs.YtdedijjbdkoekaaDoor.PB
open Go.RowKit Go.Proofs.YtdedijjbdkoekaaDoorW.PrintWords Go.Proofs.YtdedijjbdkoekaaDoorW.PrintLast Go.Proofs.YtdedijjbdkoekaaDoorW.PrintMore Go.Proofs.YtdedijjbdkoekaaDoor.La
attribute [local go_sem] max2_int min2_int max_two min_two max_three min_three max_four min_four   -- for this text's walks alone
set_option linter.unusedVariables false
set_option linter.unusedSimpArgs false
def spec_MoveCrowd.f (k : Nat) (a0_0 : Int) (a0_1 : Int) (a0_2 : LA 10) (a1 : LA 40) (a2 : Int) : Option (LA 40 × Int) := (spec_l06Ok.f k a0_0 a0_1 a0_2 a1).bind fun t166 => (if t166 = true then ((spec_l06Letter.f a2).bind fun t167 => (if t167 = true then ((spec_l06Move.f k a0_0 a0_1 a0_2 a1 a2).bind fun t168 => (some (t168, 0))) else (some ((LA.zero 40), 5)))) else (some ((LA.zero 40), 1)))
theorem spec_MoveCrowd.mono : ∀ a0 a1 a2 a3 a4 k, LeO (spec_MoveCrowd.f k a0 a1 a2 a3 a4) (spec_MoveCrowd.f (k + 1) a0 a1 a2 a3 a4) := by
 intro a0 a1 a2 a3 a4 k
 unfold spec_MoveCrowd.f
 repeat' first
   | (with_reducible exact spec_l06Move.mono _ _ _ _ _ _)
   | (with_reducible exact spec_l06Ok.mono _ _ _ _ _)
   | (with_reducible exact LeO.refl _)
   | (with_reducible exact LeO.none _)
   | (with_reducible refine LeO.ite ?_ ?_)
   | (with_reducible refine LeO.bind ?_ (fun _ => ?_))
   | exact spec_l06Move.mono _ _ _ _ _ _
   | exact spec_l06Ok.mono _ _ _ _ _
   | exact LeO.none _
   | refine LeO.ite ?_ ?_
   | refine LeO.bind ?_ (fun _ => ?_)
def impl_MoveCrowd.f (k : Nat) (a0_0 : Int) (a0_1 : Int) (a0_2 : LA 10) (a1 : LA 40) (a2 : Int) : Option (LA 40 × Int) := (impl_MovesCrowd.f k a0_0 a0_1 a0_2 a1 (strOfNums (([a2] : List Int)))).bind fun bt250 => (some (bt250.1, bt250.2))
theorem impl_MoveCrowd.mono : ∀ a0 a1 a2 a3 a4 k, LeO (impl_MoveCrowd.f k a0 a1 a2 a3 a4) (impl_MoveCrowd.f (k + 1) a0 a1 a2 a3 a4) := by
 intro a0 a1 a2 a3 a4 k
 unfold impl_MoveCrowd.f
 repeat' first
   | (with_reducible exact impl_MovesCrowd.mono _ _ _ _ _ _)
   | (with_reducible exact LeO.refl _)
   | (with_reducible exact LeO.none _)
   | (with_reducible refine LeO.ite ?_ ?_)
   | (with_reducible refine LeO.bind ?_ (fun _ => ?_))
   | exact impl_MovesCrowd.mono _ _ _ _ _ _
   | exact LeO.none _
   | refine LeO.ite ?_ ?_
   | refine LeO.bind ?_ (fun _ => ?_)
end Go.Proofs.YtdedijjbdkoekaaDoor.PB
end
