/- The statement FnExactCrowdAt of this program: what its proof uses, part 9 of 10. The call returns true for all arguments. No condition of its own. -/
import Derived.Test.YtdedijjbdkoekaaZFnExactCrowdAt7
section
namespace Go.Proofs.Ytdedijjbdkoekaa.PB
open Go.RowKit Go.Proofs.YtdedijjbdkoekaaW.PrintWords Go.Proofs.YtdedijjbdkoekaaW.PrintLast Go.Proofs.YtdedijjbdkoekaaW.PrintMore Go.Proofs.Ytdedijjbdkoekaa.La
attribute [local go_sem] max2_int min2_int max_two min_two max_three min_three max_four min_four   -- for this text's walks alone
set_option linter.unusedVariables false
set_option linter.unusedSimpArgs false
def laws_FnExactCrowdAt.f (k : Nat) (a0_0 : Int) (a0_1 : Int) (a0_2 : LA 10) (a1_0 : Int) (a1_1 : Int) (a2 : Int) : Option (Bool) := (laws_toRoom.f k a0_0 a0_1 a0_2).bind fun bt310 => ((laws_toSpot.f a1_0 a1_1).bind fun bt313 => ((spec_CrowdAt.f k bt310.1 bt310.2.1 bt310.2.2 bt313.1 bt313.2 a2).bind fun bt315 => ((laws_toRoom.f k a0_0 a0_1 a0_2).bind fun bt318 => ((laws_toSpot.f a1_0 a1_1).bind fun bt321 => ((impl_CrowdAt.f k bt318.1 bt318.2.1 bt318.2.2 bt321.1 bt321.2 a2).bind fun bt323 => ((laws_eqCrowd.f k bt323.1 bt315.1).bind fun t326 => (if t326 = true then (if bt323.2 = bt315.2 then (some true) else (some false)) else (some false))))))))
theorem laws_FnExactCrowdAt.mono : ∀ a0 a1 a2 a3 a4 a5 k, LeO (laws_FnExactCrowdAt.f k a0 a1 a2 a3 a4 a5) (laws_FnExactCrowdAt.f (k + 1) a0 a1 a2 a3 a4 a5) := by
  intro a0 a1 a2 a3 a4 a5 k
  unfold laws_FnExactCrowdAt.f
  repeat' first
      | (with_reducible exact impl_CrowdAt.mono _ _ _ _ _ _ _)
      | (with_reducible exact laws_eqCrowd.mono _ _ _)
      | (with_reducible exact laws_toRoom.mono _ _ _ _)
      | (with_reducible exact spec_CrowdAt.mono _ _ _ _ _ _ _)
      | (with_reducible exact LeO.refl _)
      | (with_reducible exact LeO.none _)
      | (with_reducible refine LeO.ite ?_ ?_)
      | (with_reducible refine LeO.bind ?_ (fun _ => ?_))
      | exact impl_CrowdAt.mono _ _ _ _ _ _ _
      | exact laws_eqCrowd.mono _ _ _
      | exact laws_toRoom.mono _ _ _ _
      | exact spec_CrowdAt.mono _ _ _ _ _ _ _
      | exact LeO.none _
      | refine LeO.ite ?_ ?_
      | refine LeO.bind ?_ (fun _ => ?_)
def laws_FnExactCrowdAt.T1 : Bool × List (List Nat × List Nat) := (true, [([], []), ([0], [0]), ([], []), ([2, 1], [2]), ([], []), ([1, 3, 4, 3], [1, 3, 4]), ([5], [5]), ([6], [6]), ([6], [6]), ([], []), ([9, 7, 5, 0, 1, 2, 3, 4, 5, 6, 7, 9], [7, 9]), ([8, 10, 0, 1, 2, 3, 4, 5, 6, 7, 8, 9, 10], [8])])
def laws_FnExactCrowdAt.B1 : List Nat := [0, 1, 0, 7, 0, 31, 63, 127, 127, 0, 767, 2047]
theorem laws_FnExactCrowdAt.tab1 : rtab .any (opsOf Try.f7 1) = laws_FnExactCrowdAt.T1 := by kernel_rfl
theorem laws_FnExactCrowdAt.bits1 : waitsOk laws_FnExactCrowdAt.T1.2 laws_FnExactCrowdAt.B1 = true := by kernel_rfl
def laws_FnExactCrowdAt.T2 : Bool × List (List Nat × List Nat) := (true, [([], []), ([0], [0]), ([], []), ([2, 1], [2]), ([], []), ([1, 3, 4, 3], [1, 3, 4]), ([5], [5]), ([6], [6]), ([6], [6]), ([], []), ([9, 7, 5, 0, 1, 2, 3, 4, 5, 6, 7, 9], [7, 9]), ([8, 10, 0, 1, 2, 3, 4, 5, 6, 7, 8, 9, 10], [8])])
def laws_FnExactCrowdAt.B2 : List Nat := [0, 1, 0, 7, 0, 31, 63, 127, 127, 0, 767, 2047]
theorem laws_FnExactCrowdAt.tab2 : rtab .any (opsOf Try.f7 2) = laws_FnExactCrowdAt.T2 := by kernel_rfl
theorem laws_FnExactCrowdAt.bits2 : waitsOk laws_FnExactCrowdAt.T2.2 laws_FnExactCrowdAt.B2 = true := by kernel_rfl
set_option maxHeartbeats 8000000 in
set_option maxRecDepth 100000 in
theorem laws_FnExactCrowdAt.calls (k : Nat) (a0_0 : Int) (a0_1 : Int) (a0_2 : LA 10) (a1_0 : Int) (a1_1 : Int) (a2 : Int) (r : Bool) (w : World) (h : laws_FnExactCrowdAt.f k a0_0 a0_1 a0_2 a1_0 a1_1 a2 = some r) :
    Calls Try.prog 7 #[.agg (mixA (Value.int .u16) [.int .i8 a0_0, .int .i8 a0_1] a0_2), .agg #[.int .i8 a1_0, .int .i8 a1_1], .int .i64 a2] w fun e w' => e = .returned (.bool r) ∧ Below w.heap.size w w' := by
  have hu37 := Try.underlying37
  have hu31 := Try.underlying31
  have HB := Aside0.mk (Below.refl w.heap.size w)
  have H : ((laws_toRoom.f k a0_0 a0_1 a0_2).bind fun bt310 => ((laws_toSpot.f a1_0 a1_1).bind fun bt313 => ((spec_CrowdAt.f k bt310.1 bt310.2.1 bt310.2.2 bt313.1 bt313.2 a2).bind fun bt315 => ((laws_toRoom.f k a0_0 a0_1 a0_2).bind fun bt318 => ((laws_toSpot.f a1_0 a1_1).bind fun bt321 => ((impl_CrowdAt.f k bt318.1 bt318.2.1 bt318.2.2 bt321.1 bt321.2 a2).bind fun bt323 => ((laws_eqCrowd.f k bt323.1 bt315.1).bind fun t326 => (if t326 = true then (if bt323.2 = bt315.2 then (some true) else (some false)) else (some false))))))))) = some r := h
  clear h
  replace H := Option.bind_eq_some_iff.mp H
  obtain ⟨⟨t310, t311, t312⟩, A40, H⟩ := H
  replace H : ((laws_toSpot.f a1_0 a1_1).bind fun bt313 => ((spec_CrowdAt.f k t310 t311 t312 bt313.1 bt313.2 a2).bind fun bt315 => ((laws_toRoom.f k a0_0 a0_1 a0_2).bind fun bt318 => ((laws_toSpot.f a1_0 a1_1).bind fun bt321 => ((impl_CrowdAt.f k bt318.1 bt318.2.1 bt318.2.2 bt321.1 bt321.2 a2).bind fun bt323 => ((laws_eqCrowd.f k bt323.1 bt315.1).bind fun t326 => (if t326 = true then (if bt323.2 = bt315.2 then (some true) else (some false)) else (some false)))))))) = some r := H
  have A4 := Aside0.mk A40
  clear A40
  replace H := Option.bind_eq_some_iff.mp H
  obtain ⟨⟨t313, t314⟩, A50, H⟩ := H
  replace H : ((spec_CrowdAt.f k t310 t311 t312 t313 t314 a2).bind fun bt315 => ((laws_toRoom.f k a0_0 a0_1 a0_2).bind fun bt318 => ((laws_toSpot.f a1_0 a1_1).bind fun bt321 => ((impl_CrowdAt.f k bt318.1 bt318.2.1 bt318.2.2 bt321.1 bt321.2 a2).bind fun bt323 => ((laws_eqCrowd.f k bt323.1 bt315.1).bind fun t326 => (if t326 = true then (if bt323.2 = bt315.2 then (some true) else (some false)) else (some false))))))) = some r := H
  have A5 := Aside0.mk A50
  clear A50
  replace H := Option.bind_eq_some_iff.mp H
  obtain ⟨⟨t315, t316⟩, A60, H⟩ := H
  replace H : ((laws_toRoom.f k a0_0 a0_1 a0_2).bind fun bt318 => ((laws_toSpot.f a1_0 a1_1).bind fun bt321 => ((impl_CrowdAt.f k bt318.1 bt318.2.1 bt318.2.2 bt321.1 bt321.2 a2).bind fun bt323 => ((laws_eqCrowd.f k bt323.1 t315).bind fun t326 => (if t326 = true then (if bt323.2 = t316 then (some true) else (some false)) else (some false)))))) = some r := H
  have A6 := Aside0.mk A60
  clear A60
  replace H := Option.bind_eq_some_iff.mp H
  obtain ⟨⟨t318, t319, t320⟩, A70, H⟩ := H
  replace H : ((laws_toSpot.f a1_0 a1_1).bind fun bt321 => ((impl_CrowdAt.f k t318 t319 t320 bt321.1 bt321.2 a2).bind fun bt323 => ((laws_eqCrowd.f k bt323.1 t315).bind fun t326 => (if t326 = true then (if bt323.2 = t316 then (some true) else (some false)) else (some false))))) = some r := H
  have A7 := Aside0.mk A70
  clear A70
  replace H := Option.bind_eq_some_iff.mp H
  obtain ⟨⟨t321, t322⟩, A80, H⟩ := H
  replace H : ((impl_CrowdAt.f k t318 t319 t320 t321 t322 a2).bind fun bt323 => ((laws_eqCrowd.f k bt323.1 t315).bind fun t326 => (if t326 = true then (if bt323.2 = t316 then (some true) else (some false)) else (some false)))) = some r := H
  have A8 := Aside0.mk A80
  clear A80
  replace H := Option.bind_eq_some_iff.mp H
  obtain ⟨⟨t323, t324⟩, A90, H⟩ := H
  replace H : ((laws_eqCrowd.f k t323 t315).bind fun t326 => (if t326 = true then (if t324 = t316 then (some true) else (some false)) else (some false))) = some r := H
  have A9 := Aside0.mk A90
  clear A90
  replace H := Option.bind_eq_some_iff.mp H
  obtain ⟨t326, A100, H⟩ := H
  replace H : (if t326 = true then (if t324 = t316 then (some true) else (some false)) else (some false)) = some r := H
  have A10 := Aside0.mk A100
  clear A100
  by_cases c11 : t326 = true
  · subst c11
    have H1 : (if t324 = t316 then (some true) else (some false)) = some r := by rw [if_pos rfl] at H; exact H
    clear H
    have H := H1
    clear H1
    by_cases c12 : t324 = t316
    · rw [if_pos c12] at H
      have c12b0 : (t324 == t316) = true := beq_iff_eq.mpr c12
      have c12b1 : (t324 != t316) = false := bne_eq_false_iff_eq.mpr c12
      clear c12
      obtain rfl := Option.some.inj H
      go_enter Try.func7, Try.ntmps7
      try go_wp2_with (first | ((with_reducible refine gate_dst (N := 3) rfl ?_); refine box_event ?hg (N := 3) ?hd (cs := (mixA (Value.int .u16) [.int .i8 a0_0, .int .i8 a0_1] a0_2)) (t := 37) ?hr ?_; (case hd => rfl); (case hg => rfl); (case hr => first | (go_simp; done) | (go_simp; rfl)); intro gb308 hg w13 hbox hb; have n0_ := Aside0.mk (below_step (by repeat (first | (with_reducible first | exact HB.out | apply below_alloc | apply pw_below_drewN | apply below_drew1) | exact HB.out)) hb); have n1_ := Aside0.mk (hbox); have n2_ := Aside0.mk ((by rw [hg]; exact (below_size (by repeat (first | (with_reducible first | exact HB.out | apply below_alloc | apply pw_below_drewN | apply below_drew1) | exact HB.out))) : w.heap.size ≤ gb308)); have n3_ := Aside0.mk ((by rw [hg]; exact (below_size (by repeat (first | (with_reducible first | exact HB.out | apply below_alloc | apply pw_below_drewN | apply below_drew1) | exact HB.out))) : w.heap.size ≤ gb308)); clear HB; have HB := n0_; have BK308 := n1_; have GW308 := n2_; have GE308 := n3_; clear n0_ n1_ n2_ n3_; clear hb hbox hg) | ((with_reducible refine gate_dst (N := 4) rfl ?_); refine box_event ?hg (N := 4) ?hd (cs := #[.int .i8 a1_0, .int .i8 a1_1]) (t := 31) ?hr ?_; (case hd => rfl); (case hg => rfl); (case hr => first | (go_simp; done) | (go_simp; rfl)); intro gb309 hg w14 hbox hb; have n0_ := Aside0.mk (blk_below (g := gb308) (o := .cells (mixA (Value.int .u16) [.int .i8 a0_0, .int .i8 a0_1] a0_2) 37 (0, 0)) (by (with_reducible repeat (first | refine blk_drewN ?_ _ | refine blk_drew ?_ | refine blk_alloc ?_ _)); exact BK308.out) hb); have n1_ := Aside0.mk (below_step (by repeat (first | (with_reducible first | exact HB.out | apply below_alloc | apply pw_below_drewN | apply below_drew1 | refine below_set ?_ GE308.out) | exact HB.out)) hb); have n2_ := Aside0.mk (hbox); have n3_ := Aside0.mk ((by rw [hg]; exact (below_size (by repeat (first | (with_reducible first | exact HB.out | apply below_alloc | apply pw_below_drewN | apply below_drew1 | refine below_set ?_ GE308.out) | exact HB.out))) : w.heap.size ≤ gb309)); have n4_ := Aside0.mk ((by rw [hg]; exact (below_size (by repeat (first | (with_reducible first | exact HB.out | apply below_alloc | apply pw_below_drewN | apply below_drew1 | refine below_set ?_ GE308.out) | exact HB.out))) : w.heap.size ≤ gb309)); have n5_ := Aside0.mk ((by rw [hg]; exact Nat.ne_of_lt (blk_lt (g := gb308) (o := .cells (mixA (Value.int .u16) [.int .i8 a0_0, .int .i8 a0_1] a0_2) 37 (0, 0)) (by (with_reducible repeat (first | refine blk_drewN ?_ _ | refine blk_drew ?_ | refine blk_alloc ?_ _)); exact BK308.out)) : gb308 ≠ gb309)); have n6_ := Aside0.mk ((by rw [hg]; exact Nat.ne_of_gt (blk_lt (g := gb308) (o := .cells (mixA (Value.int .u16) [.int .i8 a0_0, .int .i8 a0_1] a0_2) 37 (0, 0)) (by (with_reducible repeat (first | refine blk_drewN ?_ _ | refine blk_drew ?_ | refine blk_alloc ?_ _)); exact BK308.out)) : gb309 ≠ gb308)); clear BK308; clear HB; have BK308 := n0_; have HB := n1_; have BK309 := n2_; have GW309 := n3_; have GE309 := n4_; have NB308_309 := n5_; have NB309_308 := n6_; clear n0_ n1_ n2_ n3_ n4_ n5_ n6_; clear hb hbox hg))
      have n0_ := Aside0.mk (blk_drew BK308.out)
      have n1_ := Aside0.mk (blk_drew BK309.out)
      have n2_ := Aside0.mk (below_drew1 HB.out)
      clear BK308
      clear BK309
      clear HB
      have BK308 := n0_
      have BK309 := n1_
      have HB := n2_
      clear n0_ n1_ n2_
      refine start_ (n := 12) (S := fun w' => True) (ds := []) #[false, false, false, false, false, false, false, false, false, false, false, false] (by kernel_rfl) rfl rfl trivial (fun hHeld => ?_); refine with_tabW laws_FnExactCrowdAt.tab1 laws_FnExactCrowdAt.bits1 (fun HT_ HW_ => ?_)
      generalize w14.drew = w15 at BK308 BK309 HB hHeld ⊢
      refine pure_ (i := 4) (N := some 16) (v := ?_) (a' := ?_) #[false, false, false, false, true, false, false, false, false, false, false, false] rfl rfl (any_of HT_.out (by kernel_rfl)) (fun _ _ _ h => h) (Or.inl ⟨by rfl, ?_⟩) ?_ ?_
      rotate_left
      · intro w'
        go_simp
        with_reducible rfl
      rotate_left
      · simp only [Act.put, List.setIfInBounds_toArray, List.set_cons_zero, List.set_cons_succ, i64_w, i32_w]
        rfl
      refine inv_at [0, 1, 2, 3, 5, 6, 7, 8, 9, 10, 11] (fun a0_ b a w' => ∃ (gb317 : Nat) (m9_ : Value), a = putSel a0_ b [(0, 12, .agg (mixA (Value.int .u16) [.int .i8 a0_0, .int .i8 a0_1] a0_2)), (1, 13, .agg (mixA (Value.int .u16) [.int .i8 t310, .int .i8 t311] t312)), (2, 14, .agg #[.int .i8 a1_0, .int .i8 a1_1]), (3, 15, .agg #[.int .i8 t313, .int .i8 t314]), (5, 17, .tuple #[.agg (mixA (Value.int .u16) [] t315), .int .i64 t316]), (6, 11, .tuple #[.agg (mixA (Value.int .u16) [] t315), .int .i64 t316]), (7, 18, .agg (mixA (Value.int .u16) [] t315)), (8, 19, .int .i64 t316), (9, 7, m9_), (11, 8, .int .i64 t316)] ∧ (w'.heap[gb308]? = some (.cells (mixA (Value.int .u16) [.int .i8 a0_0, .int .i8 a0_1] a0_2) 37 (0, 0))) ∧ (w'.heap[gb309]? = some (.cells #[.int .i8 a1_0, .int .i8 a1_1] 31 (0, 0))) ∧ (Below w.heap.size w w') ∧ (b 9 = true → b 10 = false → w'.heap[gb317]? = some (.cells (mixA (Value.int .u16) [] (LA.zero 40)) 26 (0, 0))) ∧ (b 9 = true → w.heap.size ≤ gb317) ∧ (b 9 = true → w.heap.size ≤ gb317) ∧ (b 9 = true → gb308 ≠ gb317) ∧ (b 9 = true → gb317 ≠ gb308) ∧ (b 9 = true → gb309 ≠ gb317) ∧ (b 9 = true → gb317 ≠ gb309) ∧ (b 10 = true → w'.heap[gb317]? = some (.cells (mixA (Value.int .u16) [] t315) 26 (0, 0))) ∧ (b 9 = true → (m9_ : Value) = .pointer (some ⟨gb317, 0, none⟩))) HT_.out HW_.out (by kernel_rfl) (by kernel_rfl) ?_ ?_ ?_
      · exact ⟨0, .bool false, by simp only [putSel, Bool.false_eq_true, if_false], BK308.out, BK309.out, HB.out, fun h_ => absurd h_ (by decide), fun h_ => absurd h_ (by decide), fun h_ => absurd h_ (by decide), fun h_ => absurd h_ (by decide), fun h_ => absurd h_ (by decide), fun h_ => absurd h_ (by decide), fun h_ => absurd h_ (by decide), fun h_ => absurd h_ (by decide), fun h_ => absurd h_ (by decide)⟩
      · skip
        clear BK308 BK309 HB
        refine steps_cons ?_ ?_
        · rintro b a w' ⟨gb317, m9_, ha, Q_BK308, Q_BK309, Q_HB, Q_BK317, Q_GW317, Q_GE317, Q_NB308_317, Q_NB317_308, Q_NB309_317, Q_NB317_309, Q_BK317_e10, Q_X9_⟩ hb_ hon hoff
          refine ⟨_, rfl, fun K hK => ?_⟩
          have e3 : a.tmps[3]? = some (.pointer (some ⟨gb308, 0, none⟩)) := by rw [ha]; exact (putSel_off rfl).trans rfl
          replace ha := Aside0.mk ha
          have BK308 := Aside0.mk Q_BK308
          have BK309 := Aside0.mk Q_BK309
          have HB := Aside0.mk Q_HB
          have hL_ : World.rangeAt w' gb308 0 ([.int .i8 a0_0, .int .i8 a0_1] ++ a0_2.l.map (Value.int .u16)) := mix_range BK308.out
          refine value_ (w1 := w') (v := .agg (mixA (Value.int .u16) [.int .i8 a0_0, .int .i8 a0_1] a0_2)) (by rfl) rfl ?_ ?_
          · exact load_mix_run (P := Try.prog) 37 (.tmp 3) rfl gb308 (by simp only [Act.eval, Array.getD_eq_getD_getElem?, e3, Option.getD_some]) hL_ Try.underlying37 rfl (by kernel_rfl) rfl
          refine hK.out _ _ ⟨gb317, m9_, (by rw [ha.out]; exact putSel_upk 0 hb_ rfl rfl rfl), Q_BK308, Q_BK309, Q_HB, Q_BK317, Q_GW317, Q_GE317, Q_NB308_317, Q_NB317_308, Q_NB309_317, Q_NB317_309, fun h0_ => absurd ((hoff 10 (by kernel_rfl)).symm.trans h0_) (by decide), Q_X9_⟩
        refine steps_cons ?_ ?_
        · rintro b a w' ⟨gb317, m9_, ha, Q_BK308, Q_BK309, Q_HB, Q_BK317, Q_GW317, Q_GE317, Q_NB308_317, Q_NB317_308, Q_NB309_317, Q_NB317_309, Q_BK317_e10, Q_X9_⟩ hb_ hon hoff
          refine ⟨_, rfl, fun K hK => ?_⟩
          have e12 : a.tmps[12]? = some (.agg (mixA (Value.int .u16) [.int .i8 a0_0, .int .i8 a0_1] a0_2)) := by rw [ha]; exact putSel_on (e := (0, 12, .agg (mixA (Value.int .u16) [.int .i8 a0_0, .int .i8 a0_1] a0_2))) 0 rfl rfl (hon 0 (by kernel_rfl)) rfl
          replace ha := Aside0.mk ha
          have BK308 := Aside0.mk Q_BK308
          have BK309 := Aside0.mk Q_BK309
          have HB := Aside0.mk Q_HB
          refine goes_ Try.func18 (by kernel_rfl) rfl #[.agg (mixA (Value.int .u16) [.int .i8 a0_0, .int .i8 a0_1] a0_2)] (by rfl) rfl rfl (by first | (simp only [List.map_toArray, List.map_cons, List.map_nil, Act.eval, Array.getD_eq_getD_getElem?, Option.getD_some, e12]; done) | (simp only [List.map_toArray, List.map_cons, List.map_nil, Act.eval, Array.getD_eq_getD_getElem?, Option.getD_some, e12]; rfl)) ?_
          with_reducible refine (laws_toRoom.calls k a0_0 a0_1 a0_2 t310 t311 t312 _ A4.out).mono ?_
          rintro e w16 ⟨rfl, hb⟩
          refine ⟨_, rfl, ?_⟩
          have n0_ := Aside0.mk (blk_below (g := gb308) (o := .cells (mixA (Value.int .u16) [.int .i8 a0_0, .int .i8 a0_1] a0_2) 37 (0, 0)) (by (with_reducible repeat (first | refine blk_drewN ?_ _ | refine blk_drew ?_ | refine blk_alloc ?_ _)); exact BK308.out) hb)
          have n1_ := Aside0.mk (blk_below (g := gb309) (o := .cells #[.int .i8 a1_0, .int .i8 a1_1] 31 (0, 0)) (by (with_reducible repeat (first | refine blk_drewN ?_ _ | refine blk_drew ?_ | refine blk_alloc ?_ _)); exact BK309.out) hb)
          have n2_ := Aside0.mk (below_step (by repeat (first | (with_reducible first | exact HB.out | apply below_alloc | apply pw_below_drewN | apply below_drew1 | refine below_set ?_ GE308.out | refine below_set ?_ GE309.out) | exact HB.out)) hb)
          have z_BK317 := fun (h0_ : b 9 = true) (h1_ : b 10 = false) => (show w16.heap[gb317]? = some (.cells (mixA (Value.int .u16) [] (LA.zero 40)) 26 (0, 0)) from by first | exact (blk_below (g := gb317) (o := .cells (mixA (Value.int .u16) [] (LA.zero 40)) 26 (0, 0)) (by (with_reducible repeat (first | refine blk_drewN ?_ _ | refine blk_drew ?_ | refine blk_alloc ?_ _)); exact (Q_BK317 h0_ h1_)) hb))
          clear BK308
          clear BK309
          clear HB
          have BK308 := n0_
          have BK309 := n1_
          have HB := n2_
          clear n0_ n1_ n2_
          (try clear hb)
          (try clear hb2)
          (try clear hk)
          (try clear hi)
          refine hK.out _ _ ⟨gb317, m9_, (by rw [ha.out]; exact putSel_upk 1 hb_ rfl rfl rfl), (by (with_reducible repeat (first | refine blk_drewN ?_ _ | refine blk_drew ?_ | refine blk_alloc ?_ _)); exact BK308.out), (by (with_reducible repeat (first | refine blk_drewN ?_ _ | refine blk_drew ?_ | refine blk_alloc ?_ _)); exact BK309.out), (by repeat (first | (with_reducible first | exact HB.out | apply below_alloc | apply pw_below_drewN | apply below_drew1 | refine below_set ?_ GE308.out | refine below_set ?_ GE309.out) | exact HB.out)), z_BK317, Q_GW317, Q_GE317, Q_NB308_317, Q_NB317_308, Q_NB309_317, Q_NB317_309, fun h0_ => absurd ((hoff 10 (by kernel_rfl)).symm.trans h0_) (by decide), Q_X9_⟩
        refine steps_cons ?_ ?_
        · rintro b a w' ⟨gb317, m9_, ha, Q_BK308, Q_BK309, Q_HB, Q_BK317, Q_GW317, Q_GE317, Q_NB308_317, Q_NB317_308, Q_NB309_317, Q_NB317_309, Q_BK317_e10, Q_X9_⟩ hb_ hon hoff
          refine ⟨_, rfl, fun K hK => ?_⟩
          have e4 : a.tmps[4]? = some (.pointer (some ⟨gb309, 0, none⟩)) := by rw [ha]; exact (putSel_off rfl).trans rfl
          replace ha := Aside0.mk ha
          have BK308 := Aside0.mk Q_BK308
          have BK309 := Aside0.mk Q_BK309
          have HB := Aside0.mk Q_HB
          have hc0_ : w'.cell? ⟨gb309, 0, none⟩ = some (.int .i8 a1_0) := bc_ BK309.out 0
          have hc1_ : w'.cell? ⟨gb309, 1, none⟩ = some (.int .i8 a1_1) := bc_ BK309.out 1
          refine value_ (w1 := w') (v := .agg #[.int .i8 a1_0, .int .i8 a1_1]) (by rfl) rfl ?_ ?_
          · go_simp
            (try simp only [i64_w])
            try rfl
          refine hK.out _ _ ⟨gb317, m9_, (by rw [ha.out]; exact putSel_upk 2 hb_ rfl rfl rfl), Q_BK308, Q_BK309, Q_HB, Q_BK317, Q_GW317, Q_GE317, Q_NB308_317, Q_NB317_308, Q_NB309_317, Q_NB317_309, fun h0_ => absurd ((hoff 10 (by kernel_rfl)).symm.trans h0_) (by decide), Q_X9_⟩
        refine steps_cons ?_ ?_
        · rintro b a w' ⟨gb317, m9_, ha, Q_BK308, Q_BK309, Q_HB, Q_BK317, Q_GW317, Q_GE317, Q_NB308_317, Q_NB317_308, Q_NB309_317, Q_NB317_309, Q_BK317_e10, Q_X9_⟩ hb_ hon hoff
          refine ⟨_, rfl, fun K hK => ?_⟩
          have e14 : a.tmps[14]? = some (.agg #[.int .i8 a1_0, .int .i8 a1_1]) := by rw [ha]; exact putSel_on (e := (2, 14, .agg #[.int .i8 a1_0, .int .i8 a1_1])) 2 rfl rfl (hon 2 (by kernel_rfl)) rfl
          replace ha := Aside0.mk ha
          have BK308 := Aside0.mk Q_BK308
          have BK309 := Aside0.mk Q_BK309
          have HB := Aside0.mk Q_HB
          refine goes_ Try.func15 (by kernel_rfl) rfl #[.agg #[.int .i8 a1_0, .int .i8 a1_1]] (by rfl) rfl rfl (by first | (simp only [List.map_toArray, List.map_cons, List.map_nil, Act.eval, Array.getD_eq_getD_getElem?, Option.getD_some, e14]; done) | (simp only [List.map_toArray, List.map_cons, List.map_nil, Act.eval, Array.getD_eq_getD_getElem?, Option.getD_some, e14]; rfl)) ?_
          with_reducible refine (laws_toSpot.calls a1_0 a1_1 t313 t314 _ A5.out).mono ?_
          rintro e w18 ⟨rfl, hb⟩
          refine ⟨_, rfl, ?_⟩
          have n0_ := Aside0.mk (blk_below (g := gb308) (o := .cells (mixA (Value.int .u16) [.int .i8 a0_0, .int .i8 a0_1] a0_2) 37 (0, 0)) (by (with_reducible repeat (first | refine blk_drewN ?_ _ | refine blk_drew ?_ | refine blk_alloc ?_ _)); exact BK308.out) hb)
          have n1_ := Aside0.mk (blk_below (g := gb309) (o := .cells #[.int .i8 a1_0, .int .i8 a1_1] 31 (0, 0)) (by (with_reducible repeat (first | refine blk_drewN ?_ _ | refine blk_drew ?_ | refine blk_alloc ?_ _)); exact BK309.out) hb)
          have n2_ := Aside0.mk (below_step (by repeat (first | (with_reducible first | exact HB.out | apply below_alloc | apply pw_below_drewN | apply below_drew1 | refine below_set ?_ GE308.out | refine below_set ?_ GE309.out) | exact HB.out)) hb)
          have z_BK317 := fun (h0_ : b 9 = true) (h1_ : b 10 = false) => (show w18.heap[gb317]? = some (.cells (mixA (Value.int .u16) [] (LA.zero 40)) 26 (0, 0)) from by first | exact (blk_below (g := gb317) (o := .cells (mixA (Value.int .u16) [] (LA.zero 40)) 26 (0, 0)) (by (with_reducible repeat (first | refine blk_drewN ?_ _ | refine blk_drew ?_ | refine blk_alloc ?_ _)); exact (Q_BK317 h0_ h1_)) hb))
          clear BK308
          clear BK309
          clear HB
          have BK308 := n0_
          have BK309 := n1_
          have HB := n2_
          clear n0_ n1_ n2_
          (try clear hb)
          (try clear hb2)
          (try clear hk)
          (try clear hi)
          refine hK.out _ _ ⟨gb317, m9_, (by rw [ha.out]; exact putSel_upk 3 hb_ rfl rfl rfl), (by (with_reducible repeat (first | refine blk_drewN ?_ _ | refine blk_drew ?_ | refine blk_alloc ?_ _)); exact BK308.out), (by (with_reducible repeat (first | refine blk_drewN ?_ _ | refine blk_drew ?_ | refine blk_alloc ?_ _)); exact BK309.out), (by repeat (first | (with_reducible first | exact HB.out | apply below_alloc | apply pw_below_drewN | apply below_drew1 | refine below_set ?_ GE308.out | refine below_set ?_ GE309.out) | exact HB.out)), z_BK317, Q_GW317, Q_GE317, Q_NB308_317, Q_NB317_308, Q_NB309_317, Q_NB317_309, fun h0_ => absurd ((hoff 10 (by kernel_rfl)).symm.trans h0_) (by decide), Q_X9_⟩
        refine steps_cons ?_ ?_
        · rintro b a w' ⟨gb317, m9_, ha, Q_BK308, Q_BK309, Q_HB, Q_BK317, Q_GW317, Q_GE317, Q_NB308_317, Q_NB317_308, Q_NB309_317, Q_NB317_309, Q_BK317_e10, Q_X9_⟩ hb_ hon hoff
          refine ⟨_, rfl, fun K hK => ?_⟩
          have e13 : a.tmps[13]? = some (.agg (mixA (Value.int .u16) [.int .i8 t310, .int .i8 t311] t312)) := by rw [ha]; exact putSel_on (e := (1, 13, .agg (mixA (Value.int .u16) [.int .i8 t310, .int .i8 t311] t312))) 1 rfl rfl (hon 1 (by kernel_rfl)) rfl
          have e15 : a.tmps[15]? = some (.agg #[.int .i8 t313, .int .i8 t314]) := by rw [ha]; exact putSel_on (e := (3, 15, .agg #[.int .i8 t313, .int .i8 t314])) 3 rfl rfl (hon 3 (by kernel_rfl)) rfl
          have e16 : a.tmps[16]? = some (.int .i64 a2) := by rw [ha]; exact (putSel_off rfl).trans rfl
          replace ha := Aside0.mk ha
          have BK308 := Aside0.mk Q_BK308
          have BK309 := Aside0.mk Q_BK309
          have HB := Aside0.mk Q_HB
          refine goes_ Try.func23 (by kernel_rfl) rfl #[.agg (mixA (Value.int .u16) [.int .i8 t310, .int .i8 t311] t312), .agg #[.int .i8 t313, .int .i8 t314], .int .i64 a2] (by rfl) rfl rfl (by first | (simp only [List.map_toArray, List.map_cons, List.map_nil, Act.eval, Array.getD_eq_getD_getElem?, Option.getD_some, e13, e15, e16]; done) | (simp only [List.map_toArray, List.map_cons, List.map_nil, Act.eval, Array.getD_eq_getD_getElem?, Option.getD_some, e13, e15, e16]; rfl)) ?_
          with_reducible refine (spec_CrowdAt.calls k t310 t311 t312 t313 t314 a2 t315 t316 _ A6.out).mono ?_
          rintro e w19 ⟨rfl, hb⟩
          refine ⟨_, rfl, ?_⟩
          have n0_ := Aside0.mk (blk_below (g := gb308) (o := .cells (mixA (Value.int .u16) [.int .i8 a0_0, .int .i8 a0_1] a0_2) 37 (0, 0)) (by (with_reducible repeat (first | refine blk_drewN ?_ _ | refine blk_drew ?_ | refine blk_alloc ?_ _)); exact BK308.out) hb)
          have n1_ := Aside0.mk (blk_below (g := gb309) (o := .cells #[.int .i8 a1_0, .int .i8 a1_1] 31 (0, 0)) (by (with_reducible repeat (first | refine blk_drewN ?_ _ | refine blk_drew ?_ | refine blk_alloc ?_ _)); exact BK309.out) hb)
          have n2_ := Aside0.mk (below_step (by repeat (first | (with_reducible first | exact HB.out | apply below_alloc | apply pw_below_drewN | apply below_drew1 | refine below_set ?_ GE308.out | refine below_set ?_ GE309.out) | exact HB.out)) hb)
          have z_BK317 := fun (h0_ : b 9 = true) (h1_ : b 10 = false) => (show w19.heap[gb317]? = some (.cells (mixA (Value.int .u16) [] (LA.zero 40)) 26 (0, 0)) from by first | exact (blk_below (g := gb317) (o := .cells (mixA (Value.int .u16) [] (LA.zero 40)) 26 (0, 0)) (by (with_reducible repeat (first | refine blk_drewN ?_ _ | refine blk_drew ?_ | refine blk_alloc ?_ _)); exact (Q_BK317 h0_ h1_)) hb))
          clear BK308
          clear BK309
          clear HB
          have BK308 := n0_
          have BK309 := n1_
          have HB := n2_
          clear n0_ n1_ n2_
          (try clear hb)
          (try clear hb2)
          (try clear hk)
          (try clear hi)
          refine hK.out _ _ ⟨gb317, m9_, (by rw [ha.out]; exact putSel_upk 4 hb_ rfl rfl rfl), (by (with_reducible repeat (first | refine blk_drewN ?_ _ | refine blk_drew ?_ | refine blk_alloc ?_ _)); exact BK308.out), (by (with_reducible repeat (first | refine blk_drewN ?_ _ | refine blk_drew ?_ | refine blk_alloc ?_ _)); exact BK309.out), (by repeat (first | (with_reducible first | exact HB.out | apply below_alloc | apply pw_below_drewN | apply below_drew1 | refine below_set ?_ GE308.out | refine below_set ?_ GE309.out) | exact HB.out)), z_BK317, Q_GW317, Q_GE317, Q_NB308_317, Q_NB317_308, Q_NB309_317, Q_NB317_309, fun h0_ => absurd ((hoff 10 (by kernel_rfl)).symm.trans h0_) (by decide), Q_X9_⟩
        refine steps_cons ?_ ?_
        · rintro b a w' ⟨gb317, m9_, ha, Q_BK308, Q_BK309, Q_HB, Q_BK317, Q_GW317, Q_GE317, Q_NB308_317, Q_NB317_308, Q_NB309_317, Q_NB317_309, Q_BK317_e10, Q_X9_⟩ hb_ hon hoff
          refine ⟨_, rfl, fun K hK => ?_⟩
          have e17 : a.tmps[17]? = some (.tuple #[.agg (mixA (Value.int .u16) [] t315), .int .i64 t316]) := by rw [ha]; exact putSel_on (e := (5, 17, .tuple #[.agg (mixA (Value.int .u16) [] t315), .int .i64 t316])) 4 rfl rfl (hon 5 (by kernel_rfl)) rfl
          replace ha := Aside0.mk ha
          have BK308 := Aside0.mk Q_BK308
          have BK309 := Aside0.mk Q_BK309
          have HB := Aside0.mk Q_HB
          refine value_ (w1 := w') (v := .tuple #[.agg (mixA (Value.int .u16) [] t315), .int .i64 t316]) (by rfl) rfl ?_ ?_
          · go_simp
            (try simp only [i64_w])
            try rfl
          refine hK.out _ _ ⟨gb317, m9_, (by rw [ha.out]; exact putSel_upk 5 hb_ rfl rfl rfl), Q_BK308, Q_BK309, Q_HB, Q_BK317, Q_GW317, Q_GE317, Q_NB308_317, Q_NB317_308, Q_NB309_317, Q_NB317_309, fun h0_ => absurd ((hoff 10 (by kernel_rfl)).symm.trans h0_) (by decide), Q_X9_⟩
        refine steps_cons ?_ ?_
        · rintro b a w' ⟨gb317, m9_, ha, Q_BK308, Q_BK309, Q_HB, Q_BK317, Q_GW317, Q_GE317, Q_NB308_317, Q_NB317_308, Q_NB309_317, Q_NB317_309, Q_BK317_e10, Q_X9_⟩ hb_ hon hoff
          refine ⟨_, rfl, fun K hK => ?_⟩
          have e11 : a.tmps[11]? = some (.tuple #[.agg (mixA (Value.int .u16) [] t315), .int .i64 t316]) := by rw [ha]; exact putSel_on (e := (6, 11, .tuple #[.agg (mixA (Value.int .u16) [] t315), .int .i64 t316])) 5 rfl rfl (hon 6 (by kernel_rfl)) rfl
          replace ha := Aside0.mk ha
          have BK308 := Aside0.mk Q_BK308
          have BK309 := Aside0.mk Q_BK309
          have HB := Aside0.mk Q_HB
          refine value_ (w1 := w') (v := .agg (mixA (Value.int .u16) [] t315)) (by rfl) rfl ?_ ?_
          · go_simp
            (try simp only [i64_w])
            try rfl
          refine hK.out _ _ ⟨gb317, m9_, (by rw [ha.out]; exact putSel_upk 6 hb_ rfl rfl rfl), Q_BK308, Q_BK309, Q_HB, Q_BK317, Q_GW317, Q_GE317, Q_NB308_317, Q_NB317_308, Q_NB309_317, Q_NB317_309, fun h0_ => absurd ((hoff 10 (by kernel_rfl)).symm.trans h0_) (by decide), Q_X9_⟩
        refine steps_cons ?_ ?_
        · rintro b a w' ⟨gb317, m9_, ha, Q_BK308, Q_BK309, Q_HB, Q_BK317, Q_GW317, Q_GE317, Q_NB308_317, Q_NB317_308, Q_NB309_317, Q_NB317_309, Q_BK317_e10, Q_X9_⟩ hb_ hon hoff
          refine ⟨_, rfl, fun K hK => ?_⟩
          have e11 : a.tmps[11]? = some (.tuple #[.agg (mixA (Value.int .u16) [] t315), .int .i64 t316]) := by rw [ha]; exact putSel_on (e := (6, 11, .tuple #[.agg (mixA (Value.int .u16) [] t315), .int .i64 t316])) 5 rfl rfl (hon 6 (by kernel_rfl)) rfl
          replace ha := Aside0.mk ha
          have BK308 := Aside0.mk Q_BK308
          have BK309 := Aside0.mk Q_BK309
          have HB := Aside0.mk Q_HB
          refine value_ (w1 := w') (v := .int .i64 t316) (by rfl) rfl ?_ ?_
          · go_simp
            (try simp only [i64_w])
            try rfl
          refine hK.out _ _ ⟨gb317, m9_, (by rw [ha.out]; exact putSel_upk 7 hb_ rfl rfl rfl), Q_BK308, Q_BK309, Q_HB, Q_BK317, Q_GW317, Q_GE317, Q_NB308_317, Q_NB317_308, Q_NB309_317, Q_NB317_309, Q_BK317_e10, Q_X9_⟩
        refine steps_cons ?_ ?_
        · rintro b a w' ⟨gb317, m9_, ha, Q_BK308, Q_BK309, Q_HB, Q_BK317, Q_GW317, Q_GE317, Q_NB308_317, Q_NB317_308, Q_NB309_317, Q_NB317_309, Q_BK317_e10, Q_X9_⟩ hb_ hon hoff
          refine ⟨_, rfl, fun K hK => ?_⟩
          replace ha := Aside0.mk ha
          have BK308 := Aside0.mk Q_BK308
          have BK309 := Aside0.mk Q_BK309
          have HB := Aside0.mk Q_HB
          refine box_step ?hg (N := 7) ?hd (cs := (mixA (Value.int .u16) [] (LA.zero 40))) (t := 26) ?hr ?_; (case hd => rfl); (case hg => rfl); (case hr => first | (go_simp; done) | (go_simp; rfl))
          intro gb317 hg w16 hbox hb
          have n0_ := Aside0.mk (blk_below (g := gb308) (o := .cells (mixA (Value.int .u16) [.int .i8 a0_0, .int .i8 a0_1] a0_2) 37 (0, 0)) (by (with_reducible repeat (first | refine blk_drewN ?_ _ | refine blk_drew ?_ | refine blk_alloc ?_ _)); exact BK308.out) hb)
          have n1_ := Aside0.mk (blk_below (g := gb309) (o := .cells #[.int .i8 a1_0, .int .i8 a1_1] 31 (0, 0)) (by (with_reducible repeat (first | refine blk_drewN ?_ _ | refine blk_drew ?_ | refine blk_alloc ?_ _)); exact BK309.out) hb)
          have n2_ := Aside0.mk (below_step (by repeat (first | (with_reducible first | exact HB.out | apply below_alloc | apply pw_below_drewN | apply below_drew1 | refine below_set ?_ GE308.out | refine below_set ?_ GE309.out) | exact HB.out)) hb)
          have n3_ := Aside0.mk (hbox)
          have n4_ := Aside0.mk ((by rw [hg]; exact (below_size (by repeat (first | (with_reducible first | exact HB.out | apply below_alloc | apply pw_below_drewN | apply below_drew1 | refine below_set ?_ GE308.out | refine below_set ?_ GE309.out) | exact HB.out))) : w.heap.size ≤ gb317))
          have n5_ := Aside0.mk ((by rw [hg]; exact (below_size (by repeat (first | (with_reducible first | exact HB.out | apply below_alloc | apply pw_below_drewN | apply below_drew1 | refine below_set ?_ GE308.out | refine below_set ?_ GE309.out) | exact HB.out))) : w.heap.size ≤ gb317))
          have n6_ := Aside0.mk ((by rw [hg]; exact Nat.ne_of_lt (blk_lt (g := gb308) (o := .cells (mixA (Value.int .u16) [.int .i8 a0_0, .int .i8 a0_1] a0_2) 37 (0, 0)) (by (with_reducible repeat (first | refine blk_drewN ?_ _ | refine blk_drew ?_ | refine blk_alloc ?_ _)); exact BK308.out)) : gb308 ≠ gb317))
          have n7_ := Aside0.mk ((by rw [hg]; exact Nat.ne_of_gt (blk_lt (g := gb308) (o := .cells (mixA (Value.int .u16) [.int .i8 a0_0, .int .i8 a0_1] a0_2) 37 (0, 0)) (by (with_reducible repeat (first | refine blk_drewN ?_ _ | refine blk_drew ?_ | refine blk_alloc ?_ _)); exact BK308.out)) : gb317 ≠ gb308))
          have n8_ := Aside0.mk ((by rw [hg]; exact Nat.ne_of_lt (blk_lt (g := gb309) (o := .cells #[.int .i8 a1_0, .int .i8 a1_1] 31 (0, 0)) (by (with_reducible repeat (first | refine blk_drewN ?_ _ | refine blk_drew ?_ | refine blk_alloc ?_ _)); exact BK309.out)) : gb309 ≠ gb317))
          have n9_ := Aside0.mk ((by rw [hg]; exact Nat.ne_of_gt (blk_lt (g := gb309) (o := .cells #[.int .i8 a1_0, .int .i8 a1_1] 31 (0, 0)) (by (with_reducible repeat (first | refine blk_drewN ?_ _ | refine blk_drew ?_ | refine blk_alloc ?_ _)); exact BK309.out)) : gb317 ≠ gb309))
          clear BK308
          clear BK309
          clear HB
          have BK308 := n0_
          have BK309 := n1_
          have HB := n2_
          have BK317 := n3_
          have GW317 := n4_
          have GE317 := n5_
          have NB308_317 := n6_
          have NB317_308 := n7_
          have NB309_317 := n8_
          have NB317_309 := n9_
          clear n0_ n1_ n2_ n3_ n4_ n5_ n6_ n7_ n8_ n9_
          clear hb hbox hg
          refine hK.out _ _ ⟨gb317, (.pointer (some ⟨gb317, 0, none⟩)), (by rw [ha.out]; exact putSel_upk 8 hb_ rfl rfl rfl), (by (with_reducible repeat (first | refine blk_drewN ?_ _ | refine blk_drew ?_ | refine blk_alloc ?_ _)); exact BK308.out), (by (with_reducible repeat (first | refine blk_drewN ?_ _ | refine blk_drew ?_ | refine blk_alloc ?_ _)); exact BK309.out), (by repeat (first | (with_reducible first | exact HB.out | apply below_alloc | apply pw_below_drewN | apply below_drew1 | refine below_set ?_ GE308.out | refine below_set ?_ GE309.out | refine below_set ?_ GE317.out) | exact HB.out)), fun _ _ => (by (with_reducible repeat (first | refine blk_drewN ?_ _ | refine blk_drew ?_ | refine blk_alloc ?_ _)); exact BK317.out), fun _ => GW317.out, fun _ => GE317.out, fun _ => NB308_317.out, fun _ => NB317_308.out, fun _ => NB309_317.out, fun _ => NB317_309.out, fun h0_ => absurd ((hoff 10 (by kernel_rfl)).symm.trans h0_) (by decide), fun _ => rfl⟩
        refine steps_cons ?_ ?_
        · rintro b a w' ⟨gb317, m9_, ha, Q_BK308, Q_BK309, Q_HB, Q_BK317, Q_GW317, Q_GE317, Q_NB308_317, Q_NB317_308, Q_NB309_317, Q_NB317_309, Q_BK317_e10, Q_X9_⟩ hb_ hon hoff
          refine ⟨_, rfl, fun K hK => ?_⟩
          have e7 : a.tmps[7]? = some (m9_) := by rw [ha]; exact putSel_on (e := (9, 7, m9_)) 8 rfl rfl (hon 9 (by kernel_rfl)) rfl
          rw [Q_X9_ (hon 9 (by kernel_rfl))] at e7
          have e18 : a.tmps[18]? = some (.agg (mixA (Value.int .u16) [] t315)) := by rw [ha]; exact putSel_on (e := (7, 18, .agg (mixA (Value.int .u16) [] t315))) 6 rfl rfl (hon 7 (by kernel_rfl)) rfl
          replace ha := Aside0.mk ha
          have BK308 := Aside0.mk Q_BK308
          have BK309 := Aside0.mk Q_BK309
          have HB := Aside0.mk Q_HB
          have BK317 := Aside0.mk (Q_BK317 (hon 9 (by kernel_rfl)) hb_)
          have GW317 := Aside0.mk (Q_GW317 (hon 9 (by kernel_rfl)))
          have GE317 := Aside0.mk (Q_GE317 (hon 9 (by kernel_rfl)))
          have NB308_317 := Aside0.mk (Q_NB308_317 (hon 9 (by kernel_rfl)))
          have NB317_308 := Aside0.mk (Q_NB317_308 (hon 9 (by kernel_rfl)))
          have NB309_317 := Aside0.mk (Q_NB309_317 (hon 9 (by kernel_rfl)))
          have NB317_309 := Aside0.mk (Q_NB317_309 (hon 9 (by kernel_rfl)))
          refine step_store_lmix (by rfl) rfl 26 _ _ rfl gb317 (e := (Value.int .u16)) (cs' := []) (W' := t315) (cs := []) (W := (LA.zero 40)) (T := 26) (by first | (simp only [List.map_toArray, List.map_cons, List.map_nil, Act.eval, Array.getD_eq_getD_getElem?, Option.getD_some, e7, e18]; done) | (simp only [List.map_toArray, List.map_cons, List.map_nil, Act.eval, Array.getD_eq_getD_getElem?, Option.getD_some, e7, e18]; rfl)) (by first | (simp only [List.map_toArray, List.map_cons, List.map_nil, Act.eval, Array.getD_eq_getD_getElem?, Option.getD_some, e7, e18]; done) | (simp only [List.map_toArray, List.map_cons, List.map_nil, Act.eval, Array.getD_eq_getD_getElem?, Option.getD_some, e7, e18]; rfl)) (by (with_reducible repeat (first | refine blk_drewN ?_ _ | refine blk_drew ?_ | refine blk_alloc ?_ _)); exact BK317.out) rfl (by kernel_rfl) rfl (fun _ => rfl) rfl ?_
          intro w21 hi hk hbl
          have n0_ := Aside0.mk (KeepBut.blk hk (g' := gb308) (o := .cells (mixA (Value.int .u16) [.int .i8 a0_0, .int .i8 a0_1] a0_2) 37 (0, 0)) (by (with_reducible repeat (first | refine blk_drewN ?_ _ | refine blk_drew ?_ | refine blk_alloc ?_ _)); exact BK308.out) NB308_317.out (by simp))
          have n1_ := Aside0.mk (KeepBut.blk hk (g' := gb309) (o := .cells #[.int .i8 a1_0, .int .i8 a1_1] 31 (0, 0)) (by (with_reducible repeat (first | refine blk_drewN ?_ _ | refine blk_drew ?_ | refine blk_alloc ?_ _)); exact BK309.out) NB309_317.out (by simp))
          have n2_ := Aside0.mk (hbl _ _ (by repeat (first | (with_reducible first | exact HB.out | apply below_alloc | apply pw_below_drewN | apply below_drew1 | refine below_set ?_ GE308.out | refine below_set ?_ GE309.out | refine below_set ?_ GE317.out) | exact HB.out)) GE317.out)
          have n3_ := Aside0.mk (hi)
          clear BK308
          clear BK309
          clear HB
          clear BK317
          have BK308 := n0_
          have BK309 := n1_
          have HB := n2_
          have BK317 := n3_
          clear n0_ n1_ n2_ n3_
          clear hi hk hbl
          refine hK.out _ _ ⟨gb317, m9_, (by rw [ha.out]; exact putSel_none (v := undef) rfl), (by (with_reducible repeat (first | refine blk_drewN ?_ _ | refine blk_drew ?_ | refine blk_alloc ?_ _)); exact BK308.out), (by (with_reducible repeat (first | refine blk_drewN ?_ _ | refine blk_drew ?_ | refine blk_alloc ?_ _)); exact BK309.out), (by repeat (first | (with_reducible first | exact HB.out | apply below_alloc | apply pw_below_drewN | apply below_drew1 | refine below_set ?_ GE308.out | refine below_set ?_ GE309.out | refine below_set ?_ GE317.out) | exact HB.out)), fun _ h1_ => absurd ((up_self b 10).symm.trans h1_) (by decide), fun _ => GW317.out, fun _ => GE317.out, fun _ => NB308_317.out, fun _ => NB317_308.out, fun _ => NB309_317.out, fun _ => NB317_309.out, fun _ => (by (with_reducible repeat (first | refine blk_drewN ?_ _ | refine blk_drew ?_ | refine blk_alloc ?_ _)); exact BK317.out), Q_X9_⟩
        refine steps_cons ?_ ?_
        · rintro b a w' ⟨gb317, m9_, ha, Q_BK308, Q_BK309, Q_HB, Q_BK317, Q_GW317, Q_GE317, Q_NB308_317, Q_NB317_308, Q_NB309_317, Q_NB317_309, Q_BK317_e10, Q_X9_⟩ hb_ hon hoff
          refine ⟨_, rfl, fun K hK => ?_⟩
          have e19 : a.tmps[19]? = some (.int .i64 t316) := by rw [ha]; exact putSel_on (e := (8, 19, .int .i64 t316)) 7 rfl rfl (hon 8 (by kernel_rfl)) rfl
          replace ha := Aside0.mk ha
          have BK308 := Aside0.mk Q_BK308
          have BK309 := Aside0.mk Q_BK309
          have HB := Aside0.mk Q_HB
          have GW317 := Aside0.mk (Q_GW317 (hon 9 (by kernel_rfl)))
          have GE317 := Aside0.mk (Q_GE317 (hon 9 (by kernel_rfl)))
          have NB308_317 := Aside0.mk (Q_NB308_317 (hon 9 (by kernel_rfl)))
          have NB317_308 := Aside0.mk (Q_NB317_308 (hon 9 (by kernel_rfl)))
          have NB309_317 := Aside0.mk (Q_NB309_317 (hon 9 (by kernel_rfl)))
          have NB317_309 := Aside0.mk (Q_NB317_309 (hon 9 (by kernel_rfl)))
          have BK317 := Aside0.mk (Q_BK317_e10 (hon 10 (by kernel_rfl)))
          refine value_ (w1 := w') (v := .int .i64 t316) (by rfl) rfl ?_ ?_
          · go_simp
            (try simp only [i64_w])
            try rfl
          refine hK.out _ _ ⟨gb317, m9_, (by rw [ha.out]; exact putSel_upk 9 hb_ rfl rfl rfl), Q_BK308, Q_BK309, Q_HB, fun _ h1_ => absurd ((hon 10 (by kernel_rfl)).symm.trans h1_) (by decide), Q_GW317, Q_GE317, Q_NB308_317, Q_NB317_308, Q_NB309_317, Q_NB317_309, Q_BK317_e10, Q_X9_⟩
        exact steps_nil
      rintro b a w21 hall ⟨gb317, m9_, ha, Q_BK308, Q_BK309, Q_HB, Q_BK317, Q_GW317, Q_GE317, Q_NB308_317, Q_NB317_308, Q_NB309_317, Q_NB317_309, Q_BK317_e10, Q_X9_⟩
      clear BK308 BK309 HB
      have hb0_ := hall 0 (by kernel_rfl)
      have hb1_ := hall 1 (by kernel_rfl)
      have hb2_ := hall 2 (by kernel_rfl)
      have hb3_ := hall 3 (by kernel_rfl)
      have hb5_ := hall 5 (by kernel_rfl)
      have hb6_ := hall 6 (by kernel_rfl)
      have hb7_ := hall 7 (by kernel_rfl)
      have hb8_ := hall 8 (by kernel_rfl)
      have hb9_ := hall 9 (by kernel_rfl)
      have hb10_ := hall 10 (by kernel_rfl)
      have hb11_ := hall 11 (by kernel_rfl)
      subst ha
      obtain rfl := Q_X9_ hb9_
      simp only [putSel, hb0_, hb1_, hb2_, hb3_, hb5_, hb6_, hb7_, hb8_, hb9_, hb10_, hb11_, if_true, Act.put, List.setIfInBounds_toArray, List.set_cons_zero, List.set_cons_succ]
      have BK308 := Aside0.mk Q_BK308
      clear Q_BK308
      have BK309 := Aside0.mk Q_BK309
      clear Q_BK309
      have HB := Aside0.mk Q_HB
      clear Q_HB
      clear Q_BK317
      have GW317 := Aside0.mk (Q_GW317 hb9_)
      clear Q_GW317
      have GE317 := Aside0.mk (Q_GE317 hb9_)
      clear Q_GE317
      have NB308_317 := Aside0.mk (Q_NB308_317 hb9_)
      clear Q_NB308_317
      have NB317_308 := Aside0.mk (Q_NB317_308 hb9_)
      clear Q_NB317_308
      have NB309_317 := Aside0.mk (Q_NB309_317 hb9_)
      clear Q_NB309_317
      have NB317_309 := Aside0.mk (Q_NB317_309 hb9_)
      clear Q_NB317_309
      have BK317 := Aside0.mk (Q_BK317_e10 hb10_)
      clear Q_BK317_e10
      clear hall hb0_ hb1_ hb2_ hb3_ hb5_ hb6_ hb7_ hb8_ hb9_ hb10_ hb11_
      try go_wp2
      have n0_ := Aside0.mk (blk_drew BK308.out)
      have n1_ := Aside0.mk (blk_drew BK309.out)
      have n2_ := Aside0.mk (blk_drew BK317.out)
      have n3_ := Aside0.mk (below_drew1 HB.out)
      clear BK308
      clear BK309
      clear BK317
      clear HB
      have BK308 := n0_
      have BK309 := n1_
      have BK317 := n2_
      have HB := n3_
      clear n0_ n1_ n2_ n3_
      refine start_ (n := 12) (S := fun w' => True) (ds := []) #[false, false, false, false, false, false, false, false, false, false, false, false] (by kernel_rfl) rfl rfl trivial (fun hHeld => ?_); refine with_tabW laws_FnExactCrowdAt.tab2 laws_FnExactCrowdAt.bits2 (fun HT_ HW_ => ?_)
      generalize w21.drew = w24 at BK308 BK309 BK317 HB hHeld ⊢
      refine pure_ (i := 4) (N := some 25) (v := ?_) (a' := ?_) #[false, false, false, false, true, false, false, false, false, false, false, false] rfl rfl (any_of HT_.out (by kernel_rfl)) (fun _ _ _ h => h) (Or.inl ⟨by rfl, ?_⟩) ?_ ?_
      rotate_left
      · intro w'
        go_simp
        with_reducible rfl
      rotate_left
      · simp only [Act.put, List.setIfInBounds_toArray, List.set_cons_zero, List.set_cons_succ, i64_w, i32_w]
        rfl
      refine inv_at [0, 1, 2, 3, 5, 6, 7, 8, 9, 10, 11] (fun a0_ b a w' => ∃ (gb325 : Nat) (m9_ : Value), a = putSel a0_ b [(0, 21, .agg (mixA (Value.int .u16) [.int .i8 a0_0, .int .i8 a0_1] a0_2)), (1, 22, .agg (mixA (Value.int .u16) [.int .i8 t318, .int .i8 t319] t320)), (2, 23, .agg #[.int .i8 a1_0, .int .i8 a1_1]), (3, 24, .agg #[.int .i8 t321, .int .i8 t322]), (5, 26, .tuple #[.agg (mixA (Value.int .u16) [] t323), .int .i64 t324]), (6, 20, .tuple #[.agg (mixA (Value.int .u16) [] t323), .int .i64 t324]), (7, 27, .agg (mixA (Value.int .u16) [] t323)), (8, 28, .int .i64 t324), (9, 9, m9_), (11, 10, .int .i64 t324)] ∧ (w'.heap[gb308]? = some (.cells (mixA (Value.int .u16) [.int .i8 a0_0, .int .i8 a0_1] a0_2) 37 (0, 0))) ∧ (w'.heap[gb309]? = some (.cells #[.int .i8 a1_0, .int .i8 a1_1] 31 (0, 0))) ∧ (w'.heap[gb317]? = some (.cells (mixA (Value.int .u16) [] t315) 26 (0, 0))) ∧ (Below w.heap.size w w') ∧ (b 9 = true → b 10 = false → w'.heap[gb325]? = some (.cells (mixA (Value.int .u16) [] (LA.zero 40)) 26 (0, 0))) ∧ (b 9 = true → w.heap.size ≤ gb325) ∧ (b 9 = true → w.heap.size ≤ gb325) ∧ (b 9 = true → gb308 ≠ gb325) ∧ (b 9 = true → gb325 ≠ gb308) ∧ (b 9 = true → gb309 ≠ gb325) ∧ (b 9 = true → gb325 ≠ gb309) ∧ (b 9 = true → gb317 ≠ gb325) ∧ (b 9 = true → gb325 ≠ gb317) ∧ (b 10 = true → w'.heap[gb325]? = some (.cells (mixA (Value.int .u16) [] t323) 26 (0, 0))) ∧ (b 9 = true → (m9_ : Value) = .pointer (some ⟨gb325, 0, none⟩))) HT_.out HW_.out (by kernel_rfl) (by kernel_rfl) ?_ ?_ ?_
      · exact ⟨0, .bool false, by simp only [putSel, Bool.false_eq_true, if_false], BK308.out, BK309.out, BK317.out, HB.out, fun h_ => absurd h_ (by decide), fun h_ => absurd h_ (by decide), fun h_ => absurd h_ (by decide), fun h_ => absurd h_ (by decide), fun h_ => absurd h_ (by decide), fun h_ => absurd h_ (by decide), fun h_ => absurd h_ (by decide), fun h_ => absurd h_ (by decide), fun h_ => absurd h_ (by decide), fun h_ => absurd h_ (by decide), fun h_ => absurd h_ (by decide)⟩
      · skip
        clear BK308 BK309 BK317 HB
        refine steps_cons ?_ ?_
        · rintro b a w' ⟨gb325, m9_, ha, Q_BK308, Q_BK309, Q_BK317, Q_HB, Q_BK325, Q_GW325, Q_GE325, Q_NB308_325, Q_NB325_308, Q_NB309_325, Q_NB325_309, Q_NB317_325, Q_NB325_317, Q_BK325_e10, Q_X9_⟩ hb_ hon hoff
          refine ⟨_, rfl, fun K hK => ?_⟩
          have e3 : a.tmps[3]? = some (.pointer (some ⟨gb308, 0, none⟩)) := by rw [ha]; exact (putSel_off rfl).trans rfl
          replace ha := Aside0.mk ha
          have BK308 := Aside0.mk Q_BK308
          have BK309 := Aside0.mk Q_BK309
          have BK317 := Aside0.mk Q_BK317
          have HB := Aside0.mk Q_HB
          have hL_ : World.rangeAt w' gb308 0 ([.int .i8 a0_0, .int .i8 a0_1] ++ a0_2.l.map (Value.int .u16)) := mix_range BK308.out
          refine value_ (w1 := w') (v := .agg (mixA (Value.int .u16) [.int .i8 a0_0, .int .i8 a0_1] a0_2)) (by rfl) rfl ?_ ?_
          · exact load_mix_run (P := Try.prog) 37 (.tmp 3) rfl gb308 (by simp only [Act.eval, Array.getD_eq_getD_getElem?, e3, Option.getD_some]) hL_ Try.underlying37 rfl (by kernel_rfl) rfl
          refine hK.out _ _ ⟨gb325, m9_, (by rw [ha.out]; exact putSel_upk 0 hb_ rfl rfl rfl), Q_BK308, Q_BK309, Q_BK317, Q_HB, Q_BK325, Q_GW325, Q_GE325, Q_NB308_325, Q_NB325_308, Q_NB309_325, Q_NB325_309, Q_NB317_325, Q_NB325_317, fun h0_ => absurd ((hoff 10 (by kernel_rfl)).symm.trans h0_) (by decide), Q_X9_⟩
        refine steps_cons ?_ ?_
        · rintro b a w' ⟨gb325, m9_, ha, Q_BK308, Q_BK309, Q_BK317, Q_HB, Q_BK325, Q_GW325, Q_GE325, Q_NB308_325, Q_NB325_308, Q_NB309_325, Q_NB325_309, Q_NB317_325, Q_NB325_317, Q_BK325_e10, Q_X9_⟩ hb_ hon hoff
          refine ⟨_, rfl, fun K hK => ?_⟩
          have e21 : a.tmps[21]? = some (.agg (mixA (Value.int .u16) [.int .i8 a0_0, .int .i8 a0_1] a0_2)) := by rw [ha]; exact putSel_on (e := (0, 21, .agg (mixA (Value.int .u16) [.int .i8 a0_0, .int .i8 a0_1] a0_2))) 0 rfl rfl (hon 0 (by kernel_rfl)) rfl
          replace ha := Aside0.mk ha
          have BK308 := Aside0.mk Q_BK308
          have BK309 := Aside0.mk Q_BK309
          have BK317 := Aside0.mk Q_BK317
          have HB := Aside0.mk Q_HB
          refine goes_ Try.func18 (by kernel_rfl) rfl #[.agg (mixA (Value.int .u16) [.int .i8 a0_0, .int .i8 a0_1] a0_2)] (by rfl) rfl rfl (by first | (simp only [List.map_toArray, List.map_cons, List.map_nil, Act.eval, Array.getD_eq_getD_getElem?, Option.getD_some, e21]; done) | (simp only [List.map_toArray, List.map_cons, List.map_nil, Act.eval, Array.getD_eq_getD_getElem?, Option.getD_some, e21]; rfl)) ?_
          with_reducible refine (laws_toRoom.calls k a0_0 a0_1 a0_2 t318 t319 t320 _ A7.out).mono ?_
          rintro e w25 ⟨rfl, hb⟩
          refine ⟨_, rfl, ?_⟩
          have n0_ := Aside0.mk (blk_below (g := gb308) (o := .cells (mixA (Value.int .u16) [.int .i8 a0_0, .int .i8 a0_1] a0_2) 37 (0, 0)) (by (with_reducible repeat (first | refine blk_drewN ?_ _ | refine blk_drew ?_ | refine blk_alloc ?_ _)); exact BK308.out) hb)
          have n1_ := Aside0.mk (blk_below (g := gb309) (o := .cells #[.int .i8 a1_0, .int .i8 a1_1] 31 (0, 0)) (by (with_reducible repeat (first | refine blk_drewN ?_ _ | refine blk_drew ?_ | refine blk_alloc ?_ _)); exact BK309.out) hb)
          have n2_ := Aside0.mk (blk_below (g := gb317) (o := .cells (mixA (Value.int .u16) [] t315) 26 (0, 0)) (by (with_reducible repeat (first | refine blk_drewN ?_ _ | refine blk_drew ?_ | refine blk_alloc ?_ _)); exact BK317.out) hb)
          have n3_ := Aside0.mk (below_step (by repeat (first | (with_reducible first | exact HB.out | apply below_alloc | apply pw_below_drewN | apply below_drew1 | refine below_set ?_ GE308.out | refine below_set ?_ GE309.out | refine below_set ?_ GE317.out) | exact HB.out)) hb)
          have z_BK325 := fun (h0_ : b 9 = true) (h1_ : b 10 = false) => (show w25.heap[gb325]? = some (.cells (mixA (Value.int .u16) [] (LA.zero 40)) 26 (0, 0)) from by first | exact (blk_below (g := gb325) (o := .cells (mixA (Value.int .u16) [] (LA.zero 40)) 26 (0, 0)) (by (with_reducible repeat (first | refine blk_drewN ?_ _ | refine blk_drew ?_ | refine blk_alloc ?_ _)); exact (Q_BK325 h0_ h1_)) hb))
          clear BK308
          clear BK309
          clear BK317
          clear HB
          have BK308 := n0_
          have BK309 := n1_
          have BK317 := n2_
          have HB := n3_
          clear n0_ n1_ n2_ n3_
          (try clear hb)
          (try clear hb2)
          (try clear hk)
          (try clear hi)
          refine hK.out _ _ ⟨gb325, m9_, (by rw [ha.out]; exact putSel_upk 1 hb_ rfl rfl rfl), (by (with_reducible repeat (first | refine blk_drewN ?_ _ | refine blk_drew ?_ | refine blk_alloc ?_ _)); exact BK308.out), (by (with_reducible repeat (first | refine blk_drewN ?_ _ | refine blk_drew ?_ | refine blk_alloc ?_ _)); exact BK309.out), (by (with_reducible repeat (first | refine blk_drewN ?_ _ | refine blk_drew ?_ | refine blk_alloc ?_ _)); exact BK317.out), (by repeat (first | (with_reducible first | exact HB.out | apply below_alloc | apply pw_below_drewN | apply below_drew1 | refine below_set ?_ GE308.out | refine below_set ?_ GE309.out | refine below_set ?_ GE317.out) | exact HB.out)), z_BK325, Q_GW325, Q_GE325, Q_NB308_325, Q_NB325_308, Q_NB309_325, Q_NB325_309, Q_NB317_325, Q_NB325_317, fun h0_ => absurd ((hoff 10 (by kernel_rfl)).symm.trans h0_) (by decide), Q_X9_⟩
        refine steps_cons ?_ ?_
        · rintro b a w' ⟨gb325, m9_, ha, Q_BK308, Q_BK309, Q_BK317, Q_HB, Q_BK325, Q_GW325, Q_GE325, Q_NB308_325, Q_NB325_308, Q_NB309_325, Q_NB325_309, Q_NB317_325, Q_NB325_317, Q_BK325_e10, Q_X9_⟩ hb_ hon hoff
          refine ⟨_, rfl, fun K hK => ?_⟩
          have e4 : a.tmps[4]? = some (.pointer (some ⟨gb309, 0, none⟩)) := by rw [ha]; exact (putSel_off rfl).trans rfl
          replace ha := Aside0.mk ha
          have BK308 := Aside0.mk Q_BK308
          have BK309 := Aside0.mk Q_BK309
          have BK317 := Aside0.mk Q_BK317
          have HB := Aside0.mk Q_HB
          have hc0_ : w'.cell? ⟨gb309, 0, none⟩ = some (.int .i8 a1_0) := bc_ BK309.out 0
          have hc1_ : w'.cell? ⟨gb309, 1, none⟩ = some (.int .i8 a1_1) := bc_ BK309.out 1
          refine value_ (w1 := w') (v := .agg #[.int .i8 a1_0, .int .i8 a1_1]) (by rfl) rfl ?_ ?_
          · go_simp
            (try simp only [i64_w])
            try rfl
          refine hK.out _ _ ⟨gb325, m9_, (by rw [ha.out]; exact putSel_upk 2 hb_ rfl rfl rfl), Q_BK308, Q_BK309, Q_BK317, Q_HB, Q_BK325, Q_GW325, Q_GE325, Q_NB308_325, Q_NB325_308, Q_NB309_325, Q_NB325_309, Q_NB317_325, Q_NB325_317, fun h0_ => absurd ((hoff 10 (by kernel_rfl)).symm.trans h0_) (by decide), Q_X9_⟩
        refine steps_cons ?_ ?_
        · rintro b a w' ⟨gb325, m9_, ha, Q_BK308, Q_BK309, Q_BK317, Q_HB, Q_BK325, Q_GW325, Q_GE325, Q_NB308_325, Q_NB325_308, Q_NB309_325, Q_NB325_309, Q_NB317_325, Q_NB325_317, Q_BK325_e10, Q_X9_⟩ hb_ hon hoff
          refine ⟨_, rfl, fun K hK => ?_⟩
          have e23 : a.tmps[23]? = some (.agg #[.int .i8 a1_0, .int .i8 a1_1]) := by rw [ha]; exact putSel_on (e := (2, 23, .agg #[.int .i8 a1_0, .int .i8 a1_1])) 2 rfl rfl (hon 2 (by kernel_rfl)) rfl
          replace ha := Aside0.mk ha
          have BK308 := Aside0.mk Q_BK308
          have BK309 := Aside0.mk Q_BK309
          have BK317 := Aside0.mk Q_BK317
          have HB := Aside0.mk Q_HB
          refine goes_ Try.func15 (by kernel_rfl) rfl #[.agg #[.int .i8 a1_0, .int .i8 a1_1]] (by rfl) rfl rfl (by first | (simp only [List.map_toArray, List.map_cons, List.map_nil, Act.eval, Array.getD_eq_getD_getElem?, Option.getD_some, e23]; done) | (simp only [List.map_toArray, List.map_cons, List.map_nil, Act.eval, Array.getD_eq_getD_getElem?, Option.getD_some, e23]; rfl)) ?_
          with_reducible refine (laws_toSpot.calls a1_0 a1_1 t321 t322 _ A8.out).mono ?_
          rintro e w27 ⟨rfl, hb⟩
          refine ⟨_, rfl, ?_⟩
          have n0_ := Aside0.mk (blk_below (g := gb308) (o := .cells (mixA (Value.int .u16) [.int .i8 a0_0, .int .i8 a0_1] a0_2) 37 (0, 0)) (by (with_reducible repeat (first | refine blk_drewN ?_ _ | refine blk_drew ?_ | refine blk_alloc ?_ _)); exact BK308.out) hb)
          have n1_ := Aside0.mk (blk_below (g := gb309) (o := .cells #[.int .i8 a1_0, .int .i8 a1_1] 31 (0, 0)) (by (with_reducible repeat (first | refine blk_drewN ?_ _ | refine blk_drew ?_ | refine blk_alloc ?_ _)); exact BK309.out) hb)
          have n2_ := Aside0.mk (blk_below (g := gb317) (o := .cells (mixA (Value.int .u16) [] t315) 26 (0, 0)) (by (with_reducible repeat (first | refine blk_drewN ?_ _ | refine blk_drew ?_ | refine blk_alloc ?_ _)); exact BK317.out) hb)
          have n3_ := Aside0.mk (below_step (by repeat (first | (with_reducible first | exact HB.out | apply below_alloc | apply pw_below_drewN | apply below_drew1 | refine below_set ?_ GE308.out | refine below_set ?_ GE309.out | refine below_set ?_ GE317.out) | exact HB.out)) hb)
          have z_BK325 := fun (h0_ : b 9 = true) (h1_ : b 10 = false) => (show w27.heap[gb325]? = some (.cells (mixA (Value.int .u16) [] (LA.zero 40)) 26 (0, 0)) from by first | exact (blk_below (g := gb325) (o := .cells (mixA (Value.int .u16) [] (LA.zero 40)) 26 (0, 0)) (by (with_reducible repeat (first | refine blk_drewN ?_ _ | refine blk_drew ?_ | refine blk_alloc ?_ _)); exact (Q_BK325 h0_ h1_)) hb))
          clear BK308
          clear BK309
          clear BK317
          clear HB
          have BK308 := n0_
          have BK309 := n1_
          have BK317 := n2_
          have HB := n3_
          clear n0_ n1_ n2_ n3_
          (try clear hb)
          (try clear hb2)
          (try clear hk)
          (try clear hi)
          refine hK.out _ _ ⟨gb325, m9_, (by rw [ha.out]; exact putSel_upk 3 hb_ rfl rfl rfl), (by (with_reducible repeat (first | refine blk_drewN ?_ _ | refine blk_drew ?_ | refine blk_alloc ?_ _)); exact BK308.out), (by (with_reducible repeat (first | refine blk_drewN ?_ _ | refine blk_drew ?_ | refine blk_alloc ?_ _)); exact BK309.out), (by (with_reducible repeat (first | refine blk_drewN ?_ _ | refine blk_drew ?_ | refine blk_alloc ?_ _)); exact BK317.out), (by repeat (first | (with_reducible first | exact HB.out | apply below_alloc | apply pw_below_drewN | apply below_drew1 | refine below_set ?_ GE308.out | refine below_set ?_ GE309.out | refine below_set ?_ GE317.out) | exact HB.out)), z_BK325, Q_GW325, Q_GE325, Q_NB308_325, Q_NB325_308, Q_NB309_325, Q_NB325_309, Q_NB317_325, Q_NB325_317, fun h0_ => absurd ((hoff 10 (by kernel_rfl)).symm.trans h0_) (by decide), Q_X9_⟩
        refine steps_cons ?_ ?_
        · rintro b a w' ⟨gb325, m9_, ha, Q_BK308, Q_BK309, Q_BK317, Q_HB, Q_BK325, Q_GW325, Q_GE325, Q_NB308_325, Q_NB325_308, Q_NB309_325, Q_NB325_309, Q_NB317_325, Q_NB325_317, Q_BK325_e10, Q_X9_⟩ hb_ hon hoff
          refine ⟨_, rfl, fun K hK => ?_⟩
          have e22 : a.tmps[22]? = some (.agg (mixA (Value.int .u16) [.int .i8 t318, .int .i8 t319] t320)) := by rw [ha]; exact putSel_on (e := (1, 22, .agg (mixA (Value.int .u16) [.int .i8 t318, .int .i8 t319] t320))) 1 rfl rfl (hon 1 (by kernel_rfl)) rfl
          have e24 : a.tmps[24]? = some (.agg #[.int .i8 t321, .int .i8 t322]) := by rw [ha]; exact putSel_on (e := (3, 24, .agg #[.int .i8 t321, .int .i8 t322])) 3 rfl rfl (hon 3 (by kernel_rfl)) rfl
          have e25 : a.tmps[25]? = some (.int .i64 a2) := by rw [ha]; exact (putSel_off rfl).trans rfl
          replace ha := Aside0.mk ha
          have BK308 := Aside0.mk Q_BK308
          have BK309 := Aside0.mk Q_BK309
          have BK317 := Aside0.mk Q_BK317
          have HB := Aside0.mk Q_HB
          refine goes_ Try.func24 (by kernel_rfl) rfl #[.agg (mixA (Value.int .u16) [.int .i8 t318, .int .i8 t319] t320), .agg #[.int .i8 t321, .int .i8 t322], .int .i64 a2] (by rfl) rfl rfl (by first | (simp only [List.map_toArray, List.map_cons, List.map_nil, Act.eval, Array.getD_eq_getD_getElem?, Option.getD_some, e22, e24, e25]; done) | (simp only [List.map_toArray, List.map_cons, List.map_nil, Act.eval, Array.getD_eq_getD_getElem?, Option.getD_some, e22, e24, e25]; rfl)) ?_
          with_reducible refine (impl_CrowdAt.calls k t318 t319 t320 t321 t322 a2 t323 t324 _ A9.out).mono ?_
          rintro e w28 ⟨rfl, hb⟩
          refine ⟨_, rfl, ?_⟩
          have n0_ := Aside0.mk (blk_below (g := gb308) (o := .cells (mixA (Value.int .u16) [.int .i8 a0_0, .int .i8 a0_1] a0_2) 37 (0, 0)) (by (with_reducible repeat (first | refine blk_drewN ?_ _ | refine blk_drew ?_ | refine blk_alloc ?_ _)); exact BK308.out) hb)
          have n1_ := Aside0.mk (blk_below (g := gb309) (o := .cells #[.int .i8 a1_0, .int .i8 a1_1] 31 (0, 0)) (by (with_reducible repeat (first | refine blk_drewN ?_ _ | refine blk_drew ?_ | refine blk_alloc ?_ _)); exact BK309.out) hb)
          have n2_ := Aside0.mk (blk_below (g := gb317) (o := .cells (mixA (Value.int .u16) [] t315) 26 (0, 0)) (by (with_reducible repeat (first | refine blk_drewN ?_ _ | refine blk_drew ?_ | refine blk_alloc ?_ _)); exact BK317.out) hb)
          have n3_ := Aside0.mk (below_step (by repeat (first | (with_reducible first | exact HB.out | apply below_alloc | apply pw_below_drewN | apply below_drew1 | refine below_set ?_ GE308.out | refine below_set ?_ GE309.out | refine below_set ?_ GE317.out) | exact HB.out)) hb)
          have z_BK325 := fun (h0_ : b 9 = true) (h1_ : b 10 = false) => (show w28.heap[gb325]? = some (.cells (mixA (Value.int .u16) [] (LA.zero 40)) 26 (0, 0)) from by first | exact (blk_below (g := gb325) (o := .cells (mixA (Value.int .u16) [] (LA.zero 40)) 26 (0, 0)) (by (with_reducible repeat (first | refine blk_drewN ?_ _ | refine blk_drew ?_ | refine blk_alloc ?_ _)); exact (Q_BK325 h0_ h1_)) hb))
          clear BK308
          clear BK309
          clear BK317
          clear HB
          have BK308 := n0_
          have BK309 := n1_
          have BK317 := n2_
          have HB := n3_
          clear n0_ n1_ n2_ n3_
          (try clear hb)
          (try clear hb2)
          (try clear hk)
          (try clear hi)
          refine hK.out _ _ ⟨gb325, m9_, (by rw [ha.out]; exact putSel_upk 4 hb_ rfl rfl rfl), (by (with_reducible repeat (first | refine blk_drewN ?_ _ | refine blk_drew ?_ | refine blk_alloc ?_ _)); exact BK308.out), (by (with_reducible repeat (first | refine blk_drewN ?_ _ | refine blk_drew ?_ | refine blk_alloc ?_ _)); exact BK309.out), (by (with_reducible repeat (first | refine blk_drewN ?_ _ | refine blk_drew ?_ | refine blk_alloc ?_ _)); exact BK317.out), (by repeat (first | (with_reducible first | exact HB.out | apply below_alloc | apply pw_below_drewN | apply below_drew1 | refine below_set ?_ GE308.out | refine below_set ?_ GE309.out | refine below_set ?_ GE317.out) | exact HB.out)), z_BK325, Q_GW325, Q_GE325, Q_NB308_325, Q_NB325_308, Q_NB309_325, Q_NB325_309, Q_NB317_325, Q_NB325_317, fun h0_ => absurd ((hoff 10 (by kernel_rfl)).symm.trans h0_) (by decide), Q_X9_⟩
        refine steps_cons ?_ ?_
        · rintro b a w' ⟨gb325, m9_, ha, Q_BK308, Q_BK309, Q_BK317, Q_HB, Q_BK325, Q_GW325, Q_GE325, Q_NB308_325, Q_NB325_308, Q_NB309_325, Q_NB325_309, Q_NB317_325, Q_NB325_317, Q_BK325_e10, Q_X9_⟩ hb_ hon hoff
          refine ⟨_, rfl, fun K hK => ?_⟩
          have e26 : a.tmps[26]? = some (.tuple #[.agg (mixA (Value.int .u16) [] t323), .int .i64 t324]) := by rw [ha]; exact putSel_on (e := (5, 26, .tuple #[.agg (mixA (Value.int .u16) [] t323), .int .i64 t324])) 4 rfl rfl (hon 5 (by kernel_rfl)) rfl
          replace ha := Aside0.mk ha
          have BK308 := Aside0.mk Q_BK308
          have BK309 := Aside0.mk Q_BK309
          have BK317 := Aside0.mk Q_BK317
          have HB := Aside0.mk Q_HB
          refine value_ (w1 := w') (v := .tuple #[.agg (mixA (Value.int .u16) [] t323), .int .i64 t324]) (by rfl) rfl ?_ ?_
          · go_simp
            (try simp only [i64_w])
            try rfl
          refine hK.out _ _ ⟨gb325, m9_, (by rw [ha.out]; exact putSel_upk 5 hb_ rfl rfl rfl), Q_BK308, Q_BK309, Q_BK317, Q_HB, Q_BK325, Q_GW325, Q_GE325, Q_NB308_325, Q_NB325_308, Q_NB309_325, Q_NB325_309, Q_NB317_325, Q_NB325_317, fun h0_ => absurd ((hoff 10 (by kernel_rfl)).symm.trans h0_) (by decide), Q_X9_⟩
        refine steps_cons ?_ ?_
        · rintro b a w' ⟨gb325, m9_, ha, Q_BK308, Q_BK309, Q_BK317, Q_HB, Q_BK325, Q_GW325, Q_GE325, Q_NB308_325, Q_NB325_308, Q_NB309_325, Q_NB325_309, Q_NB317_325, Q_NB325_317, Q_BK325_e10, Q_X9_⟩ hb_ hon hoff
          refine ⟨_, rfl, fun K hK => ?_⟩
          have e20 : a.tmps[20]? = some (.tuple #[.agg (mixA (Value.int .u16) [] t323), .int .i64 t324]) := by rw [ha]; exact putSel_on (e := (6, 20, .tuple #[.agg (mixA (Value.int .u16) [] t323), .int .i64 t324])) 5 rfl rfl (hon 6 (by kernel_rfl)) rfl
          replace ha := Aside0.mk ha
          have BK308 := Aside0.mk Q_BK308
          have BK309 := Aside0.mk Q_BK309
          have BK317 := Aside0.mk Q_BK317
          have HB := Aside0.mk Q_HB
          refine value_ (w1 := w') (v := .agg (mixA (Value.int .u16) [] t323)) (by rfl) rfl ?_ ?_
          · go_simp
            (try simp only [i64_w])
            try rfl
          refine hK.out _ _ ⟨gb325, m9_, (by rw [ha.out]; exact putSel_upk 6 hb_ rfl rfl rfl), Q_BK308, Q_BK309, Q_BK317, Q_HB, Q_BK325, Q_GW325, Q_GE325, Q_NB308_325, Q_NB325_308, Q_NB309_325, Q_NB325_309, Q_NB317_325, Q_NB325_317, fun h0_ => absurd ((hoff 10 (by kernel_rfl)).symm.trans h0_) (by decide), Q_X9_⟩
        refine steps_cons ?_ ?_
        · rintro b a w' ⟨gb325, m9_, ha, Q_BK308, Q_BK309, Q_BK317, Q_HB, Q_BK325, Q_GW325, Q_GE325, Q_NB308_325, Q_NB325_308, Q_NB309_325, Q_NB325_309, Q_NB317_325, Q_NB325_317, Q_BK325_e10, Q_X9_⟩ hb_ hon hoff
          refine ⟨_, rfl, fun K hK => ?_⟩
          have e20 : a.tmps[20]? = some (.tuple #[.agg (mixA (Value.int .u16) [] t323), .int .i64 t324]) := by rw [ha]; exact putSel_on (e := (6, 20, .tuple #[.agg (mixA (Value.int .u16) [] t323), .int .i64 t324])) 5 rfl rfl (hon 6 (by kernel_rfl)) rfl
          replace ha := Aside0.mk ha
          have BK308 := Aside0.mk Q_BK308
          have BK309 := Aside0.mk Q_BK309
          have BK317 := Aside0.mk Q_BK317
          have HB := Aside0.mk Q_HB
          refine value_ (w1 := w') (v := .int .i64 t324) (by rfl) rfl ?_ ?_
          · go_simp
            (try simp only [i64_w])
            try rfl
          refine hK.out _ _ ⟨gb325, m9_, (by rw [ha.out]; exact putSel_upk 7 hb_ rfl rfl rfl), Q_BK308, Q_BK309, Q_BK317, Q_HB, Q_BK325, Q_GW325, Q_GE325, Q_NB308_325, Q_NB325_308, Q_NB309_325, Q_NB325_309, Q_NB317_325, Q_NB325_317, Q_BK325_e10, Q_X9_⟩
        refine steps_cons ?_ ?_
        · rintro b a w' ⟨gb325, m9_, ha, Q_BK308, Q_BK309, Q_BK317, Q_HB, Q_BK325, Q_GW325, Q_GE325, Q_NB308_325, Q_NB325_308, Q_NB309_325, Q_NB325_309, Q_NB317_325, Q_NB325_317, Q_BK325_e10, Q_X9_⟩ hb_ hon hoff
          refine ⟨_, rfl, fun K hK => ?_⟩
          replace ha := Aside0.mk ha
          have BK308 := Aside0.mk Q_BK308
          have BK309 := Aside0.mk Q_BK309
          have BK317 := Aside0.mk Q_BK317
          have HB := Aside0.mk Q_HB
          refine box_step ?hg (N := 9) ?hd (cs := (mixA (Value.int .u16) [] (LA.zero 40))) (t := 26) ?hr ?_; (case hd => rfl); (case hg => rfl); (case hr => first | (go_simp; done) | (go_simp; rfl))
          intro gb325 hg w25 hbox hb
          have n0_ := Aside0.mk (blk_below (g := gb308) (o := .cells (mixA (Value.int .u16) [.int .i8 a0_0, .int .i8 a0_1] a0_2) 37 (0, 0)) (by (with_reducible repeat (first | refine blk_drewN ?_ _ | refine blk_drew ?_ | refine blk_alloc ?_ _)); exact BK308.out) hb)
          have n1_ := Aside0.mk (blk_below (g := gb309) (o := .cells #[.int .i8 a1_0, .int .i8 a1_1] 31 (0, 0)) (by (with_reducible repeat (first | refine blk_drewN ?_ _ | refine blk_drew ?_ | refine blk_alloc ?_ _)); exact BK309.out) hb)
          have n2_ := Aside0.mk (blk_below (g := gb317) (o := .cells (mixA (Value.int .u16) [] t315) 26 (0, 0)) (by (with_reducible repeat (first | refine blk_drewN ?_ _ | refine blk_drew ?_ | refine blk_alloc ?_ _)); exact BK317.out) hb)
          have n3_ := Aside0.mk (below_step (by repeat (first | (with_reducible first | exact HB.out | apply below_alloc | apply pw_below_drewN | apply below_drew1 | refine below_set ?_ GE308.out | refine below_set ?_ GE309.out | refine below_set ?_ GE317.out) | exact HB.out)) hb)
          have n4_ := Aside0.mk (hbox)
          have n5_ := Aside0.mk ((by rw [hg]; exact (below_size (by repeat (first | (with_reducible first | exact HB.out | apply below_alloc | apply pw_below_drewN | apply below_drew1 | refine below_set ?_ GE308.out | refine below_set ?_ GE309.out | refine below_set ?_ GE317.out) | exact HB.out))) : w.heap.size ≤ gb325))
          have n6_ := Aside0.mk ((by rw [hg]; exact (below_size (by repeat (first | (with_reducible first | exact HB.out | apply below_alloc | apply pw_below_drewN | apply below_drew1 | refine below_set ?_ GE308.out | refine below_set ?_ GE309.out | refine below_set ?_ GE317.out) | exact HB.out))) : w.heap.size ≤ gb325))
          have n7_ := Aside0.mk ((by rw [hg]; exact Nat.ne_of_lt (blk_lt (g := gb308) (o := .cells (mixA (Value.int .u16) [.int .i8 a0_0, .int .i8 a0_1] a0_2) 37 (0, 0)) (by (with_reducible repeat (first | refine blk_drewN ?_ _ | refine blk_drew ?_ | refine blk_alloc ?_ _)); exact BK308.out)) : gb308 ≠ gb325))
          have n8_ := Aside0.mk ((by rw [hg]; exact Nat.ne_of_gt (blk_lt (g := gb308) (o := .cells (mixA (Value.int .u16) [.int .i8 a0_0, .int .i8 a0_1] a0_2) 37 (0, 0)) (by (with_reducible repeat (first | refine blk_drewN ?_ _ | refine blk_drew ?_ | refine blk_alloc ?_ _)); exact BK308.out)) : gb325 ≠ gb308))
          have n9_ := Aside0.mk ((by rw [hg]; exact Nat.ne_of_lt (blk_lt (g := gb309) (o := .cells #[.int .i8 a1_0, .int .i8 a1_1] 31 (0, 0)) (by (with_reducible repeat (first | refine blk_drewN ?_ _ | refine blk_drew ?_ | refine blk_alloc ?_ _)); exact BK309.out)) : gb309 ≠ gb325))
          have n10_ := Aside0.mk ((by rw [hg]; exact Nat.ne_of_gt (blk_lt (g := gb309) (o := .cells #[.int .i8 a1_0, .int .i8 a1_1] 31 (0, 0)) (by (with_reducible repeat (first | refine blk_drewN ?_ _ | refine blk_drew ?_ | refine blk_alloc ?_ _)); exact BK309.out)) : gb325 ≠ gb309))
          have n11_ := Aside0.mk ((by rw [hg]; exact Nat.ne_of_lt (blk_lt (g := gb317) (o := .cells (mixA (Value.int .u16) [] t315) 26 (0, 0)) (by (with_reducible repeat (first | refine blk_drewN ?_ _ | refine blk_drew ?_ | refine blk_alloc ?_ _)); exact BK317.out)) : gb317 ≠ gb325))
          have n12_ := Aside0.mk ((by rw [hg]; exact Nat.ne_of_gt (blk_lt (g := gb317) (o := .cells (mixA (Value.int .u16) [] t315) 26 (0, 0)) (by (with_reducible repeat (first | refine blk_drewN ?_ _ | refine blk_drew ?_ | refine blk_alloc ?_ _)); exact BK317.out)) : gb325 ≠ gb317))
          clear BK308
          clear BK309
          clear BK317
          clear HB
          have BK308 := n0_
          have BK309 := n1_
          have BK317 := n2_
          have HB := n3_
          have BK325 := n4_
          have GW325 := n5_
          have GE325 := n6_
          have NB308_325 := n7_
          have NB325_308 := n8_
          have NB309_325 := n9_
          have NB325_309 := n10_
          have NB317_325 := n11_
          have NB325_317 := n12_
          clear n0_ n1_ n2_ n3_ n4_ n5_ n6_ n7_ n8_ n9_ n10_ n11_ n12_
          clear hb hbox hg
          refine hK.out _ _ ⟨gb325, (.pointer (some ⟨gb325, 0, none⟩)), (by rw [ha.out]; exact putSel_upk 8 hb_ rfl rfl rfl), (by (with_reducible repeat (first | refine blk_drewN ?_ _ | refine blk_drew ?_ | refine blk_alloc ?_ _)); exact BK308.out), (by (with_reducible repeat (first | refine blk_drewN ?_ _ | refine blk_drew ?_ | refine blk_alloc ?_ _)); exact BK309.out), (by (with_reducible repeat (first | refine blk_drewN ?_ _ | refine blk_drew ?_ | refine blk_alloc ?_ _)); exact BK317.out), (by repeat (first | (with_reducible first | exact HB.out | apply below_alloc | apply pw_below_drewN | apply below_drew1 | refine below_set ?_ GE308.out | refine below_set ?_ GE309.out | refine below_set ?_ GE317.out | refine below_set ?_ GE325.out) | exact HB.out)), fun _ _ => (by (with_reducible repeat (first | refine blk_drewN ?_ _ | refine blk_drew ?_ | refine blk_alloc ?_ _)); exact BK325.out), fun _ => GW325.out, fun _ => GE325.out, fun _ => NB308_325.out, fun _ => NB325_308.out, fun _ => NB309_325.out, fun _ => NB325_309.out, fun _ => NB317_325.out, fun _ => NB325_317.out, fun h0_ => absurd ((hoff 10 (by kernel_rfl)).symm.trans h0_) (by decide), fun _ => rfl⟩
        refine steps_cons ?_ ?_
        · rintro b a w' ⟨gb325, m9_, ha, Q_BK308, Q_BK309, Q_BK317, Q_HB, Q_BK325, Q_GW325, Q_GE325, Q_NB308_325, Q_NB325_308, Q_NB309_325, Q_NB325_309, Q_NB317_325, Q_NB325_317, Q_BK325_e10, Q_X9_⟩ hb_ hon hoff
          refine ⟨_, rfl, fun K hK => ?_⟩
          have e9 : a.tmps[9]? = some (m9_) := by rw [ha]; exact putSel_on (e := (9, 9, m9_)) 8 rfl rfl (hon 9 (by kernel_rfl)) rfl
          rw [Q_X9_ (hon 9 (by kernel_rfl))] at e9
          have e27 : a.tmps[27]? = some (.agg (mixA (Value.int .u16) [] t323)) := by rw [ha]; exact putSel_on (e := (7, 27, .agg (mixA (Value.int .u16) [] t323))) 6 rfl rfl (hon 7 (by kernel_rfl)) rfl
          replace ha := Aside0.mk ha
          have BK308 := Aside0.mk Q_BK308
          have BK309 := Aside0.mk Q_BK309
          have BK317 := Aside0.mk Q_BK317
          have HB := Aside0.mk Q_HB
          have BK325 := Aside0.mk (Q_BK325 (hon 9 (by kernel_rfl)) hb_)
          have GW325 := Aside0.mk (Q_GW325 (hon 9 (by kernel_rfl)))
          have GE325 := Aside0.mk (Q_GE325 (hon 9 (by kernel_rfl)))
          have NB308_325 := Aside0.mk (Q_NB308_325 (hon 9 (by kernel_rfl)))
          have NB325_308 := Aside0.mk (Q_NB325_308 (hon 9 (by kernel_rfl)))
          have NB309_325 := Aside0.mk (Q_NB309_325 (hon 9 (by kernel_rfl)))
          have NB325_309 := Aside0.mk (Q_NB325_309 (hon 9 (by kernel_rfl)))
          have NB317_325 := Aside0.mk (Q_NB317_325 (hon 9 (by kernel_rfl)))
          have NB325_317 := Aside0.mk (Q_NB325_317 (hon 9 (by kernel_rfl)))
          refine step_store_lmix (by rfl) rfl 26 _ _ rfl gb325 (e := (Value.int .u16)) (cs' := []) (W' := t323) (cs := []) (W := (LA.zero 40)) (T := 26) (by first | (simp only [List.map_toArray, List.map_cons, List.map_nil, Act.eval, Array.getD_eq_getD_getElem?, Option.getD_some, e9, e27]; done) | (simp only [List.map_toArray, List.map_cons, List.map_nil, Act.eval, Array.getD_eq_getD_getElem?, Option.getD_some, e9, e27]; rfl)) (by first | (simp only [List.map_toArray, List.map_cons, List.map_nil, Act.eval, Array.getD_eq_getD_getElem?, Option.getD_some, e9, e27]; done) | (simp only [List.map_toArray, List.map_cons, List.map_nil, Act.eval, Array.getD_eq_getD_getElem?, Option.getD_some, e9, e27]; rfl)) (by (with_reducible repeat (first | refine blk_drewN ?_ _ | refine blk_drew ?_ | refine blk_alloc ?_ _)); exact BK325.out) rfl (by kernel_rfl) rfl (fun _ => rfl) rfl ?_
          intro w30 hi hk hbl
          have n0_ := Aside0.mk (KeepBut.blk hk (g' := gb308) (o := .cells (mixA (Value.int .u16) [.int .i8 a0_0, .int .i8 a0_1] a0_2) 37 (0, 0)) (by (with_reducible repeat (first | refine blk_drewN ?_ _ | refine blk_drew ?_ | refine blk_alloc ?_ _)); exact BK308.out) NB308_325.out (by simp))
          have n1_ := Aside0.mk (KeepBut.blk hk (g' := gb309) (o := .cells #[.int .i8 a1_0, .int .i8 a1_1] 31 (0, 0)) (by (with_reducible repeat (first | refine blk_drewN ?_ _ | refine blk_drew ?_ | refine blk_alloc ?_ _)); exact BK309.out) NB309_325.out (by simp))
          have n2_ := Aside0.mk (KeepBut.blk hk (g' := gb317) (o := .cells (mixA (Value.int .u16) [] t315) 26 (0, 0)) (by (with_reducible repeat (first | refine blk_drewN ?_ _ | refine blk_drew ?_ | refine blk_alloc ?_ _)); exact BK317.out) NB317_325.out (by simp))
          have n3_ := Aside0.mk (hbl _ _ (by repeat (first | (with_reducible first | exact HB.out | apply below_alloc | apply pw_below_drewN | apply below_drew1 | refine below_set ?_ GE308.out | refine below_set ?_ GE309.out | refine below_set ?_ GE317.out | refine below_set ?_ GE325.out) | exact HB.out)) GE325.out)
          have n4_ := Aside0.mk (hi)
          clear BK308
          clear BK309
          clear BK317
          clear HB
          clear BK325
          have BK308 := n0_
          have BK309 := n1_
          have BK317 := n2_
          have HB := n3_
          have BK325 := n4_
          clear n0_ n1_ n2_ n3_ n4_
          clear hi hk hbl
          refine hK.out _ _ ⟨gb325, m9_, (by rw [ha.out]; exact putSel_none (v := undef) rfl), (by (with_reducible repeat (first | refine blk_drewN ?_ _ | refine blk_drew ?_ | refine blk_alloc ?_ _)); exact BK308.out), (by (with_reducible repeat (first | refine blk_drewN ?_ _ | refine blk_drew ?_ | refine blk_alloc ?_ _)); exact BK309.out), (by (with_reducible repeat (first | refine blk_drewN ?_ _ | refine blk_drew ?_ | refine blk_alloc ?_ _)); exact BK317.out), (by repeat (first | (with_reducible first | exact HB.out | apply below_alloc | apply pw_below_drewN | apply below_drew1 | refine below_set ?_ GE308.out | refine below_set ?_ GE309.out | refine below_set ?_ GE317.out | refine below_set ?_ GE325.out) | exact HB.out)), fun _ h1_ => absurd ((up_self b 10).symm.trans h1_) (by decide), fun _ => GW325.out, fun _ => GE325.out, fun _ => NB308_325.out, fun _ => NB325_308.out, fun _ => NB309_325.out, fun _ => NB325_309.out, fun _ => NB317_325.out, fun _ => NB325_317.out, fun _ => (by (with_reducible repeat (first | refine blk_drewN ?_ _ | refine blk_drew ?_ | refine blk_alloc ?_ _)); exact BK325.out), Q_X9_⟩
        refine steps_cons ?_ ?_
        · rintro b a w' ⟨gb325, m9_, ha, Q_BK308, Q_BK309, Q_BK317, Q_HB, Q_BK325, Q_GW325, Q_GE325, Q_NB308_325, Q_NB325_308, Q_NB309_325, Q_NB325_309, Q_NB317_325, Q_NB325_317, Q_BK325_e10, Q_X9_⟩ hb_ hon hoff
          refine ⟨_, rfl, fun K hK => ?_⟩
          have e28 : a.tmps[28]? = some (.int .i64 t324) := by rw [ha]; exact putSel_on (e := (8, 28, .int .i64 t324)) 7 rfl rfl (hon 8 (by kernel_rfl)) rfl
          replace ha := Aside0.mk ha
          have BK308 := Aside0.mk Q_BK308
          have BK309 := Aside0.mk Q_BK309
          have BK317 := Aside0.mk Q_BK317
          have HB := Aside0.mk Q_HB
          have GW325 := Aside0.mk (Q_GW325 (hon 9 (by kernel_rfl)))
          have GE325 := Aside0.mk (Q_GE325 (hon 9 (by kernel_rfl)))
          have NB308_325 := Aside0.mk (Q_NB308_325 (hon 9 (by kernel_rfl)))
          have NB325_308 := Aside0.mk (Q_NB325_308 (hon 9 (by kernel_rfl)))
          have NB309_325 := Aside0.mk (Q_NB309_325 (hon 9 (by kernel_rfl)))
          have NB325_309 := Aside0.mk (Q_NB325_309 (hon 9 (by kernel_rfl)))
          have NB317_325 := Aside0.mk (Q_NB317_325 (hon 9 (by kernel_rfl)))
          have NB325_317 := Aside0.mk (Q_NB325_317 (hon 9 (by kernel_rfl)))
          have BK325 := Aside0.mk (Q_BK325_e10 (hon 10 (by kernel_rfl)))
          refine value_ (w1 := w') (v := .int .i64 t324) (by rfl) rfl ?_ ?_
          · go_simp
            (try simp only [i64_w])
            try rfl
          refine hK.out _ _ ⟨gb325, m9_, (by rw [ha.out]; exact putSel_upk 9 hb_ rfl rfl rfl), Q_BK308, Q_BK309, Q_BK317, Q_HB, fun _ h1_ => absurd ((hon 10 (by kernel_rfl)).symm.trans h1_) (by decide), Q_GW325, Q_GE325, Q_NB308_325, Q_NB325_308, Q_NB309_325, Q_NB325_309, Q_NB317_325, Q_NB325_317, Q_BK325_e10, Q_X9_⟩
        exact steps_nil
      rintro b a w30 hall ⟨gb325, m9_, ha, Q_BK308, Q_BK309, Q_BK317, Q_HB, Q_BK325, Q_GW325, Q_GE325, Q_NB308_325, Q_NB325_308, Q_NB309_325, Q_NB325_309, Q_NB317_325, Q_NB325_317, Q_BK325_e10, Q_X9_⟩
      clear BK308 BK309 BK317 HB
      have hb0_ := hall 0 (by kernel_rfl)
      have hb1_ := hall 1 (by kernel_rfl)
      have hb2_ := hall 2 (by kernel_rfl)
      have hb3_ := hall 3 (by kernel_rfl)
      have hb5_ := hall 5 (by kernel_rfl)
      have hb6_ := hall 6 (by kernel_rfl)
      have hb7_ := hall 7 (by kernel_rfl)
      have hb8_ := hall 8 (by kernel_rfl)
      have hb9_ := hall 9 (by kernel_rfl)
      have hb10_ := hall 10 (by kernel_rfl)
      have hb11_ := hall 11 (by kernel_rfl)
      subst ha
      obtain rfl := Q_X9_ hb9_
      simp only [putSel, hb0_, hb1_, hb2_, hb3_, hb5_, hb6_, hb7_, hb8_, hb9_, hb10_, hb11_, if_true, Act.put, List.setIfInBounds_toArray, List.set_cons_zero, List.set_cons_succ]
      have BK308 := Aside0.mk Q_BK308
      clear Q_BK308
      have BK309 := Aside0.mk Q_BK309
      clear Q_BK309
      have BK317 := Aside0.mk Q_BK317
      clear Q_BK317
      have HB := Aside0.mk Q_HB
      clear Q_HB
      clear Q_BK325
      have GW325 := Aside0.mk (Q_GW325 hb9_)
      clear Q_GW325
      have GE325 := Aside0.mk (Q_GE325 hb9_)
      clear Q_GE325
      have NB308_325 := Aside0.mk (Q_NB308_325 hb9_)
      clear Q_NB308_325
      have NB325_308 := Aside0.mk (Q_NB325_308 hb9_)
      clear Q_NB325_308
      have NB309_325 := Aside0.mk (Q_NB309_325 hb9_)
      clear Q_NB309_325
      have NB325_309 := Aside0.mk (Q_NB325_309 hb9_)
      clear Q_NB325_309
      have NB317_325 := Aside0.mk (Q_NB317_325 hb9_)
      clear Q_NB317_325
      have NB325_317 := Aside0.mk (Q_NB325_317 hb9_)
      clear Q_NB325_317
      have BK325 := Aside0.mk (Q_BK325_e10 hb10_)
      clear Q_BK325_e10
      clear hall hb0_ hb1_ hb2_ hb3_ hb5_ hb6_ hb7_ hb8_ hb9_ hb10_ hb11_
      try go_wp2_with (first | ((with_reducible refine gate_dst (N := 29) rfl ?_); refine wpList_run0 (v := .agg (mixA (Value.int .u16) [] t323)) rfl (load_mix_run (P := Try.prog) 26 (.tmp 9) rfl gb325 rfl (show World.rangeAt _ gb325 0 ([] ++ t323.l.map (Value.int .u16)) from mix_range (show (World.heap _)[gb325]? = some (.cells (mixA (Value.int .u16) [] t323) 26 (0, 0)) from by (with_reducible repeat (first | refine blk_drewN ?_ _ | refine blk_drew ?_ | refine blk_alloc ?_ _)); exact BK325.out)) Try.underlying26 rfl (by kernel_rfl) rfl) ?_) | ((with_reducible refine gate_dst (N := 30) rfl ?_); refine wpList_run0 (v := .agg (mixA (Value.int .u16) [] t315)) rfl (load_mix_run (P := Try.prog) 26 (.tmp 7) rfl gb317 rfl (show World.rangeAt _ gb317 0 ([] ++ t315.l.map (Value.int .u16)) from mix_range (show (World.heap _)[gb317]? = some (.cells (mixA (Value.int .u16) [] t315) 26 (0, 0)) from by (with_reducible repeat (first | refine blk_drewN ?_ _ | refine blk_drew ?_ | refine blk_alloc ?_ _)); exact BK317.out)) Try.underlying26 rfl (by kernel_rfl) rfl) ?_) | ((with_reducible refine gate_callee (f := 22) rfl ?_); refine goesL_ (some 31) rfl rfl Try.func22 (by kernel_rfl) rfl #[.agg (mixA (Value.int .u16) [] t323), .agg (mixA (Value.int .u16) [] t315)] rfl (by (try simp only [List.map_toArray, List.map_cons, List.map_nil]); first | done | rfl | (simp only [List.length_drop, List.length_take]; rfl)) ?_; (with_reducible refine (laws_eqCrowd.calls k t323 t315 true _ A10.out).mono ?_); rintro e w35 ⟨rfl, hb⟩; refine ⟨_, rfl, ?_⟩; have n0_ := Aside0.mk (blk_below (g := gb308) (o := .cells (mixA (Value.int .u16) [.int .i8 a0_0, .int .i8 a0_1] a0_2) 37 (0, 0)) (by (with_reducible repeat (first | refine blk_drewN ?_ _ | refine blk_drew ?_ | refine blk_alloc ?_ _)); exact BK308.out) hb); have n1_ := Aside0.mk (blk_below (g := gb309) (o := .cells #[.int .i8 a1_0, .int .i8 a1_1] 31 (0, 0)) (by (with_reducible repeat (first | refine blk_drewN ?_ _ | refine blk_drew ?_ | refine blk_alloc ?_ _)); exact BK309.out) hb); have n2_ := Aside0.mk (blk_below (g := gb317) (o := .cells (mixA (Value.int .u16) [] t315) 26 (0, 0)) (by (with_reducible repeat (first | refine blk_drewN ?_ _ | refine blk_drew ?_ | refine blk_alloc ?_ _)); exact BK317.out) hb); have n3_ := Aside0.mk (blk_below (g := gb325) (o := .cells (mixA (Value.int .u16) [] t323) 26 (0, 0)) (by (with_reducible repeat (first | refine blk_drewN ?_ _ | refine blk_drew ?_ | refine blk_alloc ?_ _)); exact BK325.out) hb); have n4_ := Aside0.mk (below_step (by repeat (first | (with_reducible first | exact HB.out | apply below_alloc | apply pw_below_drewN | apply below_drew1 | refine below_set ?_ GE308.out | refine below_set ?_ GE309.out | refine below_set ?_ GE317.out | refine below_set ?_ GE325.out) | exact HB.out)) hb); clear BK308; clear BK309; clear BK317; clear BK325; clear HB; have BK308 := n0_; have BK309 := n1_; have BK317 := n2_; have BK325 := n3_; have HB := n4_; clear n0_ n1_ n2_ n3_ n4_; (try clear hb); (try clear hb2); (try clear hk); (try clear hi)))
      go_ret
      exact ⟨by first | rfl | (simp [errW_none, errW_some] <;> rfl) | (simp [*, errW_none, errW_some] <;> rfl), by repeat (first | (with_reducible first | exact HB.out | apply below_alloc | apply pw_below_drewN | apply below_drew1 | refine below_set ?_ GE308.out | refine below_set ?_ GE309.out | refine below_set ?_ GE317.out | refine below_set ?_ GE325.out) | exact HB.out)⟩
    · rw [if_neg c12] at H
      have c12b0 : (t324 == t316) = false := beq_eq_false_iff_ne.mpr c12
      have c12b1 : (t324 != t316) = true := bne_iff_ne.mpr c12
      obtain rfl := Option.some.inj H
      go_enter Try.func7, Try.ntmps7
      try go_wp2_with (first | ((with_reducible refine gate_dst (N := 3) rfl ?_); refine box_event ?hg (N := 3) ?hd (cs := (mixA (Value.int .u16) [.int .i8 a0_0, .int .i8 a0_1] a0_2)) (t := 37) ?hr ?_; (case hd => rfl); (case hg => rfl); (case hr => first | (go_simp; done) | (go_simp; rfl)); intro gb308 hg w36 hbox hb; have n0_ := Aside0.mk (below_step (by repeat (first | (with_reducible first | exact HB.out | apply below_alloc | apply pw_below_drewN | apply below_drew1) | exact HB.out)) hb); have n1_ := Aside0.mk (hbox); have n2_ := Aside0.mk ((by rw [hg]; exact (below_size (by repeat (first | (with_reducible first | exact HB.out | apply below_alloc | apply pw_below_drewN | apply below_drew1) | exact HB.out))) : w.heap.size ≤ gb308)); have n3_ := Aside0.mk ((by rw [hg]; exact (below_size (by repeat (first | (with_reducible first | exact HB.out | apply below_alloc | apply pw_below_drewN | apply below_drew1) | exact HB.out))) : w.heap.size ≤ gb308)); clear HB; have HB := n0_; have BK308 := n1_; have GW308 := n2_; have GE308 := n3_; clear n0_ n1_ n2_ n3_; clear hb hbox hg) | ((with_reducible refine gate_dst (N := 4) rfl ?_); refine box_event ?hg (N := 4) ?hd (cs := #[.int .i8 a1_0, .int .i8 a1_1]) (t := 31) ?hr ?_; (case hd => rfl); (case hg => rfl); (case hr => first | (go_simp; done) | (go_simp; rfl)); intro gb309 hg w37 hbox hb; have n0_ := Aside0.mk (blk_below (g := gb308) (o := .cells (mixA (Value.int .u16) [.int .i8 a0_0, .int .i8 a0_1] a0_2) 37 (0, 0)) (by (with_reducible repeat (first | refine blk_drewN ?_ _ | refine blk_drew ?_ | refine blk_alloc ?_ _)); exact BK308.out) hb); have n1_ := Aside0.mk (below_step (by repeat (first | (with_reducible first | exact HB.out | apply below_alloc | apply pw_below_drewN | apply below_drew1 | refine below_set ?_ GE308.out) | exact HB.out)) hb); have n2_ := Aside0.mk (hbox); have n3_ := Aside0.mk ((by rw [hg]; exact (below_size (by repeat (first | (with_reducible first | exact HB.out | apply below_alloc | apply pw_below_drewN | apply below_drew1 | refine below_set ?_ GE308.out) | exact HB.out))) : w.heap.size ≤ gb309)); have n4_ := Aside0.mk ((by rw [hg]; exact (below_size (by repeat (first | (with_reducible first | exact HB.out | apply below_alloc | apply pw_below_drewN | apply below_drew1 | refine below_set ?_ GE308.out) | exact HB.out))) : w.heap.size ≤ gb309)); have n5_ := Aside0.mk ((by rw [hg]; exact Nat.ne_of_lt (blk_lt (g := gb308) (o := .cells (mixA (Value.int .u16) [.int .i8 a0_0, .int .i8 a0_1] a0_2) 37 (0, 0)) (by (with_reducible repeat (first | refine blk_drewN ?_ _ | refine blk_drew ?_ | refine blk_alloc ?_ _)); exact BK308.out)) : gb308 ≠ gb309)); have n6_ := Aside0.mk ((by rw [hg]; exact Nat.ne_of_gt (blk_lt (g := gb308) (o := .cells (mixA (Value.int .u16) [.int .i8 a0_0, .int .i8 a0_1] a0_2) 37 (0, 0)) (by (with_reducible repeat (first | refine blk_drewN ?_ _ | refine blk_drew ?_ | refine blk_alloc ?_ _)); exact BK308.out)) : gb309 ≠ gb308)); clear BK308; clear HB; have BK308 := n0_; have HB := n1_; have BK309 := n2_; have GW309 := n3_; have GE309 := n4_; have NB308_309 := n5_; have NB309_308 := n6_; clear n0_ n1_ n2_ n3_ n4_ n5_ n6_; clear hb hbox hg))
      have n0_ := Aside0.mk (blk_drew BK308.out)
      have n1_ := Aside0.mk (blk_drew BK309.out)
      have n2_ := Aside0.mk (below_drew1 HB.out)
      clear BK308
      clear BK309
      clear HB
      have BK308 := n0_
      have BK309 := n1_
      have HB := n2_
      clear n0_ n1_ n2_
      refine start_ (n := 12) (S := fun w' => True) (ds := []) #[false, false, false, false, false, false, false, false, false, false, false, false] (by kernel_rfl) rfl rfl trivial (fun hHeld => ?_); refine with_tabW laws_FnExactCrowdAt.tab1 laws_FnExactCrowdAt.bits1 (fun HT_ HW_ => ?_)
      generalize w37.drew = w38 at BK308 BK309 HB hHeld ⊢
      refine pure_ (i := 4) (N := some 16) (v := ?_) (a' := ?_) #[false, false, false, false, true, false, false, false, false, false, false, false] rfl rfl (any_of HT_.out (by kernel_rfl)) (fun _ _ _ h => h) (Or.inl ⟨by rfl, ?_⟩) ?_ ?_
      rotate_left
      · intro w'
        go_simp
        with_reducible rfl
      rotate_left
      · simp only [Act.put, List.setIfInBounds_toArray, List.set_cons_zero, List.set_cons_succ, i64_w, i32_w]
        rfl
      refine inv_at [0, 1, 2, 3, 5, 6, 7, 8, 9, 10, 11] (fun a0_ b a w' => ∃ (gb317 : Nat) (m9_ : Value), a = putSel a0_ b [(0, 12, .agg (mixA (Value.int .u16) [.int .i8 a0_0, .int .i8 a0_1] a0_2)), (1, 13, .agg (mixA (Value.int .u16) [.int .i8 t310, .int .i8 t311] t312)), (2, 14, .agg #[.int .i8 a1_0, .int .i8 a1_1]), (3, 15, .agg #[.int .i8 t313, .int .i8 t314]), (5, 17, .tuple #[.agg (mixA (Value.int .u16) [] t315), .int .i64 t316]), (6, 11, .tuple #[.agg (mixA (Value.int .u16) [] t315), .int .i64 t316]), (7, 18, .agg (mixA (Value.int .u16) [] t315)), (8, 19, .int .i64 t316), (9, 7, m9_), (11, 8, .int .i64 t316)] ∧ (w'.heap[gb308]? = some (.cells (mixA (Value.int .u16) [.int .i8 a0_0, .int .i8 a0_1] a0_2) 37 (0, 0))) ∧ (w'.heap[gb309]? = some (.cells #[.int .i8 a1_0, .int .i8 a1_1] 31 (0, 0))) ∧ (Below w.heap.size w w') ∧ (b 9 = true → b 10 = false → w'.heap[gb317]? = some (.cells (mixA (Value.int .u16) [] (LA.zero 40)) 26 (0, 0))) ∧ (b 9 = true → w.heap.size ≤ gb317) ∧ (b 9 = true → w.heap.size ≤ gb317) ∧ (b 9 = true → gb308 ≠ gb317) ∧ (b 9 = true → gb317 ≠ gb308) ∧ (b 9 = true → gb309 ≠ gb317) ∧ (b 9 = true → gb317 ≠ gb309) ∧ (b 10 = true → w'.heap[gb317]? = some (.cells (mixA (Value.int .u16) [] t315) 26 (0, 0))) ∧ (b 9 = true → (m9_ : Value) = .pointer (some ⟨gb317, 0, none⟩))) HT_.out HW_.out (by kernel_rfl) (by kernel_rfl) ?_ ?_ ?_
      · exact ⟨0, .bool false, by simp only [putSel, Bool.false_eq_true, if_false], BK308.out, BK309.out, HB.out, fun h_ => absurd h_ (by decide), fun h_ => absurd h_ (by decide), fun h_ => absurd h_ (by decide), fun h_ => absurd h_ (by decide), fun h_ => absurd h_ (by decide), fun h_ => absurd h_ (by decide), fun h_ => absurd h_ (by decide), fun h_ => absurd h_ (by decide), fun h_ => absurd h_ (by decide)⟩
      · skip
        clear BK308 BK309 HB
        refine steps_cons ?_ ?_
        · rintro b a w' ⟨gb317, m9_, ha, Q_BK308, Q_BK309, Q_HB, Q_BK317, Q_GW317, Q_GE317, Q_NB308_317, Q_NB317_308, Q_NB309_317, Q_NB317_309, Q_BK317_e10, Q_X9_⟩ hb_ hon hoff
          refine ⟨_, rfl, fun K hK => ?_⟩
          have e3 : a.tmps[3]? = some (.pointer (some ⟨gb308, 0, none⟩)) := by rw [ha]; exact (putSel_off rfl).trans rfl
          replace ha := Aside0.mk ha
          have BK308 := Aside0.mk Q_BK308
          have BK309 := Aside0.mk Q_BK309
          have HB := Aside0.mk Q_HB
          have hL_ : World.rangeAt w' gb308 0 ([.int .i8 a0_0, .int .i8 a0_1] ++ a0_2.l.map (Value.int .u16)) := mix_range BK308.out
          refine value_ (w1 := w') (v := .agg (mixA (Value.int .u16) [.int .i8 a0_0, .int .i8 a0_1] a0_2)) (by rfl) rfl ?_ ?_
          · exact load_mix_run (P := Try.prog) 37 (.tmp 3) rfl gb308 (by simp only [Act.eval, Array.getD_eq_getD_getElem?, e3, Option.getD_some]) hL_ Try.underlying37 rfl (by kernel_rfl) rfl
          refine hK.out _ _ ⟨gb317, m9_, (by rw [ha.out]; exact putSel_upk 0 hb_ rfl rfl rfl), Q_BK308, Q_BK309, Q_HB, Q_BK317, Q_GW317, Q_GE317, Q_NB308_317, Q_NB317_308, Q_NB309_317, Q_NB317_309, fun h0_ => absurd ((hoff 10 (by kernel_rfl)).symm.trans h0_) (by decide), Q_X9_⟩
        refine steps_cons ?_ ?_
        · rintro b a w' ⟨gb317, m9_, ha, Q_BK308, Q_BK309, Q_HB, Q_BK317, Q_GW317, Q_GE317, Q_NB308_317, Q_NB317_308, Q_NB309_317, Q_NB317_309, Q_BK317_e10, Q_X9_⟩ hb_ hon hoff
          refine ⟨_, rfl, fun K hK => ?_⟩
          have e12 : a.tmps[12]? = some (.agg (mixA (Value.int .u16) [.int .i8 a0_0, .int .i8 a0_1] a0_2)) := by rw [ha]; exact putSel_on (e := (0, 12, .agg (mixA (Value.int .u16) [.int .i8 a0_0, .int .i8 a0_1] a0_2))) 0 rfl rfl (hon 0 (by kernel_rfl)) rfl
          replace ha := Aside0.mk ha
          have BK308 := Aside0.mk Q_BK308
          have BK309 := Aside0.mk Q_BK309
          have HB := Aside0.mk Q_HB
          refine goes_ Try.func18 (by kernel_rfl) rfl #[.agg (mixA (Value.int .u16) [.int .i8 a0_0, .int .i8 a0_1] a0_2)] (by rfl) rfl rfl (by first | (simp only [List.map_toArray, List.map_cons, List.map_nil, Act.eval, Array.getD_eq_getD_getElem?, Option.getD_some, e12]; done) | (simp only [List.map_toArray, List.map_cons, List.map_nil, Act.eval, Array.getD_eq_getD_getElem?, Option.getD_some, e12]; rfl)) ?_
          with_reducible refine (laws_toRoom.calls k a0_0 a0_1 a0_2 t310 t311 t312 _ A4.out).mono ?_
          rintro e w39 ⟨rfl, hb⟩
          refine ⟨_, rfl, ?_⟩
          have n0_ := Aside0.mk (blk_below (g := gb308) (o := .cells (mixA (Value.int .u16) [.int .i8 a0_0, .int .i8 a0_1] a0_2) 37 (0, 0)) (by (with_reducible repeat (first | refine blk_drewN ?_ _ | refine blk_drew ?_ | refine blk_alloc ?_ _)); exact BK308.out) hb)
          have n1_ := Aside0.mk (blk_below (g := gb309) (o := .cells #[.int .i8 a1_0, .int .i8 a1_1] 31 (0, 0)) (by (with_reducible repeat (first | refine blk_drewN ?_ _ | refine blk_drew ?_ | refine blk_alloc ?_ _)); exact BK309.out) hb)
          have n2_ := Aside0.mk (below_step (by repeat (first | (with_reducible first | exact HB.out | apply below_alloc | apply pw_below_drewN | apply below_drew1 | refine below_set ?_ GE308.out | refine below_set ?_ GE309.out) | exact HB.out)) hb)
          have z_BK317 := fun (h0_ : b 9 = true) (h1_ : b 10 = false) => (show w39.heap[gb317]? = some (.cells (mixA (Value.int .u16) [] (LA.zero 40)) 26 (0, 0)) from by first | exact (blk_below (g := gb317) (o := .cells (mixA (Value.int .u16) [] (LA.zero 40)) 26 (0, 0)) (by (with_reducible repeat (first | refine blk_drewN ?_ _ | refine blk_drew ?_ | refine blk_alloc ?_ _)); exact (Q_BK317 h0_ h1_)) hb))
          clear BK308
          clear BK309
          clear HB
          have BK308 := n0_
          have BK309 := n1_
          have HB := n2_
          clear n0_ n1_ n2_
          (try clear hb)
          (try clear hb2)
          (try clear hk)
          (try clear hi)
          refine hK.out _ _ ⟨gb317, m9_, (by rw [ha.out]; exact putSel_upk 1 hb_ rfl rfl rfl), (by (with_reducible repeat (first | refine blk_drewN ?_ _ | refine blk_drew ?_ | refine blk_alloc ?_ _)); exact BK308.out), (by (with_reducible repeat (first | refine blk_drewN ?_ _ | refine blk_drew ?_ | refine blk_alloc ?_ _)); exact BK309.out), (by repeat (first | (with_reducible first | exact HB.out | apply below_alloc | apply pw_below_drewN | apply below_drew1 | refine below_set ?_ GE308.out | refine below_set ?_ GE309.out) | exact HB.out)), z_BK317, Q_GW317, Q_GE317, Q_NB308_317, Q_NB317_308, Q_NB309_317, Q_NB317_309, fun h0_ => absurd ((hoff 10 (by kernel_rfl)).symm.trans h0_) (by decide), Q_X9_⟩
        refine steps_cons ?_ ?_
        · rintro b a w' ⟨gb317, m9_, ha, Q_BK308, Q_BK309, Q_HB, Q_BK317, Q_GW317, Q_GE317, Q_NB308_317, Q_NB317_308, Q_NB309_317, Q_NB317_309, Q_BK317_e10, Q_X9_⟩ hb_ hon hoff
          refine ⟨_, rfl, fun K hK => ?_⟩
          have e4 : a.tmps[4]? = some (.pointer (some ⟨gb309, 0, none⟩)) := by rw [ha]; exact (putSel_off rfl).trans rfl
          replace ha := Aside0.mk ha
          have BK308 := Aside0.mk Q_BK308
          have BK309 := Aside0.mk Q_BK309
          have HB := Aside0.mk Q_HB
          have hc0_ : w'.cell? ⟨gb309, 0, none⟩ = some (.int .i8 a1_0) := bc_ BK309.out 0
          have hc1_ : w'.cell? ⟨gb309, 1, none⟩ = some (.int .i8 a1_1) := bc_ BK309.out 1
          refine value_ (w1 := w') (v := .agg #[.int .i8 a1_0, .int .i8 a1_1]) (by rfl) rfl ?_ ?_
          · go_simp
            (try simp only [i64_w])
            try rfl
          refine hK.out _ _ ⟨gb317, m9_, (by rw [ha.out]; exact putSel_upk 2 hb_ rfl rfl rfl), Q_BK308, Q_BK309, Q_HB, Q_BK317, Q_GW317, Q_GE317, Q_NB308_317, Q_NB317_308, Q_NB309_317, Q_NB317_309, fun h0_ => absurd ((hoff 10 (by kernel_rfl)).symm.trans h0_) (by decide), Q_X9_⟩
        refine steps_cons ?_ ?_
        · rintro b a w' ⟨gb317, m9_, ha, Q_BK308, Q_BK309, Q_HB, Q_BK317, Q_GW317, Q_GE317, Q_NB308_317, Q_NB317_308, Q_NB309_317, Q_NB317_309, Q_BK317_e10, Q_X9_⟩ hb_ hon hoff
          refine ⟨_, rfl, fun K hK => ?_⟩
          have e14 : a.tmps[14]? = some (.agg #[.int .i8 a1_0, .int .i8 a1_1]) := by rw [ha]; exact putSel_on (e := (2, 14, .agg #[.int .i8 a1_0, .int .i8 a1_1])) 2 rfl rfl (hon 2 (by kernel_rfl)) rfl
          replace ha := Aside0.mk ha
          have BK308 := Aside0.mk Q_BK308
          have BK309 := Aside0.mk Q_BK309
          have HB := Aside0.mk Q_HB
          refine goes_ Try.func15 (by kernel_rfl) rfl #[.agg #[.int .i8 a1_0, .int .i8 a1_1]] (by rfl) rfl rfl (by first | (simp only [List.map_toArray, List.map_cons, List.map_nil, Act.eval, Array.getD_eq_getD_getElem?, Option.getD_some, e14]; done) | (simp only [List.map_toArray, List.map_cons, List.map_nil, Act.eval, Array.getD_eq_getD_getElem?, Option.getD_some, e14]; rfl)) ?_
          with_reducible refine (laws_toSpot.calls a1_0 a1_1 t313 t314 _ A5.out).mono ?_
          rintro e w41 ⟨rfl, hb⟩
          refine ⟨_, rfl, ?_⟩
          have n0_ := Aside0.mk (blk_below (g := gb308) (o := .cells (mixA (Value.int .u16) [.int .i8 a0_0, .int .i8 a0_1] a0_2) 37 (0, 0)) (by (with_reducible repeat (first | refine blk_drewN ?_ _ | refine blk_drew ?_ | refine blk_alloc ?_ _)); exact BK308.out) hb)
          have n1_ := Aside0.mk (blk_below (g := gb309) (o := .cells #[.int .i8 a1_0, .int .i8 a1_1] 31 (0, 0)) (by (with_reducible repeat (first | refine blk_drewN ?_ _ | refine blk_drew ?_ | refine blk_alloc ?_ _)); exact BK309.out) hb)
          have n2_ := Aside0.mk (below_step (by repeat (first | (with_reducible first | exact HB.out | apply below_alloc | apply pw_below_drewN | apply below_drew1 | refine below_set ?_ GE308.out | refine below_set ?_ GE309.out) | exact HB.out)) hb)
          have z_BK317 := fun (h0_ : b 9 = true) (h1_ : b 10 = false) => (show w41.heap[gb317]? = some (.cells (mixA (Value.int .u16) [] (LA.zero 40)) 26 (0, 0)) from by first | exact (blk_below (g := gb317) (o := .cells (mixA (Value.int .u16) [] (LA.zero 40)) 26 (0, 0)) (by (with_reducible repeat (first | refine blk_drewN ?_ _ | refine blk_drew ?_ | refine blk_alloc ?_ _)); exact (Q_BK317 h0_ h1_)) hb))
          clear BK308
          clear BK309
          clear HB
          have BK308 := n0_
          have BK309 := n1_
          have HB := n2_
          clear n0_ n1_ n2_
          (try clear hb)
          (try clear hb2)
          (try clear hk)
          (try clear hi)
          refine hK.out _ _ ⟨gb317, m9_, (by rw [ha.out]; exact putSel_upk 3 hb_ rfl rfl rfl), (by (with_reducible repeat (first | refine blk_drewN ?_ _ | refine blk_drew ?_ | refine blk_alloc ?_ _)); exact BK308.out), (by (with_reducible repeat (first | refine blk_drewN ?_ _ | refine blk_drew ?_ | refine blk_alloc ?_ _)); exact BK309.out), (by repeat (first | (with_reducible first | exact HB.out | apply below_alloc | apply pw_below_drewN | apply below_drew1 | refine below_set ?_ GE308.out | refine below_set ?_ GE309.out) | exact HB.out)), z_BK317, Q_GW317, Q_GE317, Q_NB308_317, Q_NB317_308, Q_NB309_317, Q_NB317_309, fun h0_ => absurd ((hoff 10 (by kernel_rfl)).symm.trans h0_) (by decide), Q_X9_⟩
        refine steps_cons ?_ ?_
        · rintro b a w' ⟨gb317, m9_, ha, Q_BK308, Q_BK309, Q_HB, Q_BK317, Q_GW317, Q_GE317, Q_NB308_317, Q_NB317_308, Q_NB309_317, Q_NB317_309, Q_BK317_e10, Q_X9_⟩ hb_ hon hoff
          refine ⟨_, rfl, fun K hK => ?_⟩
          have e13 : a.tmps[13]? = some (.agg (mixA (Value.int .u16) [.int .i8 t310, .int .i8 t311] t312)) := by rw [ha]; exact putSel_on (e := (1, 13, .agg (mixA (Value.int .u16) [.int .i8 t310, .int .i8 t311] t312))) 1 rfl rfl (hon 1 (by kernel_rfl)) rfl
          have e15 : a.tmps[15]? = some (.agg #[.int .i8 t313, .int .i8 t314]) := by rw [ha]; exact putSel_on (e := (3, 15, .agg #[.int .i8 t313, .int .i8 t314])) 3 rfl rfl (hon 3 (by kernel_rfl)) rfl
          have e16 : a.tmps[16]? = some (.int .i64 a2) := by rw [ha]; exact (putSel_off rfl).trans rfl
          replace ha := Aside0.mk ha
          have BK308 := Aside0.mk Q_BK308
          have BK309 := Aside0.mk Q_BK309
          have HB := Aside0.mk Q_HB
          refine goes_ Try.func23 (by kernel_rfl) rfl #[.agg (mixA (Value.int .u16) [.int .i8 t310, .int .i8 t311] t312), .agg #[.int .i8 t313, .int .i8 t314], .int .i64 a2] (by rfl) rfl rfl (by first | (simp only [List.map_toArray, List.map_cons, List.map_nil, Act.eval, Array.getD_eq_getD_getElem?, Option.getD_some, e13, e15, e16]; done) | (simp only [List.map_toArray, List.map_cons, List.map_nil, Act.eval, Array.getD_eq_getD_getElem?, Option.getD_some, e13, e15, e16]; rfl)) ?_
          with_reducible refine (spec_CrowdAt.calls k t310 t311 t312 t313 t314 a2 t315 t316 _ A6.out).mono ?_
          rintro e w42 ⟨rfl, hb⟩
          refine ⟨_, rfl, ?_⟩
          have n0_ := Aside0.mk (blk_below (g := gb308) (o := .cells (mixA (Value.int .u16) [.int .i8 a0_0, .int .i8 a0_1] a0_2) 37 (0, 0)) (by (with_reducible repeat (first | refine blk_drewN ?_ _ | refine blk_drew ?_ | refine blk_alloc ?_ _)); exact BK308.out) hb)
          have n1_ := Aside0.mk (blk_below (g := gb309) (o := .cells #[.int .i8 a1_0, .int .i8 a1_1] 31 (0, 0)) (by (with_reducible repeat (first | refine blk_drewN ?_ _ | refine blk_drew ?_ | refine blk_alloc ?_ _)); exact BK309.out) hb)
          have n2_ := Aside0.mk (below_step (by repeat (first | (with_reducible first | exact HB.out | apply below_alloc | apply pw_below_drewN | apply below_drew1 | refine below_set ?_ GE308.out | refine below_set ?_ GE309.out) | exact HB.out)) hb)
          have z_BK317 := fun (h0_ : b 9 = true) (h1_ : b 10 = false) => (show w42.heap[gb317]? = some (.cells (mixA (Value.int .u16) [] (LA.zero 40)) 26 (0, 0)) from by first | exact (blk_below (g := gb317) (o := .cells (mixA (Value.int .u16) [] (LA.zero 40)) 26 (0, 0)) (by (with_reducible repeat (first | refine blk_drewN ?_ _ | refine blk_drew ?_ | refine blk_alloc ?_ _)); exact (Q_BK317 h0_ h1_)) hb))
          clear BK308
          clear BK309
          clear HB
          have BK308 := n0_
          have BK309 := n1_
          have HB := n2_
          clear n0_ n1_ n2_
          (try clear hb)
          (try clear hb2)
          (try clear hk)
          (try clear hi)
          refine hK.out _ _ ⟨gb317, m9_, (by rw [ha.out]; exact putSel_upk 4 hb_ rfl rfl rfl), (by (with_reducible repeat (first | refine blk_drewN ?_ _ | refine blk_drew ?_ | refine blk_alloc ?_ _)); exact BK308.out), (by (with_reducible repeat (first | refine blk_drewN ?_ _ | refine blk_drew ?_ | refine blk_alloc ?_ _)); exact BK309.out), (by repeat (first | (with_reducible first | exact HB.out | apply below_alloc | apply pw_below_drewN | apply below_drew1 | refine below_set ?_ GE308.out | refine below_set ?_ GE309.out) | exact HB.out)), z_BK317, Q_GW317, Q_GE317, Q_NB308_317, Q_NB317_308, Q_NB309_317, Q_NB317_309, fun h0_ => absurd ((hoff 10 (by kernel_rfl)).symm.trans h0_) (by decide), Q_X9_⟩
        refine steps_cons ?_ ?_
        · rintro b a w' ⟨gb317, m9_, ha, Q_BK308, Q_BK309, Q_HB, Q_BK317, Q_GW317, Q_GE317, Q_NB308_317, Q_NB317_308, Q_NB309_317, Q_NB317_309, Q_BK317_e10, Q_X9_⟩ hb_ hon hoff
          refine ⟨_, rfl, fun K hK => ?_⟩
          have e17 : a.tmps[17]? = some (.tuple #[.agg (mixA (Value.int .u16) [] t315), .int .i64 t316]) := by rw [ha]; exact putSel_on (e := (5, 17, .tuple #[.agg (mixA (Value.int .u16) [] t315), .int .i64 t316])) 4 rfl rfl (hon 5 (by kernel_rfl)) rfl
          replace ha := Aside0.mk ha
          have BK308 := Aside0.mk Q_BK308
          have BK309 := Aside0.mk Q_BK309
          have HB := Aside0.mk Q_HB
          refine value_ (w1 := w') (v := .tuple #[.agg (mixA (Value.int .u16) [] t315), .int .i64 t316]) (by rfl) rfl ?_ ?_
          · go_simp
            (try simp only [i64_w])
            try rfl
          refine hK.out _ _ ⟨gb317, m9_, (by rw [ha.out]; exact putSel_upk 5 hb_ rfl rfl rfl), Q_BK308, Q_BK309, Q_HB, Q_BK317, Q_GW317, Q_GE317, Q_NB308_317, Q_NB317_308, Q_NB309_317, Q_NB317_309, fun h0_ => absurd ((hoff 10 (by kernel_rfl)).symm.trans h0_) (by decide), Q_X9_⟩
        refine steps_cons ?_ ?_
        · rintro b a w' ⟨gb317, m9_, ha, Q_BK308, Q_BK309, Q_HB, Q_BK317, Q_GW317, Q_GE317, Q_NB308_317, Q_NB317_308, Q_NB309_317, Q_NB317_309, Q_BK317_e10, Q_X9_⟩ hb_ hon hoff
          refine ⟨_, rfl, fun K hK => ?_⟩
          have e11 : a.tmps[11]? = some (.tuple #[.agg (mixA (Value.int .u16) [] t315), .int .i64 t316]) := by rw [ha]; exact putSel_on (e := (6, 11, .tuple #[.agg (mixA (Value.int .u16) [] t315), .int .i64 t316])) 5 rfl rfl (hon 6 (by kernel_rfl)) rfl
          replace ha := Aside0.mk ha
          have BK308 := Aside0.mk Q_BK308
          have BK309 := Aside0.mk Q_BK309
          have HB := Aside0.mk Q_HB
          refine value_ (w1 := w') (v := .agg (mixA (Value.int .u16) [] t315)) (by rfl) rfl ?_ ?_
          · go_simp
            (try simp only [i64_w])
            try rfl
          refine hK.out _ _ ⟨gb317, m9_, (by rw [ha.out]; exact putSel_upk 6 hb_ rfl rfl rfl), Q_BK308, Q_BK309, Q_HB, Q_BK317, Q_GW317, Q_GE317, Q_NB308_317, Q_NB317_308, Q_NB309_317, Q_NB317_309, fun h0_ => absurd ((hoff 10 (by kernel_rfl)).symm.trans h0_) (by decide), Q_X9_⟩
        refine steps_cons ?_ ?_
        · rintro b a w' ⟨gb317, m9_, ha, Q_BK308, Q_BK309, Q_HB, Q_BK317, Q_GW317, Q_GE317, Q_NB308_317, Q_NB317_308, Q_NB309_317, Q_NB317_309, Q_BK317_e10, Q_X9_⟩ hb_ hon hoff
          refine ⟨_, rfl, fun K hK => ?_⟩
          have e11 : a.tmps[11]? = some (.tuple #[.agg (mixA (Value.int .u16) [] t315), .int .i64 t316]) := by rw [ha]; exact putSel_on (e := (6, 11, .tuple #[.agg (mixA (Value.int .u16) [] t315), .int .i64 t316])) 5 rfl rfl (hon 6 (by kernel_rfl)) rfl
          replace ha := Aside0.mk ha
          have BK308 := Aside0.mk Q_BK308
          have BK309 := Aside0.mk Q_BK309
          have HB := Aside0.mk Q_HB
          refine value_ (w1 := w') (v := .int .i64 t316) (by rfl) rfl ?_ ?_
          · go_simp
            (try simp only [i64_w])
            try rfl
          refine hK.out _ _ ⟨gb317, m9_, (by rw [ha.out]; exact putSel_upk 7 hb_ rfl rfl rfl), Q_BK308, Q_BK309, Q_HB, Q_BK317, Q_GW317, Q_GE317, Q_NB308_317, Q_NB317_308, Q_NB309_317, Q_NB317_309, Q_BK317_e10, Q_X9_⟩
        refine steps_cons ?_ ?_
        · rintro b a w' ⟨gb317, m9_, ha, Q_BK308, Q_BK309, Q_HB, Q_BK317, Q_GW317, Q_GE317, Q_NB308_317, Q_NB317_308, Q_NB309_317, Q_NB317_309, Q_BK317_e10, Q_X9_⟩ hb_ hon hoff
          refine ⟨_, rfl, fun K hK => ?_⟩
          replace ha := Aside0.mk ha
          have BK308 := Aside0.mk Q_BK308
          have BK309 := Aside0.mk Q_BK309
          have HB := Aside0.mk Q_HB
          refine box_step ?hg (N := 7) ?hd (cs := (mixA (Value.int .u16) [] (LA.zero 40))) (t := 26) ?hr ?_; (case hd => rfl); (case hg => rfl); (case hr => first | (go_simp; done) | (go_simp; rfl))
          intro gb317 hg w39 hbox hb
          have n0_ := Aside0.mk (blk_below (g := gb308) (o := .cells (mixA (Value.int .u16) [.int .i8 a0_0, .int .i8 a0_1] a0_2) 37 (0, 0)) (by (with_reducible repeat (first | refine blk_drewN ?_ _ | refine blk_drew ?_ | refine blk_alloc ?_ _)); exact BK308.out) hb)
          have n1_ := Aside0.mk (blk_below (g := gb309) (o := .cells #[.int .i8 a1_0, .int .i8 a1_1] 31 (0, 0)) (by (with_reducible repeat (first | refine blk_drewN ?_ _ | refine blk_drew ?_ | refine blk_alloc ?_ _)); exact BK309.out) hb)
          have n2_ := Aside0.mk (below_step (by repeat (first | (with_reducible first | exact HB.out | apply below_alloc | apply pw_below_drewN | apply below_drew1 | refine below_set ?_ GE308.out | refine below_set ?_ GE309.out) | exact HB.out)) hb)
          have n3_ := Aside0.mk (hbox)
          have n4_ := Aside0.mk ((by rw [hg]; exact (below_size (by repeat (first | (with_reducible first | exact HB.out | apply below_alloc | apply pw_below_drewN | apply below_drew1 | refine below_set ?_ GE308.out | refine below_set ?_ GE309.out) | exact HB.out))) : w.heap.size ≤ gb317))
          have n5_ := Aside0.mk ((by rw [hg]; exact (below_size (by repeat (first | (with_reducible first | exact HB.out | apply below_alloc | apply pw_below_drewN | apply below_drew1 | refine below_set ?_ GE308.out | refine below_set ?_ GE309.out) | exact HB.out))) : w.heap.size ≤ gb317))
          have n6_ := Aside0.mk ((by rw [hg]; exact Nat.ne_of_lt (blk_lt (g := gb308) (o := .cells (mixA (Value.int .u16) [.int .i8 a0_0, .int .i8 a0_1] a0_2) 37 (0, 0)) (by (with_reducible repeat (first | refine blk_drewN ?_ _ | refine blk_drew ?_ | refine blk_alloc ?_ _)); exact BK308.out)) : gb308 ≠ gb317))
          have n7_ := Aside0.mk ((by rw [hg]; exact Nat.ne_of_gt (blk_lt (g := gb308) (o := .cells (mixA (Value.int .u16) [.int .i8 a0_0, .int .i8 a0_1] a0_2) 37 (0, 0)) (by (with_reducible repeat (first | refine blk_drewN ?_ _ | refine blk_drew ?_ | refine blk_alloc ?_ _)); exact BK308.out)) : gb317 ≠ gb308))
          have n8_ := Aside0.mk ((by rw [hg]; exact Nat.ne_of_lt (blk_lt (g := gb309) (o := .cells #[.int .i8 a1_0, .int .i8 a1_1] 31 (0, 0)) (by (with_reducible repeat (first | refine blk_drewN ?_ _ | refine blk_drew ?_ | refine blk_alloc ?_ _)); exact BK309.out)) : gb309 ≠ gb317))
          have n9_ := Aside0.mk ((by rw [hg]; exact Nat.ne_of_gt (blk_lt (g := gb309) (o := .cells #[.int .i8 a1_0, .int .i8 a1_1] 31 (0, 0)) (by (with_reducible repeat (first | refine blk_drewN ?_ _ | refine blk_drew ?_ | refine blk_alloc ?_ _)); exact BK309.out)) : gb317 ≠ gb309))
          clear BK308
          clear BK309
          clear HB
          have BK308 := n0_
          have BK309 := n1_
          have HB := n2_
          have BK317 := n3_
          have GW317 := n4_
          have GE317 := n5_
          have NB308_317 := n6_
          have NB317_308 := n7_
          have NB309_317 := n8_
          have NB317_309 := n9_
          clear n0_ n1_ n2_ n3_ n4_ n5_ n6_ n7_ n8_ n9_
          clear hb hbox hg
          refine hK.out _ _ ⟨gb317, (.pointer (some ⟨gb317, 0, none⟩)), (by rw [ha.out]; exact putSel_upk 8 hb_ rfl rfl rfl), (by (with_reducible repeat (first | refine blk_drewN ?_ _ | refine blk_drew ?_ | refine blk_alloc ?_ _)); exact BK308.out), (by (with_reducible repeat (first | refine blk_drewN ?_ _ | refine blk_drew ?_ | refine blk_alloc ?_ _)); exact BK309.out), (by repeat (first | (with_reducible first | exact HB.out | apply below_alloc | apply pw_below_drewN | apply below_drew1 | refine below_set ?_ GE308.out | refine below_set ?_ GE309.out | refine below_set ?_ GE317.out) | exact HB.out)), fun _ _ => (by (with_reducible repeat (first | refine blk_drewN ?_ _ | refine blk_drew ?_ | refine blk_alloc ?_ _)); exact BK317.out), fun _ => GW317.out, fun _ => GE317.out, fun _ => NB308_317.out, fun _ => NB317_308.out, fun _ => NB309_317.out, fun _ => NB317_309.out, fun h0_ => absurd ((hoff 10 (by kernel_rfl)).symm.trans h0_) (by decide), fun _ => rfl⟩
        refine steps_cons ?_ ?_
        · rintro b a w' ⟨gb317, m9_, ha, Q_BK308, Q_BK309, Q_HB, Q_BK317, Q_GW317, Q_GE317, Q_NB308_317, Q_NB317_308, Q_NB309_317, Q_NB317_309, Q_BK317_e10, Q_X9_⟩ hb_ hon hoff
          refine ⟨_, rfl, fun K hK => ?_⟩
          have e7 : a.tmps[7]? = some (m9_) := by rw [ha]; exact putSel_on (e := (9, 7, m9_)) 8 rfl rfl (hon 9 (by kernel_rfl)) rfl
          rw [Q_X9_ (hon 9 (by kernel_rfl))] at e7
          have e18 : a.tmps[18]? = some (.agg (mixA (Value.int .u16) [] t315)) := by rw [ha]; exact putSel_on (e := (7, 18, .agg (mixA (Value.int .u16) [] t315))) 6 rfl rfl (hon 7 (by kernel_rfl)) rfl
          replace ha := Aside0.mk ha
          have BK308 := Aside0.mk Q_BK308
          have BK309 := Aside0.mk Q_BK309
          have HB := Aside0.mk Q_HB
          have BK317 := Aside0.mk (Q_BK317 (hon 9 (by kernel_rfl)) hb_)
          have GW317 := Aside0.mk (Q_GW317 (hon 9 (by kernel_rfl)))
          have GE317 := Aside0.mk (Q_GE317 (hon 9 (by kernel_rfl)))
          have NB308_317 := Aside0.mk (Q_NB308_317 (hon 9 (by kernel_rfl)))
          have NB317_308 := Aside0.mk (Q_NB317_308 (hon 9 (by kernel_rfl)))
          have NB309_317 := Aside0.mk (Q_NB309_317 (hon 9 (by kernel_rfl)))
          have NB317_309 := Aside0.mk (Q_NB317_309 (hon 9 (by kernel_rfl)))
          refine step_store_lmix (by rfl) rfl 26 _ _ rfl gb317 (e := (Value.int .u16)) (cs' := []) (W' := t315) (cs := []) (W := (LA.zero 40)) (T := 26) (by first | (simp only [List.map_toArray, List.map_cons, List.map_nil, Act.eval, Array.getD_eq_getD_getElem?, Option.getD_some, e7, e18]; done) | (simp only [List.map_toArray, List.map_cons, List.map_nil, Act.eval, Array.getD_eq_getD_getElem?, Option.getD_some, e7, e18]; rfl)) (by first | (simp only [List.map_toArray, List.map_cons, List.map_nil, Act.eval, Array.getD_eq_getD_getElem?, Option.getD_some, e7, e18]; done) | (simp only [List.map_toArray, List.map_cons, List.map_nil, Act.eval, Array.getD_eq_getD_getElem?, Option.getD_some, e7, e18]; rfl)) (by (with_reducible repeat (first | refine blk_drewN ?_ _ | refine blk_drew ?_ | refine blk_alloc ?_ _)); exact BK317.out) rfl (by kernel_rfl) rfl (fun _ => rfl) rfl ?_
          intro w44 hi hk hbl
          have n0_ := Aside0.mk (KeepBut.blk hk (g' := gb308) (o := .cells (mixA (Value.int .u16) [.int .i8 a0_0, .int .i8 a0_1] a0_2) 37 (0, 0)) (by (with_reducible repeat (first | refine blk_drewN ?_ _ | refine blk_drew ?_ | refine blk_alloc ?_ _)); exact BK308.out) NB308_317.out (by simp))
          have n1_ := Aside0.mk (KeepBut.blk hk (g' := gb309) (o := .cells #[.int .i8 a1_0, .int .i8 a1_1] 31 (0, 0)) (by (with_reducible repeat (first | refine blk_drewN ?_ _ | refine blk_drew ?_ | refine blk_alloc ?_ _)); exact BK309.out) NB309_317.out (by simp))
          have n2_ := Aside0.mk (hbl _ _ (by repeat (first | (with_reducible first | exact HB.out | apply below_alloc | apply pw_below_drewN | apply below_drew1 | refine below_set ?_ GE308.out | refine below_set ?_ GE309.out | refine below_set ?_ GE317.out) | exact HB.out)) GE317.out)
          have n3_ := Aside0.mk (hi)
          clear BK308
          clear BK309
          clear HB
          clear BK317
          have BK308 := n0_
          have BK309 := n1_
          have HB := n2_
          have BK317 := n3_
          clear n0_ n1_ n2_ n3_
          clear hi hk hbl
          refine hK.out _ _ ⟨gb317, m9_, (by rw [ha.out]; exact putSel_none (v := undef) rfl), (by (with_reducible repeat (first | refine blk_drewN ?_ _ | refine blk_drew ?_ | refine blk_alloc ?_ _)); exact BK308.out), (by (with_reducible repeat (first | refine blk_drewN ?_ _ | refine blk_drew ?_ | refine blk_alloc ?_ _)); exact BK309.out), (by repeat (first | (with_reducible first | exact HB.out | apply below_alloc | apply pw_below_drewN | apply below_drew1 | refine below_set ?_ GE308.out | refine below_set ?_ GE309.out | refine below_set ?_ GE317.out) | exact HB.out)), fun _ h1_ => absurd ((up_self b 10).symm.trans h1_) (by decide), fun _ => GW317.out, fun _ => GE317.out, fun _ => NB308_317.out, fun _ => NB317_308.out, fun _ => NB309_317.out, fun _ => NB317_309.out, fun _ => (by (with_reducible repeat (first | refine blk_drewN ?_ _ | refine blk_drew ?_ | refine blk_alloc ?_ _)); exact BK317.out), Q_X9_⟩
        refine steps_cons ?_ ?_
        · rintro b a w' ⟨gb317, m9_, ha, Q_BK308, Q_BK309, Q_HB, Q_BK317, Q_GW317, Q_GE317, Q_NB308_317, Q_NB317_308, Q_NB309_317, Q_NB317_309, Q_BK317_e10, Q_X9_⟩ hb_ hon hoff
          refine ⟨_, rfl, fun K hK => ?_⟩
          have e19 : a.tmps[19]? = some (.int .i64 t316) := by rw [ha]; exact putSel_on (e := (8, 19, .int .i64 t316)) 7 rfl rfl (hon 8 (by kernel_rfl)) rfl
          replace ha := Aside0.mk ha
          have BK308 := Aside0.mk Q_BK308
          have BK309 := Aside0.mk Q_BK309
          have HB := Aside0.mk Q_HB
          have GW317 := Aside0.mk (Q_GW317 (hon 9 (by kernel_rfl)))
          have GE317 := Aside0.mk (Q_GE317 (hon 9 (by kernel_rfl)))
          have NB308_317 := Aside0.mk (Q_NB308_317 (hon 9 (by kernel_rfl)))
          have NB317_308 := Aside0.mk (Q_NB317_308 (hon 9 (by kernel_rfl)))
          have NB309_317 := Aside0.mk (Q_NB309_317 (hon 9 (by kernel_rfl)))
          have NB317_309 := Aside0.mk (Q_NB317_309 (hon 9 (by kernel_rfl)))
          have BK317 := Aside0.mk (Q_BK317_e10 (hon 10 (by kernel_rfl)))
          refine value_ (w1 := w') (v := .int .i64 t316) (by rfl) rfl ?_ ?_
          · go_simp
            (try simp only [i64_w])
            try rfl
          refine hK.out _ _ ⟨gb317, m9_, (by rw [ha.out]; exact putSel_upk 9 hb_ rfl rfl rfl), Q_BK308, Q_BK309, Q_HB, fun _ h1_ => absurd ((hon 10 (by kernel_rfl)).symm.trans h1_) (by decide), Q_GW317, Q_GE317, Q_NB308_317, Q_NB317_308, Q_NB309_317, Q_NB317_309, Q_BK317_e10, Q_X9_⟩
        exact steps_nil
      rintro b a w44 hall ⟨gb317, m9_, ha, Q_BK308, Q_BK309, Q_HB, Q_BK317, Q_GW317, Q_GE317, Q_NB308_317, Q_NB317_308, Q_NB309_317, Q_NB317_309, Q_BK317_e10, Q_X9_⟩
      clear BK308 BK309 HB
      have hb0_ := hall 0 (by kernel_rfl)
      have hb1_ := hall 1 (by kernel_rfl)
      have hb2_ := hall 2 (by kernel_rfl)
      have hb3_ := hall 3 (by kernel_rfl)
      have hb5_ := hall 5 (by kernel_rfl)
      have hb6_ := hall 6 (by kernel_rfl)
      have hb7_ := hall 7 (by kernel_rfl)
      have hb8_ := hall 8 (by kernel_rfl)
      have hb9_ := hall 9 (by kernel_rfl)
      have hb10_ := hall 10 (by kernel_rfl)
      have hb11_ := hall 11 (by kernel_rfl)
      subst ha
      obtain rfl := Q_X9_ hb9_
      simp only [putSel, hb0_, hb1_, hb2_, hb3_, hb5_, hb6_, hb7_, hb8_, hb9_, hb10_, hb11_, if_true, Act.put, List.setIfInBounds_toArray, List.set_cons_zero, List.set_cons_succ]
      have BK308 := Aside0.mk Q_BK308
      clear Q_BK308
      have BK309 := Aside0.mk Q_BK309
      clear Q_BK309
      have HB := Aside0.mk Q_HB
      clear Q_HB
      clear Q_BK317
      have GW317 := Aside0.mk (Q_GW317 hb9_)
      clear Q_GW317
      have GE317 := Aside0.mk (Q_GE317 hb9_)
      clear Q_GE317
      have NB308_317 := Aside0.mk (Q_NB308_317 hb9_)
      clear Q_NB308_317
      have NB317_308 := Aside0.mk (Q_NB317_308 hb9_)
      clear Q_NB317_308
      have NB309_317 := Aside0.mk (Q_NB309_317 hb9_)
      clear Q_NB309_317
      have NB317_309 := Aside0.mk (Q_NB317_309 hb9_)
      clear Q_NB317_309
      have BK317 := Aside0.mk (Q_BK317_e10 hb10_)
      clear Q_BK317_e10
      clear hall hb0_ hb1_ hb2_ hb3_ hb5_ hb6_ hb7_ hb8_ hb9_ hb10_ hb11_
      try go_wp2
      have n0_ := Aside0.mk (blk_drew BK308.out)
      have n1_ := Aside0.mk (blk_drew BK309.out)
      have n2_ := Aside0.mk (blk_drew BK317.out)
      have n3_ := Aside0.mk (below_drew1 HB.out)
      clear BK308
      clear BK309
      clear BK317
      clear HB
      have BK308 := n0_
      have BK309 := n1_
      have BK317 := n2_
      have HB := n3_
      clear n0_ n1_ n2_ n3_
      refine start_ (n := 12) (S := fun w' => True) (ds := []) #[false, false, false, false, false, false, false, false, false, false, false, false] (by kernel_rfl) rfl rfl trivial (fun hHeld => ?_); refine with_tabW laws_FnExactCrowdAt.tab2 laws_FnExactCrowdAt.bits2 (fun HT_ HW_ => ?_)
      generalize w44.drew = w47 at BK308 BK309 BK317 HB hHeld ⊢
      refine pure_ (i := 4) (N := some 25) (v := ?_) (a' := ?_) #[false, false, false, false, true, false, false, false, false, false, false, false] rfl rfl (any_of HT_.out (by kernel_rfl)) (fun _ _ _ h => h) (Or.inl ⟨by rfl, ?_⟩) ?_ ?_
      rotate_left
      · intro w'
        go_simp
        with_reducible rfl
      rotate_left
      · simp only [Act.put, List.setIfInBounds_toArray, List.set_cons_zero, List.set_cons_succ, i64_w, i32_w]
        rfl
      refine inv_at [0, 1, 2, 3, 5, 6, 7, 8, 9, 10, 11] (fun a0_ b a w' => ∃ (gb325 : Nat) (m9_ : Value), a = putSel a0_ b [(0, 21, .agg (mixA (Value.int .u16) [.int .i8 a0_0, .int .i8 a0_1] a0_2)), (1, 22, .agg (mixA (Value.int .u16) [.int .i8 t318, .int .i8 t319] t320)), (2, 23, .agg #[.int .i8 a1_0, .int .i8 a1_1]), (3, 24, .agg #[.int .i8 t321, .int .i8 t322]), (5, 26, .tuple #[.agg (mixA (Value.int .u16) [] t323), .int .i64 t324]), (6, 20, .tuple #[.agg (mixA (Value.int .u16) [] t323), .int .i64 t324]), (7, 27, .agg (mixA (Value.int .u16) [] t323)), (8, 28, .int .i64 t324), (9, 9, m9_), (11, 10, .int .i64 t324)] ∧ (w'.heap[gb308]? = some (.cells (mixA (Value.int .u16) [.int .i8 a0_0, .int .i8 a0_1] a0_2) 37 (0, 0))) ∧ (w'.heap[gb309]? = some (.cells #[.int .i8 a1_0, .int .i8 a1_1] 31 (0, 0))) ∧ (w'.heap[gb317]? = some (.cells (mixA (Value.int .u16) [] t315) 26 (0, 0))) ∧ (Below w.heap.size w w') ∧ (b 9 = true → b 10 = false → w'.heap[gb325]? = some (.cells (mixA (Value.int .u16) [] (LA.zero 40)) 26 (0, 0))) ∧ (b 9 = true → w.heap.size ≤ gb325) ∧ (b 9 = true → w.heap.size ≤ gb325) ∧ (b 9 = true → gb308 ≠ gb325) ∧ (b 9 = true → gb325 ≠ gb308) ∧ (b 9 = true → gb309 ≠ gb325) ∧ (b 9 = true → gb325 ≠ gb309) ∧ (b 9 = true → gb317 ≠ gb325) ∧ (b 9 = true → gb325 ≠ gb317) ∧ (b 10 = true → w'.heap[gb325]? = some (.cells (mixA (Value.int .u16) [] t323) 26 (0, 0))) ∧ (b 9 = true → (m9_ : Value) = .pointer (some ⟨gb325, 0, none⟩))) HT_.out HW_.out (by kernel_rfl) (by kernel_rfl) ?_ ?_ ?_
      · exact ⟨0, .bool false, by simp only [putSel, Bool.false_eq_true, if_false], BK308.out, BK309.out, BK317.out, HB.out, fun h_ => absurd h_ (by decide), fun h_ => absurd h_ (by decide), fun h_ => absurd h_ (by decide), fun h_ => absurd h_ (by decide), fun h_ => absurd h_ (by decide), fun h_ => absurd h_ (by decide), fun h_ => absurd h_ (by decide), fun h_ => absurd h_ (by decide), fun h_ => absurd h_ (by decide), fun h_ => absurd h_ (by decide), fun h_ => absurd h_ (by decide)⟩
      · skip
        clear BK308 BK309 BK317 HB
        refine steps_cons ?_ ?_
        · rintro b a w' ⟨gb325, m9_, ha, Q_BK308, Q_BK309, Q_BK317, Q_HB, Q_BK325, Q_GW325, Q_GE325, Q_NB308_325, Q_NB325_308, Q_NB309_325, Q_NB325_309, Q_NB317_325, Q_NB325_317, Q_BK325_e10, Q_X9_⟩ hb_ hon hoff
          refine ⟨_, rfl, fun K hK => ?_⟩
          have e3 : a.tmps[3]? = some (.pointer (some ⟨gb308, 0, none⟩)) := by rw [ha]; exact (putSel_off rfl).trans rfl
          replace ha := Aside0.mk ha
          have BK308 := Aside0.mk Q_BK308
          have BK309 := Aside0.mk Q_BK309
          have BK317 := Aside0.mk Q_BK317
          have HB := Aside0.mk Q_HB
          have hL_ : World.rangeAt w' gb308 0 ([.int .i8 a0_0, .int .i8 a0_1] ++ a0_2.l.map (Value.int .u16)) := mix_range BK308.out
          refine value_ (w1 := w') (v := .agg (mixA (Value.int .u16) [.int .i8 a0_0, .int .i8 a0_1] a0_2)) (by rfl) rfl ?_ ?_
          · exact load_mix_run (P := Try.prog) 37 (.tmp 3) rfl gb308 (by simp only [Act.eval, Array.getD_eq_getD_getElem?, e3, Option.getD_some]) hL_ Try.underlying37 rfl (by kernel_rfl) rfl
          refine hK.out _ _ ⟨gb325, m9_, (by rw [ha.out]; exact putSel_upk 0 hb_ rfl rfl rfl), Q_BK308, Q_BK309, Q_BK317, Q_HB, Q_BK325, Q_GW325, Q_GE325, Q_NB308_325, Q_NB325_308, Q_NB309_325, Q_NB325_309, Q_NB317_325, Q_NB325_317, fun h0_ => absurd ((hoff 10 (by kernel_rfl)).symm.trans h0_) (by decide), Q_X9_⟩
        refine steps_cons ?_ ?_
        · rintro b a w' ⟨gb325, m9_, ha, Q_BK308, Q_BK309, Q_BK317, Q_HB, Q_BK325, Q_GW325, Q_GE325, Q_NB308_325, Q_NB325_308, Q_NB309_325, Q_NB325_309, Q_NB317_325, Q_NB325_317, Q_BK325_e10, Q_X9_⟩ hb_ hon hoff
          refine ⟨_, rfl, fun K hK => ?_⟩
          have e21 : a.tmps[21]? = some (.agg (mixA (Value.int .u16) [.int .i8 a0_0, .int .i8 a0_1] a0_2)) := by rw [ha]; exact putSel_on (e := (0, 21, .agg (mixA (Value.int .u16) [.int .i8 a0_0, .int .i8 a0_1] a0_2))) 0 rfl rfl (hon 0 (by kernel_rfl)) rfl
          replace ha := Aside0.mk ha
          have BK308 := Aside0.mk Q_BK308
          have BK309 := Aside0.mk Q_BK309
          have BK317 := Aside0.mk Q_BK317
          have HB := Aside0.mk Q_HB
          refine goes_ Try.func18 (by kernel_rfl) rfl #[.agg (mixA (Value.int .u16) [.int .i8 a0_0, .int .i8 a0_1] a0_2)] (by rfl) rfl rfl (by first | (simp only [List.map_toArray, List.map_cons, List.map_nil, Act.eval, Array.getD_eq_getD_getElem?, Option.getD_some, e21]; done) | (simp only [List.map_toArray, List.map_cons, List.map_nil, Act.eval, Array.getD_eq_getD_getElem?, Option.getD_some, e21]; rfl)) ?_
          with_reducible refine (laws_toRoom.calls k a0_0 a0_1 a0_2 t318 t319 t320 _ A7.out).mono ?_
          rintro e w48 ⟨rfl, hb⟩
          refine ⟨_, rfl, ?_⟩
          have n0_ := Aside0.mk (blk_below (g := gb308) (o := .cells (mixA (Value.int .u16) [.int .i8 a0_0, .int .i8 a0_1] a0_2) 37 (0, 0)) (by (with_reducible repeat (first | refine blk_drewN ?_ _ | refine blk_drew ?_ | refine blk_alloc ?_ _)); exact BK308.out) hb)
          have n1_ := Aside0.mk (blk_below (g := gb309) (o := .cells #[.int .i8 a1_0, .int .i8 a1_1] 31 (0, 0)) (by (with_reducible repeat (first | refine blk_drewN ?_ _ | refine blk_drew ?_ | refine blk_alloc ?_ _)); exact BK309.out) hb)
          have n2_ := Aside0.mk (blk_below (g := gb317) (o := .cells (mixA (Value.int .u16) [] t315) 26 (0, 0)) (by (with_reducible repeat (first | refine blk_drewN ?_ _ | refine blk_drew ?_ | refine blk_alloc ?_ _)); exact BK317.out) hb)
          have n3_ := Aside0.mk (below_step (by repeat (first | (with_reducible first | exact HB.out | apply below_alloc | apply pw_below_drewN | apply below_drew1 | refine below_set ?_ GE308.out | refine below_set ?_ GE309.out | refine below_set ?_ GE317.out) | exact HB.out)) hb)
          have z_BK325 := fun (h0_ : b 9 = true) (h1_ : b 10 = false) => (show w48.heap[gb325]? = some (.cells (mixA (Value.int .u16) [] (LA.zero 40)) 26 (0, 0)) from by first | exact (blk_below (g := gb325) (o := .cells (mixA (Value.int .u16) [] (LA.zero 40)) 26 (0, 0)) (by (with_reducible repeat (first | refine blk_drewN ?_ _ | refine blk_drew ?_ | refine blk_alloc ?_ _)); exact (Q_BK325 h0_ h1_)) hb))
          clear BK308
          clear BK309
          clear BK317
          clear HB
          have BK308 := n0_
          have BK309 := n1_
          have BK317 := n2_
          have HB := n3_
          clear n0_ n1_ n2_ n3_
          (try clear hb)
          (try clear hb2)
          (try clear hk)
          (try clear hi)
          refine hK.out _ _ ⟨gb325, m9_, (by rw [ha.out]; exact putSel_upk 1 hb_ rfl rfl rfl), (by (with_reducible repeat (first | refine blk_drewN ?_ _ | refine blk_drew ?_ | refine blk_alloc ?_ _)); exact BK308.out), (by (with_reducible repeat (first | refine blk_drewN ?_ _ | refine blk_drew ?_ | refine blk_alloc ?_ _)); exact BK309.out), (by (with_reducible repeat (first | refine blk_drewN ?_ _ | refine blk_drew ?_ | refine blk_alloc ?_ _)); exact BK317.out), (by repeat (first | (with_reducible first | exact HB.out | apply below_alloc | apply pw_below_drewN | apply below_drew1 | refine below_set ?_ GE308.out | refine below_set ?_ GE309.out | refine below_set ?_ GE317.out) | exact HB.out)), z_BK325, Q_GW325, Q_GE325, Q_NB308_325, Q_NB325_308, Q_NB309_325, Q_NB325_309, Q_NB317_325, Q_NB325_317, fun h0_ => absurd ((hoff 10 (by kernel_rfl)).symm.trans h0_) (by decide), Q_X9_⟩
        refine steps_cons ?_ ?_
        · rintro b a w' ⟨gb325, m9_, ha, Q_BK308, Q_BK309, Q_BK317, Q_HB, Q_BK325, Q_GW325, Q_GE325, Q_NB308_325, Q_NB325_308, Q_NB309_325, Q_NB325_309, Q_NB317_325, Q_NB325_317, Q_BK325_e10, Q_X9_⟩ hb_ hon hoff
          refine ⟨_, rfl, fun K hK => ?_⟩
          have e4 : a.tmps[4]? = some (.pointer (some ⟨gb309, 0, none⟩)) := by rw [ha]; exact (putSel_off rfl).trans rfl
          replace ha := Aside0.mk ha
          have BK308 := Aside0.mk Q_BK308
          have BK309 := Aside0.mk Q_BK309
          have BK317 := Aside0.mk Q_BK317
          have HB := Aside0.mk Q_HB
          have hc0_ : w'.cell? ⟨gb309, 0, none⟩ = some (.int .i8 a1_0) := bc_ BK309.out 0
          have hc1_ : w'.cell? ⟨gb309, 1, none⟩ = some (.int .i8 a1_1) := bc_ BK309.out 1
          refine value_ (w1 := w') (v := .agg #[.int .i8 a1_0, .int .i8 a1_1]) (by rfl) rfl ?_ ?_
          · go_simp
            (try simp only [i64_w])
            try rfl
          refine hK.out _ _ ⟨gb325, m9_, (by rw [ha.out]; exact putSel_upk 2 hb_ rfl rfl rfl), Q_BK308, Q_BK309, Q_BK317, Q_HB, Q_BK325, Q_GW325, Q_GE325, Q_NB308_325, Q_NB325_308, Q_NB309_325, Q_NB325_309, Q_NB317_325, Q_NB325_317, fun h0_ => absurd ((hoff 10 (by kernel_rfl)).symm.trans h0_) (by decide), Q_X9_⟩
        refine steps_cons ?_ ?_
        · rintro b a w' ⟨gb325, m9_, ha, Q_BK308, Q_BK309, Q_BK317, Q_HB, Q_BK325, Q_GW325, Q_GE325, Q_NB308_325, Q_NB325_308, Q_NB309_325, Q_NB325_309, Q_NB317_325, Q_NB325_317, Q_BK325_e10, Q_X9_⟩ hb_ hon hoff
          refine ⟨_, rfl, fun K hK => ?_⟩
          have e23 : a.tmps[23]? = some (.agg #[.int .i8 a1_0, .int .i8 a1_1]) := by rw [ha]; exact putSel_on (e := (2, 23, .agg #[.int .i8 a1_0, .int .i8 a1_1])) 2 rfl rfl (hon 2 (by kernel_rfl)) rfl
          replace ha := Aside0.mk ha
          have BK308 := Aside0.mk Q_BK308
          have BK309 := Aside0.mk Q_BK309
          have BK317 := Aside0.mk Q_BK317
          have HB := Aside0.mk Q_HB
          refine goes_ Try.func15 (by kernel_rfl) rfl #[.agg #[.int .i8 a1_0, .int .i8 a1_1]] (by rfl) rfl rfl (by first | (simp only [List.map_toArray, List.map_cons, List.map_nil, Act.eval, Array.getD_eq_getD_getElem?, Option.getD_some, e23]; done) | (simp only [List.map_toArray, List.map_cons, List.map_nil, Act.eval, Array.getD_eq_getD_getElem?, Option.getD_some, e23]; rfl)) ?_
          with_reducible refine (laws_toSpot.calls a1_0 a1_1 t321 t322 _ A8.out).mono ?_
          rintro e w50 ⟨rfl, hb⟩
          refine ⟨_, rfl, ?_⟩
          have n0_ := Aside0.mk (blk_below (g := gb308) (o := .cells (mixA (Value.int .u16) [.int .i8 a0_0, .int .i8 a0_1] a0_2) 37 (0, 0)) (by (with_reducible repeat (first | refine blk_drewN ?_ _ | refine blk_drew ?_ | refine blk_alloc ?_ _)); exact BK308.out) hb)
          have n1_ := Aside0.mk (blk_below (g := gb309) (o := .cells #[.int .i8 a1_0, .int .i8 a1_1] 31 (0, 0)) (by (with_reducible repeat (first | refine blk_drewN ?_ _ | refine blk_drew ?_ | refine blk_alloc ?_ _)); exact BK309.out) hb)
          have n2_ := Aside0.mk (blk_below (g := gb317) (o := .cells (mixA (Value.int .u16) [] t315) 26 (0, 0)) (by (with_reducible repeat (first | refine blk_drewN ?_ _ | refine blk_drew ?_ | refine blk_alloc ?_ _)); exact BK317.out) hb)
          have n3_ := Aside0.mk (below_step (by repeat (first | (with_reducible first | exact HB.out | apply below_alloc | apply pw_below_drewN | apply below_drew1 | refine below_set ?_ GE308.out | refine below_set ?_ GE309.out | refine below_set ?_ GE317.out) | exact HB.out)) hb)
          have z_BK325 := fun (h0_ : b 9 = true) (h1_ : b 10 = false) => (show w50.heap[gb325]? = some (.cells (mixA (Value.int .u16) [] (LA.zero 40)) 26 (0, 0)) from by first | exact (blk_below (g := gb325) (o := .cells (mixA (Value.int .u16) [] (LA.zero 40)) 26 (0, 0)) (by (with_reducible repeat (first | refine blk_drewN ?_ _ | refine blk_drew ?_ | refine blk_alloc ?_ _)); exact (Q_BK325 h0_ h1_)) hb))
          clear BK308
          clear BK309
          clear BK317
          clear HB
          have BK308 := n0_
          have BK309 := n1_
          have BK317 := n2_
          have HB := n3_
          clear n0_ n1_ n2_ n3_
          (try clear hb)
          (try clear hb2)
          (try clear hk)
          (try clear hi)
          refine hK.out _ _ ⟨gb325, m9_, (by rw [ha.out]; exact putSel_upk 3 hb_ rfl rfl rfl), (by (with_reducible repeat (first | refine blk_drewN ?_ _ | refine blk_drew ?_ | refine blk_alloc ?_ _)); exact BK308.out), (by (with_reducible repeat (first | refine blk_drewN ?_ _ | refine blk_drew ?_ | refine blk_alloc ?_ _)); exact BK309.out), (by (with_reducible repeat (first | refine blk_drewN ?_ _ | refine blk_drew ?_ | refine blk_alloc ?_ _)); exact BK317.out), (by repeat (first | (with_reducible first | exact HB.out | apply below_alloc | apply pw_below_drewN | apply below_drew1 | refine below_set ?_ GE308.out | refine below_set ?_ GE309.out | refine below_set ?_ GE317.out) | exact HB.out)), z_BK325, Q_GW325, Q_GE325, Q_NB308_325, Q_NB325_308, Q_NB309_325, Q_NB325_309, Q_NB317_325, Q_NB325_317, fun h0_ => absurd ((hoff 10 (by kernel_rfl)).symm.trans h0_) (by decide), Q_X9_⟩
        refine steps_cons ?_ ?_
        · rintro b a w' ⟨gb325, m9_, ha, Q_BK308, Q_BK309, Q_BK317, Q_HB, Q_BK325, Q_GW325, Q_GE325, Q_NB308_325, Q_NB325_308, Q_NB309_325, Q_NB325_309, Q_NB317_325, Q_NB325_317, Q_BK325_e10, Q_X9_⟩ hb_ hon hoff
          refine ⟨_, rfl, fun K hK => ?_⟩
          have e22 : a.tmps[22]? = some (.agg (mixA (Value.int .u16) [.int .i8 t318, .int .i8 t319] t320)) := by rw [ha]; exact putSel_on (e := (1, 22, .agg (mixA (Value.int .u16) [.int .i8 t318, .int .i8 t319] t320))) 1 rfl rfl (hon 1 (by kernel_rfl)) rfl
          have e24 : a.tmps[24]? = some (.agg #[.int .i8 t321, .int .i8 t322]) := by rw [ha]; exact putSel_on (e := (3, 24, .agg #[.int .i8 t321, .int .i8 t322])) 3 rfl rfl (hon 3 (by kernel_rfl)) rfl
          have e25 : a.tmps[25]? = some (.int .i64 a2) := by rw [ha]; exact (putSel_off rfl).trans rfl
          replace ha := Aside0.mk ha
          have BK308 := Aside0.mk Q_BK308
          have BK309 := Aside0.mk Q_BK309
          have BK317 := Aside0.mk Q_BK317
          have HB := Aside0.mk Q_HB
          refine goes_ Try.func24 (by kernel_rfl) rfl #[.agg (mixA (Value.int .u16) [.int .i8 t318, .int .i8 t319] t320), .agg #[.int .i8 t321, .int .i8 t322], .int .i64 a2] (by rfl) rfl rfl (by first | (simp only [List.map_toArray, List.map_cons, List.map_nil, Act.eval, Array.getD_eq_getD_getElem?, Option.getD_some, e22, e24, e25]; done) | (simp only [List.map_toArray, List.map_cons, List.map_nil, Act.eval, Array.getD_eq_getD_getElem?, Option.getD_some, e22, e24, e25]; rfl)) ?_
          with_reducible refine (impl_CrowdAt.calls k t318 t319 t320 t321 t322 a2 t323 t324 _ A9.out).mono ?_
          rintro e w51 ⟨rfl, hb⟩
          refine ⟨_, rfl, ?_⟩
          have n0_ := Aside0.mk (blk_below (g := gb308) (o := .cells (mixA (Value.int .u16) [.int .i8 a0_0, .int .i8 a0_1] a0_2) 37 (0, 0)) (by (with_reducible repeat (first | refine blk_drewN ?_ _ | refine blk_drew ?_ | refine blk_alloc ?_ _)); exact BK308.out) hb)
          have n1_ := Aside0.mk (blk_below (g := gb309) (o := .cells #[.int .i8 a1_0, .int .i8 a1_1] 31 (0, 0)) (by (with_reducible repeat (first | refine blk_drewN ?_ _ | refine blk_drew ?_ | refine blk_alloc ?_ _)); exact BK309.out) hb)
          have n2_ := Aside0.mk (blk_below (g := gb317) (o := .cells (mixA (Value.int .u16) [] t315) 26 (0, 0)) (by (with_reducible repeat (first | refine blk_drewN ?_ _ | refine blk_drew ?_ | refine blk_alloc ?_ _)); exact BK317.out) hb)
          have n3_ := Aside0.mk (below_step (by repeat (first | (with_reducible first | exact HB.out | apply below_alloc | apply pw_below_drewN | apply below_drew1 | refine below_set ?_ GE308.out | refine below_set ?_ GE309.out | refine below_set ?_ GE317.out) | exact HB.out)) hb)
          have z_BK325 := fun (h0_ : b 9 = true) (h1_ : b 10 = false) => (show w51.heap[gb325]? = some (.cells (mixA (Value.int .u16) [] (LA.zero 40)) 26 (0, 0)) from by first | exact (blk_below (g := gb325) (o := .cells (mixA (Value.int .u16) [] (LA.zero 40)) 26 (0, 0)) (by (with_reducible repeat (first | refine blk_drewN ?_ _ | refine blk_drew ?_ | refine blk_alloc ?_ _)); exact (Q_BK325 h0_ h1_)) hb))
          clear BK308
          clear BK309
          clear BK317
          clear HB
          have BK308 := n0_
          have BK309 := n1_
          have BK317 := n2_
          have HB := n3_
          clear n0_ n1_ n2_ n3_
          (try clear hb)
          (try clear hb2)
          (try clear hk)
          (try clear hi)
          refine hK.out _ _ ⟨gb325, m9_, (by rw [ha.out]; exact putSel_upk 4 hb_ rfl rfl rfl), (by (with_reducible repeat (first | refine blk_drewN ?_ _ | refine blk_drew ?_ | refine blk_alloc ?_ _)); exact BK308.out), (by (with_reducible repeat (first | refine blk_drewN ?_ _ | refine blk_drew ?_ | refine blk_alloc ?_ _)); exact BK309.out), (by (with_reducible repeat (first | refine blk_drewN ?_ _ | refine blk_drew ?_ | refine blk_alloc ?_ _)); exact BK317.out), (by repeat (first | (with_reducible first | exact HB.out | apply below_alloc | apply pw_below_drewN | apply below_drew1 | refine below_set ?_ GE308.out | refine below_set ?_ GE309.out | refine below_set ?_ GE317.out) | exact HB.out)), z_BK325, Q_GW325, Q_GE325, Q_NB308_325, Q_NB325_308, Q_NB309_325, Q_NB325_309, Q_NB317_325, Q_NB325_317, fun h0_ => absurd ((hoff 10 (by kernel_rfl)).symm.trans h0_) (by decide), Q_X9_⟩
        refine steps_cons ?_ ?_
        · rintro b a w' ⟨gb325, m9_, ha, Q_BK308, Q_BK309, Q_BK317, Q_HB, Q_BK325, Q_GW325, Q_GE325, Q_NB308_325, Q_NB325_308, Q_NB309_325, Q_NB325_309, Q_NB317_325, Q_NB325_317, Q_BK325_e10, Q_X9_⟩ hb_ hon hoff
          refine ⟨_, rfl, fun K hK => ?_⟩
          have e26 : a.tmps[26]? = some (.tuple #[.agg (mixA (Value.int .u16) [] t323), .int .i64 t324]) := by rw [ha]; exact putSel_on (e := (5, 26, .tuple #[.agg (mixA (Value.int .u16) [] t323), .int .i64 t324])) 4 rfl rfl (hon 5 (by kernel_rfl)) rfl
          replace ha := Aside0.mk ha
          have BK308 := Aside0.mk Q_BK308
          have BK309 := Aside0.mk Q_BK309
          have BK317 := Aside0.mk Q_BK317
          have HB := Aside0.mk Q_HB
          refine value_ (w1 := w') (v := .tuple #[.agg (mixA (Value.int .u16) [] t323), .int .i64 t324]) (by rfl) rfl ?_ ?_
          · go_simp
            (try simp only [i64_w])
            try rfl
          refine hK.out _ _ ⟨gb325, m9_, (by rw [ha.out]; exact putSel_upk 5 hb_ rfl rfl rfl), Q_BK308, Q_BK309, Q_BK317, Q_HB, Q_BK325, Q_GW325, Q_GE325, Q_NB308_325, Q_NB325_308, Q_NB309_325, Q_NB325_309, Q_NB317_325, Q_NB325_317, fun h0_ => absurd ((hoff 10 (by kernel_rfl)).symm.trans h0_) (by decide), Q_X9_⟩
        refine steps_cons ?_ ?_
        · rintro b a w' ⟨gb325, m9_, ha, Q_BK308, Q_BK309, Q_BK317, Q_HB, Q_BK325, Q_GW325, Q_GE325, Q_NB308_325, Q_NB325_308, Q_NB309_325, Q_NB325_309, Q_NB317_325, Q_NB325_317, Q_BK325_e10, Q_X9_⟩ hb_ hon hoff
          refine ⟨_, rfl, fun K hK => ?_⟩
          have e20 : a.tmps[20]? = some (.tuple #[.agg (mixA (Value.int .u16) [] t323), .int .i64 t324]) := by rw [ha]; exact putSel_on (e := (6, 20, .tuple #[.agg (mixA (Value.int .u16) [] t323), .int .i64 t324])) 5 rfl rfl (hon 6 (by kernel_rfl)) rfl
          replace ha := Aside0.mk ha
          have BK308 := Aside0.mk Q_BK308
          have BK309 := Aside0.mk Q_BK309
          have BK317 := Aside0.mk Q_BK317
          have HB := Aside0.mk Q_HB
          refine value_ (w1 := w') (v := .agg (mixA (Value.int .u16) [] t323)) (by rfl) rfl ?_ ?_
          · go_simp
            (try simp only [i64_w])
            try rfl
          refine hK.out _ _ ⟨gb325, m9_, (by rw [ha.out]; exact putSel_upk 6 hb_ rfl rfl rfl), Q_BK308, Q_BK309, Q_BK317, Q_HB, Q_BK325, Q_GW325, Q_GE325, Q_NB308_325, Q_NB325_308, Q_NB309_325, Q_NB325_309, Q_NB317_325, Q_NB325_317, fun h0_ => absurd ((hoff 10 (by kernel_rfl)).symm.trans h0_) (by decide), Q_X9_⟩
        refine steps_cons ?_ ?_
        · rintro b a w' ⟨gb325, m9_, ha, Q_BK308, Q_BK309, Q_BK317, Q_HB, Q_BK325, Q_GW325, Q_GE325, Q_NB308_325, Q_NB325_308, Q_NB309_325, Q_NB325_309, Q_NB317_325, Q_NB325_317, Q_BK325_e10, Q_X9_⟩ hb_ hon hoff
          refine ⟨_, rfl, fun K hK => ?_⟩
          have e20 : a.tmps[20]? = some (.tuple #[.agg (mixA (Value.int .u16) [] t323), .int .i64 t324]) := by rw [ha]; exact putSel_on (e := (6, 20, .tuple #[.agg (mixA (Value.int .u16) [] t323), .int .i64 t324])) 5 rfl rfl (hon 6 (by kernel_rfl)) rfl
          replace ha := Aside0.mk ha
          have BK308 := Aside0.mk Q_BK308
          have BK309 := Aside0.mk Q_BK309
          have BK317 := Aside0.mk Q_BK317
          have HB := Aside0.mk Q_HB
          refine value_ (w1 := w') (v := .int .i64 t324) (by rfl) rfl ?_ ?_
          · go_simp
            (try simp only [i64_w])
            try rfl
          refine hK.out _ _ ⟨gb325, m9_, (by rw [ha.out]; exact putSel_upk 7 hb_ rfl rfl rfl), Q_BK308, Q_BK309, Q_BK317, Q_HB, Q_BK325, Q_GW325, Q_GE325, Q_NB308_325, Q_NB325_308, Q_NB309_325, Q_NB325_309, Q_NB317_325, Q_NB325_317, Q_BK325_e10, Q_X9_⟩
        refine steps_cons ?_ ?_
        · rintro b a w' ⟨gb325, m9_, ha, Q_BK308, Q_BK309, Q_BK317, Q_HB, Q_BK325, Q_GW325, Q_GE325, Q_NB308_325, Q_NB325_308, Q_NB309_325, Q_NB325_309, Q_NB317_325, Q_NB325_317, Q_BK325_e10, Q_X9_⟩ hb_ hon hoff
          refine ⟨_, rfl, fun K hK => ?_⟩
          replace ha := Aside0.mk ha
          have BK308 := Aside0.mk Q_BK308
          have BK309 := Aside0.mk Q_BK309
          have BK317 := Aside0.mk Q_BK317
          have HB := Aside0.mk Q_HB
          refine box_step ?hg (N := 9) ?hd (cs := (mixA (Value.int .u16) [] (LA.zero 40))) (t := 26) ?hr ?_; (case hd => rfl); (case hg => rfl); (case hr => first | (go_simp; done) | (go_simp; rfl))
          intro gb325 hg w48 hbox hb
          have n0_ := Aside0.mk (blk_below (g := gb308) (o := .cells (mixA (Value.int .u16) [.int .i8 a0_0, .int .i8 a0_1] a0_2) 37 (0, 0)) (by (with_reducible repeat (first | refine blk_drewN ?_ _ | refine blk_drew ?_ | refine blk_alloc ?_ _)); exact BK308.out) hb)
          have n1_ := Aside0.mk (blk_below (g := gb309) (o := .cells #[.int .i8 a1_0, .int .i8 a1_1] 31 (0, 0)) (by (with_reducible repeat (first | refine blk_drewN ?_ _ | refine blk_drew ?_ | refine blk_alloc ?_ _)); exact BK309.out) hb)
          have n2_ := Aside0.mk (blk_below (g := gb317) (o := .cells (mixA (Value.int .u16) [] t315) 26 (0, 0)) (by (with_reducible repeat (first | refine blk_drewN ?_ _ | refine blk_drew ?_ | refine blk_alloc ?_ _)); exact BK317.out) hb)
          have n3_ := Aside0.mk (below_step (by repeat (first | (with_reducible first | exact HB.out | apply below_alloc | apply pw_below_drewN | apply below_drew1 | refine below_set ?_ GE308.out | refine below_set ?_ GE309.out | refine below_set ?_ GE317.out) | exact HB.out)) hb)
          have n4_ := Aside0.mk (hbox)
          have n5_ := Aside0.mk ((by rw [hg]; exact (below_size (by repeat (first | (with_reducible first | exact HB.out | apply below_alloc | apply pw_below_drewN | apply below_drew1 | refine below_set ?_ GE308.out | refine below_set ?_ GE309.out | refine below_set ?_ GE317.out) | exact HB.out))) : w.heap.size ≤ gb325))
          have n6_ := Aside0.mk ((by rw [hg]; exact (below_size (by repeat (first | (with_reducible first | exact HB.out | apply below_alloc | apply pw_below_drewN | apply below_drew1 | refine below_set ?_ GE308.out | refine below_set ?_ GE309.out | refine below_set ?_ GE317.out) | exact HB.out))) : w.heap.size ≤ gb325))
          have n7_ := Aside0.mk ((by rw [hg]; exact Nat.ne_of_lt (blk_lt (g := gb308) (o := .cells (mixA (Value.int .u16) [.int .i8 a0_0, .int .i8 a0_1] a0_2) 37 (0, 0)) (by (with_reducible repeat (first | refine blk_drewN ?_ _ | refine blk_drew ?_ | refine blk_alloc ?_ _)); exact BK308.out)) : gb308 ≠ gb325))
          have n8_ := Aside0.mk ((by rw [hg]; exact Nat.ne_of_gt (blk_lt (g := gb308) (o := .cells (mixA (Value.int .u16) [.int .i8 a0_0, .int .i8 a0_1] a0_2) 37 (0, 0)) (by (with_reducible repeat (first | refine blk_drewN ?_ _ | refine blk_drew ?_ | refine blk_alloc ?_ _)); exact BK308.out)) : gb325 ≠ gb308))
          have n9_ := Aside0.mk ((by rw [hg]; exact Nat.ne_of_lt (blk_lt (g := gb309) (o := .cells #[.int .i8 a1_0, .int .i8 a1_1] 31 (0, 0)) (by (with_reducible repeat (first | refine blk_drewN ?_ _ | refine blk_drew ?_ | refine blk_alloc ?_ _)); exact BK309.out)) : gb309 ≠ gb325))
          have n10_ := Aside0.mk ((by rw [hg]; exact Nat.ne_of_gt (blk_lt (g := gb309) (o := .cells #[.int .i8 a1_0, .int .i8 a1_1] 31 (0, 0)) (by (with_reducible repeat (first | refine blk_drewN ?_ _ | refine blk_drew ?_ | refine blk_alloc ?_ _)); exact BK309.out)) : gb325 ≠ gb309))
          have n11_ := Aside0.mk ((by rw [hg]; exact Nat.ne_of_lt (blk_lt (g := gb317) (o := .cells (mixA (Value.int .u16) [] t315) 26 (0, 0)) (by (with_reducible repeat (first | refine blk_drewN ?_ _ | refine blk_drew ?_ | refine blk_alloc ?_ _)); exact BK317.out)) : gb317 ≠ gb325))
          have n12_ := Aside0.mk ((by rw [hg]; exact Nat.ne_of_gt (blk_lt (g := gb317) (o := .cells (mixA (Value.int .u16) [] t315) 26 (0, 0)) (by (with_reducible repeat (first | refine blk_drewN ?_ _ | refine blk_drew ?_ | refine blk_alloc ?_ _)); exact BK317.out)) : gb325 ≠ gb317))
          clear BK308
          clear BK309
          clear BK317
          clear HB
          have BK308 := n0_
          have BK309 := n1_
          have BK317 := n2_
          have HB := n3_
          have BK325 := n4_
          have GW325 := n5_
          have GE325 := n6_
          have NB308_325 := n7_
          have NB325_308 := n8_
          have NB309_325 := n9_
          have NB325_309 := n10_
          have NB317_325 := n11_
          have NB325_317 := n12_
          clear n0_ n1_ n2_ n3_ n4_ n5_ n6_ n7_ n8_ n9_ n10_ n11_ n12_
          clear hb hbox hg
          refine hK.out _ _ ⟨gb325, (.pointer (some ⟨gb325, 0, none⟩)), (by rw [ha.out]; exact putSel_upk 8 hb_ rfl rfl rfl), (by (with_reducible repeat (first | refine blk_drewN ?_ _ | refine blk_drew ?_ | refine blk_alloc ?_ _)); exact BK308.out), (by (with_reducible repeat (first | refine blk_drewN ?_ _ | refine blk_drew ?_ | refine blk_alloc ?_ _)); exact BK309.out), (by (with_reducible repeat (first | refine blk_drewN ?_ _ | refine blk_drew ?_ | refine blk_alloc ?_ _)); exact BK317.out), (by repeat (first | (with_reducible first | exact HB.out | apply below_alloc | apply pw_below_drewN | apply below_drew1 | refine below_set ?_ GE308.out | refine below_set ?_ GE309.out | refine below_set ?_ GE317.out | refine below_set ?_ GE325.out) | exact HB.out)), fun _ _ => (by (with_reducible repeat (first | refine blk_drewN ?_ _ | refine blk_drew ?_ | refine blk_alloc ?_ _)); exact BK325.out), fun _ => GW325.out, fun _ => GE325.out, fun _ => NB308_325.out, fun _ => NB325_308.out, fun _ => NB309_325.out, fun _ => NB325_309.out, fun _ => NB317_325.out, fun _ => NB325_317.out, fun h0_ => absurd ((hoff 10 (by kernel_rfl)).symm.trans h0_) (by decide), fun _ => rfl⟩
        refine steps_cons ?_ ?_
        · rintro b a w' ⟨gb325, m9_, ha, Q_BK308, Q_BK309, Q_BK317, Q_HB, Q_BK325, Q_GW325, Q_GE325, Q_NB308_325, Q_NB325_308, Q_NB309_325, Q_NB325_309, Q_NB317_325, Q_NB325_317, Q_BK325_e10, Q_X9_⟩ hb_ hon hoff
          refine ⟨_, rfl, fun K hK => ?_⟩
          have e9 : a.tmps[9]? = some (m9_) := by rw [ha]; exact putSel_on (e := (9, 9, m9_)) 8 rfl rfl (hon 9 (by kernel_rfl)) rfl
          rw [Q_X9_ (hon 9 (by kernel_rfl))] at e9
          have e27 : a.tmps[27]? = some (.agg (mixA (Value.int .u16) [] t323)) := by rw [ha]; exact putSel_on (e := (7, 27, .agg (mixA (Value.int .u16) [] t323))) 6 rfl rfl (hon 7 (by kernel_rfl)) rfl
          replace ha := Aside0.mk ha
          have BK308 := Aside0.mk Q_BK308
          have BK309 := Aside0.mk Q_BK309
          have BK317 := Aside0.mk Q_BK317
          have HB := Aside0.mk Q_HB
          have BK325 := Aside0.mk (Q_BK325 (hon 9 (by kernel_rfl)) hb_)
          have GW325 := Aside0.mk (Q_GW325 (hon 9 (by kernel_rfl)))
          have GE325 := Aside0.mk (Q_GE325 (hon 9 (by kernel_rfl)))
          have NB308_325 := Aside0.mk (Q_NB308_325 (hon 9 (by kernel_rfl)))
          have NB325_308 := Aside0.mk (Q_NB325_308 (hon 9 (by kernel_rfl)))
          have NB309_325 := Aside0.mk (Q_NB309_325 (hon 9 (by kernel_rfl)))
          have NB325_309 := Aside0.mk (Q_NB325_309 (hon 9 (by kernel_rfl)))
          have NB317_325 := Aside0.mk (Q_NB317_325 (hon 9 (by kernel_rfl)))
          have NB325_317 := Aside0.mk (Q_NB325_317 (hon 9 (by kernel_rfl)))
          refine step_store_lmix (by rfl) rfl 26 _ _ rfl gb325 (e := (Value.int .u16)) (cs' := []) (W' := t323) (cs := []) (W := (LA.zero 40)) (T := 26) (by first | (simp only [List.map_toArray, List.map_cons, List.map_nil, Act.eval, Array.getD_eq_getD_getElem?, Option.getD_some, e9, e27]; done) | (simp only [List.map_toArray, List.map_cons, List.map_nil, Act.eval, Array.getD_eq_getD_getElem?, Option.getD_some, e9, e27]; rfl)) (by first | (simp only [List.map_toArray, List.map_cons, List.map_nil, Act.eval, Array.getD_eq_getD_getElem?, Option.getD_some, e9, e27]; done) | (simp only [List.map_toArray, List.map_cons, List.map_nil, Act.eval, Array.getD_eq_getD_getElem?, Option.getD_some, e9, e27]; rfl)) (by (with_reducible repeat (first | refine blk_drewN ?_ _ | refine blk_drew ?_ | refine blk_alloc ?_ _)); exact BK325.out) rfl (by kernel_rfl) rfl (fun _ => rfl) rfl ?_
          intro w53 hi hk hbl
          have n0_ := Aside0.mk (KeepBut.blk hk (g' := gb308) (o := .cells (mixA (Value.int .u16) [.int .i8 a0_0, .int .i8 a0_1] a0_2) 37 (0, 0)) (by (with_reducible repeat (first | refine blk_drewN ?_ _ | refine blk_drew ?_ | refine blk_alloc ?_ _)); exact BK308.out) NB308_325.out (by simp))
          have n1_ := Aside0.mk (KeepBut.blk hk (g' := gb309) (o := .cells #[.int .i8 a1_0, .int .i8 a1_1] 31 (0, 0)) (by (with_reducible repeat (first | refine blk_drewN ?_ _ | refine blk_drew ?_ | refine blk_alloc ?_ _)); exact BK309.out) NB309_325.out (by simp))
          have n2_ := Aside0.mk (KeepBut.blk hk (g' := gb317) (o := .cells (mixA (Value.int .u16) [] t315) 26 (0, 0)) (by (with_reducible repeat (first | refine blk_drewN ?_ _ | refine blk_drew ?_ | refine blk_alloc ?_ _)); exact BK317.out) NB317_325.out (by simp))
          have n3_ := Aside0.mk (hbl _ _ (by repeat (first | (with_reducible first | exact HB.out | apply below_alloc | apply pw_below_drewN | apply below_drew1 | refine below_set ?_ GE308.out | refine below_set ?_ GE309.out | refine below_set ?_ GE317.out | refine below_set ?_ GE325.out) | exact HB.out)) GE325.out)
          have n4_ := Aside0.mk (hi)
          clear BK308
          clear BK309
          clear BK317
          clear HB
          clear BK325
          have BK308 := n0_
          have BK309 := n1_
          have BK317 := n2_
          have HB := n3_
          have BK325 := n4_
          clear n0_ n1_ n2_ n3_ n4_
          clear hi hk hbl
          refine hK.out _ _ ⟨gb325, m9_, (by rw [ha.out]; exact putSel_none (v := undef) rfl), (by (with_reducible repeat (first | refine blk_drewN ?_ _ | refine blk_drew ?_ | refine blk_alloc ?_ _)); exact BK308.out), (by (with_reducible repeat (first | refine blk_drewN ?_ _ | refine blk_drew ?_ | refine blk_alloc ?_ _)); exact BK309.out), (by (with_reducible repeat (first | refine blk_drewN ?_ _ | refine blk_drew ?_ | refine blk_alloc ?_ _)); exact BK317.out), (by repeat (first | (with_reducible first | exact HB.out | apply below_alloc | apply pw_below_drewN | apply below_drew1 | refine below_set ?_ GE308.out | refine below_set ?_ GE309.out | refine below_set ?_ GE317.out | refine below_set ?_ GE325.out) | exact HB.out)), fun _ h1_ => absurd ((up_self b 10).symm.trans h1_) (by decide), fun _ => GW325.out, fun _ => GE325.out, fun _ => NB308_325.out, fun _ => NB325_308.out, fun _ => NB309_325.out, fun _ => NB325_309.out, fun _ => NB317_325.out, fun _ => NB325_317.out, fun _ => (by (with_reducible repeat (first | refine blk_drewN ?_ _ | refine blk_drew ?_ | refine blk_alloc ?_ _)); exact BK325.out), Q_X9_⟩
        refine steps_cons ?_ ?_
        · rintro b a w' ⟨gb325, m9_, ha, Q_BK308, Q_BK309, Q_BK317, Q_HB, Q_BK325, Q_GW325, Q_GE325, Q_NB308_325, Q_NB325_308, Q_NB309_325, Q_NB325_309, Q_NB317_325, Q_NB325_317, Q_BK325_e10, Q_X9_⟩ hb_ hon hoff
          refine ⟨_, rfl, fun K hK => ?_⟩
          have e28 : a.tmps[28]? = some (.int .i64 t324) := by rw [ha]; exact putSel_on (e := (8, 28, .int .i64 t324)) 7 rfl rfl (hon 8 (by kernel_rfl)) rfl
          replace ha := Aside0.mk ha
          have BK308 := Aside0.mk Q_BK308
          have BK309 := Aside0.mk Q_BK309
          have BK317 := Aside0.mk Q_BK317
          have HB := Aside0.mk Q_HB
          have GW325 := Aside0.mk (Q_GW325 (hon 9 (by kernel_rfl)))
          have GE325 := Aside0.mk (Q_GE325 (hon 9 (by kernel_rfl)))
          have NB308_325 := Aside0.mk (Q_NB308_325 (hon 9 (by kernel_rfl)))
          have NB325_308 := Aside0.mk (Q_NB325_308 (hon 9 (by kernel_rfl)))
          have NB309_325 := Aside0.mk (Q_NB309_325 (hon 9 (by kernel_rfl)))
          have NB325_309 := Aside0.mk (Q_NB325_309 (hon 9 (by kernel_rfl)))
          have NB317_325 := Aside0.mk (Q_NB317_325 (hon 9 (by kernel_rfl)))
          have NB325_317 := Aside0.mk (Q_NB325_317 (hon 9 (by kernel_rfl)))
          have BK325 := Aside0.mk (Q_BK325_e10 (hon 10 (by kernel_rfl)))
          refine value_ (w1 := w') (v := .int .i64 t324) (by rfl) rfl ?_ ?_
          · go_simp
            (try simp only [i64_w])
            try rfl
          refine hK.out _ _ ⟨gb325, m9_, (by rw [ha.out]; exact putSel_upk 9 hb_ rfl rfl rfl), Q_BK308, Q_BK309, Q_BK317, Q_HB, fun _ h1_ => absurd ((hon 10 (by kernel_rfl)).symm.trans h1_) (by decide), Q_GW325, Q_GE325, Q_NB308_325, Q_NB325_308, Q_NB309_325, Q_NB325_309, Q_NB317_325, Q_NB325_317, Q_BK325_e10, Q_X9_⟩
        exact steps_nil
      rintro b a w53 hall ⟨gb325, m9_, ha, Q_BK308, Q_BK309, Q_BK317, Q_HB, Q_BK325, Q_GW325, Q_GE325, Q_NB308_325, Q_NB325_308, Q_NB309_325, Q_NB325_309, Q_NB317_325, Q_NB325_317, Q_BK325_e10, Q_X9_⟩
      clear BK308 BK309 BK317 HB
      have hb0_ := hall 0 (by kernel_rfl)
      have hb1_ := hall 1 (by kernel_rfl)
      have hb2_ := hall 2 (by kernel_rfl)
      have hb3_ := hall 3 (by kernel_rfl)
      have hb5_ := hall 5 (by kernel_rfl)
      have hb6_ := hall 6 (by kernel_rfl)
      have hb7_ := hall 7 (by kernel_rfl)
      have hb8_ := hall 8 (by kernel_rfl)
      have hb9_ := hall 9 (by kernel_rfl)
      have hb10_ := hall 10 (by kernel_rfl)
      have hb11_ := hall 11 (by kernel_rfl)
      subst ha
      obtain rfl := Q_X9_ hb9_
      simp only [putSel, hb0_, hb1_, hb2_, hb3_, hb5_, hb6_, hb7_, hb8_, hb9_, hb10_, hb11_, if_true, Act.put, List.setIfInBounds_toArray, List.set_cons_zero, List.set_cons_succ]
      have BK308 := Aside0.mk Q_BK308
      clear Q_BK308
      have BK309 := Aside0.mk Q_BK309
      clear Q_BK309
      have BK317 := Aside0.mk Q_BK317
      clear Q_BK317
      have HB := Aside0.mk Q_HB
      clear Q_HB
      clear Q_BK325
      have GW325 := Aside0.mk (Q_GW325 hb9_)
      clear Q_GW325
      have GE325 := Aside0.mk (Q_GE325 hb9_)
      clear Q_GE325
      have NB308_325 := Aside0.mk (Q_NB308_325 hb9_)
      clear Q_NB308_325
      have NB325_308 := Aside0.mk (Q_NB325_308 hb9_)
      clear Q_NB325_308
      have NB309_325 := Aside0.mk (Q_NB309_325 hb9_)
      clear Q_NB309_325
      have NB325_309 := Aside0.mk (Q_NB325_309 hb9_)
      clear Q_NB325_309
      have NB317_325 := Aside0.mk (Q_NB317_325 hb9_)
      clear Q_NB317_325
      have NB325_317 := Aside0.mk (Q_NB325_317 hb9_)
      clear Q_NB325_317
      have BK325 := Aside0.mk (Q_BK325_e10 hb10_)
      clear Q_BK325_e10
      clear hall hb0_ hb1_ hb2_ hb3_ hb5_ hb6_ hb7_ hb8_ hb9_ hb10_ hb11_
      try go_wp2_with (first | ((with_reducible refine gate_dst (N := 29) rfl ?_); refine wpList_run0 (v := .agg (mixA (Value.int .u16) [] t323)) rfl (load_mix_run (P := Try.prog) 26 (.tmp 9) rfl gb325 rfl (show World.rangeAt _ gb325 0 ([] ++ t323.l.map (Value.int .u16)) from mix_range (show (World.heap _)[gb325]? = some (.cells (mixA (Value.int .u16) [] t323) 26 (0, 0)) from by (with_reducible repeat (first | refine blk_drewN ?_ _ | refine blk_drew ?_ | refine blk_alloc ?_ _)); exact BK325.out)) Try.underlying26 rfl (by kernel_rfl) rfl) ?_) | ((with_reducible refine gate_dst (N := 30) rfl ?_); refine wpList_run0 (v := .agg (mixA (Value.int .u16) [] t315)) rfl (load_mix_run (P := Try.prog) 26 (.tmp 7) rfl gb317 rfl (show World.rangeAt _ gb317 0 ([] ++ t315.l.map (Value.int .u16)) from mix_range (show (World.heap _)[gb317]? = some (.cells (mixA (Value.int .u16) [] t315) 26 (0, 0)) from by (with_reducible repeat (first | refine blk_drewN ?_ _ | refine blk_drew ?_ | refine blk_alloc ?_ _)); exact BK317.out)) Try.underlying26 rfl (by kernel_rfl) rfl) ?_) | ((with_reducible refine gate_callee (f := 22) rfl ?_); refine goesL_ (some 31) rfl rfl Try.func22 (by kernel_rfl) rfl #[.agg (mixA (Value.int .u16) [] t323), .agg (mixA (Value.int .u16) [] t315)] rfl (by (try simp only [List.map_toArray, List.map_cons, List.map_nil]); first | done | rfl | (simp only [List.length_drop, List.length_take]; rfl)) ?_; (with_reducible refine (laws_eqCrowd.calls k t323 t315 true _ A10.out).mono ?_); rintro e w58 ⟨rfl, hb⟩; refine ⟨_, rfl, ?_⟩; have n0_ := Aside0.mk (blk_below (g := gb308) (o := .cells (mixA (Value.int .u16) [.int .i8 a0_0, .int .i8 a0_1] a0_2) 37 (0, 0)) (by (with_reducible repeat (first | refine blk_drewN ?_ _ | refine blk_drew ?_ | refine blk_alloc ?_ _)); exact BK308.out) hb); have n1_ := Aside0.mk (blk_below (g := gb309) (o := .cells #[.int .i8 a1_0, .int .i8 a1_1] 31 (0, 0)) (by (with_reducible repeat (first | refine blk_drewN ?_ _ | refine blk_drew ?_ | refine blk_alloc ?_ _)); exact BK309.out) hb); have n2_ := Aside0.mk (blk_below (g := gb317) (o := .cells (mixA (Value.int .u16) [] t315) 26 (0, 0)) (by (with_reducible repeat (first | refine blk_drewN ?_ _ | refine blk_drew ?_ | refine blk_alloc ?_ _)); exact BK317.out) hb); have n3_ := Aside0.mk (blk_below (g := gb325) (o := .cells (mixA (Value.int .u16) [] t323) 26 (0, 0)) (by (with_reducible repeat (first | refine blk_drewN ?_ _ | refine blk_drew ?_ | refine blk_alloc ?_ _)); exact BK325.out) hb); have n4_ := Aside0.mk (below_step (by repeat (first | (with_reducible first | exact HB.out | apply below_alloc | apply pw_below_drewN | apply below_drew1 | refine below_set ?_ GE308.out | refine below_set ?_ GE309.out | refine below_set ?_ GE317.out | refine below_set ?_ GE325.out) | exact HB.out)) hb); clear BK308; clear BK309; clear BK317; clear BK325; clear HB; have BK308 := n0_; have BK309 := n1_; have BK317 := n2_; have BK325 := n3_; have HB := n4_; clear n0_ n1_ n2_ n3_ n4_; (try clear hb); (try clear hb2); (try clear hk); (try clear hi)))
      go_ret
      exact ⟨by first | rfl | (simp [errW_none, errW_some] <;> rfl) | (simp [*, errW_none, errW_some] <;> rfl), by repeat (first | (with_reducible first | exact HB.out | apply below_alloc | apply pw_below_drewN | apply below_drew1 | refine below_set ?_ GE308.out | refine below_set ?_ GE309.out | refine below_set ?_ GE317.out | refine below_set ?_ GE325.out) | exact HB.out)⟩
  · replace c11 := Bool.eq_false_iff.mpr c11
    subst c11
    have H1 : (some false) = some r := by rw [if_neg (show ¬ (false = true) by decide)] at H; exact H
    clear H
    have H := H1
    clear H1
    obtain rfl := Option.some.inj H
    go_enter Try.func7, Try.ntmps7
    try go_wp2_with (first | ((with_reducible refine gate_dst (N := 3) rfl ?_); refine box_event ?hg (N := 3) ?hd (cs := (mixA (Value.int .u16) [.int .i8 a0_0, .int .i8 a0_1] a0_2)) (t := 37) ?hr ?_; (case hd => rfl); (case hg => rfl); (case hr => first | (go_simp; done) | (go_simp; rfl)); intro gb308 hg w59 hbox hb; have n0_ := Aside0.mk (below_step (by repeat (first | (with_reducible first | exact HB.out | apply below_alloc | apply pw_below_drewN | apply below_drew1) | exact HB.out)) hb); have n1_ := Aside0.mk (hbox); have n2_ := Aside0.mk ((by rw [hg]; exact (below_size (by repeat (first | (with_reducible first | exact HB.out | apply below_alloc | apply pw_below_drewN | apply below_drew1) | exact HB.out))) : w.heap.size ≤ gb308)); have n3_ := Aside0.mk ((by rw [hg]; exact (below_size (by repeat (first | (with_reducible first | exact HB.out | apply below_alloc | apply pw_below_drewN | apply below_drew1) | exact HB.out))) : w.heap.size ≤ gb308)); clear HB; have HB := n0_; have BK308 := n1_; have GW308 := n2_; have GE308 := n3_; clear n0_ n1_ n2_ n3_; clear hb hbox hg) | ((with_reducible refine gate_dst (N := 4) rfl ?_); refine box_event ?hg (N := 4) ?hd (cs := #[.int .i8 a1_0, .int .i8 a1_1]) (t := 31) ?hr ?_; (case hd => rfl); (case hg => rfl); (case hr => first | (go_simp; done) | (go_simp; rfl)); intro gb309 hg w60 hbox hb; have n0_ := Aside0.mk (blk_below (g := gb308) (o := .cells (mixA (Value.int .u16) [.int .i8 a0_0, .int .i8 a0_1] a0_2) 37 (0, 0)) (by (with_reducible repeat (first | refine blk_drewN ?_ _ | refine blk_drew ?_ | refine blk_alloc ?_ _)); exact BK308.out) hb); have n1_ := Aside0.mk (below_step (by repeat (first | (with_reducible first | exact HB.out | apply below_alloc | apply pw_below_drewN | apply below_drew1 | refine below_set ?_ GE308.out) | exact HB.out)) hb); have n2_ := Aside0.mk (hbox); have n3_ := Aside0.mk ((by rw [hg]; exact (below_size (by repeat (first | (with_reducible first | exact HB.out | apply below_alloc | apply pw_below_drewN | apply below_drew1 | refine below_set ?_ GE308.out) | exact HB.out))) : w.heap.size ≤ gb309)); have n4_ := Aside0.mk ((by rw [hg]; exact (below_size (by repeat (first | (with_reducible first | exact HB.out | apply below_alloc | apply pw_below_drewN | apply below_drew1 | refine below_set ?_ GE308.out) | exact HB.out))) : w.heap.size ≤ gb309)); have n5_ := Aside0.mk ((by rw [hg]; exact Nat.ne_of_lt (blk_lt (g := gb308) (o := .cells (mixA (Value.int .u16) [.int .i8 a0_0, .int .i8 a0_1] a0_2) 37 (0, 0)) (by (with_reducible repeat (first | refine blk_drewN ?_ _ | refine blk_drew ?_ | refine blk_alloc ?_ _)); exact BK308.out)) : gb308 ≠ gb309)); have n6_ := Aside0.mk ((by rw [hg]; exact Nat.ne_of_gt (blk_lt (g := gb308) (o := .cells (mixA (Value.int .u16) [.int .i8 a0_0, .int .i8 a0_1] a0_2) 37 (0, 0)) (by (with_reducible repeat (first | refine blk_drewN ?_ _ | refine blk_drew ?_ | refine blk_alloc ?_ _)); exact BK308.out)) : gb309 ≠ gb308)); clear BK308; clear HB; have BK308 := n0_; have HB := n1_; have BK309 := n2_; have GW309 := n3_; have GE309 := n4_; have NB308_309 := n5_; have NB309_308 := n6_; clear n0_ n1_ n2_ n3_ n4_ n5_ n6_; clear hb hbox hg))
    have n0_ := Aside0.mk (blk_drew BK308.out)
    have n1_ := Aside0.mk (blk_drew BK309.out)
    have n2_ := Aside0.mk (below_drew1 HB.out)
    clear BK308
    clear BK309
    clear HB
    have BK308 := n0_
    have BK309 := n1_
    have HB := n2_
    clear n0_ n1_ n2_
    refine start_ (n := 12) (S := fun w' => True) (ds := []) #[false, false, false, false, false, false, false, false, false, false, false, false] (by kernel_rfl) rfl rfl trivial (fun hHeld => ?_); refine with_tabW laws_FnExactCrowdAt.tab1 laws_FnExactCrowdAt.bits1 (fun HT_ HW_ => ?_)
    generalize w60.drew = w61 at BK308 BK309 HB hHeld ⊢
    refine pure_ (i := 4) (N := some 16) (v := ?_) (a' := ?_) #[false, false, false, false, true, false, false, false, false, false, false, false] rfl rfl (any_of HT_.out (by kernel_rfl)) (fun _ _ _ h => h) (Or.inl ⟨by rfl, ?_⟩) ?_ ?_
    rotate_left
    · intro w'
      go_simp
      with_reducible rfl
    rotate_left
    · simp only [Act.put, List.setIfInBounds_toArray, List.set_cons_zero, List.set_cons_succ, i64_w, i32_w]
      rfl
    refine inv_at [0, 1, 2, 3, 5, 6, 7, 8, 9, 10, 11] (fun a0_ b a w' => ∃ (gb317 : Nat) (m9_ : Value), a = putSel a0_ b [(0, 12, .agg (mixA (Value.int .u16) [.int .i8 a0_0, .int .i8 a0_1] a0_2)), (1, 13, .agg (mixA (Value.int .u16) [.int .i8 t310, .int .i8 t311] t312)), (2, 14, .agg #[.int .i8 a1_0, .int .i8 a1_1]), (3, 15, .agg #[.int .i8 t313, .int .i8 t314]), (5, 17, .tuple #[.agg (mixA (Value.int .u16) [] t315), .int .i64 t316]), (6, 11, .tuple #[.agg (mixA (Value.int .u16) [] t315), .int .i64 t316]), (7, 18, .agg (mixA (Value.int .u16) [] t315)), (8, 19, .int .i64 t316), (9, 7, m9_), (11, 8, .int .i64 t316)] ∧ (w'.heap[gb308]? = some (.cells (mixA (Value.int .u16) [.int .i8 a0_0, .int .i8 a0_1] a0_2) 37 (0, 0))) ∧ (w'.heap[gb309]? = some (.cells #[.int .i8 a1_0, .int .i8 a1_1] 31 (0, 0))) ∧ (Below w.heap.size w w') ∧ (b 9 = true → b 10 = false → w'.heap[gb317]? = some (.cells (mixA (Value.int .u16) [] (LA.zero 40)) 26 (0, 0))) ∧ (b 9 = true → w.heap.size ≤ gb317) ∧ (b 9 = true → w.heap.size ≤ gb317) ∧ (b 9 = true → gb308 ≠ gb317) ∧ (b 9 = true → gb317 ≠ gb308) ∧ (b 9 = true → gb309 ≠ gb317) ∧ (b 9 = true → gb317 ≠ gb309) ∧ (b 10 = true → w'.heap[gb317]? = some (.cells (mixA (Value.int .u16) [] t315) 26 (0, 0))) ∧ (b 9 = true → (m9_ : Value) = .pointer (some ⟨gb317, 0, none⟩))) HT_.out HW_.out (by kernel_rfl) (by kernel_rfl) ?_ ?_ ?_
    · exact ⟨0, .bool false, by simp only [putSel, Bool.false_eq_true, if_false], BK308.out, BK309.out, HB.out, fun h_ => absurd h_ (by decide), fun h_ => absurd h_ (by decide), fun h_ => absurd h_ (by decide), fun h_ => absurd h_ (by decide), fun h_ => absurd h_ (by decide), fun h_ => absurd h_ (by decide), fun h_ => absurd h_ (by decide), fun h_ => absurd h_ (by decide), fun h_ => absurd h_ (by decide)⟩
    · skip
      clear BK308 BK309 HB
      refine steps_cons ?_ ?_
      · rintro b a w' ⟨gb317, m9_, ha, Q_BK308, Q_BK309, Q_HB, Q_BK317, Q_GW317, Q_GE317, Q_NB308_317, Q_NB317_308, Q_NB309_317, Q_NB317_309, Q_BK317_e10, Q_X9_⟩ hb_ hon hoff
        refine ⟨_, rfl, fun K hK => ?_⟩
        have e3 : a.tmps[3]? = some (.pointer (some ⟨gb308, 0, none⟩)) := by rw [ha]; exact (putSel_off rfl).trans rfl
        replace ha := Aside0.mk ha
        have BK308 := Aside0.mk Q_BK308
        have BK309 := Aside0.mk Q_BK309
        have HB := Aside0.mk Q_HB
        have hL_ : World.rangeAt w' gb308 0 ([.int .i8 a0_0, .int .i8 a0_1] ++ a0_2.l.map (Value.int .u16)) := mix_range BK308.out
        refine value_ (w1 := w') (v := .agg (mixA (Value.int .u16) [.int .i8 a0_0, .int .i8 a0_1] a0_2)) (by rfl) rfl ?_ ?_
        · exact load_mix_run (P := Try.prog) 37 (.tmp 3) rfl gb308 (by simp only [Act.eval, Array.getD_eq_getD_getElem?, e3, Option.getD_some]) hL_ Try.underlying37 rfl (by kernel_rfl) rfl
        refine hK.out _ _ ⟨gb317, m9_, (by rw [ha.out]; exact putSel_upk 0 hb_ rfl rfl rfl), Q_BK308, Q_BK309, Q_HB, Q_BK317, Q_GW317, Q_GE317, Q_NB308_317, Q_NB317_308, Q_NB309_317, Q_NB317_309, fun h0_ => absurd ((hoff 10 (by kernel_rfl)).symm.trans h0_) (by decide), Q_X9_⟩
      refine steps_cons ?_ ?_
      · rintro b a w' ⟨gb317, m9_, ha, Q_BK308, Q_BK309, Q_HB, Q_BK317, Q_GW317, Q_GE317, Q_NB308_317, Q_NB317_308, Q_NB309_317, Q_NB317_309, Q_BK317_e10, Q_X9_⟩ hb_ hon hoff
        refine ⟨_, rfl, fun K hK => ?_⟩
        have e12 : a.tmps[12]? = some (.agg (mixA (Value.int .u16) [.int .i8 a0_0, .int .i8 a0_1] a0_2)) := by rw [ha]; exact putSel_on (e := (0, 12, .agg (mixA (Value.int .u16) [.int .i8 a0_0, .int .i8 a0_1] a0_2))) 0 rfl rfl (hon 0 (by kernel_rfl)) rfl
        replace ha := Aside0.mk ha
        have BK308 := Aside0.mk Q_BK308
        have BK309 := Aside0.mk Q_BK309
        have HB := Aside0.mk Q_HB
        refine goes_ Try.func18 (by kernel_rfl) rfl #[.agg (mixA (Value.int .u16) [.int .i8 a0_0, .int .i8 a0_1] a0_2)] (by rfl) rfl rfl (by first | (simp only [List.map_toArray, List.map_cons, List.map_nil, Act.eval, Array.getD_eq_getD_getElem?, Option.getD_some, e12]; done) | (simp only [List.map_toArray, List.map_cons, List.map_nil, Act.eval, Array.getD_eq_getD_getElem?, Option.getD_some, e12]; rfl)) ?_
        with_reducible refine (laws_toRoom.calls k a0_0 a0_1 a0_2 t310 t311 t312 _ A4.out).mono ?_
        rintro e w62 ⟨rfl, hb⟩
        refine ⟨_, rfl, ?_⟩
        have n0_ := Aside0.mk (blk_below (g := gb308) (o := .cells (mixA (Value.int .u16) [.int .i8 a0_0, .int .i8 a0_1] a0_2) 37 (0, 0)) (by (with_reducible repeat (first | refine blk_drewN ?_ _ | refine blk_drew ?_ | refine blk_alloc ?_ _)); exact BK308.out) hb)
        have n1_ := Aside0.mk (blk_below (g := gb309) (o := .cells #[.int .i8 a1_0, .int .i8 a1_1] 31 (0, 0)) (by (with_reducible repeat (first | refine blk_drewN ?_ _ | refine blk_drew ?_ | refine blk_alloc ?_ _)); exact BK309.out) hb)
        have n2_ := Aside0.mk (below_step (by repeat (first | (with_reducible first | exact HB.out | apply below_alloc | apply pw_below_drewN | apply below_drew1 | refine below_set ?_ GE308.out | refine below_set ?_ GE309.out) | exact HB.out)) hb)
        have z_BK317 := fun (h0_ : b 9 = true) (h1_ : b 10 = false) => (show w62.heap[gb317]? = some (.cells (mixA (Value.int .u16) [] (LA.zero 40)) 26 (0, 0)) from by first | exact (blk_below (g := gb317) (o := .cells (mixA (Value.int .u16) [] (LA.zero 40)) 26 (0, 0)) (by (with_reducible repeat (first | refine blk_drewN ?_ _ | refine blk_drew ?_ | refine blk_alloc ?_ _)); exact (Q_BK317 h0_ h1_)) hb))
        clear BK308
        clear BK309
        clear HB
        have BK308 := n0_
        have BK309 := n1_
        have HB := n2_
        clear n0_ n1_ n2_
        (try clear hb)
        (try clear hb2)
        (try clear hk)
        (try clear hi)
        refine hK.out _ _ ⟨gb317, m9_, (by rw [ha.out]; exact putSel_upk 1 hb_ rfl rfl rfl), (by (with_reducible repeat (first | refine blk_drewN ?_ _ | refine blk_drew ?_ | refine blk_alloc ?_ _)); exact BK308.out), (by (with_reducible repeat (first | refine blk_drewN ?_ _ | refine blk_drew ?_ | refine blk_alloc ?_ _)); exact BK309.out), (by repeat (first | (with_reducible first | exact HB.out | apply below_alloc | apply pw_below_drewN | apply below_drew1 | refine below_set ?_ GE308.out | refine below_set ?_ GE309.out) | exact HB.out)), z_BK317, Q_GW317, Q_GE317, Q_NB308_317, Q_NB317_308, Q_NB309_317, Q_NB317_309, fun h0_ => absurd ((hoff 10 (by kernel_rfl)).symm.trans h0_) (by decide), Q_X9_⟩
      refine steps_cons ?_ ?_
      · rintro b a w' ⟨gb317, m9_, ha, Q_BK308, Q_BK309, Q_HB, Q_BK317, Q_GW317, Q_GE317, Q_NB308_317, Q_NB317_308, Q_NB309_317, Q_NB317_309, Q_BK317_e10, Q_X9_⟩ hb_ hon hoff
        refine ⟨_, rfl, fun K hK => ?_⟩
        have e4 : a.tmps[4]? = some (.pointer (some ⟨gb309, 0, none⟩)) := by rw [ha]; exact (putSel_off rfl).trans rfl
        replace ha := Aside0.mk ha
        have BK308 := Aside0.mk Q_BK308
        have BK309 := Aside0.mk Q_BK309
        have HB := Aside0.mk Q_HB
        have hc0_ : w'.cell? ⟨gb309, 0, none⟩ = some (.int .i8 a1_0) := bc_ BK309.out 0
        have hc1_ : w'.cell? ⟨gb309, 1, none⟩ = some (.int .i8 a1_1) := bc_ BK309.out 1
        refine value_ (w1 := w') (v := .agg #[.int .i8 a1_0, .int .i8 a1_1]) (by rfl) rfl ?_ ?_
        · go_simp
          (try simp only [i64_w])
          try rfl
        refine hK.out _ _ ⟨gb317, m9_, (by rw [ha.out]; exact putSel_upk 2 hb_ rfl rfl rfl), Q_BK308, Q_BK309, Q_HB, Q_BK317, Q_GW317, Q_GE317, Q_NB308_317, Q_NB317_308, Q_NB309_317, Q_NB317_309, fun h0_ => absurd ((hoff 10 (by kernel_rfl)).symm.trans h0_) (by decide), Q_X9_⟩
      refine steps_cons ?_ ?_
      · rintro b a w' ⟨gb317, m9_, ha, Q_BK308, Q_BK309, Q_HB, Q_BK317, Q_GW317, Q_GE317, Q_NB308_317, Q_NB317_308, Q_NB309_317, Q_NB317_309, Q_BK317_e10, Q_X9_⟩ hb_ hon hoff
        refine ⟨_, rfl, fun K hK => ?_⟩
        have e14 : a.tmps[14]? = some (.agg #[.int .i8 a1_0, .int .i8 a1_1]) := by rw [ha]; exact putSel_on (e := (2, 14, .agg #[.int .i8 a1_0, .int .i8 a1_1])) 2 rfl rfl (hon 2 (by kernel_rfl)) rfl
        replace ha := Aside0.mk ha
        have BK308 := Aside0.mk Q_BK308
        have BK309 := Aside0.mk Q_BK309
        have HB := Aside0.mk Q_HB
        refine goes_ Try.func15 (by kernel_rfl) rfl #[.agg #[.int .i8 a1_0, .int .i8 a1_1]] (by rfl) rfl rfl (by first | (simp only [List.map_toArray, List.map_cons, List.map_nil, Act.eval, Array.getD_eq_getD_getElem?, Option.getD_some, e14]; done) | (simp only [List.map_toArray, List.map_cons, List.map_nil, Act.eval, Array.getD_eq_getD_getElem?, Option.getD_some, e14]; rfl)) ?_
        with_reducible refine (laws_toSpot.calls a1_0 a1_1 t313 t314 _ A5.out).mono ?_
        rintro e w64 ⟨rfl, hb⟩
        refine ⟨_, rfl, ?_⟩
        have n0_ := Aside0.mk (blk_below (g := gb308) (o := .cells (mixA (Value.int .u16) [.int .i8 a0_0, .int .i8 a0_1] a0_2) 37 (0, 0)) (by (with_reducible repeat (first | refine blk_drewN ?_ _ | refine blk_drew ?_ | refine blk_alloc ?_ _)); exact BK308.out) hb)
        have n1_ := Aside0.mk (blk_below (g := gb309) (o := .cells #[.int .i8 a1_0, .int .i8 a1_1] 31 (0, 0)) (by (with_reducible repeat (first | refine blk_drewN ?_ _ | refine blk_drew ?_ | refine blk_alloc ?_ _)); exact BK309.out) hb)
        have n2_ := Aside0.mk (below_step (by repeat (first | (with_reducible first | exact HB.out | apply below_alloc | apply pw_below_drewN | apply below_drew1 | refine below_set ?_ GE308.out | refine below_set ?_ GE309.out) | exact HB.out)) hb)
        have z_BK317 := fun (h0_ : b 9 = true) (h1_ : b 10 = false) => (show w64.heap[gb317]? = some (.cells (mixA (Value.int .u16) [] (LA.zero 40)) 26 (0, 0)) from by first | exact (blk_below (g := gb317) (o := .cells (mixA (Value.int .u16) [] (LA.zero 40)) 26 (0, 0)) (by (with_reducible repeat (first | refine blk_drewN ?_ _ | refine blk_drew ?_ | refine blk_alloc ?_ _)); exact (Q_BK317 h0_ h1_)) hb))
        clear BK308
        clear BK309
        clear HB
        have BK308 := n0_
        have BK309 := n1_
        have HB := n2_
        clear n0_ n1_ n2_
        (try clear hb)
        (try clear hb2)
        (try clear hk)
        (try clear hi)
        refine hK.out _ _ ⟨gb317, m9_, (by rw [ha.out]; exact putSel_upk 3 hb_ rfl rfl rfl), (by (with_reducible repeat (first | refine blk_drewN ?_ _ | refine blk_drew ?_ | refine blk_alloc ?_ _)); exact BK308.out), (by (with_reducible repeat (first | refine blk_drewN ?_ _ | refine blk_drew ?_ | refine blk_alloc ?_ _)); exact BK309.out), (by repeat (first | (with_reducible first | exact HB.out | apply below_alloc | apply pw_below_drewN | apply below_drew1 | refine below_set ?_ GE308.out | refine below_set ?_ GE309.out) | exact HB.out)), z_BK317, Q_GW317, Q_GE317, Q_NB308_317, Q_NB317_308, Q_NB309_317, Q_NB317_309, fun h0_ => absurd ((hoff 10 (by kernel_rfl)).symm.trans h0_) (by decide), Q_X9_⟩
      refine steps_cons ?_ ?_
      · rintro b a w' ⟨gb317, m9_, ha, Q_BK308, Q_BK309, Q_HB, Q_BK317, Q_GW317, Q_GE317, Q_NB308_317, Q_NB317_308, Q_NB309_317, Q_NB317_309, Q_BK317_e10, Q_X9_⟩ hb_ hon hoff
        refine ⟨_, rfl, fun K hK => ?_⟩
        have e13 : a.tmps[13]? = some (.agg (mixA (Value.int .u16) [.int .i8 t310, .int .i8 t311] t312)) := by rw [ha]; exact putSel_on (e := (1, 13, .agg (mixA (Value.int .u16) [.int .i8 t310, .int .i8 t311] t312))) 1 rfl rfl (hon 1 (by kernel_rfl)) rfl
        have e15 : a.tmps[15]? = some (.agg #[.int .i8 t313, .int .i8 t314]) := by rw [ha]; exact putSel_on (e := (3, 15, .agg #[.int .i8 t313, .int .i8 t314])) 3 rfl rfl (hon 3 (by kernel_rfl)) rfl
        have e16 : a.tmps[16]? = some (.int .i64 a2) := by rw [ha]; exact (putSel_off rfl).trans rfl
        replace ha := Aside0.mk ha
        have BK308 := Aside0.mk Q_BK308
        have BK309 := Aside0.mk Q_BK309
        have HB := Aside0.mk Q_HB
        refine goes_ Try.func23 (by kernel_rfl) rfl #[.agg (mixA (Value.int .u16) [.int .i8 t310, .int .i8 t311] t312), .agg #[.int .i8 t313, .int .i8 t314], .int .i64 a2] (by rfl) rfl rfl (by first | (simp only [List.map_toArray, List.map_cons, List.map_nil, Act.eval, Array.getD_eq_getD_getElem?, Option.getD_some, e13, e15, e16]; done) | (simp only [List.map_toArray, List.map_cons, List.map_nil, Act.eval, Array.getD_eq_getD_getElem?, Option.getD_some, e13, e15, e16]; rfl)) ?_
        with_reducible refine (spec_CrowdAt.calls k t310 t311 t312 t313 t314 a2 t315 t316 _ A6.out).mono ?_
        rintro e w65 ⟨rfl, hb⟩
        refine ⟨_, rfl, ?_⟩
        have n0_ := Aside0.mk (blk_below (g := gb308) (o := .cells (mixA (Value.int .u16) [.int .i8 a0_0, .int .i8 a0_1] a0_2) 37 (0, 0)) (by (with_reducible repeat (first | refine blk_drewN ?_ _ | refine blk_drew ?_ | refine blk_alloc ?_ _)); exact BK308.out) hb)
        have n1_ := Aside0.mk (blk_below (g := gb309) (o := .cells #[.int .i8 a1_0, .int .i8 a1_1] 31 (0, 0)) (by (with_reducible repeat (first | refine blk_drewN ?_ _ | refine blk_drew ?_ | refine blk_alloc ?_ _)); exact BK309.out) hb)
        have n2_ := Aside0.mk (below_step (by repeat (first | (with_reducible first | exact HB.out | apply below_alloc | apply pw_below_drewN | apply below_drew1 | refine below_set ?_ GE308.out | refine below_set ?_ GE309.out) | exact HB.out)) hb)
        have z_BK317 := fun (h0_ : b 9 = true) (h1_ : b 10 = false) => (show w65.heap[gb317]? = some (.cells (mixA (Value.int .u16) [] (LA.zero 40)) 26 (0, 0)) from by first | exact (blk_below (g := gb317) (o := .cells (mixA (Value.int .u16) [] (LA.zero 40)) 26 (0, 0)) (by (with_reducible repeat (first | refine blk_drewN ?_ _ | refine blk_drew ?_ | refine blk_alloc ?_ _)); exact (Q_BK317 h0_ h1_)) hb))
        clear BK308
        clear BK309
        clear HB
        have BK308 := n0_
        have BK309 := n1_
        have HB := n2_
        clear n0_ n1_ n2_
        (try clear hb)
        (try clear hb2)
        (try clear hk)
        (try clear hi)
        refine hK.out _ _ ⟨gb317, m9_, (by rw [ha.out]; exact putSel_upk 4 hb_ rfl rfl rfl), (by (with_reducible repeat (first | refine blk_drewN ?_ _ | refine blk_drew ?_ | refine blk_alloc ?_ _)); exact BK308.out), (by (with_reducible repeat (first | refine blk_drewN ?_ _ | refine blk_drew ?_ | refine blk_alloc ?_ _)); exact BK309.out), (by repeat (first | (with_reducible first | exact HB.out | apply below_alloc | apply pw_below_drewN | apply below_drew1 | refine below_set ?_ GE308.out | refine below_set ?_ GE309.out) | exact HB.out)), z_BK317, Q_GW317, Q_GE317, Q_NB308_317, Q_NB317_308, Q_NB309_317, Q_NB317_309, fun h0_ => absurd ((hoff 10 (by kernel_rfl)).symm.trans h0_) (by decide), Q_X9_⟩
      refine steps_cons ?_ ?_
      · rintro b a w' ⟨gb317, m9_, ha, Q_BK308, Q_BK309, Q_HB, Q_BK317, Q_GW317, Q_GE317, Q_NB308_317, Q_NB317_308, Q_NB309_317, Q_NB317_309, Q_BK317_e10, Q_X9_⟩ hb_ hon hoff
        refine ⟨_, rfl, fun K hK => ?_⟩
        have e17 : a.tmps[17]? = some (.tuple #[.agg (mixA (Value.int .u16) [] t315), .int .i64 t316]) := by rw [ha]; exact putSel_on (e := (5, 17, .tuple #[.agg (mixA (Value.int .u16) [] t315), .int .i64 t316])) 4 rfl rfl (hon 5 (by kernel_rfl)) rfl
        replace ha := Aside0.mk ha
        have BK308 := Aside0.mk Q_BK308
        have BK309 := Aside0.mk Q_BK309
        have HB := Aside0.mk Q_HB
        refine value_ (w1 := w') (v := .tuple #[.agg (mixA (Value.int .u16) [] t315), .int .i64 t316]) (by rfl) rfl ?_ ?_
        · go_simp
          (try simp only [i64_w])
          try rfl
        refine hK.out _ _ ⟨gb317, m9_, (by rw [ha.out]; exact putSel_upk 5 hb_ rfl rfl rfl), Q_BK308, Q_BK309, Q_HB, Q_BK317, Q_GW317, Q_GE317, Q_NB308_317, Q_NB317_308, Q_NB309_317, Q_NB317_309, fun h0_ => absurd ((hoff 10 (by kernel_rfl)).symm.trans h0_) (by decide), Q_X9_⟩
      refine steps_cons ?_ ?_
      · rintro b a w' ⟨gb317, m9_, ha, Q_BK308, Q_BK309, Q_HB, Q_BK317, Q_GW317, Q_GE317, Q_NB308_317, Q_NB317_308, Q_NB309_317, Q_NB317_309, Q_BK317_e10, Q_X9_⟩ hb_ hon hoff
        refine ⟨_, rfl, fun K hK => ?_⟩
        have e11 : a.tmps[11]? = some (.tuple #[.agg (mixA (Value.int .u16) [] t315), .int .i64 t316]) := by rw [ha]; exact putSel_on (e := (6, 11, .tuple #[.agg (mixA (Value.int .u16) [] t315), .int .i64 t316])) 5 rfl rfl (hon 6 (by kernel_rfl)) rfl
        replace ha := Aside0.mk ha
        have BK308 := Aside0.mk Q_BK308
        have BK309 := Aside0.mk Q_BK309
        have HB := Aside0.mk Q_HB
        refine value_ (w1 := w') (v := .agg (mixA (Value.int .u16) [] t315)) (by rfl) rfl ?_ ?_
        · go_simp
          (try simp only [i64_w])
          try rfl
        refine hK.out _ _ ⟨gb317, m9_, (by rw [ha.out]; exact putSel_upk 6 hb_ rfl rfl rfl), Q_BK308, Q_BK309, Q_HB, Q_BK317, Q_GW317, Q_GE317, Q_NB308_317, Q_NB317_308, Q_NB309_317, Q_NB317_309, fun h0_ => absurd ((hoff 10 (by kernel_rfl)).symm.trans h0_) (by decide), Q_X9_⟩
      refine steps_cons ?_ ?_
      · rintro b a w' ⟨gb317, m9_, ha, Q_BK308, Q_BK309, Q_HB, Q_BK317, Q_GW317, Q_GE317, Q_NB308_317, Q_NB317_308, Q_NB309_317, Q_NB317_309, Q_BK317_e10, Q_X9_⟩ hb_ hon hoff
        refine ⟨_, rfl, fun K hK => ?_⟩
        have e11 : a.tmps[11]? = some (.tuple #[.agg (mixA (Value.int .u16) [] t315), .int .i64 t316]) := by rw [ha]; exact putSel_on (e := (6, 11, .tuple #[.agg (mixA (Value.int .u16) [] t315), .int .i64 t316])) 5 rfl rfl (hon 6 (by kernel_rfl)) rfl
        replace ha := Aside0.mk ha
        have BK308 := Aside0.mk Q_BK308
        have BK309 := Aside0.mk Q_BK309
        have HB := Aside0.mk Q_HB
        refine value_ (w1 := w') (v := .int .i64 t316) (by rfl) rfl ?_ ?_
        · go_simp
          (try simp only [i64_w])
          try rfl
        refine hK.out _ _ ⟨gb317, m9_, (by rw [ha.out]; exact putSel_upk 7 hb_ rfl rfl rfl), Q_BK308, Q_BK309, Q_HB, Q_BK317, Q_GW317, Q_GE317, Q_NB308_317, Q_NB317_308, Q_NB309_317, Q_NB317_309, Q_BK317_e10, Q_X9_⟩
      refine steps_cons ?_ ?_
      · rintro b a w' ⟨gb317, m9_, ha, Q_BK308, Q_BK309, Q_HB, Q_BK317, Q_GW317, Q_GE317, Q_NB308_317, Q_NB317_308, Q_NB309_317, Q_NB317_309, Q_BK317_e10, Q_X9_⟩ hb_ hon hoff
        refine ⟨_, rfl, fun K hK => ?_⟩
        replace ha := Aside0.mk ha
        have BK308 := Aside0.mk Q_BK308
        have BK309 := Aside0.mk Q_BK309
        have HB := Aside0.mk Q_HB
        refine box_step ?hg (N := 7) ?hd (cs := (mixA (Value.int .u16) [] (LA.zero 40))) (t := 26) ?hr ?_; (case hd => rfl); (case hg => rfl); (case hr => first | (go_simp; done) | (go_simp; rfl))
        intro gb317 hg w62 hbox hb
        have n0_ := Aside0.mk (blk_below (g := gb308) (o := .cells (mixA (Value.int .u16) [.int .i8 a0_0, .int .i8 a0_1] a0_2) 37 (0, 0)) (by (with_reducible repeat (first | refine blk_drewN ?_ _ | refine blk_drew ?_ | refine blk_alloc ?_ _)); exact BK308.out) hb)
        have n1_ := Aside0.mk (blk_below (g := gb309) (o := .cells #[.int .i8 a1_0, .int .i8 a1_1] 31 (0, 0)) (by (with_reducible repeat (first | refine blk_drewN ?_ _ | refine blk_drew ?_ | refine blk_alloc ?_ _)); exact BK309.out) hb)
        have n2_ := Aside0.mk (below_step (by repeat (first | (with_reducible first | exact HB.out | apply below_alloc | apply pw_below_drewN | apply below_drew1 | refine below_set ?_ GE308.out | refine below_set ?_ GE309.out) | exact HB.out)) hb)
        have n3_ := Aside0.mk (hbox)
        have n4_ := Aside0.mk ((by rw [hg]; exact (below_size (by repeat (first | (with_reducible first | exact HB.out | apply below_alloc | apply pw_below_drewN | apply below_drew1 | refine below_set ?_ GE308.out | refine below_set ?_ GE309.out) | exact HB.out))) : w.heap.size ≤ gb317))
        have n5_ := Aside0.mk ((by rw [hg]; exact (below_size (by repeat (first | (with_reducible first | exact HB.out | apply below_alloc | apply pw_below_drewN | apply below_drew1 | refine below_set ?_ GE308.out | refine below_set ?_ GE309.out) | exact HB.out))) : w.heap.size ≤ gb317))
        have n6_ := Aside0.mk ((by rw [hg]; exact Nat.ne_of_lt (blk_lt (g := gb308) (o := .cells (mixA (Value.int .u16) [.int .i8 a0_0, .int .i8 a0_1] a0_2) 37 (0, 0)) (by (with_reducible repeat (first | refine blk_drewN ?_ _ | refine blk_drew ?_ | refine blk_alloc ?_ _)); exact BK308.out)) : gb308 ≠ gb317))
        have n7_ := Aside0.mk ((by rw [hg]; exact Nat.ne_of_gt (blk_lt (g := gb308) (o := .cells (mixA (Value.int .u16) [.int .i8 a0_0, .int .i8 a0_1] a0_2) 37 (0, 0)) (by (with_reducible repeat (first | refine blk_drewN ?_ _ | refine blk_drew ?_ | refine blk_alloc ?_ _)); exact BK308.out)) : gb317 ≠ gb308))
        have n8_ := Aside0.mk ((by rw [hg]; exact Nat.ne_of_lt (blk_lt (g := gb309) (o := .cells #[.int .i8 a1_0, .int .i8 a1_1] 31 (0, 0)) (by (with_reducible repeat (first | refine blk_drewN ?_ _ | refine blk_drew ?_ | refine blk_alloc ?_ _)); exact BK309.out)) : gb309 ≠ gb317))
        have n9_ := Aside0.mk ((by rw [hg]; exact Nat.ne_of_gt (blk_lt (g := gb309) (o := .cells #[.int .i8 a1_0, .int .i8 a1_1] 31 (0, 0)) (by (with_reducible repeat (first | refine blk_drewN ?_ _ | refine blk_drew ?_ | refine blk_alloc ?_ _)); exact BK309.out)) : gb317 ≠ gb309))
        clear BK308
        clear BK309
        clear HB
        have BK308 := n0_
        have BK309 := n1_
        have HB := n2_
        have BK317 := n3_
        have GW317 := n4_
        have GE317 := n5_
        have NB308_317 := n6_
        have NB317_308 := n7_
        have NB309_317 := n8_
        have NB317_309 := n9_
        clear n0_ n1_ n2_ n3_ n4_ n5_ n6_ n7_ n8_ n9_
        clear hb hbox hg
        refine hK.out _ _ ⟨gb317, (.pointer (some ⟨gb317, 0, none⟩)), (by rw [ha.out]; exact putSel_upk 8 hb_ rfl rfl rfl), (by (with_reducible repeat (first | refine blk_drewN ?_ _ | refine blk_drew ?_ | refine blk_alloc ?_ _)); exact BK308.out), (by (with_reducible repeat (first | refine blk_drewN ?_ _ | refine blk_drew ?_ | refine blk_alloc ?_ _)); exact BK309.out), (by repeat (first | (with_reducible first | exact HB.out | apply below_alloc | apply pw_below_drewN | apply below_drew1 | refine below_set ?_ GE308.out | refine below_set ?_ GE309.out | refine below_set ?_ GE317.out) | exact HB.out)), fun _ _ => (by (with_reducible repeat (first | refine blk_drewN ?_ _ | refine blk_drew ?_ | refine blk_alloc ?_ _)); exact BK317.out), fun _ => GW317.out, fun _ => GE317.out, fun _ => NB308_317.out, fun _ => NB317_308.out, fun _ => NB309_317.out, fun _ => NB317_309.out, fun h0_ => absurd ((hoff 10 (by kernel_rfl)).symm.trans h0_) (by decide), fun _ => rfl⟩
      refine steps_cons ?_ ?_
      · rintro b a w' ⟨gb317, m9_, ha, Q_BK308, Q_BK309, Q_HB, Q_BK317, Q_GW317, Q_GE317, Q_NB308_317, Q_NB317_308, Q_NB309_317, Q_NB317_309, Q_BK317_e10, Q_X9_⟩ hb_ hon hoff
        refine ⟨_, rfl, fun K hK => ?_⟩
        have e7 : a.tmps[7]? = some (m9_) := by rw [ha]; exact putSel_on (e := (9, 7, m9_)) 8 rfl rfl (hon 9 (by kernel_rfl)) rfl
        rw [Q_X9_ (hon 9 (by kernel_rfl))] at e7
        have e18 : a.tmps[18]? = some (.agg (mixA (Value.int .u16) [] t315)) := by rw [ha]; exact putSel_on (e := (7, 18, .agg (mixA (Value.int .u16) [] t315))) 6 rfl rfl (hon 7 (by kernel_rfl)) rfl
        replace ha := Aside0.mk ha
        have BK308 := Aside0.mk Q_BK308
        have BK309 := Aside0.mk Q_BK309
        have HB := Aside0.mk Q_HB
        have BK317 := Aside0.mk (Q_BK317 (hon 9 (by kernel_rfl)) hb_)
        have GW317 := Aside0.mk (Q_GW317 (hon 9 (by kernel_rfl)))
        have GE317 := Aside0.mk (Q_GE317 (hon 9 (by kernel_rfl)))
        have NB308_317 := Aside0.mk (Q_NB308_317 (hon 9 (by kernel_rfl)))
        have NB317_308 := Aside0.mk (Q_NB317_308 (hon 9 (by kernel_rfl)))
        have NB309_317 := Aside0.mk (Q_NB309_317 (hon 9 (by kernel_rfl)))
        have NB317_309 := Aside0.mk (Q_NB317_309 (hon 9 (by kernel_rfl)))
        refine step_store_lmix (by rfl) rfl 26 _ _ rfl gb317 (e := (Value.int .u16)) (cs' := []) (W' := t315) (cs := []) (W := (LA.zero 40)) (T := 26) (by first | (simp only [List.map_toArray, List.map_cons, List.map_nil, Act.eval, Array.getD_eq_getD_getElem?, Option.getD_some, e7, e18]; done) | (simp only [List.map_toArray, List.map_cons, List.map_nil, Act.eval, Array.getD_eq_getD_getElem?, Option.getD_some, e7, e18]; rfl)) (by first | (simp only [List.map_toArray, List.map_cons, List.map_nil, Act.eval, Array.getD_eq_getD_getElem?, Option.getD_some, e7, e18]; done) | (simp only [List.map_toArray, List.map_cons, List.map_nil, Act.eval, Array.getD_eq_getD_getElem?, Option.getD_some, e7, e18]; rfl)) (by (with_reducible repeat (first | refine blk_drewN ?_ _ | refine blk_drew ?_ | refine blk_alloc ?_ _)); exact BK317.out) rfl (by kernel_rfl) rfl (fun _ => rfl) rfl ?_
        intro w67 hi hk hbl
        have n0_ := Aside0.mk (KeepBut.blk hk (g' := gb308) (o := .cells (mixA (Value.int .u16) [.int .i8 a0_0, .int .i8 a0_1] a0_2) 37 (0, 0)) (by (with_reducible repeat (first | refine blk_drewN ?_ _ | refine blk_drew ?_ | refine blk_alloc ?_ _)); exact BK308.out) NB308_317.out (by simp))
        have n1_ := Aside0.mk (KeepBut.blk hk (g' := gb309) (o := .cells #[.int .i8 a1_0, .int .i8 a1_1] 31 (0, 0)) (by (with_reducible repeat (first | refine blk_drewN ?_ _ | refine blk_drew ?_ | refine blk_alloc ?_ _)); exact BK309.out) NB309_317.out (by simp))
        have n2_ := Aside0.mk (hbl _ _ (by repeat (first | (with_reducible first | exact HB.out | apply below_alloc | apply pw_below_drewN | apply below_drew1 | refine below_set ?_ GE308.out | refine below_set ?_ GE309.out | refine below_set ?_ GE317.out) | exact HB.out)) GE317.out)
        have n3_ := Aside0.mk (hi)
        clear BK308
        clear BK309
        clear HB
        clear BK317
        have BK308 := n0_
        have BK309 := n1_
        have HB := n2_
        have BK317 := n3_
        clear n0_ n1_ n2_ n3_
        clear hi hk hbl
        refine hK.out _ _ ⟨gb317, m9_, (by rw [ha.out]; exact putSel_none (v := undef) rfl), (by (with_reducible repeat (first | refine blk_drewN ?_ _ | refine blk_drew ?_ | refine blk_alloc ?_ _)); exact BK308.out), (by (with_reducible repeat (first | refine blk_drewN ?_ _ | refine blk_drew ?_ | refine blk_alloc ?_ _)); exact BK309.out), (by repeat (first | (with_reducible first | exact HB.out | apply below_alloc | apply pw_below_drewN | apply below_drew1 | refine below_set ?_ GE308.out | refine below_set ?_ GE309.out | refine below_set ?_ GE317.out) | exact HB.out)), fun _ h1_ => absurd ((up_self b 10).symm.trans h1_) (by decide), fun _ => GW317.out, fun _ => GE317.out, fun _ => NB308_317.out, fun _ => NB317_308.out, fun _ => NB309_317.out, fun _ => NB317_309.out, fun _ => (by (with_reducible repeat (first | refine blk_drewN ?_ _ | refine blk_drew ?_ | refine blk_alloc ?_ _)); exact BK317.out), Q_X9_⟩
      refine steps_cons ?_ ?_
      · rintro b a w' ⟨gb317, m9_, ha, Q_BK308, Q_BK309, Q_HB, Q_BK317, Q_GW317, Q_GE317, Q_NB308_317, Q_NB317_308, Q_NB309_317, Q_NB317_309, Q_BK317_e10, Q_X9_⟩ hb_ hon hoff
        refine ⟨_, rfl, fun K hK => ?_⟩
        have e19 : a.tmps[19]? = some (.int .i64 t316) := by rw [ha]; exact putSel_on (e := (8, 19, .int .i64 t316)) 7 rfl rfl (hon 8 (by kernel_rfl)) rfl
        replace ha := Aside0.mk ha
        have BK308 := Aside0.mk Q_BK308
        have BK309 := Aside0.mk Q_BK309
        have HB := Aside0.mk Q_HB
        have GW317 := Aside0.mk (Q_GW317 (hon 9 (by kernel_rfl)))
        have GE317 := Aside0.mk (Q_GE317 (hon 9 (by kernel_rfl)))
        have NB308_317 := Aside0.mk (Q_NB308_317 (hon 9 (by kernel_rfl)))
        have NB317_308 := Aside0.mk (Q_NB317_308 (hon 9 (by kernel_rfl)))
        have NB309_317 := Aside0.mk (Q_NB309_317 (hon 9 (by kernel_rfl)))
        have NB317_309 := Aside0.mk (Q_NB317_309 (hon 9 (by kernel_rfl)))
        have BK317 := Aside0.mk (Q_BK317_e10 (hon 10 (by kernel_rfl)))
        refine value_ (w1 := w') (v := .int .i64 t316) (by rfl) rfl ?_ ?_
        · go_simp
          (try simp only [i64_w])
          try rfl
        refine hK.out _ _ ⟨gb317, m9_, (by rw [ha.out]; exact putSel_upk 9 hb_ rfl rfl rfl), Q_BK308, Q_BK309, Q_HB, fun _ h1_ => absurd ((hon 10 (by kernel_rfl)).symm.trans h1_) (by decide), Q_GW317, Q_GE317, Q_NB308_317, Q_NB317_308, Q_NB309_317, Q_NB317_309, Q_BK317_e10, Q_X9_⟩
      exact steps_nil
    rintro b a w67 hall ⟨gb317, m9_, ha, Q_BK308, Q_BK309, Q_HB, Q_BK317, Q_GW317, Q_GE317, Q_NB308_317, Q_NB317_308, Q_NB309_317, Q_NB317_309, Q_BK317_e10, Q_X9_⟩
    clear BK308 BK309 HB
    have hb0_ := hall 0 (by kernel_rfl)
    have hb1_ := hall 1 (by kernel_rfl)
    have hb2_ := hall 2 (by kernel_rfl)
    have hb3_ := hall 3 (by kernel_rfl)
    have hb5_ := hall 5 (by kernel_rfl)
    have hb6_ := hall 6 (by kernel_rfl)
    have hb7_ := hall 7 (by kernel_rfl)
    have hb8_ := hall 8 (by kernel_rfl)
    have hb9_ := hall 9 (by kernel_rfl)
    have hb10_ := hall 10 (by kernel_rfl)
    have hb11_ := hall 11 (by kernel_rfl)
    subst ha
    obtain rfl := Q_X9_ hb9_
    simp only [putSel, hb0_, hb1_, hb2_, hb3_, hb5_, hb6_, hb7_, hb8_, hb9_, hb10_, hb11_, if_true, Act.put, List.setIfInBounds_toArray, List.set_cons_zero, List.set_cons_succ]
    have BK308 := Aside0.mk Q_BK308
    clear Q_BK308
    have BK309 := Aside0.mk Q_BK309
    clear Q_BK309
    have HB := Aside0.mk Q_HB
    clear Q_HB
    clear Q_BK317
    have GW317 := Aside0.mk (Q_GW317 hb9_)
    clear Q_GW317
    have GE317 := Aside0.mk (Q_GE317 hb9_)
    clear Q_GE317
    have NB308_317 := Aside0.mk (Q_NB308_317 hb9_)
    clear Q_NB308_317
    have NB317_308 := Aside0.mk (Q_NB317_308 hb9_)
    clear Q_NB317_308
    have NB309_317 := Aside0.mk (Q_NB309_317 hb9_)
    clear Q_NB309_317
    have NB317_309 := Aside0.mk (Q_NB317_309 hb9_)
    clear Q_NB317_309
    have BK317 := Aside0.mk (Q_BK317_e10 hb10_)
    clear Q_BK317_e10
    clear hall hb0_ hb1_ hb2_ hb3_ hb5_ hb6_ hb7_ hb8_ hb9_ hb10_ hb11_
    try go_wp2
    have n0_ := Aside0.mk (blk_drew BK308.out)
    have n1_ := Aside0.mk (blk_drew BK309.out)
    have n2_ := Aside0.mk (blk_drew BK317.out)
    have n3_ := Aside0.mk (below_drew1 HB.out)
    clear BK308
    clear BK309
    clear BK317
    clear HB
    have BK308 := n0_
    have BK309 := n1_
    have BK317 := n2_
    have HB := n3_
    clear n0_ n1_ n2_ n3_
    refine start_ (n := 12) (S := fun w' => True) (ds := []) #[false, false, false, false, false, false, false, false, false, false, false, false] (by kernel_rfl) rfl rfl trivial (fun hHeld => ?_); refine with_tabW laws_FnExactCrowdAt.tab2 laws_FnExactCrowdAt.bits2 (fun HT_ HW_ => ?_)
    generalize w67.drew = w70 at BK308 BK309 BK317 HB hHeld ⊢
    refine pure_ (i := 4) (N := some 25) (v := ?_) (a' := ?_) #[false, false, false, false, true, false, false, false, false, false, false, false] rfl rfl (any_of HT_.out (by kernel_rfl)) (fun _ _ _ h => h) (Or.inl ⟨by rfl, ?_⟩) ?_ ?_
    rotate_left
    · intro w'
      go_simp
      with_reducible rfl
    rotate_left
    · simp only [Act.put, List.setIfInBounds_toArray, List.set_cons_zero, List.set_cons_succ, i64_w, i32_w]
      rfl
    refine inv_at [0, 1, 2, 3, 5, 6, 7, 8, 9, 10, 11] (fun a0_ b a w' => ∃ (gb325 : Nat) (m9_ : Value), a = putSel a0_ b [(0, 21, .agg (mixA (Value.int .u16) [.int .i8 a0_0, .int .i8 a0_1] a0_2)), (1, 22, .agg (mixA (Value.int .u16) [.int .i8 t318, .int .i8 t319] t320)), (2, 23, .agg #[.int .i8 a1_0, .int .i8 a1_1]), (3, 24, .agg #[.int .i8 t321, .int .i8 t322]), (5, 26, .tuple #[.agg (mixA (Value.int .u16) [] t323), .int .i64 t324]), (6, 20, .tuple #[.agg (mixA (Value.int .u16) [] t323), .int .i64 t324]), (7, 27, .agg (mixA (Value.int .u16) [] t323)), (8, 28, .int .i64 t324), (9, 9, m9_), (11, 10, .int .i64 t324)] ∧ (w'.heap[gb308]? = some (.cells (mixA (Value.int .u16) [.int .i8 a0_0, .int .i8 a0_1] a0_2) 37 (0, 0))) ∧ (w'.heap[gb309]? = some (.cells #[.int .i8 a1_0, .int .i8 a1_1] 31 (0, 0))) ∧ (w'.heap[gb317]? = some (.cells (mixA (Value.int .u16) [] t315) 26 (0, 0))) ∧ (Below w.heap.size w w') ∧ (b 9 = true → b 10 = false → w'.heap[gb325]? = some (.cells (mixA (Value.int .u16) [] (LA.zero 40)) 26 (0, 0))) ∧ (b 9 = true → w.heap.size ≤ gb325) ∧ (b 9 = true → w.heap.size ≤ gb325) ∧ (b 9 = true → gb308 ≠ gb325) ∧ (b 9 = true → gb325 ≠ gb308) ∧ (b 9 = true → gb309 ≠ gb325) ∧ (b 9 = true → gb325 ≠ gb309) ∧ (b 9 = true → gb317 ≠ gb325) ∧ (b 9 = true → gb325 ≠ gb317) ∧ (b 10 = true → w'.heap[gb325]? = some (.cells (mixA (Value.int .u16) [] t323) 26 (0, 0))) ∧ (b 9 = true → (m9_ : Value) = .pointer (some ⟨gb325, 0, none⟩))) HT_.out HW_.out (by kernel_rfl) (by kernel_rfl) ?_ ?_ ?_
    · exact ⟨0, .bool false, by simp only [putSel, Bool.false_eq_true, if_false], BK308.out, BK309.out, BK317.out, HB.out, fun h_ => absurd h_ (by decide), fun h_ => absurd h_ (by decide), fun h_ => absurd h_ (by decide), fun h_ => absurd h_ (by decide), fun h_ => absurd h_ (by decide), fun h_ => absurd h_ (by decide), fun h_ => absurd h_ (by decide), fun h_ => absurd h_ (by decide), fun h_ => absurd h_ (by decide), fun h_ => absurd h_ (by decide), fun h_ => absurd h_ (by decide)⟩
    · skip
      clear BK308 BK309 BK317 HB
      refine steps_cons ?_ ?_
      · rintro b a w' ⟨gb325, m9_, ha, Q_BK308, Q_BK309, Q_BK317, Q_HB, Q_BK325, Q_GW325, Q_GE325, Q_NB308_325, Q_NB325_308, Q_NB309_325, Q_NB325_309, Q_NB317_325, Q_NB325_317, Q_BK325_e10, Q_X9_⟩ hb_ hon hoff
        refine ⟨_, rfl, fun K hK => ?_⟩
        have e3 : a.tmps[3]? = some (.pointer (some ⟨gb308, 0, none⟩)) := by rw [ha]; exact (putSel_off rfl).trans rfl
        replace ha := Aside0.mk ha
        have BK308 := Aside0.mk Q_BK308
        have BK309 := Aside0.mk Q_BK309
        have BK317 := Aside0.mk Q_BK317
        have HB := Aside0.mk Q_HB
        have hL_ : World.rangeAt w' gb308 0 ([.int .i8 a0_0, .int .i8 a0_1] ++ a0_2.l.map (Value.int .u16)) := mix_range BK308.out
        refine value_ (w1 := w') (v := .agg (mixA (Value.int .u16) [.int .i8 a0_0, .int .i8 a0_1] a0_2)) (by rfl) rfl ?_ ?_
        · exact load_mix_run (P := Try.prog) 37 (.tmp 3) rfl gb308 (by simp only [Act.eval, Array.getD_eq_getD_getElem?, e3, Option.getD_some]) hL_ Try.underlying37 rfl (by kernel_rfl) rfl
        refine hK.out _ _ ⟨gb325, m9_, (by rw [ha.out]; exact putSel_upk 0 hb_ rfl rfl rfl), Q_BK308, Q_BK309, Q_BK317, Q_HB, Q_BK325, Q_GW325, Q_GE325, Q_NB308_325, Q_NB325_308, Q_NB309_325, Q_NB325_309, Q_NB317_325, Q_NB325_317, fun h0_ => absurd ((hoff 10 (by kernel_rfl)).symm.trans h0_) (by decide), Q_X9_⟩
      refine steps_cons ?_ ?_
      · rintro b a w' ⟨gb325, m9_, ha, Q_BK308, Q_BK309, Q_BK317, Q_HB, Q_BK325, Q_GW325, Q_GE325, Q_NB308_325, Q_NB325_308, Q_NB309_325, Q_NB325_309, Q_NB317_325, Q_NB325_317, Q_BK325_e10, Q_X9_⟩ hb_ hon hoff
        refine ⟨_, rfl, fun K hK => ?_⟩
        have e21 : a.tmps[21]? = some (.agg (mixA (Value.int .u16) [.int .i8 a0_0, .int .i8 a0_1] a0_2)) := by rw [ha]; exact putSel_on (e := (0, 21, .agg (mixA (Value.int .u16) [.int .i8 a0_0, .int .i8 a0_1] a0_2))) 0 rfl rfl (hon 0 (by kernel_rfl)) rfl
        replace ha := Aside0.mk ha
        have BK308 := Aside0.mk Q_BK308
        have BK309 := Aside0.mk Q_BK309
        have BK317 := Aside0.mk Q_BK317
        have HB := Aside0.mk Q_HB
        refine goes_ Try.func18 (by kernel_rfl) rfl #[.agg (mixA (Value.int .u16) [.int .i8 a0_0, .int .i8 a0_1] a0_2)] (by rfl) rfl rfl (by first | (simp only [List.map_toArray, List.map_cons, List.map_nil, Act.eval, Array.getD_eq_getD_getElem?, Option.getD_some, e21]; done) | (simp only [List.map_toArray, List.map_cons, List.map_nil, Act.eval, Array.getD_eq_getD_getElem?, Option.getD_some, e21]; rfl)) ?_
        with_reducible refine (laws_toRoom.calls k a0_0 a0_1 a0_2 t318 t319 t320 _ A7.out).mono ?_
        rintro e w71 ⟨rfl, hb⟩
        refine ⟨_, rfl, ?_⟩
        have n0_ := Aside0.mk (blk_below (g := gb308) (o := .cells (mixA (Value.int .u16) [.int .i8 a0_0, .int .i8 a0_1] a0_2) 37 (0, 0)) (by (with_reducible repeat (first | refine blk_drewN ?_ _ | refine blk_drew ?_ | refine blk_alloc ?_ _)); exact BK308.out) hb)
        have n1_ := Aside0.mk (blk_below (g := gb309) (o := .cells #[.int .i8 a1_0, .int .i8 a1_1] 31 (0, 0)) (by (with_reducible repeat (first | refine blk_drewN ?_ _ | refine blk_drew ?_ | refine blk_alloc ?_ _)); exact BK309.out) hb)
        have n2_ := Aside0.mk (blk_below (g := gb317) (o := .cells (mixA (Value.int .u16) [] t315) 26 (0, 0)) (by (with_reducible repeat (first | refine blk_drewN ?_ _ | refine blk_drew ?_ | refine blk_alloc ?_ _)); exact BK317.out) hb)
        have n3_ := Aside0.mk (below_step (by repeat (first | (with_reducible first | exact HB.out | apply below_alloc | apply pw_below_drewN | apply below_drew1 | refine below_set ?_ GE308.out | refine below_set ?_ GE309.out | refine below_set ?_ GE317.out) | exact HB.out)) hb)
        have z_BK325 := fun (h0_ : b 9 = true) (h1_ : b 10 = false) => (show w71.heap[gb325]? = some (.cells (mixA (Value.int .u16) [] (LA.zero 40)) 26 (0, 0)) from by first | exact (blk_below (g := gb325) (o := .cells (mixA (Value.int .u16) [] (LA.zero 40)) 26 (0, 0)) (by (with_reducible repeat (first | refine blk_drewN ?_ _ | refine blk_drew ?_ | refine blk_alloc ?_ _)); exact (Q_BK325 h0_ h1_)) hb))
        clear BK308
        clear BK309
        clear BK317
        clear HB
        have BK308 := n0_
        have BK309 := n1_
        have BK317 := n2_
        have HB := n3_
        clear n0_ n1_ n2_ n3_
        (try clear hb)
        (try clear hb2)
        (try clear hk)
        (try clear hi)
        refine hK.out _ _ ⟨gb325, m9_, (by rw [ha.out]; exact putSel_upk 1 hb_ rfl rfl rfl), (by (with_reducible repeat (first | refine blk_drewN ?_ _ | refine blk_drew ?_ | refine blk_alloc ?_ _)); exact BK308.out), (by (with_reducible repeat (first | refine blk_drewN ?_ _ | refine blk_drew ?_ | refine blk_alloc ?_ _)); exact BK309.out), (by (with_reducible repeat (first | refine blk_drewN ?_ _ | refine blk_drew ?_ | refine blk_alloc ?_ _)); exact BK317.out), (by repeat (first | (with_reducible first | exact HB.out | apply below_alloc | apply pw_below_drewN | apply below_drew1 | refine below_set ?_ GE308.out | refine below_set ?_ GE309.out | refine below_set ?_ GE317.out) | exact HB.out)), z_BK325, Q_GW325, Q_GE325, Q_NB308_325, Q_NB325_308, Q_NB309_325, Q_NB325_309, Q_NB317_325, Q_NB325_317, fun h0_ => absurd ((hoff 10 (by kernel_rfl)).symm.trans h0_) (by decide), Q_X9_⟩
      refine steps_cons ?_ ?_
      · rintro b a w' ⟨gb325, m9_, ha, Q_BK308, Q_BK309, Q_BK317, Q_HB, Q_BK325, Q_GW325, Q_GE325, Q_NB308_325, Q_NB325_308, Q_NB309_325, Q_NB325_309, Q_NB317_325, Q_NB325_317, Q_BK325_e10, Q_X9_⟩ hb_ hon hoff
        refine ⟨_, rfl, fun K hK => ?_⟩
        have e4 : a.tmps[4]? = some (.pointer (some ⟨gb309, 0, none⟩)) := by rw [ha]; exact (putSel_off rfl).trans rfl
        replace ha := Aside0.mk ha
        have BK308 := Aside0.mk Q_BK308
        have BK309 := Aside0.mk Q_BK309
        have BK317 := Aside0.mk Q_BK317
        have HB := Aside0.mk Q_HB
        have hc0_ : w'.cell? ⟨gb309, 0, none⟩ = some (.int .i8 a1_0) := bc_ BK309.out 0
        have hc1_ : w'.cell? ⟨gb309, 1, none⟩ = some (.int .i8 a1_1) := bc_ BK309.out 1
        refine value_ (w1 := w') (v := .agg #[.int .i8 a1_0, .int .i8 a1_1]) (by rfl) rfl ?_ ?_
        · go_simp
          (try simp only [i64_w])
          try rfl
        refine hK.out _ _ ⟨gb325, m9_, (by rw [ha.out]; exact putSel_upk 2 hb_ rfl rfl rfl), Q_BK308, Q_BK309, Q_BK317, Q_HB, Q_BK325, Q_GW325, Q_GE325, Q_NB308_325, Q_NB325_308, Q_NB309_325, Q_NB325_309, Q_NB317_325, Q_NB325_317, fun h0_ => absurd ((hoff 10 (by kernel_rfl)).symm.trans h0_) (by decide), Q_X9_⟩
      refine steps_cons ?_ ?_
      · rintro b a w' ⟨gb325, m9_, ha, Q_BK308, Q_BK309, Q_BK317, Q_HB, Q_BK325, Q_GW325, Q_GE325, Q_NB308_325, Q_NB325_308, Q_NB309_325, Q_NB325_309, Q_NB317_325, Q_NB325_317, Q_BK325_e10, Q_X9_⟩ hb_ hon hoff
        refine ⟨_, rfl, fun K hK => ?_⟩
        have e23 : a.tmps[23]? = some (.agg #[.int .i8 a1_0, .int .i8 a1_1]) := by rw [ha]; exact putSel_on (e := (2, 23, .agg #[.int .i8 a1_0, .int .i8 a1_1])) 2 rfl rfl (hon 2 (by kernel_rfl)) rfl
        replace ha := Aside0.mk ha
        have BK308 := Aside0.mk Q_BK308
        have BK309 := Aside0.mk Q_BK309
        have BK317 := Aside0.mk Q_BK317
        have HB := Aside0.mk Q_HB
        refine goes_ Try.func15 (by kernel_rfl) rfl #[.agg #[.int .i8 a1_0, .int .i8 a1_1]] (by rfl) rfl rfl (by first | (simp only [List.map_toArray, List.map_cons, List.map_nil, Act.eval, Array.getD_eq_getD_getElem?, Option.getD_some, e23]; done) | (simp only [List.map_toArray, List.map_cons, List.map_nil, Act.eval, Array.getD_eq_getD_getElem?, Option.getD_some, e23]; rfl)) ?_
        with_reducible refine (laws_toSpot.calls a1_0 a1_1 t321 t322 _ A8.out).mono ?_
        rintro e w73 ⟨rfl, hb⟩
        refine ⟨_, rfl, ?_⟩
        have n0_ := Aside0.mk (blk_below (g := gb308) (o := .cells (mixA (Value.int .u16) [.int .i8 a0_0, .int .i8 a0_1] a0_2) 37 (0, 0)) (by (with_reducible repeat (first | refine blk_drewN ?_ _ | refine blk_drew ?_ | refine blk_alloc ?_ _)); exact BK308.out) hb)
        have n1_ := Aside0.mk (blk_below (g := gb309) (o := .cells #[.int .i8 a1_0, .int .i8 a1_1] 31 (0, 0)) (by (with_reducible repeat (first | refine blk_drewN ?_ _ | refine blk_drew ?_ | refine blk_alloc ?_ _)); exact BK309.out) hb)
        have n2_ := Aside0.mk (blk_below (g := gb317) (o := .cells (mixA (Value.int .u16) [] t315) 26 (0, 0)) (by (with_reducible repeat (first | refine blk_drewN ?_ _ | refine blk_drew ?_ | refine blk_alloc ?_ _)); exact BK317.out) hb)
        have n3_ := Aside0.mk (below_step (by repeat (first | (with_reducible first | exact HB.out | apply below_alloc | apply pw_below_drewN | apply below_drew1 | refine below_set ?_ GE308.out | refine below_set ?_ GE309.out | refine below_set ?_ GE317.out) | exact HB.out)) hb)
        have z_BK325 := fun (h0_ : b 9 = true) (h1_ : b 10 = false) => (show w73.heap[gb325]? = some (.cells (mixA (Value.int .u16) [] (LA.zero 40)) 26 (0, 0)) from by first | exact (blk_below (g := gb325) (o := .cells (mixA (Value.int .u16) [] (LA.zero 40)) 26 (0, 0)) (by (with_reducible repeat (first | refine blk_drewN ?_ _ | refine blk_drew ?_ | refine blk_alloc ?_ _)); exact (Q_BK325 h0_ h1_)) hb))
        clear BK308
        clear BK309
        clear BK317
        clear HB
        have BK308 := n0_
        have BK309 := n1_
        have BK317 := n2_
        have HB := n3_
        clear n0_ n1_ n2_ n3_
        (try clear hb)
        (try clear hb2)
        (try clear hk)
        (try clear hi)
        refine hK.out _ _ ⟨gb325, m9_, (by rw [ha.out]; exact putSel_upk 3 hb_ rfl rfl rfl), (by (with_reducible repeat (first | refine blk_drewN ?_ _ | refine blk_drew ?_ | refine blk_alloc ?_ _)); exact BK308.out), (by (with_reducible repeat (first | refine blk_drewN ?_ _ | refine blk_drew ?_ | refine blk_alloc ?_ _)); exact BK309.out), (by (with_reducible repeat (first | refine blk_drewN ?_ _ | refine blk_drew ?_ | refine blk_alloc ?_ _)); exact BK317.out), (by repeat (first | (with_reducible first | exact HB.out | apply below_alloc | apply pw_below_drewN | apply below_drew1 | refine below_set ?_ GE308.out | refine below_set ?_ GE309.out | refine below_set ?_ GE317.out) | exact HB.out)), z_BK325, Q_GW325, Q_GE325, Q_NB308_325, Q_NB325_308, Q_NB309_325, Q_NB325_309, Q_NB317_325, Q_NB325_317, fun h0_ => absurd ((hoff 10 (by kernel_rfl)).symm.trans h0_) (by decide), Q_X9_⟩
      refine steps_cons ?_ ?_
      · rintro b a w' ⟨gb325, m9_, ha, Q_BK308, Q_BK309, Q_BK317, Q_HB, Q_BK325, Q_GW325, Q_GE325, Q_NB308_325, Q_NB325_308, Q_NB309_325, Q_NB325_309, Q_NB317_325, Q_NB325_317, Q_BK325_e10, Q_X9_⟩ hb_ hon hoff
        refine ⟨_, rfl, fun K hK => ?_⟩
        have e22 : a.tmps[22]? = some (.agg (mixA (Value.int .u16) [.int .i8 t318, .int .i8 t319] t320)) := by rw [ha]; exact putSel_on (e := (1, 22, .agg (mixA (Value.int .u16) [.int .i8 t318, .int .i8 t319] t320))) 1 rfl rfl (hon 1 (by kernel_rfl)) rfl
        have e24 : a.tmps[24]? = some (.agg #[.int .i8 t321, .int .i8 t322]) := by rw [ha]; exact putSel_on (e := (3, 24, .agg #[.int .i8 t321, .int .i8 t322])) 3 rfl rfl (hon 3 (by kernel_rfl)) rfl
        have e25 : a.tmps[25]? = some (.int .i64 a2) := by rw [ha]; exact (putSel_off rfl).trans rfl
        replace ha := Aside0.mk ha
        have BK308 := Aside0.mk Q_BK308
        have BK309 := Aside0.mk Q_BK309
        have BK317 := Aside0.mk Q_BK317
        have HB := Aside0.mk Q_HB
        refine goes_ Try.func24 (by kernel_rfl) rfl #[.agg (mixA (Value.int .u16) [.int .i8 t318, .int .i8 t319] t320), .agg #[.int .i8 t321, .int .i8 t322], .int .i64 a2] (by rfl) rfl rfl (by first | (simp only [List.map_toArray, List.map_cons, List.map_nil, Act.eval, Array.getD_eq_getD_getElem?, Option.getD_some, e22, e24, e25]; done) | (simp only [List.map_toArray, List.map_cons, List.map_nil, Act.eval, Array.getD_eq_getD_getElem?, Option.getD_some, e22, e24, e25]; rfl)) ?_
        with_reducible refine (impl_CrowdAt.calls k t318 t319 t320 t321 t322 a2 t323 t324 _ A9.out).mono ?_
        rintro e w74 ⟨rfl, hb⟩
        refine ⟨_, rfl, ?_⟩
        have n0_ := Aside0.mk (blk_below (g := gb308) (o := .cells (mixA (Value.int .u16) [.int .i8 a0_0, .int .i8 a0_1] a0_2) 37 (0, 0)) (by (with_reducible repeat (first | refine blk_drewN ?_ _ | refine blk_drew ?_ | refine blk_alloc ?_ _)); exact BK308.out) hb)
        have n1_ := Aside0.mk (blk_below (g := gb309) (o := .cells #[.int .i8 a1_0, .int .i8 a1_1] 31 (0, 0)) (by (with_reducible repeat (first | refine blk_drewN ?_ _ | refine blk_drew ?_ | refine blk_alloc ?_ _)); exact BK309.out) hb)
        have n2_ := Aside0.mk (blk_below (g := gb317) (o := .cells (mixA (Value.int .u16) [] t315) 26 (0, 0)) (by (with_reducible repeat (first | refine blk_drewN ?_ _ | refine blk_drew ?_ | refine blk_alloc ?_ _)); exact BK317.out) hb)
        have n3_ := Aside0.mk (below_step (by repeat (first | (with_reducible first | exact HB.out | apply below_alloc | apply pw_below_drewN | apply below_drew1 | refine below_set ?_ GE308.out | refine below_set ?_ GE309.out | refine below_set ?_ GE317.out) | exact HB.out)) hb)
        have z_BK325 := fun (h0_ : b 9 = true) (h1_ : b 10 = false) => (show w74.heap[gb325]? = some (.cells (mixA (Value.int .u16) [] (LA.zero 40)) 26 (0, 0)) from by first | exact (blk_below (g := gb325) (o := .cells (mixA (Value.int .u16) [] (LA.zero 40)) 26 (0, 0)) (by (with_reducible repeat (first | refine blk_drewN ?_ _ | refine blk_drew ?_ | refine blk_alloc ?_ _)); exact (Q_BK325 h0_ h1_)) hb))
        clear BK308
        clear BK309
        clear BK317
        clear HB
        have BK308 := n0_
        have BK309 := n1_
        have BK317 := n2_
        have HB := n3_
        clear n0_ n1_ n2_ n3_
        (try clear hb)
        (try clear hb2)
        (try clear hk)
        (try clear hi)
        refine hK.out _ _ ⟨gb325, m9_, (by rw [ha.out]; exact putSel_upk 4 hb_ rfl rfl rfl), (by (with_reducible repeat (first | refine blk_drewN ?_ _ | refine blk_drew ?_ | refine blk_alloc ?_ _)); exact BK308.out), (by (with_reducible repeat (first | refine blk_drewN ?_ _ | refine blk_drew ?_ | refine blk_alloc ?_ _)); exact BK309.out), (by (with_reducible repeat (first | refine blk_drewN ?_ _ | refine blk_drew ?_ | refine blk_alloc ?_ _)); exact BK317.out), (by repeat (first | (with_reducible first | exact HB.out | apply below_alloc | apply pw_below_drewN | apply below_drew1 | refine below_set ?_ GE308.out | refine below_set ?_ GE309.out | refine below_set ?_ GE317.out) | exact HB.out)), z_BK325, Q_GW325, Q_GE325, Q_NB308_325, Q_NB325_308, Q_NB309_325, Q_NB325_309, Q_NB317_325, Q_NB325_317, fun h0_ => absurd ((hoff 10 (by kernel_rfl)).symm.trans h0_) (by decide), Q_X9_⟩
      refine steps_cons ?_ ?_
      · rintro b a w' ⟨gb325, m9_, ha, Q_BK308, Q_BK309, Q_BK317, Q_HB, Q_BK325, Q_GW325, Q_GE325, Q_NB308_325, Q_NB325_308, Q_NB309_325, Q_NB325_309, Q_NB317_325, Q_NB325_317, Q_BK325_e10, Q_X9_⟩ hb_ hon hoff
        refine ⟨_, rfl, fun K hK => ?_⟩
        have e26 : a.tmps[26]? = some (.tuple #[.agg (mixA (Value.int .u16) [] t323), .int .i64 t324]) := by rw [ha]; exact putSel_on (e := (5, 26, .tuple #[.agg (mixA (Value.int .u16) [] t323), .int .i64 t324])) 4 rfl rfl (hon 5 (by kernel_rfl)) rfl
        replace ha := Aside0.mk ha
        have BK308 := Aside0.mk Q_BK308
        have BK309 := Aside0.mk Q_BK309
        have BK317 := Aside0.mk Q_BK317
        have HB := Aside0.mk Q_HB
        refine value_ (w1 := w') (v := .tuple #[.agg (mixA (Value.int .u16) [] t323), .int .i64 t324]) (by rfl) rfl ?_ ?_
        · go_simp
          (try simp only [i64_w])
          try rfl
        refine hK.out _ _ ⟨gb325, m9_, (by rw [ha.out]; exact putSel_upk 5 hb_ rfl rfl rfl), Q_BK308, Q_BK309, Q_BK317, Q_HB, Q_BK325, Q_GW325, Q_GE325, Q_NB308_325, Q_NB325_308, Q_NB309_325, Q_NB325_309, Q_NB317_325, Q_NB325_317, fun h0_ => absurd ((hoff 10 (by kernel_rfl)).symm.trans h0_) (by decide), Q_X9_⟩
      refine steps_cons ?_ ?_
      · rintro b a w' ⟨gb325, m9_, ha, Q_BK308, Q_BK309, Q_BK317, Q_HB, Q_BK325, Q_GW325, Q_GE325, Q_NB308_325, Q_NB325_308, Q_NB309_325, Q_NB325_309, Q_NB317_325, Q_NB325_317, Q_BK325_e10, Q_X9_⟩ hb_ hon hoff
        refine ⟨_, rfl, fun K hK => ?_⟩
        have e20 : a.tmps[20]? = some (.tuple #[.agg (mixA (Value.int .u16) [] t323), .int .i64 t324]) := by rw [ha]; exact putSel_on (e := (6, 20, .tuple #[.agg (mixA (Value.int .u16) [] t323), .int .i64 t324])) 5 rfl rfl (hon 6 (by kernel_rfl)) rfl
        replace ha := Aside0.mk ha
        have BK308 := Aside0.mk Q_BK308
        have BK309 := Aside0.mk Q_BK309
        have BK317 := Aside0.mk Q_BK317
        have HB := Aside0.mk Q_HB
        refine value_ (w1 := w') (v := .agg (mixA (Value.int .u16) [] t323)) (by rfl) rfl ?_ ?_
        · go_simp
          (try simp only [i64_w])
          try rfl
        refine hK.out _ _ ⟨gb325, m9_, (by rw [ha.out]; exact putSel_upk 6 hb_ rfl rfl rfl), Q_BK308, Q_BK309, Q_BK317, Q_HB, Q_BK325, Q_GW325, Q_GE325, Q_NB308_325, Q_NB325_308, Q_NB309_325, Q_NB325_309, Q_NB317_325, Q_NB325_317, fun h0_ => absurd ((hoff 10 (by kernel_rfl)).symm.trans h0_) (by decide), Q_X9_⟩
      refine steps_cons ?_ ?_
      · rintro b a w' ⟨gb325, m9_, ha, Q_BK308, Q_BK309, Q_BK317, Q_HB, Q_BK325, Q_GW325, Q_GE325, Q_NB308_325, Q_NB325_308, Q_NB309_325, Q_NB325_309, Q_NB317_325, Q_NB325_317, Q_BK325_e10, Q_X9_⟩ hb_ hon hoff
        refine ⟨_, rfl, fun K hK => ?_⟩
        have e20 : a.tmps[20]? = some (.tuple #[.agg (mixA (Value.int .u16) [] t323), .int .i64 t324]) := by rw [ha]; exact putSel_on (e := (6, 20, .tuple #[.agg (mixA (Value.int .u16) [] t323), .int .i64 t324])) 5 rfl rfl (hon 6 (by kernel_rfl)) rfl
        replace ha := Aside0.mk ha
        have BK308 := Aside0.mk Q_BK308
        have BK309 := Aside0.mk Q_BK309
        have BK317 := Aside0.mk Q_BK317
        have HB := Aside0.mk Q_HB
        refine value_ (w1 := w') (v := .int .i64 t324) (by rfl) rfl ?_ ?_
        · go_simp
          (try simp only [i64_w])
          try rfl
        refine hK.out _ _ ⟨gb325, m9_, (by rw [ha.out]; exact putSel_upk 7 hb_ rfl rfl rfl), Q_BK308, Q_BK309, Q_BK317, Q_HB, Q_BK325, Q_GW325, Q_GE325, Q_NB308_325, Q_NB325_308, Q_NB309_325, Q_NB325_309, Q_NB317_325, Q_NB325_317, Q_BK325_e10, Q_X9_⟩
      refine steps_cons ?_ ?_
      · rintro b a w' ⟨gb325, m9_, ha, Q_BK308, Q_BK309, Q_BK317, Q_HB, Q_BK325, Q_GW325, Q_GE325, Q_NB308_325, Q_NB325_308, Q_NB309_325, Q_NB325_309, Q_NB317_325, Q_NB325_317, Q_BK325_e10, Q_X9_⟩ hb_ hon hoff
        refine ⟨_, rfl, fun K hK => ?_⟩
        replace ha := Aside0.mk ha
        have BK308 := Aside0.mk Q_BK308
        have BK309 := Aside0.mk Q_BK309
        have BK317 := Aside0.mk Q_BK317
        have HB := Aside0.mk Q_HB
        refine box_step ?hg (N := 9) ?hd (cs := (mixA (Value.int .u16) [] (LA.zero 40))) (t := 26) ?hr ?_; (case hd => rfl); (case hg => rfl); (case hr => first | (go_simp; done) | (go_simp; rfl))
        intro gb325 hg w71 hbox hb
        have n0_ := Aside0.mk (blk_below (g := gb308) (o := .cells (mixA (Value.int .u16) [.int .i8 a0_0, .int .i8 a0_1] a0_2) 37 (0, 0)) (by (with_reducible repeat (first | refine blk_drewN ?_ _ | refine blk_drew ?_ | refine blk_alloc ?_ _)); exact BK308.out) hb)
        have n1_ := Aside0.mk (blk_below (g := gb309) (o := .cells #[.int .i8 a1_0, .int .i8 a1_1] 31 (0, 0)) (by (with_reducible repeat (first | refine blk_drewN ?_ _ | refine blk_drew ?_ | refine blk_alloc ?_ _)); exact BK309.out) hb)
        have n2_ := Aside0.mk (blk_below (g := gb317) (o := .cells (mixA (Value.int .u16) [] t315) 26 (0, 0)) (by (with_reducible repeat (first | refine blk_drewN ?_ _ | refine blk_drew ?_ | refine blk_alloc ?_ _)); exact BK317.out) hb)
        have n3_ := Aside0.mk (below_step (by repeat (first | (with_reducible first | exact HB.out | apply below_alloc | apply pw_below_drewN | apply below_drew1 | refine below_set ?_ GE308.out | refine below_set ?_ GE309.out | refine below_set ?_ GE317.out) | exact HB.out)) hb)
        have n4_ := Aside0.mk (hbox)
        have n5_ := Aside0.mk ((by rw [hg]; exact (below_size (by repeat (first | (with_reducible first | exact HB.out | apply below_alloc | apply pw_below_drewN | apply below_drew1 | refine below_set ?_ GE308.out | refine below_set ?_ GE309.out | refine below_set ?_ GE317.out) | exact HB.out))) : w.heap.size ≤ gb325))
        have n6_ := Aside0.mk ((by rw [hg]; exact (below_size (by repeat (first | (with_reducible first | exact HB.out | apply below_alloc | apply pw_below_drewN | apply below_drew1 | refine below_set ?_ GE308.out | refine below_set ?_ GE309.out | refine below_set ?_ GE317.out) | exact HB.out))) : w.heap.size ≤ gb325))
        have n7_ := Aside0.mk ((by rw [hg]; exact Nat.ne_of_lt (blk_lt (g := gb308) (o := .cells (mixA (Value.int .u16) [.int .i8 a0_0, .int .i8 a0_1] a0_2) 37 (0, 0)) (by (with_reducible repeat (first | refine blk_drewN ?_ _ | refine blk_drew ?_ | refine blk_alloc ?_ _)); exact BK308.out)) : gb308 ≠ gb325))
        have n8_ := Aside0.mk ((by rw [hg]; exact Nat.ne_of_gt (blk_lt (g := gb308) (o := .cells (mixA (Value.int .u16) [.int .i8 a0_0, .int .i8 a0_1] a0_2) 37 (0, 0)) (by (with_reducible repeat (first | refine blk_drewN ?_ _ | refine blk_drew ?_ | refine blk_alloc ?_ _)); exact BK308.out)) : gb325 ≠ gb308))
        have n9_ := Aside0.mk ((by rw [hg]; exact Nat.ne_of_lt (blk_lt (g := gb309) (o := .cells #[.int .i8 a1_0, .int .i8 a1_1] 31 (0, 0)) (by (with_reducible repeat (first | refine blk_drewN ?_ _ | refine blk_drew ?_ | refine blk_alloc ?_ _)); exact BK309.out)) : gb309 ≠ gb325))
        have n10_ := Aside0.mk ((by rw [hg]; exact Nat.ne_of_gt (blk_lt (g := gb309) (o := .cells #[.int .i8 a1_0, .int .i8 a1_1] 31 (0, 0)) (by (with_reducible repeat (first | refine blk_drewN ?_ _ | refine blk_drew ?_ | refine blk_alloc ?_ _)); exact BK309.out)) : gb325 ≠ gb309))
        have n11_ := Aside0.mk ((by rw [hg]; exact Nat.ne_of_lt (blk_lt (g := gb317) (o := .cells (mixA (Value.int .u16) [] t315) 26 (0, 0)) (by (with_reducible repeat (first | refine blk_drewN ?_ _ | refine blk_drew ?_ | refine blk_alloc ?_ _)); exact BK317.out)) : gb317 ≠ gb325))
        have n12_ := Aside0.mk ((by rw [hg]; exact Nat.ne_of_gt (blk_lt (g := gb317) (o := .cells (mixA (Value.int .u16) [] t315) 26 (0, 0)) (by (with_reducible repeat (first | refine blk_drewN ?_ _ | refine blk_drew ?_ | refine blk_alloc ?_ _)); exact BK317.out)) : gb325 ≠ gb317))
        clear BK308
        clear BK309
        clear BK317
        clear HB
        have BK308 := n0_
        have BK309 := n1_
        have BK317 := n2_
        have HB := n3_
        have BK325 := n4_
        have GW325 := n5_
        have GE325 := n6_
        have NB308_325 := n7_
        have NB325_308 := n8_
        have NB309_325 := n9_
        have NB325_309 := n10_
        have NB317_325 := n11_
        have NB325_317 := n12_
        clear n0_ n1_ n2_ n3_ n4_ n5_ n6_ n7_ n8_ n9_ n10_ n11_ n12_
        clear hb hbox hg
        refine hK.out _ _ ⟨gb325, (.pointer (some ⟨gb325, 0, none⟩)), (by rw [ha.out]; exact putSel_upk 8 hb_ rfl rfl rfl), (by (with_reducible repeat (first | refine blk_drewN ?_ _ | refine blk_drew ?_ | refine blk_alloc ?_ _)); exact BK308.out), (by (with_reducible repeat (first | refine blk_drewN ?_ _ | refine blk_drew ?_ | refine blk_alloc ?_ _)); exact BK309.out), (by (with_reducible repeat (first | refine blk_drewN ?_ _ | refine blk_drew ?_ | refine blk_alloc ?_ _)); exact BK317.out), (by repeat (first | (with_reducible first | exact HB.out | apply below_alloc | apply pw_below_drewN | apply below_drew1 | refine below_set ?_ GE308.out | refine below_set ?_ GE309.out | refine below_set ?_ GE317.out | refine below_set ?_ GE325.out) | exact HB.out)), fun _ _ => (by (with_reducible repeat (first | refine blk_drewN ?_ _ | refine blk_drew ?_ | refine blk_alloc ?_ _)); exact BK325.out), fun _ => GW325.out, fun _ => GE325.out, fun _ => NB308_325.out, fun _ => NB325_308.out, fun _ => NB309_325.out, fun _ => NB325_309.out, fun _ => NB317_325.out, fun _ => NB325_317.out, fun h0_ => absurd ((hoff 10 (by kernel_rfl)).symm.trans h0_) (by decide), fun _ => rfl⟩
      refine steps_cons ?_ ?_
      · rintro b a w' ⟨gb325, m9_, ha, Q_BK308, Q_BK309, Q_BK317, Q_HB, Q_BK325, Q_GW325, Q_GE325, Q_NB308_325, Q_NB325_308, Q_NB309_325, Q_NB325_309, Q_NB317_325, Q_NB325_317, Q_BK325_e10, Q_X9_⟩ hb_ hon hoff
        refine ⟨_, rfl, fun K hK => ?_⟩
        have e9 : a.tmps[9]? = some (m9_) := by rw [ha]; exact putSel_on (e := (9, 9, m9_)) 8 rfl rfl (hon 9 (by kernel_rfl)) rfl
        rw [Q_X9_ (hon 9 (by kernel_rfl))] at e9
        have e27 : a.tmps[27]? = some (.agg (mixA (Value.int .u16) [] t323)) := by rw [ha]; exact putSel_on (e := (7, 27, .agg (mixA (Value.int .u16) [] t323))) 6 rfl rfl (hon 7 (by kernel_rfl)) rfl
        replace ha := Aside0.mk ha
        have BK308 := Aside0.mk Q_BK308
        have BK309 := Aside0.mk Q_BK309
        have BK317 := Aside0.mk Q_BK317
        have HB := Aside0.mk Q_HB
        have BK325 := Aside0.mk (Q_BK325 (hon 9 (by kernel_rfl)) hb_)
        have GW325 := Aside0.mk (Q_GW325 (hon 9 (by kernel_rfl)))
        have GE325 := Aside0.mk (Q_GE325 (hon 9 (by kernel_rfl)))
        have NB308_325 := Aside0.mk (Q_NB308_325 (hon 9 (by kernel_rfl)))
        have NB325_308 := Aside0.mk (Q_NB325_308 (hon 9 (by kernel_rfl)))
        have NB309_325 := Aside0.mk (Q_NB309_325 (hon 9 (by kernel_rfl)))
        have NB325_309 := Aside0.mk (Q_NB325_309 (hon 9 (by kernel_rfl)))
        have NB317_325 := Aside0.mk (Q_NB317_325 (hon 9 (by kernel_rfl)))
        have NB325_317 := Aside0.mk (Q_NB325_317 (hon 9 (by kernel_rfl)))
        refine step_store_lmix (by rfl) rfl 26 _ _ rfl gb325 (e := (Value.int .u16)) (cs' := []) (W' := t323) (cs := []) (W := (LA.zero 40)) (T := 26) (by first | (simp only [List.map_toArray, List.map_cons, List.map_nil, Act.eval, Array.getD_eq_getD_getElem?, Option.getD_some, e9, e27]; done) | (simp only [List.map_toArray, List.map_cons, List.map_nil, Act.eval, Array.getD_eq_getD_getElem?, Option.getD_some, e9, e27]; rfl)) (by first | (simp only [List.map_toArray, List.map_cons, List.map_nil, Act.eval, Array.getD_eq_getD_getElem?, Option.getD_some, e9, e27]; done) | (simp only [List.map_toArray, List.map_cons, List.map_nil, Act.eval, Array.getD_eq_getD_getElem?, Option.getD_some, e9, e27]; rfl)) (by (with_reducible repeat (first | refine blk_drewN ?_ _ | refine blk_drew ?_ | refine blk_alloc ?_ _)); exact BK325.out) rfl (by kernel_rfl) rfl (fun _ => rfl) rfl ?_
        intro w76 hi hk hbl
        have n0_ := Aside0.mk (KeepBut.blk hk (g' := gb308) (o := .cells (mixA (Value.int .u16) [.int .i8 a0_0, .int .i8 a0_1] a0_2) 37 (0, 0)) (by (with_reducible repeat (first | refine blk_drewN ?_ _ | refine blk_drew ?_ | refine blk_alloc ?_ _)); exact BK308.out) NB308_325.out (by simp))
        have n1_ := Aside0.mk (KeepBut.blk hk (g' := gb309) (o := .cells #[.int .i8 a1_0, .int .i8 a1_1] 31 (0, 0)) (by (with_reducible repeat (first | refine blk_drewN ?_ _ | refine blk_drew ?_ | refine blk_alloc ?_ _)); exact BK309.out) NB309_325.out (by simp))
        have n2_ := Aside0.mk (KeepBut.blk hk (g' := gb317) (o := .cells (mixA (Value.int .u16) [] t315) 26 (0, 0)) (by (with_reducible repeat (first | refine blk_drewN ?_ _ | refine blk_drew ?_ | refine blk_alloc ?_ _)); exact BK317.out) NB317_325.out (by simp))
        have n3_ := Aside0.mk (hbl _ _ (by repeat (first | (with_reducible first | exact HB.out | apply below_alloc | apply pw_below_drewN | apply below_drew1 | refine below_set ?_ GE308.out | refine below_set ?_ GE309.out | refine below_set ?_ GE317.out | refine below_set ?_ GE325.out) | exact HB.out)) GE325.out)
        have n4_ := Aside0.mk (hi)
        clear BK308
        clear BK309
        clear BK317
        clear HB
        clear BK325
        have BK308 := n0_
        have BK309 := n1_
        have BK317 := n2_
        have HB := n3_
        have BK325 := n4_
        clear n0_ n1_ n2_ n3_ n4_
        clear hi hk hbl
        refine hK.out _ _ ⟨gb325, m9_, (by rw [ha.out]; exact putSel_none (v := undef) rfl), (by (with_reducible repeat (first | refine blk_drewN ?_ _ | refine blk_drew ?_ | refine blk_alloc ?_ _)); exact BK308.out), (by (with_reducible repeat (first | refine blk_drewN ?_ _ | refine blk_drew ?_ | refine blk_alloc ?_ _)); exact BK309.out), (by (with_reducible repeat (first | refine blk_drewN ?_ _ | refine blk_drew ?_ | refine blk_alloc ?_ _)); exact BK317.out), (by repeat (first | (with_reducible first | exact HB.out | apply below_alloc | apply pw_below_drewN | apply below_drew1 | refine below_set ?_ GE308.out | refine below_set ?_ GE309.out | refine below_set ?_ GE317.out | refine below_set ?_ GE325.out) | exact HB.out)), fun _ h1_ => absurd ((up_self b 10).symm.trans h1_) (by decide), fun _ => GW325.out, fun _ => GE325.out, fun _ => NB308_325.out, fun _ => NB325_308.out, fun _ => NB309_325.out, fun _ => NB325_309.out, fun _ => NB317_325.out, fun _ => NB325_317.out, fun _ => (by (with_reducible repeat (first | refine blk_drewN ?_ _ | refine blk_drew ?_ | refine blk_alloc ?_ _)); exact BK325.out), Q_X9_⟩
      refine steps_cons ?_ ?_
      · rintro b a w' ⟨gb325, m9_, ha, Q_BK308, Q_BK309, Q_BK317, Q_HB, Q_BK325, Q_GW325, Q_GE325, Q_NB308_325, Q_NB325_308, Q_NB309_325, Q_NB325_309, Q_NB317_325, Q_NB325_317, Q_BK325_e10, Q_X9_⟩ hb_ hon hoff
        refine ⟨_, rfl, fun K hK => ?_⟩
        have e28 : a.tmps[28]? = some (.int .i64 t324) := by rw [ha]; exact putSel_on (e := (8, 28, .int .i64 t324)) 7 rfl rfl (hon 8 (by kernel_rfl)) rfl
        replace ha := Aside0.mk ha
        have BK308 := Aside0.mk Q_BK308
        have BK309 := Aside0.mk Q_BK309
        have BK317 := Aside0.mk Q_BK317
        have HB := Aside0.mk Q_HB
        have GW325 := Aside0.mk (Q_GW325 (hon 9 (by kernel_rfl)))
        have GE325 := Aside0.mk (Q_GE325 (hon 9 (by kernel_rfl)))
        have NB308_325 := Aside0.mk (Q_NB308_325 (hon 9 (by kernel_rfl)))
        have NB325_308 := Aside0.mk (Q_NB325_308 (hon 9 (by kernel_rfl)))
        have NB309_325 := Aside0.mk (Q_NB309_325 (hon 9 (by kernel_rfl)))
        have NB325_309 := Aside0.mk (Q_NB325_309 (hon 9 (by kernel_rfl)))
        have NB317_325 := Aside0.mk (Q_NB317_325 (hon 9 (by kernel_rfl)))
        have NB325_317 := Aside0.mk (Q_NB325_317 (hon 9 (by kernel_rfl)))
        have BK325 := Aside0.mk (Q_BK325_e10 (hon 10 (by kernel_rfl)))
        refine value_ (w1 := w') (v := .int .i64 t324) (by rfl) rfl ?_ ?_
        · go_simp
          (try simp only [i64_w])
          try rfl
        refine hK.out _ _ ⟨gb325, m9_, (by rw [ha.out]; exact putSel_upk 9 hb_ rfl rfl rfl), Q_BK308, Q_BK309, Q_BK317, Q_HB, fun _ h1_ => absurd ((hon 10 (by kernel_rfl)).symm.trans h1_) (by decide), Q_GW325, Q_GE325, Q_NB308_325, Q_NB325_308, Q_NB309_325, Q_NB325_309, Q_NB317_325, Q_NB325_317, Q_BK325_e10, Q_X9_⟩
      exact steps_nil
    rintro b a w76 hall ⟨gb325, m9_, ha, Q_BK308, Q_BK309, Q_BK317, Q_HB, Q_BK325, Q_GW325, Q_GE325, Q_NB308_325, Q_NB325_308, Q_NB309_325, Q_NB325_309, Q_NB317_325, Q_NB325_317, Q_BK325_e10, Q_X9_⟩
    clear BK308 BK309 BK317 HB
    have hb0_ := hall 0 (by kernel_rfl)
    have hb1_ := hall 1 (by kernel_rfl)
    have hb2_ := hall 2 (by kernel_rfl)
    have hb3_ := hall 3 (by kernel_rfl)
    have hb5_ := hall 5 (by kernel_rfl)
    have hb6_ := hall 6 (by kernel_rfl)
    have hb7_ := hall 7 (by kernel_rfl)
    have hb8_ := hall 8 (by kernel_rfl)
    have hb9_ := hall 9 (by kernel_rfl)
    have hb10_ := hall 10 (by kernel_rfl)
    have hb11_ := hall 11 (by kernel_rfl)
    subst ha
    obtain rfl := Q_X9_ hb9_
    simp only [putSel, hb0_, hb1_, hb2_, hb3_, hb5_, hb6_, hb7_, hb8_, hb9_, hb10_, hb11_, if_true, Act.put, List.setIfInBounds_toArray, List.set_cons_zero, List.set_cons_succ]
    have BK308 := Aside0.mk Q_BK308
    clear Q_BK308
    have BK309 := Aside0.mk Q_BK309
    clear Q_BK309
    have BK317 := Aside0.mk Q_BK317
    clear Q_BK317
    have HB := Aside0.mk Q_HB
    clear Q_HB
    clear Q_BK325
    have GW325 := Aside0.mk (Q_GW325 hb9_)
    clear Q_GW325
    have GE325 := Aside0.mk (Q_GE325 hb9_)
    clear Q_GE325
    have NB308_325 := Aside0.mk (Q_NB308_325 hb9_)
    clear Q_NB308_325
    have NB325_308 := Aside0.mk (Q_NB325_308 hb9_)
    clear Q_NB325_308
    have NB309_325 := Aside0.mk (Q_NB309_325 hb9_)
    clear Q_NB309_325
    have NB325_309 := Aside0.mk (Q_NB325_309 hb9_)
    clear Q_NB325_309
    have NB317_325 := Aside0.mk (Q_NB317_325 hb9_)
    clear Q_NB317_325
    have NB325_317 := Aside0.mk (Q_NB325_317 hb9_)
    clear Q_NB325_317
    have BK325 := Aside0.mk (Q_BK325_e10 hb10_)
    clear Q_BK325_e10
    clear hall hb0_ hb1_ hb2_ hb3_ hb5_ hb6_ hb7_ hb8_ hb9_ hb10_ hb11_
    try go_wp2_with (first | ((with_reducible refine gate_dst (N := 29) rfl ?_); refine wpList_run0 (v := .agg (mixA (Value.int .u16) [] t323)) rfl (load_mix_run (P := Try.prog) 26 (.tmp 9) rfl gb325 rfl (show World.rangeAt _ gb325 0 ([] ++ t323.l.map (Value.int .u16)) from mix_range (show (World.heap _)[gb325]? = some (.cells (mixA (Value.int .u16) [] t323) 26 (0, 0)) from by (with_reducible repeat (first | refine blk_drewN ?_ _ | refine blk_drew ?_ | refine blk_alloc ?_ _)); exact BK325.out)) Try.underlying26 rfl (by kernel_rfl) rfl) ?_) | ((with_reducible refine gate_dst (N := 30) rfl ?_); refine wpList_run0 (v := .agg (mixA (Value.int .u16) [] t315)) rfl (load_mix_run (P := Try.prog) 26 (.tmp 7) rfl gb317 rfl (show World.rangeAt _ gb317 0 ([] ++ t315.l.map (Value.int .u16)) from mix_range (show (World.heap _)[gb317]? = some (.cells (mixA (Value.int .u16) [] t315) 26 (0, 0)) from by (with_reducible repeat (first | refine blk_drewN ?_ _ | refine blk_drew ?_ | refine blk_alloc ?_ _)); exact BK317.out)) Try.underlying26 rfl (by kernel_rfl) rfl) ?_) | ((with_reducible refine gate_callee (f := 22) rfl ?_); refine goesL_ (some 31) rfl rfl Try.func22 (by kernel_rfl) rfl #[.agg (mixA (Value.int .u16) [] t323), .agg (mixA (Value.int .u16) [] t315)] rfl (by (try simp only [List.map_toArray, List.map_cons, List.map_nil]); first | done | rfl | (simp only [List.length_drop, List.length_take]; rfl)) ?_; (with_reducible refine (laws_eqCrowd.calls k t323 t315 false _ A10.out).mono ?_); rintro e w81 ⟨rfl, hb⟩; refine ⟨_, rfl, ?_⟩; have n0_ := Aside0.mk (blk_below (g := gb308) (o := .cells (mixA (Value.int .u16) [.int .i8 a0_0, .int .i8 a0_1] a0_2) 37 (0, 0)) (by (with_reducible repeat (first | refine blk_drewN ?_ _ | refine blk_drew ?_ | refine blk_alloc ?_ _)); exact BK308.out) hb); have n1_ := Aside0.mk (blk_below (g := gb309) (o := .cells #[.int .i8 a1_0, .int .i8 a1_1] 31 (0, 0)) (by (with_reducible repeat (first | refine blk_drewN ?_ _ | refine blk_drew ?_ | refine blk_alloc ?_ _)); exact BK309.out) hb); have n2_ := Aside0.mk (blk_below (g := gb317) (o := .cells (mixA (Value.int .u16) [] t315) 26 (0, 0)) (by (with_reducible repeat (first | refine blk_drewN ?_ _ | refine blk_drew ?_ | refine blk_alloc ?_ _)); exact BK317.out) hb); have n3_ := Aside0.mk (blk_below (g := gb325) (o := .cells (mixA (Value.int .u16) [] t323) 26 (0, 0)) (by (with_reducible repeat (first | refine blk_drewN ?_ _ | refine blk_drew ?_ | refine blk_alloc ?_ _)); exact BK325.out) hb); have n4_ := Aside0.mk (below_step (by repeat (first | (with_reducible first | exact HB.out | apply below_alloc | apply pw_below_drewN | apply below_drew1 | refine below_set ?_ GE308.out | refine below_set ?_ GE309.out | refine below_set ?_ GE317.out | refine below_set ?_ GE325.out) | exact HB.out)) hb); clear BK308; clear BK309; clear BK317; clear BK325; clear HB; have BK308 := n0_; have BK309 := n1_; have BK317 := n2_; have BK325 := n3_; have HB := n4_; clear n0_ n1_ n2_ n3_ n4_; (try clear hb); (try clear hb2); (try clear hk); (try clear hi)))
    go_ret
    exact ⟨by first | rfl | (simp [errW_none, errW_some] <;> rfl) | (simp [*, errW_none, errW_some] <;> rfl), by repeat (first | (with_reducible first | exact HB.out | apply below_alloc | apply pw_below_drewN | apply below_drew1 | refine below_set ?_ GE308.out | refine below_set ?_ GE309.out | refine below_set ?_ GE317.out | refine below_set ?_ GE325.out) | exact HB.out)⟩
end Go.Proofs.Ytdedijjbdkoekaa.PB
end
section
namespace Go.Proofs.Ytdedijjbdkoekaa.PB
open Go.RowKit Go.Proofs.YtdedijjbdkoekaaW.PrintWords Go.Proofs.YtdedijjbdkoekaaW.PrintLast Go.Proofs.YtdedijjbdkoekaaW.PrintMore Go.Proofs.Ytdedijjbdkoekaa.La
attribute [local go_sem] max2_int min2_int max_two min_two max_three min_three max_four min_four   -- for this text's walks alone
set_option linter.unusedVariables false
set_option linter.unusedSimpArgs false
mutual
def spec_l01All.l0 : Nat → List (S33) → Int → Int → Int → LA 10 → Option ((List (S33)))
  | 0, _, _, _, _, _ => none
  | k + 1, x3, x4, x1000, x1001, x1002 => if x4 < x1001 then (spec_l01All.l1 k x3 x4 0 x1000 x1001 x1002) else (some x3)
def spec_l01All.l1 : Nat → List (S33) → Int → Int → Int → Int → LA 10 → Option ((List (S33)))
  | 0, _, _, _, _, _, _ => none
  | k + 1, x3, x4, x5, x1000, x1001, x1002 => if x5 < x1000 then ((spec_l01Free.f x1000 x1001 x1002 x5 x4).bind fun t155 => (if t155 = true then (if x3.length < 70368744177664 then (spec_l01All.l1 k (x3 ++ [(⟨x5, x4⟩ : S33)]) x4 (IntKind.i8.wrap (x5 + 1)) x1000 x1001 x1002) else (none)) else (spec_l01All.l1 k x3 x4 (IntKind.i8.wrap (x5 + 1)) x1000 x1001 x1002))) else (spec_l01All.l0 k x3 (IntKind.i8.wrap (x4 + 1)) x1000 x1001 x1002)
end
def spec_l01All.f (k : Nat) (s0_0 : Int) (s0_1 : Int) (s0_2 : LA 10) : Option ((List (S33))) := spec_l01All.l0 k (([] : List (S33))) 0 s0_0 s0_1 s0_2
theorem spec_l01All.mono_l : ∀ k, (∀ y0 y1 y2 y3 y4, LeO (spec_l01All.l0 k y0 y1 y2 y3 y4) (spec_l01All.l0 (k + 1) y0 y1 y2 y3 y4)) ∧ (∀ y0 y1 y2 y3 y4 y5, LeO (spec_l01All.l1 k y0 y1 y2 y3 y4 y5) (spec_l01All.l1 (k + 1) y0 y1 y2 y3 y4 y5))
  | 0 => ⟨fun _ _ _ _ _ r h => by simp [spec_l01All.l0] at h, fun _ _ _ _ _ _ r h => by simp [spec_l01All.l1] at h⟩
  | k + 1 => by
    obtain ⟨ih0, ih1⟩ := spec_l01All.mono_l k
    refine ⟨?_, ?_⟩
    · intro y0 y1 y2 y3 y4
      unfold spec_l01All.l0
      repeat' first
      | (with_reducible exact ih0 _ _ _ _ _)
      | (with_reducible exact ih1 _ _ _ _ _ _)
      | (with_reducible exact LeO.refl _)
      | (with_reducible exact LeO.none _)
      | (with_reducible refine LeO.ite ?_ ?_)
      | (with_reducible refine LeO.bind ?_ (fun _ => ?_))
      | exact ih0 _ _ _ _ _
      | exact ih1 _ _ _ _ _ _
      | exact LeO.none _
      | refine LeO.ite ?_ ?_
      | refine LeO.bind ?_ (fun _ => ?_)
    · intro y0 y1 y2 y3 y4 y5
      unfold spec_l01All.l1
      repeat' first
      | (with_reducible exact ih0 _ _ _ _ _)
      | (with_reducible exact ih1 _ _ _ _ _ _)
      | (with_reducible exact LeO.refl _)
      | (with_reducible exact LeO.none _)
      | (with_reducible refine LeO.ite ?_ ?_)
      | (with_reducible refine LeO.bind ?_ (fun _ => ?_))
      | exact ih0 _ _ _ _ _
      | exact ih1 _ _ _ _ _ _
      | exact LeO.none _
      | refine LeO.ite ?_ ?_
      | refine LeO.bind ?_ (fun _ => ?_)
theorem spec_l01All.mono : ∀ a0 a1 a2 k, LeO (spec_l01All.f k a0 a1 a2) (spec_l01All.f (k + 1) a0 a1 a2) := by
  intro a0 a1 a2 k
  obtain ⟨ih0, ih1⟩ := spec_l01All.mono_l k
  unfold spec_l01All.f
  repeat' first
      | (with_reducible exact ih0 _ _ _ _ _)
      | (with_reducible exact ih1 _ _ _ _ _ _)
      | (with_reducible exact LeO.refl _)
      | (with_reducible exact LeO.none _)
      | (with_reducible refine LeO.ite ?_ ?_)
      | (with_reducible refine LeO.bind ?_ (fun _ => ?_))
      | exact ih0 _ _ _ _ _
      | exact ih1 _ _ _ _ _ _
      | exact LeO.none _
      | refine LeO.ite ?_ ?_
      | refine LeO.bind ?_ (fun _ => ?_)
mutual
def spec_l06Plain.l0 : Nat → List (S33) → Int → LA 40 → Option (LA 40)
  | 0, _, _, _ => none
  | k + 1, x4, x5, x161000 => if x5 < (x4.length : Int) then (spec_l06Plain.l1 k x4 x5 0 x161000) else (some x161000)
def spec_l06Plain.l1 : Nat → List (S33) → Int → Int → LA 40 → Option (LA 40)
  | 0, _, _, _, _ => none
  | k + 1, x4, x5, x6, x161000 => if x6 < 4 then (if 0 ≤ x5 then (if x5 < (x4.length : Int) then ((spec_l06Put.f x161000 ((rd_T33 x4 x5).f0) ((rd_T33 x4 x5).f1) x6).bind fun t165 => (spec_l06Plain.l1 k x4 x5 (wrap64 (x6 + 1)) t165)) else (none)) else (none)) else (spec_l06Plain.l0 k x4 (wrap64 (x5 + 1)) x161000)
end
def spec_l06Plain.f (k : Nat) (s0_0 : Int) (s0_1 : Int) (s0_2 : LA 10) : Option (LA 40) := (spec_l01All.f k s0_0 s0_1 s0_2).bind fun t161 => (spec_l06Plain.l0 k t161 0 (LA.zero 40))
theorem spec_l06Plain.mono_l : ∀ k, (∀ y0 y1 y2, LeO (spec_l06Plain.l0 k y0 y1 y2) (spec_l06Plain.l0 (k + 1) y0 y1 y2)) ∧ (∀ y0 y1 y2 y3, LeO (spec_l06Plain.l1 k y0 y1 y2 y3) (spec_l06Plain.l1 (k + 1) y0 y1 y2 y3))
  | 0 => ⟨fun _ _ _ r h => by simp [spec_l06Plain.l0] at h, fun _ _ _ _ r h => by simp [spec_l06Plain.l1] at h⟩
  | k + 1 => by
    obtain ⟨ih0, ih1⟩ := spec_l06Plain.mono_l k
    refine ⟨?_, ?_⟩
    · intro y0 y1 y2
      unfold spec_l06Plain.l0
      repeat' first
      | (with_reducible exact ih0 _ _ _)
      | (with_reducible exact ih1 _ _ _ _)
      | (with_reducible exact spec_l01All.mono _ _ _ _)
      | (with_reducible exact LeO.refl _)
      | (with_reducible exact LeO.none _)
      | (with_reducible refine LeO.ite ?_ ?_)
      | (with_reducible refine LeO.bind ?_ (fun _ => ?_))
      | exact ih0 _ _ _
      | exact ih1 _ _ _ _
      | exact spec_l01All.mono _ _ _ _
      | exact LeO.none _
      | refine LeO.ite ?_ ?_
      | refine LeO.bind ?_ (fun _ => ?_)
    · intro y0 y1 y2 y3
      unfold spec_l06Plain.l1
      repeat' first
      | (with_reducible exact ih0 _ _ _)
      | (with_reducible exact ih1 _ _ _ _)
      | (with_reducible exact spec_l01All.mono _ _ _ _)
      | (with_reducible exact LeO.refl _)
      | (with_reducible exact LeO.none _)
      | (with_reducible refine LeO.ite ?_ ?_)
      | (with_reducible refine LeO.bind ?_ (fun _ => ?_))
      | exact ih0 _ _ _
      | exact ih1 _ _ _ _
      | exact spec_l01All.mono _ _ _ _
      | exact LeO.none _
      | refine LeO.ite ?_ ?_
      | refine LeO.bind ?_ (fun _ => ?_)
theorem spec_l06Plain.mono : ∀ a0 a1 a2 k, LeO (spec_l06Plain.f k a0 a1 a2) (spec_l06Plain.f (k + 1) a0 a1 a2) := by
  intro a0 a1 a2 k
  obtain ⟨ih0, ih1⟩ := spec_l06Plain.mono_l k
  unfold spec_l06Plain.f
  repeat' first
      | (with_reducible exact ih0 _ _ _)
      | (with_reducible exact ih1 _ _ _ _)
      | (with_reducible exact spec_l01All.mono _ _ _ _)
      | (with_reducible exact LeO.refl _)
      | (with_reducible exact LeO.none _)
      | (with_reducible refine LeO.ite ?_ ?_)
      | (with_reducible refine LeO.bind ?_ (fun _ => ?_))
      | exact ih0 _ _ _
      | exact ih1 _ _ _ _
      | exact spec_l01All.mono _ _ _ _
      | exact LeO.none _
      | refine LeO.ite ?_ ?_
      | refine LeO.bind ?_ (fun _ => ?_)
end Go.Proofs.Ytdedijjbdkoekaa.PB
end
section
namespace Go.Proofs.Ytdedijjbdkoekaa.PB
open Go.RowKit Go.Proofs.YtdedijjbdkoekaaW.PrintWords Go.Proofs.YtdedijjbdkoekaaW.PrintLast Go.Proofs.YtdedijjbdkoekaaW.PrintMore Go.Proofs.Ytdedijjbdkoekaa.La
attribute [local go_sem] max2_int min2_int max_two min_two max_three min_three max_four min_four   -- for this text's walks alone
set_option linter.unusedVariables false
set_option linter.unusedSimpArgs false
mutual
def impl_Room_cells__64.l0 : Nat → List (S33) → Int → Int → Int → Int → LA 10 → Int → Int → LA 10 → Option ((List (S33)))
  | 0, _, _, _, _, _, _, _, _, _ => none
  | k + 1, x5, x11, x12, x211000, x211001, x211002, x212000, x212001, x212002 => if x12 < x11 then (impl_Room_cells__64.l1 k x5 x12 x11 x12 x212000 0 x211000 x211001 x211002 x212000 x212001 x212002) else (some x5)
def impl_Room_cells__64.l1 : Nat → List (S33) → Int → Int → Int → Int → Int → Int → Int → LA 10 → Int → Int → LA 10 → Option ((List (S33)))
  | 0, _, _, _, _, _, _, _, _, _, _, _, _ => none
  | k + 1, x5, x6, x11, x12, x16, x17, x211000, x211001, x211002, x212000, x212001, x212002 => if x17 < x16 then ((impl_Room_isFree.f x211000 x211001 x211002 x17 x6).bind fun t216 => (if t216 = true then (if x5.length < 70368744177664 then (impl_Room_cells__64.l1 k (x5 ++ [(⟨x17, x6⟩ : S33)]) x6 x11 x12 x16 (IntKind.i8.wrap (x17 + 1)) x211000 x211001 x211002 x212000 x212001 x212002) else (none)) else (impl_Room_cells__64.l1 k x5 x6 x11 x12 x16 (IntKind.i8.wrap (x17 + 1)) x211000 x211001 x211002 x212000 x212001 x212002))) else (impl_Room_cells__64.l0 k x5 x11 (IntKind.i8.wrap (x12 + 1)) x211000 x211001 x211002 x212000 x212001 x212002)
end
def impl_Room_cells__64.f (k : Nat) (a0_0 : Int) (a0_1 : Int) (a0_2 : LA 10) (a1_0 : Int) (a1_1 : Int) (a1_2 : LA 10) : Option ((List (S33))) := impl_Room_cells__64.l0 k (([] : List (S33))) a0_1 0 a1_0 a1_1 a1_2 a0_0 a0_1 a0_2
theorem impl_Room_cells__64.mono_l : ∀ k, (∀ y0 y1 y2 y3 y4 y5 y6 y7 y8, LeO (impl_Room_cells__64.l0 k y0 y1 y2 y3 y4 y5 y6 y7 y8) (impl_Room_cells__64.l0 (k + 1) y0 y1 y2 y3 y4 y5 y6 y7 y8)) ∧ (∀ y0 y1 y2 y3 y4 y5 y6 y7 y8 y9 y10 y11, LeO (impl_Room_cells__64.l1 k y0 y1 y2 y3 y4 y5 y6 y7 y8 y9 y10 y11) (impl_Room_cells__64.l1 (k + 1) y0 y1 y2 y3 y4 y5 y6 y7 y8 y9 y10 y11))
  | 0 => ⟨fun _ _ _ _ _ _ _ _ _ r h => by simp [impl_Room_cells__64.l0] at h, fun _ _ _ _ _ _ _ _ _ _ _ _ r h => by simp [impl_Room_cells__64.l1] at h⟩
  | k + 1 => by
    obtain ⟨ih0, ih1⟩ := impl_Room_cells__64.mono_l k
    refine ⟨?_, ?_⟩
    · intro y0 y1 y2 y3 y4 y5 y6 y7 y8
      unfold impl_Room_cells__64.l0
      repeat' first
      | (with_reducible exact ih0 _ _ _ _ _ _ _ _ _)
      | (with_reducible exact ih1 _ _ _ _ _ _ _ _ _ _ _ _)
      | (with_reducible exact LeO.refl _)
      | (with_reducible exact LeO.none _)
      | (with_reducible refine LeO.ite ?_ ?_)
      | (with_reducible refine LeO.bind ?_ (fun _ => ?_))
      | exact ih0 _ _ _ _ _ _ _ _ _
      | exact ih1 _ _ _ _ _ _ _ _ _ _ _ _
      | exact LeO.none _
      | refine LeO.ite ?_ ?_
      | refine LeO.bind ?_ (fun _ => ?_)
    · intro y0 y1 y2 y3 y4 y5 y6 y7 y8 y9 y10 y11
      unfold impl_Room_cells__64.l1
      repeat' first
      | (with_reducible exact ih0 _ _ _ _ _ _ _ _ _)
      | (with_reducible exact ih1 _ _ _ _ _ _ _ _ _ _ _ _)
      | (with_reducible exact LeO.refl _)
      | (with_reducible exact LeO.none _)
      | (with_reducible refine LeO.ite ?_ ?_)
      | (with_reducible refine LeO.bind ?_ (fun _ => ?_))
      | exact ih0 _ _ _ _ _ _ _ _ _
      | exact ih1 _ _ _ _ _ _ _ _ _ _ _ _
      | exact LeO.none _
      | refine LeO.ite ?_ ?_
      | refine LeO.bind ?_ (fun _ => ?_)
theorem impl_Room_cells__64.mono : ∀ a0 a1 a2 a3 a4 a5 k, LeO (impl_Room_cells__64.f k a0 a1 a2 a3 a4 a5) (impl_Room_cells__64.f (k + 1) a0 a1 a2 a3 a4 a5) := by
  intro a0 a1 a2 a3 a4 a5 k
  obtain ⟨ih0, ih1⟩ := impl_Room_cells__64.mono_l k
  unfold impl_Room_cells__64.f
  repeat' first
      | (with_reducible exact ih0 _ _ _ _ _ _ _ _ _)
      | (with_reducible exact ih1 _ _ _ _ _ _ _ _ _ _ _ _)
      | (with_reducible exact LeO.refl _)
      | (with_reducible exact LeO.none _)
      | (with_reducible refine LeO.ite ?_ ?_)
      | (with_reducible refine LeO.bind ?_ (fun _ => ?_))
      | exact ih0 _ _ _ _ _ _ _ _ _
      | exact ih1 _ _ _ _ _ _ _ _ _ _ _ _
      | exact LeO.none _
      | refine LeO.ite ?_ ?_
      | refine LeO.bind ?_ (fun _ => ?_)
def impl_Room_free.f (k : Nat) (a0_0 : Int) (a0_1 : Int) (a0_2 : LA 10) : Option ((List (S33))) := (impl_Room_cells__64.f k a0_0 a0_1 a0_2 a0_0 a0_1 a0_2).bind fun t221 => (some t221)
theorem impl_Room_free.mono : ∀ a0 a1 a2 k, LeO (impl_Room_free.f k a0 a1 a2) (impl_Room_free.f (k + 1) a0 a1 a2) := by
  intro a0 a1 a2 k
  unfold impl_Room_free.f
  repeat' first
      | (with_reducible exact impl_Room_cells__64.mono _ _ _ _ _ _ _)
      | (with_reducible exact LeO.refl _)
      | (with_reducible exact LeO.none _)
      | (with_reducible refine LeO.ite ?_ ?_)
      | (with_reducible refine LeO.bind ?_ (fun _ => ?_))
      | exact impl_Room_cells__64.mono _ _ _ _ _ _ _
      | exact LeO.none _
      | refine LeO.ite ?_ ?_
      | refine LeO.bind ?_ (fun _ => ?_)
mutual
def impl_anywhere.l0 : Nat → List (S33) → Int → Int → LA 40 → Option (LA 40)
  | 0, _, _, _, _ => none
  | k + 1, x9, x10, x11, x227000 => if x11 < x10 then (if 0 ≤ x11 then (if x11 < (x9.length : Int) then (impl_anywhere.l1 k x9 x10 x11 0 x227000 ((rd_T33 x9 x11).f0) ((rd_T33 x9 x11).f1)) else (none)) else (none)) else (some x227000)
def impl_anywhere.l1 : Nat → List (S33) → Int → Int → Int → LA 40 → Int → Int → Option (LA 40)
  | 0, _, _, _, _, _, _, _ => none
  | k + 1, x9, x10, x11, x15, x227000, x232000, x232001 => if x15 < 4 then ((impl_Crowd_set.f x227000 x232000 x232001 x15).bind fun t232 => (impl_anywhere.l1 k x9 x10 x11 (wrap64 (x15 + 1)) t232 x232000 x232001)) else (impl_anywhere.l0 k x9 x10 (wrap64 (x11 + 1)) x227000)
end
def impl_anywhere.f (k : Nat) (a0_0 : Int) (a0_1 : Int) (a0_2 : LA 10) : Option (LA 40) := (impl_Room_free.f k a0_0 a0_1 a0_2).bind fun t227 => (impl_anywhere.l0 k t227 (t227.length : Int) 0 (LA.zero 40))
theorem impl_anywhere.mono_l : ∀ k, (∀ y0 y1 y2 y3, LeO (impl_anywhere.l0 k y0 y1 y2 y3) (impl_anywhere.l0 (k + 1) y0 y1 y2 y3)) ∧ (∀ y0 y1 y2 y3 y4 y5 y6, LeO (impl_anywhere.l1 k y0 y1 y2 y3 y4 y5 y6) (impl_anywhere.l1 (k + 1) y0 y1 y2 y3 y4 y5 y6))
  | 0 => ⟨fun _ _ _ _ r h => by simp [impl_anywhere.l0] at h, fun _ _ _ _ _ _ _ r h => by simp [impl_anywhere.l1] at h⟩
  | k + 1 => by
    obtain ⟨ih0, ih1⟩ := impl_anywhere.mono_l k
    refine ⟨?_, ?_⟩
    · intro y0 y1 y2 y3
      unfold impl_anywhere.l0
      repeat' first
      | (with_reducible exact ih0 _ _ _ _)
      | (with_reducible exact ih1 _ _ _ _ _ _ _)
      | (with_reducible exact impl_Room_free.mono _ _ _ _)
      | (with_reducible exact LeO.refl _)
      | (with_reducible exact LeO.none _)
      | (with_reducible refine LeO.ite ?_ ?_)
      | (with_reducible refine LeO.bind ?_ (fun _ => ?_))
      | exact ih0 _ _ _ _
      | exact ih1 _ _ _ _ _ _ _
      | exact impl_Room_free.mono _ _ _ _
      | exact LeO.none _
      | refine LeO.ite ?_ ?_
      | refine LeO.bind ?_ (fun _ => ?_)
    · intro y0 y1 y2 y3 y4 y5 y6
      unfold impl_anywhere.l1
      repeat' first
      | (with_reducible exact ih0 _ _ _ _)
      | (with_reducible exact ih1 _ _ _ _ _ _ _)
      | (with_reducible exact impl_Room_free.mono _ _ _ _)
      | (with_reducible exact LeO.refl _)
      | (with_reducible exact LeO.none _)
      | (with_reducible refine LeO.ite ?_ ?_)
      | (with_reducible refine LeO.bind ?_ (fun _ => ?_))
      | exact ih0 _ _ _ _
      | exact ih1 _ _ _ _ _ _ _
      | exact impl_Room_free.mono _ _ _ _
      | exact LeO.none _
      | refine LeO.ite ?_ ?_
      | refine LeO.bind ?_ (fun _ => ?_)
theorem impl_anywhere.mono : ∀ a0 a1 a2 k, LeO (impl_anywhere.f k a0 a1 a2) (impl_anywhere.f (k + 1) a0 a1 a2) := by
  intro a0 a1 a2 k
  obtain ⟨ih0, ih1⟩ := impl_anywhere.mono_l k
  unfold impl_anywhere.f
  repeat' first
      | (with_reducible exact ih0 _ _ _ _)
      | (with_reducible exact ih1 _ _ _ _ _ _ _)
      | (with_reducible exact impl_Room_free.mono _ _ _ _)
      | (with_reducible exact LeO.refl _)
      | (with_reducible exact LeO.none _)
      | (with_reducible refine LeO.ite ?_ ?_)
      | (with_reducible refine LeO.bind ?_ (fun _ => ?_))
      | exact ih0 _ _ _ _
      | exact ih1 _ _ _ _ _ _ _
      | exact impl_Room_free.mono _ _ _ _
      | exact LeO.none _
      | refine LeO.ite ?_ ?_
      | refine LeO.bind ?_ (fun _ => ?_)
end Go.Proofs.Ytdedijjbdkoekaa.PB
end
