/- The statement FnExactSeenAlong of this program: what its proof uses, part 13 of 18. The call returns true for all arguments. No condition of its own. -/
import Derived.Test.YtjogemppgdeomaaZFnExactSeenAlong11
section
namespace Go.Proofs.Ytjogemppgdeomaa.PB
open Go.RowKit Go.Proofs.YtjogemppgdeomaaW.PrintWords Go.Proofs.YtjogemppgdeomaaW.PrintLast Go.Proofs.YtjogemppgdeomaaW.PrintMore Go.Proofs.Ytjogemppgdeomaa.La
attribute [local go_sem] max2_int min2_int max_two min_two max_three min_three max_four min_four   -- for this text's walks alone
set_option linter.unusedVariables false
set_option linter.unusedSimpArgs false
attribute [local go_sem high] eqA55
def spec_l02Can.f (k : Nat) (s0_0 : Int) (s0_1 : Int) (s0_2 : LA 10) (l1 : List (S55)) (a2 : Int) : Option (Bool) := if a2 ≥ 4 then (some true) else (if 0 < (l1.length : Int) then ((spec_l01Next.f ((rd_T55 l1 0).f0) ((rd_T55 l1 0).f1) a2).bind fun bt174 => ((spec_l01Free.f s0_0 s0_1 s0_2 bt174.1 bt174.2).bind fun t177 => (if t177 = true then (if 0 ≤ (wrap64 ((l1.length : Int) - 1)) then (if (wrap64 ((l1.length : Int) - 1)) ≤ (l1.length : Int) then ((spec_l01Has.f k (l1.take ((wrap64 ((l1.length : Int) - 1)) : Int).toNat) bt174.1 bt174.2).bind fun t182 => (if t182 = true then (some false) else (if (l1.length : Int) = 2 then (if (wrap64 ((l1.length : Int) - 1)) < (l1.length : Int) then (some (!(((rd_T55 l1 (wrap64 ((l1.length : Int) - 1))).f0) == bt174.1) || (!(((rd_T55 l1 (wrap64 ((l1.length : Int) - 1))).f1) == bt174.2)))) else (none)) else (some true)))) else (none)) else (none)) else (some false)))) else (none))
theorem spec_l02Can.mono : ∀ a0 a1 a2 a3 a4 k, LeO (spec_l02Can.f k a0 a1 a2 a3 a4) (spec_l02Can.f (k + 1) a0 a1 a2 a3 a4) := by
 intro a0 a1 a2 a3 a4 k
 unfold spec_l02Can.f
 repeat' first
   | (with_reducible exact spec_l01Has.mono _ _ _ _)
   | (with_reducible exact LeO.refl _)
   | (with_reducible exact LeO.none _)
   | (with_reducible refine LeO.ite ?_ ?_)
   | (with_reducible refine LeO.bind ?_ (fun _ => ?_))
   | exact spec_l01Has.mono _ _ _ _
   | exact LeO.none _
   | refine LeO.ite ?_ ?_
   | refine LeO.bind ?_ (fun _ => ?_)
def spec_l02Can.T5 : Bool × List (List Nat × List Nat) := (true, [([], []), ([], []), ([0, 1], [0, 1]), ([2], [2]), ([3, 2], [3]), ([4], [4]), ([4], [4]), ([5, 6, 4], [4, 5, 6]), ([4], [4]), ([7, 8, 4, 4], [4, 7, 8]), ([4, 9], [4, 9])])
def spec_l02Can.B5 : List Nat := [0, 0, 3, 7, 15, 31, 31, 127, 31, 511, 1023]
theorem spec_l02Can.tab5 : rtab .any (opsOf Try.f47 5) = spec_l02Can.T5 := by kernel_rfl
theorem spec_l02Can.bits5 : waitsOk spec_l02Can.T5.2 spec_l02Can.B5 = true := by kernel_rfl
def spec_l02Can.T7 : Bool × List (List Nat × List Nat) := (true, [([], []), ([0], [0]), ([1], [1]), ([2], [2]), ([3], [3]), ([3], [3]), ([4, 5, 3], [3, 4, 5]), ([6, 3], [3, 6]), ([3], [3]), ([7, 8, 3], [3, 7, 8]), ([3, 9], [3, 9]), ([10, 3, 0, 1, 2, 3, 4, 5, 6, 7, 8, 9, 10], [10])])
def spec_l02Can.B7 : List Nat := [0, 1, 3, 7, 15, 15, 63, 127, 15, 511, 1023, 2047]
theorem spec_l02Can.tab7 : rtab .any (opsOf Try.f47 7) = spec_l02Can.T7 := by kernel_rfl
theorem spec_l02Can.bits7 : waitsOk spec_l02Can.T7.2 spec_l02Can.B7 = true := by kernel_rfl
set_option maxHeartbeats 8000000 in
set_option maxRecDepth 100000 in
theorem spec_l02Can.calls (k : Nat) (g0 : Nat) (s0_0 : Int) (s0_1 : Int) (s0_2 : LA 10) (A1 : Option Addr) (c1 : Nat) (l1 : List (S55)) (a2 : Int) (r : Bool) (w : World) (hb0 : w.heap[g0]? = some (.cells (mixA (Value.int .u16) [.int .i8 s0_0, .int .i8 s0_1] s0_2) 33 (0, 0))) (hr1 : Kd.C k55 w A1 l1.length l1) (hc1 : l1.length ≤ c1) (h : spec_l02Can.f k s0_0 s0_1 s0_2 l1 a2 = some r) :
  Calls Try.prog 47 #[.pointer (some ⟨g0, 0, none⟩), .slice A1 l1.length c1, .int .i64 a2] w fun e w' => e = .returned (.bool r) ∧ Below w.heap.size w w' := by
 have hu55 := Try.underlying55
 have HR1 := Aside0.mk hr1
 have HC1 := Aside0.mk hc1
 clear hr1 hc1
 have BK0 := Aside0.mk hb0
 clear hb0
 have HB := Aside0.mk (Below.refl w.heap.size w)
 have H : (if a2 ≥ 4 then (some true) else (if 0 < (l1.length : Int) then ((spec_l01Next.f ((rd_T55 l1 0).f0) ((rd_T55 l1 0).f1) a2).bind fun bt174 => ((spec_l01Free.f s0_0 s0_1 s0_2 bt174.1 bt174.2).bind fun t177 => (if t177 = true then (if 0 ≤ (wrap64 ((l1.length : Int) - 1)) then (if (wrap64 ((l1.length : Int) - 1)) ≤ (l1.length : Int) then ((spec_l01Has.f k (l1.take ((wrap64 ((l1.length : Int) - 1)) : Int).toNat) bt174.1 bt174.2).bind fun t182 => (if t182 = true then (some false) else (if (l1.length : Int) = 2 then (if (wrap64 ((l1.length : Int) - 1)) < (l1.length : Int) then (some (!(((rd_T55 l1 (wrap64 ((l1.length : Int) - 1))).f0) == bt174.1) || (!(((rd_T55 l1 (wrap64 ((l1.length : Int) - 1))).f1) == bt174.2)))) else (none)) else (some true)))) else (none)) else (none)) else (some false)))) else (none))) = some r := h
 clear h
 by_cases c4 : a2 ≥ 4
 ·rw [if_pos c4] at H
  have c4b0 : decide (4 ≤ a2) = true := decide_eq_true c4; clear c4; obtain rfl := Option.some.inj H
  go_enter Try.func47, Try.ntmps47
  go_wp2
  go_ret
  exact ⟨by first | rfl | (simp [errW_none, errW_some] <;> rfl) | (simp [*, errW_none, errW_some] <;> rfl), pbs HB⟩
 ·rw [if_neg c4] at H
  have c4b0 : decide (4 ≤ a2) = false := decide_eq_false c4; clear c4
  by_cases c5 : 0 < (l1.length : Int)
  ·rw [if_pos c5] at H
   have c5b0 : decide (0 < (l1.length : Int)) = true := decide_eq_true c5; have c5b1 : decide (0 < l1.length) = true := decide_eq_true (by omega); clear c5; replace H := Option.bind_eq_some_iff.mp H; obtain ⟨⟨t174, t175⟩, A60, H⟩ := H; replace H : ((spec_l01Free.f s0_0 s0_1 s0_2 t174 t175).bind fun t177 => (if t177 = true then (if 0 ≤ (wrap64 ((l1.length : Int) - 1)) then (if (wrap64 ((l1.length : Int) - 1)) ≤ (l1.length : Int) then ((spec_l01Has.f k (l1.take ((wrap64 ((l1.length : Int) - 1)) : Int).toNat) t174 t175).bind fun t182 => (if t182 = true then (some false) else (if (l1.length : Int) = 2 then (if (wrap64 ((l1.length : Int) - 1)) < (l1.length : Int) then (some (!(((rd_T55 l1 (wrap64 ((l1.length : Int) - 1))).f0) == t174) || (!(((rd_T55 l1 (wrap64 ((l1.length : Int) - 1))).f1) == t175)))) else (none)) else (some true)))) else (none)) else (none)) else (some false))) = some r := H; have A6 := Aside0.mk A60; clear A60; replace H := Option.bind_eq_some_iff.mp H; obtain ⟨t177, A70, H⟩ := H; replace H : (if t177 = true then (if 0 ≤ (wrap64 ((l1.length : Int) - 1)) then (if (wrap64 ((l1.length : Int) - 1)) ≤ (l1.length : Int) then ((spec_l01Has.f k (l1.take ((wrap64 ((l1.length : Int) - 1)) : Int).toNat) t174 t175).bind fun t182 => (if t182 = true then (some false) else (if (l1.length : Int) = 2 then (if (wrap64 ((l1.length : Int) - 1)) < (l1.length : Int) then (some (!(((rd_T55 l1 (wrap64 ((l1.length : Int) - 1))).f0) == t174) || (!(((rd_T55 l1 (wrap64 ((l1.length : Int) - 1))).f1) == t175)))) else (none)) else (some true)))) else (none)) else (none)) else (some false)) = some r := H; have A7 := Aside0.mk A70; clear A70
   by_cases c8 : t177 = true
   ·subst c8
    have H1 : (if 0 ≤ (wrap64 ((l1.length : Int) - 1)) then (if (wrap64 ((l1.length : Int) - 1)) ≤ (l1.length : Int) then ((spec_l01Has.f k (l1.take ((wrap64 ((l1.length : Int) - 1)) : Int).toNat) t174 t175).bind fun t182 => (if t182 = true then (some false) else (if (l1.length : Int) = 2 then (if (wrap64 ((l1.length : Int) - 1)) < (l1.length : Int) then (some (!(((rd_T55 l1 (wrap64 ((l1.length : Int) - 1))).f0) == t174) || (!(((rd_T55 l1 (wrap64 ((l1.length : Int) - 1))).f1) == t175)))) else (none)) else (some true)))) else (none)) else (none)) = some r := by rw [if_pos rfl] at H; exact H
    clear H; have H := H1; clear H1; obtain ⟨ji9, hji9⟩ : ∃ j_ : Int, (wrap64 ((l1.length : Int) - 1)) = j_ := ⟨_, rfl⟩
    replace H : (if 0 ≤ (ji9) then (if (ji9) ≤ (l1.length : Int) then ((spec_l01Has.f k (l1.take ((ji9) : Int).toNat) t174 t175).bind fun t182 => (if t182 = true then (some false) else (if (l1.length : Int) = 2 then (if (ji9) < (l1.length : Int) then (some (!(((rd_T55 l1 (ji9)).f0) == t174) || (!(((rd_T55 l1 (ji9)).f1) == t175)))) else (none)) else (some true)))) else (none)) else (none)) = some r := by first | (rw [hji9] at H; exact H) | (simp only [hji9] at H ⊢; exact H)
    (try rw [hji9] at A6); (try rw [hji9] at A7); have hji9w : (IntKind.i64.wrap ((l1.length : Int) - 1)) = ji9 := (i64_w _).trans hji9
    by_cases c10 : 0 ≤ (ji9)
    ·rw [if_pos c10] at H
     have c10b0 := eq_true c10; have c10b1 : decide (0 ≤ (ji9)) = true := decide_eq_true c10; clear c10
     by_cases c11 : (ji9) ≤ (l1.length : Int)
     ·rw [if_pos c11] at H
      have c11b0 := eq_true c11; have c11b1 : decide ((ji9) ≤ (l1.length : Int)) = true := decide_eq_true c11; clear c11; obtain ⟨y178, hy178⟩ : ∃ y_ : List (S55), y_ = (l1.take ((ji9) : Int).toNat) := ⟨_, rfl⟩
      replace H : ((spec_l01Has.f k y178 t174 t175).bind fun t182 => (if t182 = true then (some false) else (if (l1.length : Int) = 2 then (if (ji9) < (l1.length : Int) then (some (!(((rd_T55 l1 (ji9)).f0) == t174) || (!(((rd_T55 l1 (ji9)).f1) == t175)))) else (none)) else (some true)))) = some r := by first | (rw [hy178]; with_reducible exact H) | (have H2_ := (Option.bind_some _ _).symm.trans H; rw [hy178]; with_reducible exact H2_) | (have H2_ := (Option.bind_some _ _).symm.trans H; with_reducible exact H2_) | with_reducible exact H | (rw [hy178]; exact H) | exact H
      have Ny178 := Aside0.mk hy178; clear hy178; replace H := Option.bind_eq_some_iff.mp H; obtain ⟨t182, A120, H⟩ := H; replace H : (if t182 = true then (some false) else (if (l1.length : Int) = 2 then (if (ji9) < (l1.length : Int) then (some (!(((rd_T55 l1 (ji9)).f0) == t174) || (!(((rd_T55 l1 (ji9)).f1) == t175)))) else (none)) else (some true))) = some r := H; have A12 := Aside0.mk A120; clear A120
      by_cases c13 : t182 = true
      ·subst c13
       have H1 : (some false) = some r := by rw [if_pos rfl] at H; exact H
       clear H; have H := H1; clear H1; obtain rfl := Option.some.inj H; have p173 : 0 ≤ (0 : Int) := (by omega); have q173 : 0 < (l1.length : Int) := of_decide_eq_true (by first | (with_reducible assumption) | assumption); obtain ⟨ad173, e173, hx173_0, hx173_1⟩ := at_T55 HR1.out 0 p173 q173; cases e173; have qi173 : (0 < l1.length) = True := eq_true (by omega); (try rw [show ((0 : Int)).toNat = 0 from rfl] at hx173_0); (try rw [show 0 * 2 = 0 from rfl] at hx173_0); (try rw [Addr.add_zero'] at hx173_0); (try rw [show ((0 : Int)).toNat = 0 from rfl] at hx173_1); (try rw [show 0 * 2 = 0 from rfl] at hx173_1); (try rw [Addr.add_zero'] at hx173_1); replace p173 := eq_true p173; replace q173 := eq_true q173
       go_enter Try.func47, Try.ntmps47
       try go_wp2_with (first | ((with_reducible refine gate_callee (f := 78) rfl ?_); refine goesL_ (some 15) rfl rfl Try.func78 (by kernel_rfl) rfl #[.agg #[.int .i8 ((rd_T55 l1 0).f0), .int .i8 ((rd_T55 l1 0).f1)], .int .i64 a2] rfl (by (try simp only [List.map_toArray, List.map_cons, List.map_nil]); first | done | rfl | (simp only [List.length_drop, List.length_take]; rfl)) ?_; (with_reducible refine (spec_l01Next.calls ((rd_T55 l1 0).f0) ((rd_T55 l1 0).f1) a2 t174 t175 _ A6.out).mono ?_); rintro e w14 ⟨rfl, hb⟩; refine ⟨_, rfl, ?_⟩; have n0_ := bkb BK0 hb; have n1_ := bst HB hb; clear BK0; clear HB; have BK0 := n0_; have HB := n1_; clear n0_ n1_; (try clear hb); (try clear hb2); (try clear hk); (try clear hi)) | ((with_reducible refine gate_dst (N := 7) rfl ?_); refine box_event ?hg (N := 7) ?hd (cs := #[.int .i8 0, .int .i8 0]) (t := 55) ?hr ?_; (case hd => rfl); (case hg => rfl); (case hr => first | (go_simp; done) | (go_simp; rfl)); intro gb176 hg w15 hbox hb; have n0_ := bkb BK0 hb; have n1_ := bst HB hb; have n2_ := Aside0.mk (hbox); have n3_ := gwl HB hg; have n4_ := gwl HB hg; have n5_ := nbl BK0 hg; have n6_ := nbg BK0 hg; clear BK0; clear HB; have BK0 := n0_; have HB := n1_; have BK176 := n2_; have GW176 := n3_; have GE176 := n4_; have NB0_176 := n5_; have NB176_0 := n6_; clear n0_ n1_ n2_ n3_ n4_ n5_ n6_; clear hb hbox hg; have hnb16 := NB176_0.out; have hnc16 := NB0_176.out; have hcz17_0 : w15.cell? ⟨gb176, 0, none⟩ = some (.int .i8 0) := (blk_cell BK176.out 0).trans rfl; have hcz17_1 : w15.cell? ⟨gb176, 1, none⟩ = some (.int .i8 0) := (blk_cell BK176.out 1).trans rfl; have hfz17_0 := blk_frozen BK176.out 0; have hfz17_1 := blk_frozen BK176.out 1))
       have n0_ : Aside0 (((w15.setCell ⟨gb176, 0, none⟩ (.int .i8 t174)).setCell ⟨gb176, 1, none⟩ (.int .i8 t175)).heap[g0]? = some (.cells (mixA (Value.int .u16) [.int .i8 s0_0, .int .i8 s0_1] s0_2) 33 (0, 0))) := ⟨by (with_reducible repeat (first | refine blk_drewN ?_ _ | refine blk_drew ?_ | refine blk_alloc ?_ _)); refine blk_far ?_ NB0_176.out _; (with_reducible repeat (first | refine blk_drewN ?_ _ | refine blk_drew ?_ | refine blk_alloc ?_ _)); refine blk_far ?_ NB0_176.out _; (with_reducible repeat (first | refine blk_drewN ?_ _ | refine blk_drew ?_ | refine blk_alloc ?_ _)); exact BK0.out⟩; have n1_ : Aside0 (((w15.setCell ⟨gb176, 0, none⟩ (.int .i8 t174)).setCell ⟨gb176, 1, none⟩ (.int .i8 t175)).heap[gb176]? = some (.cells #[.int .i8 t174, .int .i8 t175] 55 (0, 0))) := ⟨by (with_reducible repeat (first | refine blk_drewN ?_ _ | refine blk_drew ?_ | refine blk_alloc ?_ _)); refine blk_put (cs := #[.int .i8 t174, .int .i8 0]) ?_ 1 _ rfl; (with_reducible repeat (first | refine blk_drewN ?_ _ | refine blk_drew ?_ | refine blk_alloc ?_ _)); refine blk_put (cs := #[.int .i8 0, .int .i8 0]) ?_ 0 _ rfl; (with_reducible repeat (first | refine blk_drewN ?_ _ | refine blk_drew ?_ | refine blk_alloc ?_ _)); exact BK176.out⟩; have n2_ : Aside0 (Below w.heap.size w ((w15.setCell ⟨gb176, 0, none⟩ (.int .i8 t174)).setCell ⟨gb176, 1, none⟩ (.int .i8 t175))) := ⟨pbs HB⟩; (try clear BK0); (try clear BK176); (try clear HB); generalize ((w15.setCell ⟨gb176, 0, none⟩ (.int .i8 t174)).setCell ⟨gb176, 1, none⟩ (.int .i8 t175)) = w18 at n0_ n1_ n2_ ⊢; have BK0 := n0_; have BK176 := n1_; have HB := n2_; clear n0_ n1_ n2_; have n0_ := Aside0.mk (blk_drew BK0.out); have n1_ := Aside0.mk (blk_drew BK176.out); have n2_ := Aside0.mk (below_drew1 HB.out); clear BK0; clear BK176; clear HB; have BK0 := n0_; have BK176 := n1_; have HB := n2_; clear n0_ n1_ n2_
       refine start_ (n := 11) (S := fun w' => w'.cell? ⟨gb176, 0, none⟩ = some (.int .i8 t174) ∧ w'.cell? ⟨gb176, 1, none⟩ = some (.int .i8 t175)) (ds := []) #[false, false, false, false, false, false, false, false, false, false, false] (by kernel_rfl) rfl rfl ⟨(blk_cell BK176.out 0).trans rfl, (blk_cell BK176.out 1).trans rfl⟩ (fun hHeld => ?_); refine with_tabW spec_l02Can.tab5 spec_l02Can.bits5 (fun HT_ HW_ => ?_)
       generalize w18.drew = w19 at BK0 BK176 HB hHeld ⊢; refine pure_ (i := 0) (N := some 19) (v := ?_) (a' := ?_) #[true, false, false, false, false, false, false, false, false, false, false] rfl rfl (any_of HT_.out (by kernel_rfl)) (fun _ _ _ h => h) (Or.inl ⟨by rfl, ?_⟩) ?_ ?_; rotate_left
       ·intro w'
        go_simp; with_reducible rfl
       rotate_left
       ·simp only [Act.put, List.setIfInBounds_toArray, List.set_cons_zero, List.set_cons_succ, i64_w, i32_w]
        rfl
       refine take_ (i := 1) (N := some 20) (v := ?_) (a' := ?_) #[true, true, false, false, false, false, false, false, false, false, false] rfl rfl (take_ofW HT_.out HW_.out (by kernel_rfl)) (fun _ _ _ h => h) (Or.inl ⟨by rfl, ?_⟩) hHeld ?_ ?_; rotate_left
       ·rintro w' ⟨s0, s1⟩
        go_simp; with_reducible rfl
       rotate_left
       ·simp only [Act.put, List.setIfInBounds_toArray, List.set_cons_zero, List.set_cons_succ, i64_w, i32_w]
        rfl
       refine one_ (i := 2) (N := some 21) #[true, true, true, false, false, false, false, false, false, false, false] rfl rfl (one_of HT_.out (by kernel_rfl)) (by decide) (fun K hK => ?_); refine goes_ Try.func62 (by kernel_rfl) rfl #[.pointer (some ⟨g0, 0, none⟩), .agg #[.int .i8 t174, .int .i8 t175]] (by rfl) rfl rfl (by (try simp only [List.map_toArray, List.map_cons, List.map_nil]); first | done | rfl | (simp only [List.length_drop, List.length_take]; rfl)) ?_; with_reducible refine (spec_l01Free.calls g0 s0_0 s0_1 s0_2 t174 t175 true _ ?side1 A7.out).mono ?_; (case side1 => exact (pk BK0))
       rintro e w20 ⟨rfl, hb⟩
       refine ⟨_, rfl, ?_⟩; have n0_ := bkb BK0 hb; have n1_ := bkb BK176 hb; have n2_ := bst HB hb; clear BK0; clear BK176; clear HB; have BK0 := n0_; have BK176 := n1_; have HB := n2_; clear n0_ n1_ n2_; (try clear hb); (try clear hb2); (try clear hk); (try clear hi); have q21 : ((ji9) : Int) ≤ ((l1.length : Int) : Int) := of_decide_eq_true (by first | (with_reducible assumption) | assumption); obtain ⟨i021, hi021, _, hsz21, _⟩ := info_parts info55; have hroom21 : l1.length ≤ c1 := HC1.out; have hC21 : Kd.C k55 _ (some ad173) l1.length l1 := HR1.out; have hcut21 := cut_to (P := Try.prog) 30 55 .i64 Try.underlying30 hi021 (some ad173) l1.length c1 (ji9) (of_decide_eq_true (by first | (with_reducible assumption) | assumption)) q21 hroom21; have hr21 := Kd.C_take (m := ((ji9) : Int).toNat) hC21 (by omega); have hy21 : y178.length = ((ji9) : Int).toNat := (by rw [Ny178.out, List.length_take]; omega); rw [← Ny178.out] at hr21; rw [← hy21] at hcut21; have HR181 := Aside0.mk hr21; have HC181 := Aside0.mk (show y178.length ≤ c1 from by omega); clear hr21 hC21 hroom21 hi021 hsz21; have KY21 := Aside0.mk hy21; clear hy21; replace q21 := eq_true q21; refine hK.out _ _ ⟨(blk_cell BK176.out 0).trans rfl, (blk_cell BK176.out 1).trans rfl⟩ (fun hHeld => ?_); clear hK K; refine norm_ (a' := ?_) ?_ ?_; rotate_left
       ·show Act.put _ (some 21) _ = _
        simp only [Act.put, List.setIfInBounds_toArray, List.set_cons_zero, List.set_cons_succ, i64_w, i32_w]; rfl
       refine pure_ (i := 3) (N := some 22) (v := ?_) (a' := ?_) #[true, true, true, true, false, false, false, false, false, false, false] rfl rfl (any_of HT_.out (by kernel_rfl)) (fun _ _ _ h => h) (Or.inl ⟨by rfl, ?_⟩) ?_ ?_; rotate_left
       ·intro w'
        go_simp; with_reducible rfl
       rotate_left
       ·simp only [Act.put, List.setIfInBounds_toArray, List.set_cons_zero, List.set_cons_succ, i64_w, i32_w]
        rfl
       refine pure_ (i := 4) (N := some 23) (v := ?_) (a' := ?_) #[true, true, true, true, true, false, false, false, false, false, false] rfl rfl (any_of HT_.out (by kernel_rfl)) (fun _ _ _ h => h) (Or.inl ⟨by rfl, ?_⟩) ?_ ?_; rotate_left
       ·intro w'
        go_simp; with_reducible rfl
       rotate_left
       ·simp only [Act.put, List.setIfInBounds_toArray, List.set_cons_zero, List.set_cons_succ, i64_w, i32_w]
        rfl
       refine pure_ (i := 5) (N := some 24) (v := ?_) (a' := ?_) #[true, true, true, true, true, true, false, false, false, false, false] rfl rfl (any_of HT_.out (by kernel_rfl)) (fun _ _ _ h => h) (Or.inl ⟨by rfl, ?_⟩) ?_ ?_; rotate_left
       ·intro w'
        go_simp; with_reducible rfl
       rotate_left
       ·simp only [Act.put, List.setIfInBounds_toArray, List.set_cons_zero, List.set_cons_succ, i64_w, i32_w]
        rfl
       refine pure_ (i := 6) (N := some 25) (v := ?_) (a' := ?_) #[true, true, true, true, true, true, true, false, false, false, false] rfl rfl (any_of HT_.out (by kernel_rfl)) (fun _ _ _ h => h) (Or.inl ⟨by rfl, ?_⟩) ?_ ?_; rotate_left
       ·intro w'
        go_simp; with_reducible rfl
       rotate_left
       ·simp only [Act.put, List.setIfInBounds_toArray, List.set_cons_zero, List.set_cons_succ, i64_w, i32_w]
        rfl
       refine pure_ (i := 7) (N := some 26) (v := ?_) (a' := ?_) #[true, true, true, true, true, true, true, true, false, false, false] rfl rfl (any_of HT_.out (by kernel_rfl)) (fun _ _ _ h => h) (Or.inl ⟨by rfl, ?_⟩) ?_ ?_; rotate_left
       ·intro w'
        go_simp; with_reducible rfl
       rotate_left
       ·simp only [Act.put, List.setIfInBounds_toArray, List.set_cons_zero, List.set_cons_succ, i64_w, i32_w]
        rfl
       refine take_ (i := 8) (N := some 27) (v := ?_) (a' := ?_) #[true, true, true, true, true, true, true, true, true, false, false] rfl rfl (take_ofW HT_.out HW_.out (by kernel_rfl)) (fun _ _ _ h => h) (Or.inl ⟨by rfl, ?_⟩) hHeld ?_ ?_; rotate_left
       ·rintro w' ⟨s0, s1⟩
        go_simp; with_reducible rfl
       rotate_left
       ·simp only [Act.put, List.setIfInBounds_toArray, List.set_cons_zero, List.set_cons_succ, i64_w, i32_w]
        rfl
       refine one_ (i := 9) (N := some 28) #[true, true, true, true, true, true, true, true, true, true, false] rfl rfl (one_of HT_.out (by kernel_rfl)) (by decide) (fun K hK => ?_); refine goes_ Try.func68 (by kernel_rfl) rfl #[.slice (some ad173) y178.length c1, .agg #[.int .i8 t174, .int .i8 t175]] (by rfl) rfl rfl (by (try simp only [List.map_toArray, List.map_cons, List.map_nil]); first | done | rfl | (simp only [List.length_drop, List.length_take]; rfl)) ?_; with_reducible refine (spec_l01Has.calls k _ _ y178 t174 t175 true _ ?side1 ?side2 A12.out).mono ?_; (case side1 => repeat (first | exact (Kd.C_below HR181.out HB.out) | (with_reducible refine Kd.C_alloc ?_ _) | (with_reducible refine Kd.C_drewN ?_ _) | (with_reducible refine Kd.C_drew ?_))); (case side2 => exact HC181.out)
       rintro e w22 ⟨rfl, hb⟩
       refine ⟨_, rfl, ?_⟩; have n0_ := bkb BK0 hb; have n1_ := bkb BK176 hb; have n2_ := bst HB hb; clear BK0; clear BK176; clear HB; have BK0 := n0_; have BK176 := n1_; have HB := n2_; clear n0_ n1_ n2_; (try clear hb); (try clear hb2); (try clear hk); (try clear hi); refine hK.out _ _ ⟨(blk_cell BK176.out 0).trans rfl, (blk_cell BK176.out 1).trans rfl⟩ (fun hHeld => ?_); clear hK K; refine norm_ (a' := ?_) ?_ ?_; rotate_left
       ·show Act.put _ (some 28) _ = _
        simp only [Act.put, List.setIfInBounds_toArray, List.set_cons_zero, List.set_cons_succ, i64_w, i32_w]; rfl
       refine pure_ (i := 10) (N := some 29) (v := ?_) (a' := ?_) #[true, true, true, true, true, true, true, true, true, true, true] rfl rfl (any_of HT_.out (by kernel_rfl)) (fun _ _ _ h => h) (Or.inl ⟨by rfl, ?_⟩) ?_ ?_; rotate_left
       ·intro w'
        go_simp; with_reducible rfl
       rotate_left
       ·simp only [Act.put, List.setIfInBounds_toArray, List.set_cons_zero, List.set_cons_succ, i64_w, i32_w]
        rfl
       refine done_ (done_of HT_.out (by kernel_rfl)) ?_
       try go_wp2
       go_ret
       exact ⟨by first | rfl | (simp [errW_none, errW_some] <;> rfl) | (simp only [← hji9]; first | rfl | (simp [errW_none, errW_some] <;> rfl)) | (simp [*, errW_none, errW_some] <;> rfl), pbs HB⟩
      ·replace c13 := Bool.eq_false_iff.mpr c13
       subst c13
       have H1 : (if (l1.length : Int) = 2 then (if (ji9) < (l1.length : Int) then (some (!(((rd_T55 l1 (ji9)).f0) == t174) || (!(((rd_T55 l1 (ji9)).f1) == t175)))) else (none)) else (some true)) = some r := by rw [if_neg (show ¬ (false = true) by decide)] at H; exact H
       clear H; have H := H1; clear H1
       by_cases c23 : (l1.length : Int) = 2
       ·rw [if_pos c23] at H
        have c23b0 : ((l1.length : Int) == 2) = true := beq_iff_eq.mpr c23; have c23b1 : ((l1.length : Int) != 2) = false := bne_eq_false_iff_eq.mpr c23; clear c23
        by_cases c24 : (ji9) < (l1.length : Int)
        ·rw [if_pos c24] at H
         have c24b0 : decide ((ji9) < (l1.length : Int)) = true := decide_eq_true c24; clear c24; obtain rfl := Option.some.inj H; have p173 : 0 ≤ (0 : Int) := (by omega); have q173 : 0 < (l1.length : Int) := of_decide_eq_true (by first | (with_reducible assumption) | assumption); obtain ⟨ad173, e173, hx173_0, hx173_1⟩ := at_T55 HR1.out 0 p173 q173; cases e173; have qi173 : (0 < l1.length) = True := eq_true (by omega); (try rw [show ((0 : Int)).toNat = 0 from rfl] at hx173_0); (try rw [show 0 * 2 = 0 from rfl] at hx173_0); (try rw [Addr.add_zero'] at hx173_0); (try rw [show ((0 : Int)).toNat = 0 from rfl] at hx173_1); (try rw [show 0 * 2 = 0 from rfl] at hx173_1); (try rw [Addr.add_zero'] at hx173_1); replace p173 := eq_true p173; replace q173 := eq_true q173
         go_enter Try.func47, Try.ntmps47
         try go_wp2_with (first | ((with_reducible refine gate_callee (f := 78) rfl ?_); refine goesL_ (some 15) rfl rfl Try.func78 (by kernel_rfl) rfl #[.agg #[.int .i8 ((rd_T55 l1 0).f0), .int .i8 ((rd_T55 l1 0).f1)], .int .i64 a2] rfl (by (try simp only [List.map_toArray, List.map_cons, List.map_nil]); first | done | rfl | (simp only [List.length_drop, List.length_take]; rfl)) ?_; (with_reducible refine (spec_l01Next.calls ((rd_T55 l1 0).f0) ((rd_T55 l1 0).f1) a2 t174 t175 _ A6.out).mono ?_); rintro e w25 ⟨rfl, hb⟩; refine ⟨_, rfl, ?_⟩; have n0_ := bkb BK0 hb; have n1_ := bst HB hb; clear BK0; clear HB; have BK0 := n0_; have HB := n1_; clear n0_ n1_; (try clear hb); (try clear hb2); (try clear hk); (try clear hi)) | ((with_reducible refine gate_dst (N := 7) rfl ?_); refine box_event ?hg (N := 7) ?hd (cs := #[.int .i8 0, .int .i8 0]) (t := 55) ?hr ?_; (case hd => rfl); (case hg => rfl); (case hr => first | (go_simp; done) | (go_simp; rfl)); intro gb176 hg w26 hbox hb; have n0_ := bkb BK0 hb; have n1_ := bst HB hb; have n2_ := Aside0.mk (hbox); have n3_ := gwl HB hg; have n4_ := gwl HB hg; have n5_ := nbl BK0 hg; have n6_ := nbg BK0 hg; clear BK0; clear HB; have BK0 := n0_; have HB := n1_; have BK176 := n2_; have GW176 := n3_; have GE176 := n4_; have NB0_176 := n5_; have NB176_0 := n6_; clear n0_ n1_ n2_ n3_ n4_ n5_ n6_; clear hb hbox hg; have hnb27 := NB176_0.out; have hnc27 := NB0_176.out; have hcz28_0 : w26.cell? ⟨gb176, 0, none⟩ = some (.int .i8 0) := (blk_cell BK176.out 0).trans rfl; have hcz28_1 : w26.cell? ⟨gb176, 1, none⟩ = some (.int .i8 0) := (blk_cell BK176.out 1).trans rfl; have hfz28_0 := blk_frozen BK176.out 0; have hfz28_1 := blk_frozen BK176.out 1))
         have n0_ : Aside0 (((w26.setCell ⟨gb176, 0, none⟩ (.int .i8 t174)).setCell ⟨gb176, 1, none⟩ (.int .i8 t175)).heap[g0]? = some (.cells (mixA (Value.int .u16) [.int .i8 s0_0, .int .i8 s0_1] s0_2) 33 (0, 0))) := ⟨by (with_reducible repeat (first | refine blk_drewN ?_ _ | refine blk_drew ?_ | refine blk_alloc ?_ _)); refine blk_far ?_ NB0_176.out _; (with_reducible repeat (first | refine blk_drewN ?_ _ | refine blk_drew ?_ | refine blk_alloc ?_ _)); refine blk_far ?_ NB0_176.out _; (with_reducible repeat (first | refine blk_drewN ?_ _ | refine blk_drew ?_ | refine blk_alloc ?_ _)); exact BK0.out⟩; have n1_ : Aside0 (((w26.setCell ⟨gb176, 0, none⟩ (.int .i8 t174)).setCell ⟨gb176, 1, none⟩ (.int .i8 t175)).heap[gb176]? = some (.cells #[.int .i8 t174, .int .i8 t175] 55 (0, 0))) := ⟨by (with_reducible repeat (first | refine blk_drewN ?_ _ | refine blk_drew ?_ | refine blk_alloc ?_ _)); refine blk_put (cs := #[.int .i8 t174, .int .i8 0]) ?_ 1 _ rfl; (with_reducible repeat (first | refine blk_drewN ?_ _ | refine blk_drew ?_ | refine blk_alloc ?_ _)); refine blk_put (cs := #[.int .i8 0, .int .i8 0]) ?_ 0 _ rfl; (with_reducible repeat (first | refine blk_drewN ?_ _ | refine blk_drew ?_ | refine blk_alloc ?_ _)); exact BK176.out⟩; have n2_ : Aside0 (Below w.heap.size w ((w26.setCell ⟨gb176, 0, none⟩ (.int .i8 t174)).setCell ⟨gb176, 1, none⟩ (.int .i8 t175))) := ⟨pbs HB⟩; (try clear BK0); (try clear BK176); (try clear HB); generalize ((w26.setCell ⟨gb176, 0, none⟩ (.int .i8 t174)).setCell ⟨gb176, 1, none⟩ (.int .i8 t175)) = w29 at n0_ n1_ n2_ ⊢; have BK0 := n0_; have BK176 := n1_; have HB := n2_; clear n0_ n1_ n2_; have n0_ := Aside0.mk (blk_drew BK0.out); have n1_ := Aside0.mk (blk_drew BK176.out); have n2_ := Aside0.mk (below_drew1 HB.out); clear BK0; clear BK176; clear HB; have BK0 := n0_; have BK176 := n1_; have HB := n2_; clear n0_ n1_ n2_
         refine start_ (n := 11) (S := fun w' => w'.cell? ⟨gb176, 0, none⟩ = some (.int .i8 t174) ∧ w'.cell? ⟨gb176, 1, none⟩ = some (.int .i8 t175)) (ds := []) #[false, false, false, false, false, false, false, false, false, false, false] (by kernel_rfl) rfl rfl ⟨(blk_cell BK176.out 0).trans rfl, (blk_cell BK176.out 1).trans rfl⟩ (fun hHeld => ?_); refine with_tabW spec_l02Can.tab5 spec_l02Can.bits5 (fun HT_ HW_ => ?_)
         generalize w29.drew = w30 at BK0 BK176 HB hHeld ⊢; refine pure_ (i := 0) (N := some 19) (v := ?_) (a' := ?_) #[true, false, false, false, false, false, false, false, false, false, false] rfl rfl (any_of HT_.out (by kernel_rfl)) (fun _ _ _ h => h) (Or.inl ⟨by rfl, ?_⟩) ?_ ?_; rotate_left
         ·intro w'
          go_simp; with_reducible rfl
         rotate_left
         ·simp only [Act.put, List.setIfInBounds_toArray, List.set_cons_zero, List.set_cons_succ, i64_w, i32_w]
          rfl
         refine take_ (i := 1) (N := some 20) (v := ?_) (a' := ?_) #[true, true, false, false, false, false, false, false, false, false, false] rfl rfl (take_ofW HT_.out HW_.out (by kernel_rfl)) (fun _ _ _ h => h) (Or.inl ⟨by rfl, ?_⟩) hHeld ?_ ?_; rotate_left
         ·rintro w' ⟨s0, s1⟩
          go_simp; with_reducible rfl
         rotate_left
         ·simp only [Act.put, List.setIfInBounds_toArray, List.set_cons_zero, List.set_cons_succ, i64_w, i32_w]
          rfl
         refine one_ (i := 2) (N := some 21) #[true, true, true, false, false, false, false, false, false, false, false] rfl rfl (one_of HT_.out (by kernel_rfl)) (by decide) (fun K hK => ?_); refine goes_ Try.func62 (by kernel_rfl) rfl #[.pointer (some ⟨g0, 0, none⟩), .agg #[.int .i8 t174, .int .i8 t175]] (by rfl) rfl rfl (by (try simp only [List.map_toArray, List.map_cons, List.map_nil]); first | done | rfl | (simp only [List.length_drop, List.length_take]; rfl)) ?_; with_reducible refine (spec_l01Free.calls g0 s0_0 s0_1 s0_2 t174 t175 true _ ?side1 A7.out).mono ?_; (case side1 => exact (pk BK0))
         rintro e w31 ⟨rfl, hb⟩
         refine ⟨_, rfl, ?_⟩; have n0_ := bkb BK0 hb; have n1_ := bkb BK176 hb; have n2_ := bst HB hb; clear BK0; clear BK176; clear HB; have BK0 := n0_; have BK176 := n1_; have HB := n2_; clear n0_ n1_ n2_; (try clear hb); (try clear hb2); (try clear hk); (try clear hi); have q32 : ((ji9) : Int) ≤ ((l1.length : Int) : Int) := of_decide_eq_true (by first | (with_reducible assumption) | assumption); obtain ⟨i032, hi032, _, hsz32, _⟩ := info_parts info55; have hroom32 : l1.length ≤ c1 := HC1.out; have hC32 : Kd.C k55 _ (some ad173) l1.length l1 := HR1.out; have hcut32 := cut_to (P := Try.prog) 30 55 .i64 Try.underlying30 hi032 (some ad173) l1.length c1 (ji9) (of_decide_eq_true (by first | (with_reducible assumption) | assumption)) q32 hroom32; have hr32 := Kd.C_take (m := ((ji9) : Int).toNat) hC32 (by omega); have hy32 : y178.length = ((ji9) : Int).toNat := (by rw [Ny178.out, List.length_take]; omega); rw [← Ny178.out] at hr32; rw [← hy32] at hcut32; have HR181 := Aside0.mk hr32; have HC181 := Aside0.mk (show y178.length ≤ c1 from by omega); clear hr32 hC32 hroom32 hi032 hsz32; have KY32 := Aside0.mk hy32; clear hy32; replace q32 := eq_true q32; refine hK.out _ _ ⟨(blk_cell BK176.out 0).trans rfl, (blk_cell BK176.out 1).trans rfl⟩ (fun hHeld => ?_); clear hK K; refine norm_ (a' := ?_) ?_ ?_; rotate_left
         ·show Act.put _ (some 21) _ = _
          simp only [Act.put, List.setIfInBounds_toArray, List.set_cons_zero, List.set_cons_succ, i64_w, i32_w]; rfl
         refine pure_ (i := 3) (N := some 22) (v := ?_) (a' := ?_) #[true, true, true, true, false, false, false, false, false, false, false] rfl rfl (any_of HT_.out (by kernel_rfl)) (fun _ _ _ h => h) (Or.inl ⟨by rfl, ?_⟩) ?_ ?_; rotate_left
         ·intro w'
          go_simp; with_reducible rfl
         rotate_left
         ·simp only [Act.put, List.setIfInBounds_toArray, List.set_cons_zero, List.set_cons_succ, i64_w, i32_w]
          rfl
         refine pure_ (i := 4) (N := some 23) (v := ?_) (a' := ?_) #[true, true, true, true, true, false, false, false, false, false, false] rfl rfl (any_of HT_.out (by kernel_rfl)) (fun _ _ _ h => h) (Or.inl ⟨by rfl, ?_⟩) ?_ ?_; rotate_left
         ·intro w'
          go_simp; with_reducible rfl
         rotate_left
         ·simp only [Act.put, List.setIfInBounds_toArray, List.set_cons_zero, List.set_cons_succ, i64_w, i32_w]
          rfl
         refine pure_ (i := 5) (N := some 24) (v := ?_) (a' := ?_) #[true, true, true, true, true, true, false, false, false, false, false] rfl rfl (any_of HT_.out (by kernel_rfl)) (fun _ _ _ h => h) (Or.inl ⟨by rfl, ?_⟩) ?_ ?_; rotate_left
         ·intro w'
          go_simp; with_reducible rfl
         rotate_left
         ·simp only [Act.put, List.setIfInBounds_toArray, List.set_cons_zero, List.set_cons_succ, i64_w, i32_w]
          rfl
         refine pure_ (i := 6) (N := some 25) (v := ?_) (a' := ?_) #[true, true, true, true, true, true, true, false, false, false, false] rfl rfl (any_of HT_.out (by kernel_rfl)) (fun _ _ _ h => h) (Or.inl ⟨by rfl, ?_⟩) ?_ ?_; rotate_left
         ·intro w'
          go_simp; with_reducible rfl
         rotate_left
         ·simp only [Act.put, List.setIfInBounds_toArray, List.set_cons_zero, List.set_cons_succ, i64_w, i32_w]
          rfl
         refine pure_ (i := 7) (N := some 26) (v := ?_) (a' := ?_) #[true, true, true, true, true, true, true, true, false, false, false] rfl rfl (any_of HT_.out (by kernel_rfl)) (fun _ _ _ h => h) (Or.inl ⟨by rfl, ?_⟩) ?_ ?_; rotate_left
         ·intro w'
          go_simp; with_reducible rfl
         rotate_left
         ·simp only [Act.put, List.setIfInBounds_toArray, List.set_cons_zero, List.set_cons_succ, i64_w, i32_w]
          rfl
         refine take_ (i := 8) (N := some 27) (v := ?_) (a' := ?_) #[true, true, true, true, true, true, true, true, true, false, false] rfl rfl (take_ofW HT_.out HW_.out (by kernel_rfl)) (fun _ _ _ h => h) (Or.inl ⟨by rfl, ?_⟩) hHeld ?_ ?_; rotate_left
         ·rintro w' ⟨s0, s1⟩
          go_simp; with_reducible rfl
         rotate_left
         ·simp only [Act.put, List.setIfInBounds_toArray, List.set_cons_zero, List.set_cons_succ, i64_w, i32_w]
          rfl
         refine one_ (i := 9) (N := some 28) #[true, true, true, true, true, true, true, true, true, true, false] rfl rfl (one_of HT_.out (by kernel_rfl)) (by decide) (fun K hK => ?_); refine goes_ Try.func68 (by kernel_rfl) rfl #[.slice (some ad173) y178.length c1, .agg #[.int .i8 t174, .int .i8 t175]] (by rfl) rfl rfl (by (try simp only [List.map_toArray, List.map_cons, List.map_nil]); first | done | rfl | (simp only [List.length_drop, List.length_take]; rfl)) ?_; with_reducible refine (spec_l01Has.calls k _ _ y178 t174 t175 false _ ?side1 ?side2 A12.out).mono ?_; (case side1 => repeat (first | exact (Kd.C_below HR181.out HB.out) | (with_reducible refine Kd.C_alloc ?_ _) | (with_reducible refine Kd.C_drewN ?_ _) | (with_reducible refine Kd.C_drew ?_))); (case side2 => exact HC181.out)
         rintro e w33 ⟨rfl, hb⟩
         refine ⟨_, rfl, ?_⟩; have n0_ := bkb BK0 hb; have n1_ := bkb BK176 hb; have n2_ := bst HB hb; clear BK0; clear BK176; clear HB; have BK0 := n0_; have BK176 := n1_; have HB := n2_; clear n0_ n1_ n2_; (try clear hb); (try clear hb2); (try clear hk); (try clear hi); refine hK.out _ _ ⟨(blk_cell BK176.out 0).trans rfl, (blk_cell BK176.out 1).trans rfl⟩ (fun hHeld => ?_); clear hK K; refine norm_ (a' := ?_) ?_ ?_; rotate_left
         ·show Act.put _ (some 28) _ = _
          simp only [Act.put, List.setIfInBounds_toArray, List.set_cons_zero, List.set_cons_succ, i64_w, i32_w]; rfl
         refine pure_ (i := 10) (N := some 29) (v := ?_) (a' := ?_) #[true, true, true, true, true, true, true, true, true, true, true] rfl rfl (any_of HT_.out (by kernel_rfl)) (fun _ _ _ h => h) (Or.inl ⟨by rfl, ?_⟩) ?_ ?_; rotate_left
         ·intro w'
          go_simp; with_reducible rfl
         rotate_left
         ·simp only [Act.put, List.setIfInBounds_toArray, List.set_cons_zero, List.set_cons_succ, i64_w, i32_w]
          rfl
         refine done_ (done_of HT_.out (by kernel_rfl)) ?_
         try go_wp2
         have n0_ := Aside0.mk (blk_drew BK0.out); have n1_ := Aside0.mk (blk_drew BK176.out); have n2_ := Aside0.mk (below_drew1 HB.out); clear BK0; clear BK176; clear HB; have BK0 := n0_; have BK176 := n1_; have HB := n2_; clear n0_ n1_ n2_; have p183 : 0 ≤ ((ji9) : Int) := of_decide_eq_true (by first | (with_reducible assumption) | assumption); have q183 : (ji9) < (l1.length : Int) := of_decide_eq_true (by first | (with_reducible assumption) | assumption); obtain ⟨ad183, e183, hx183_0, hx183_1⟩ := at_T55 HR1.out (ji9) p183 q183; have hw183_1 := hx183_1; have hw183_0 := hx183_0; obtain rfl : ad173 = ad183 := (by injection e183)
         try replace hx183_0 := (HB.out.cell (World.block_lt_of_cell? w _ hx183_0)).trans hx183_0
         try replace hx183_1 := (HB.out.cell (World.block_lt_of_cell? w _ hx183_1)).trans hx183_1
         replace p183 := eq_true p183; replace q183 := eq_true q183
         refine start_ (n := 12) (S := fun w' => w'.cell? ⟨gb176, 0, none⟩ = some (.int .i8 t174) ∧ w'.cell? ⟨gb176, 1, none⟩ = some (.int .i8 t175) ∧ w'.cell? (ad173.add (((ji9)).toNat * 2)) = some (.int .i8 ((rd_T55 l1 (ji9)).f0)) ∧ w'.cell? ⟨(ad173.add (((ji9)).toNat * 2)).block, (ad173.add (((ji9)).toNat * 2)).off + 1, none⟩ = some (.int .i8 ((rd_T55 l1 (ji9)).f1))) (ds := []) #[false, false, false, false, false, false, false, false, false, false, false, false] (by kernel_rfl) rfl rfl ⟨(blk_cell BK176.out 0).trans rfl, (blk_cell BK176.out 1).trans rfl, ((HB.out.cell (World.block_lt_of_cell? w _ hw183_0)).trans hw183_0), ((HB.out.cell (World.block_lt_of_cell? w _ hw183_1)).trans hw183_1)⟩ (fun hHeld => ?_); refine with_tabW spec_l02Can.tab7 spec_l02Can.bits7 (fun HT_ HW_ => ?_)
         generalize w33.drew = w34 at BK0 BK176 HB hx183_0 hx183_1 hHeld ⊢; refine pure_ (i := 0) (N := some 30) (v := ?_) (a' := ?_) #[true, false, false, false, false, false, false, false, false, false, false, false] rfl rfl (any_of HT_.out (by kernel_rfl)) (fun _ _ _ h => h) (Or.inl ⟨by rfl, ?_⟩) ?_ ?_; rotate_left
         ·intro w'
          go_simp; with_reducible rfl
         rotate_left
         ·simp only [Act.put, List.setIfInBounds_toArray, List.set_cons_zero, List.set_cons_succ, i64_w, i32_w]
          rfl
         refine pure_ (i := 1) (N := some 31) (v := ?_) (a' := ?_) #[true, true, false, false, false, false, false, false, false, false, false, false] rfl rfl (any_of HT_.out (by kernel_rfl)) (fun _ _ _ h => h) (Or.inl ⟨by rfl, ?_⟩) ?_ ?_; rotate_left
         ·intro w'
          go_simp; with_reducible rfl
         rotate_left
         ·simp only [Act.put, List.setIfInBounds_toArray, List.set_cons_zero, List.set_cons_succ, i64_w, i32_w]
          rfl
         refine pure_ (i := 2) (N := some 32) (v := ?_) (a' := ?_) #[true, true, true, false, false, false, false, false, false, false, false, false] rfl rfl (any_of HT_.out (by kernel_rfl)) (fun _ _ _ h => h) (Or.inl ⟨by rfl, ?_⟩) ?_ ?_; rotate_left
         ·intro w'
          go_simp; with_reducible rfl
         rotate_left
         ·simp only [Act.put, List.setIfInBounds_toArray, List.set_cons_zero, List.set_cons_succ, i64_w, i32_w]
          rfl
         refine pure_ (i := 3) (N := some 33) (v := ?_) (a' := ?_) #[true, true, true, true, false, false, false, false, false, false, false, false] rfl rfl (any_of HT_.out (by kernel_rfl)) (fun _ _ _ h => h) (Or.inl ⟨by rfl, ?_⟩) ?_ ?_; rotate_left
         ·intro w'
          go_simp; with_reducible rfl
         rotate_left
         ·simp only [Act.put, List.setIfInBounds_toArray, List.set_cons_zero, List.set_cons_succ, i64_w, i32_w]
          rfl
         refine pure_ (i := 4) (N := some 34) (v := ?_) (a' := ?_) #[true, true, true, true, true, false, false, false, false, false, false, false] rfl rfl (any_of HT_.out (by kernel_rfl)) (fun _ _ _ h => h) (Or.inl ⟨by rfl, ?_⟩) ?_ ?_; rotate_left
         ·intro w'
          go_simp; with_reducible rfl
         rotate_left
         ·simp only [Act.put, List.setIfInBounds_toArray, List.set_cons_zero, List.set_cons_succ, i64_w, i32_w]
          rfl
         refine pure_ (i := 5) (N := some 35) (v := ?_) (a' := ?_) #[true, true, true, true, true, true, false, false, false, false, false, false] rfl rfl (any_of HT_.out (by kernel_rfl)) (fun _ _ _ h => h) (Or.inl ⟨by rfl, ?_⟩) ?_ ?_; rotate_left
         ·intro w'
          go_simp; with_reducible rfl
         rotate_left
         ·simp only [Act.put, List.setIfInBounds_toArray, List.set_cons_zero, List.set_cons_succ, i64_w, i32_w]
          rfl
         refine pure_ (i := 6) (N := some 36) (v := ?_) (a' := ?_) #[true, true, true, true, true, true, true, false, false, false, false, false] rfl rfl (any_of HT_.out (by kernel_rfl)) (fun _ _ _ h => h) (Or.inl ⟨by rfl, ?_⟩) ?_ ?_; rotate_left
         ·intro w'
          go_simp; with_reducible rfl
         rotate_left
         ·simp only [Act.put, List.setIfInBounds_toArray, List.set_cons_zero, List.set_cons_succ, i64_w, i32_w]
          rfl
         refine take_ (i := 7) (N := some 37) (v := ?_) (a' := ?_) #[true, true, true, true, true, true, true, true, false, false, false, false] rfl rfl (take_ofW HT_.out HW_.out (by kernel_rfl)) (fun _ _ _ h => h) (Or.inl ⟨by rfl, ?_⟩) hHeld ?_ ?_; rotate_left
         ·rintro w' ⟨s0, s1, s2, s3⟩
          go_simp; with_reducible rfl
         rotate_left
         ·simp only [Act.put, List.setIfInBounds_toArray, List.set_cons_zero, List.set_cons_succ, i64_w, i32_w]
          rfl
         refine take_ (i := 8) (N := some 38) (v := ?_) (a' := ?_) #[true, true, true, true, true, true, true, true, true, false, false, false] rfl rfl (take_ofW HT_.out HW_.out (by kernel_rfl)) (fun _ _ _ h => h) (Or.inl ⟨by rfl, ?_⟩) hHeld ?_ ?_; rotate_left
         ·rintro w' ⟨s0, s1, s2, s3⟩
          go_simp; with_reducible rfl
         rotate_left
         ·simp only [Act.put, List.setIfInBounds_toArray, List.set_cons_zero, List.set_cons_succ, i64_w, i32_w]
          rfl
         refine pure_ (i := 9) (N := some 39) (v := ?_) (a' := ?_) #[true, true, true, true, true, true, true, true, true, true, false, false] rfl rfl (any_of HT_.out (by kernel_rfl)) (fun _ _ _ h => h) (Or.inl ⟨by rfl, ?_⟩) ?_ ?_; rotate_left
         ·intro w'
          go_simp; with_reducible rfl
         rotate_left
         ·simp only [Act.put, List.setIfInBounds_toArray, List.set_cons_zero, List.set_cons_succ, i64_w, i32_w]
          rfl
         refine pure_ (i := 10) (N := some 40) (v := ?_) (a' := ?_) #[true, true, true, true, true, true, true, true, true, true, true, false] rfl rfl (any_of HT_.out (by kernel_rfl)) (fun _ _ _ h => h) (Or.inl ⟨by rfl, ?_⟩) ?_ ?_; rotate_left
         ·intro w'
          go_simp; with_reducible rfl
         rotate_left
         ·simp only [Act.put, List.setIfInBounds_toArray, List.set_cons_zero, List.set_cons_succ, i64_w, i32_w]
          rfl
         refine pure_ (i := 11) (N := some 6) (v := ?_) (a' := ?_) #[true, true, true, true, true, true, true, true, true, true, true, true] rfl rfl (any_of HT_.out (by kernel_rfl)) (fun _ _ _ h => h) (Or.inl ⟨by rfl, ?_⟩) ?_ ?_; rotate_left
         ·intro w'
          go_simp; with_reducible rfl
         rotate_left
         ·simp only [Act.put, List.setIfInBounds_toArray, List.set_cons_zero, List.set_cons_succ, i64_w, i32_w]
          rfl
         refine done_ (done_of HT_.out (by kernel_rfl)) ?_
         try go_wp2
         go_ret
         exact ⟨by first | rfl | (simp [errW_none, errW_some] <;> rfl) | (simp only [← hji9]; first | rfl | (simp [errW_none, errW_some] <;> rfl)) | (simp [*, errW_none, errW_some] <;> rfl), pbs HB⟩
        ·rw [if_neg c24] at H
         exact absurd H (by simp)
       ·rw [if_neg c23] at H
        have c23b0 : ((l1.length : Int) == 2) = false := beq_eq_false_iff_ne.mpr c23; have c23b1 : ((l1.length : Int) != 2) = true := bne_iff_ne.mpr c23; obtain rfl := Option.some.inj H; have p173 : 0 ≤ (0 : Int) := (by omega); have q173 : 0 < (l1.length : Int) := of_decide_eq_true (by first | (with_reducible assumption) | assumption); obtain ⟨ad173, e173, hx173_0, hx173_1⟩ := at_T55 HR1.out 0 p173 q173; cases e173; have qi173 : (0 < l1.length) = True := eq_true (by omega); (try rw [show ((0 : Int)).toNat = 0 from rfl] at hx173_0); (try rw [show 0 * 2 = 0 from rfl] at hx173_0); (try rw [Addr.add_zero'] at hx173_0); (try rw [show ((0 : Int)).toNat = 0 from rfl] at hx173_1); (try rw [show 0 * 2 = 0 from rfl] at hx173_1); (try rw [Addr.add_zero'] at hx173_1); replace p173 := eq_true p173; replace q173 := eq_true q173
        go_enter Try.func47, Try.ntmps47
        try go_wp2_with (first | ((with_reducible refine gate_callee (f := 78) rfl ?_); refine goesL_ (some 15) rfl rfl Try.func78 (by kernel_rfl) rfl #[.agg #[.int .i8 ((rd_T55 l1 0).f0), .int .i8 ((rd_T55 l1 0).f1)], .int .i64 a2] rfl (by (try simp only [List.map_toArray, List.map_cons, List.map_nil]); first | done | rfl | (simp only [List.length_drop, List.length_take]; rfl)) ?_; (with_reducible refine (spec_l01Next.calls ((rd_T55 l1 0).f0) ((rd_T55 l1 0).f1) a2 t174 t175 _ A6.out).mono ?_); rintro e w35 ⟨rfl, hb⟩; refine ⟨_, rfl, ?_⟩; have n0_ := bkb BK0 hb; have n1_ := bst HB hb; clear BK0; clear HB; have BK0 := n0_; have HB := n1_; clear n0_ n1_; (try clear hb); (try clear hb2); (try clear hk); (try clear hi)) | ((with_reducible refine gate_dst (N := 7) rfl ?_); refine box_event ?hg (N := 7) ?hd (cs := #[.int .i8 0, .int .i8 0]) (t := 55) ?hr ?_; (case hd => rfl); (case hg => rfl); (case hr => first | (go_simp; done) | (go_simp; rfl)); intro gb176 hg w36 hbox hb; have n0_ := bkb BK0 hb; have n1_ := bst HB hb; have n2_ := Aside0.mk (hbox); have n3_ := gwl HB hg; have n4_ := gwl HB hg; have n5_ := nbl BK0 hg; have n6_ := nbg BK0 hg; clear BK0; clear HB; have BK0 := n0_; have HB := n1_; have BK176 := n2_; have GW176 := n3_; have GE176 := n4_; have NB0_176 := n5_; have NB176_0 := n6_; clear n0_ n1_ n2_ n3_ n4_ n5_ n6_; clear hb hbox hg; have hnb37 := NB176_0.out; have hnc37 := NB0_176.out; have hcz38_0 : w36.cell? ⟨gb176, 0, none⟩ = some (.int .i8 0) := (blk_cell BK176.out 0).trans rfl; have hcz38_1 : w36.cell? ⟨gb176, 1, none⟩ = some (.int .i8 0) := (blk_cell BK176.out 1).trans rfl; have hfz38_0 := blk_frozen BK176.out 0; have hfz38_1 := blk_frozen BK176.out 1))
        have n0_ : Aside0 (((w36.setCell ⟨gb176, 0, none⟩ (.int .i8 t174)).setCell ⟨gb176, 1, none⟩ (.int .i8 t175)).heap[g0]? = some (.cells (mixA (Value.int .u16) [.int .i8 s0_0, .int .i8 s0_1] s0_2) 33 (0, 0))) := ⟨by (with_reducible repeat (first | refine blk_drewN ?_ _ | refine blk_drew ?_ | refine blk_alloc ?_ _)); refine blk_far ?_ NB0_176.out _; (with_reducible repeat (first | refine blk_drewN ?_ _ | refine blk_drew ?_ | refine blk_alloc ?_ _)); refine blk_far ?_ NB0_176.out _; (with_reducible repeat (first | refine blk_drewN ?_ _ | refine blk_drew ?_ | refine blk_alloc ?_ _)); exact BK0.out⟩; have n1_ : Aside0 (((w36.setCell ⟨gb176, 0, none⟩ (.int .i8 t174)).setCell ⟨gb176, 1, none⟩ (.int .i8 t175)).heap[gb176]? = some (.cells #[.int .i8 t174, .int .i8 t175] 55 (0, 0))) := ⟨by (with_reducible repeat (first | refine blk_drewN ?_ _ | refine blk_drew ?_ | refine blk_alloc ?_ _)); refine blk_put (cs := #[.int .i8 t174, .int .i8 0]) ?_ 1 _ rfl; (with_reducible repeat (first | refine blk_drewN ?_ _ | refine blk_drew ?_ | refine blk_alloc ?_ _)); refine blk_put (cs := #[.int .i8 0, .int .i8 0]) ?_ 0 _ rfl; (with_reducible repeat (first | refine blk_drewN ?_ _ | refine blk_drew ?_ | refine blk_alloc ?_ _)); exact BK176.out⟩; have n2_ : Aside0 (Below w.heap.size w ((w36.setCell ⟨gb176, 0, none⟩ (.int .i8 t174)).setCell ⟨gb176, 1, none⟩ (.int .i8 t175))) := ⟨pbs HB⟩; (try clear BK0); (try clear BK176); (try clear HB); generalize ((w36.setCell ⟨gb176, 0, none⟩ (.int .i8 t174)).setCell ⟨gb176, 1, none⟩ (.int .i8 t175)) = w39 at n0_ n1_ n2_ ⊢; have BK0 := n0_; have BK176 := n1_; have HB := n2_; clear n0_ n1_ n2_; have n0_ := Aside0.mk (blk_drew BK0.out); have n1_ := Aside0.mk (blk_drew BK176.out); have n2_ := Aside0.mk (below_drew1 HB.out); clear BK0; clear BK176; clear HB; have BK0 := n0_; have BK176 := n1_; have HB := n2_; clear n0_ n1_ n2_
        refine start_ (n := 11) (S := fun w' => w'.cell? ⟨gb176, 0, none⟩ = some (.int .i8 t174) ∧ w'.cell? ⟨gb176, 1, none⟩ = some (.int .i8 t175)) (ds := []) #[false, false, false, false, false, false, false, false, false, false, false] (by kernel_rfl) rfl rfl ⟨(blk_cell BK176.out 0).trans rfl, (blk_cell BK176.out 1).trans rfl⟩ (fun hHeld => ?_); refine with_tabW spec_l02Can.tab5 spec_l02Can.bits5 (fun HT_ HW_ => ?_)
        generalize w39.drew = w40 at BK0 BK176 HB hHeld ⊢; refine pure_ (i := 0) (N := some 19) (v := ?_) (a' := ?_) #[true, false, false, false, false, false, false, false, false, false, false] rfl rfl (any_of HT_.out (by kernel_rfl)) (fun _ _ _ h => h) (Or.inl ⟨by rfl, ?_⟩) ?_ ?_; rotate_left
        ·intro w'
         go_simp; with_reducible rfl
        rotate_left
        ·simp only [Act.put, List.setIfInBounds_toArray, List.set_cons_zero, List.set_cons_succ, i64_w, i32_w]
         rfl
        refine take_ (i := 1) (N := some 20) (v := ?_) (a' := ?_) #[true, true, false, false, false, false, false, false, false, false, false] rfl rfl (take_ofW HT_.out HW_.out (by kernel_rfl)) (fun _ _ _ h => h) (Or.inl ⟨by rfl, ?_⟩) hHeld ?_ ?_; rotate_left
        ·rintro w' ⟨s0, s1⟩
         go_simp; with_reducible rfl
        rotate_left
        ·simp only [Act.put, List.setIfInBounds_toArray, List.set_cons_zero, List.set_cons_succ, i64_w, i32_w]
         rfl
        refine one_ (i := 2) (N := some 21) #[true, true, true, false, false, false, false, false, false, false, false] rfl rfl (one_of HT_.out (by kernel_rfl)) (by decide) (fun K hK => ?_); refine goes_ Try.func62 (by kernel_rfl) rfl #[.pointer (some ⟨g0, 0, none⟩), .agg #[.int .i8 t174, .int .i8 t175]] (by rfl) rfl rfl (by (try simp only [List.map_toArray, List.map_cons, List.map_nil]); first | done | rfl | (simp only [List.length_drop, List.length_take]; rfl)) ?_; with_reducible refine (spec_l01Free.calls g0 s0_0 s0_1 s0_2 t174 t175 true _ ?side1 A7.out).mono ?_; (case side1 => exact (pk BK0))
        rintro e w41 ⟨rfl, hb⟩
        refine ⟨_, rfl, ?_⟩; have n0_ := bkb BK0 hb; have n1_ := bkb BK176 hb; have n2_ := bst HB hb; clear BK0; clear BK176; clear HB; have BK0 := n0_; have BK176 := n1_; have HB := n2_; clear n0_ n1_ n2_; (try clear hb); (try clear hb2); (try clear hk); (try clear hi); have q42 : ((ji9) : Int) ≤ ((l1.length : Int) : Int) := of_decide_eq_true (by first | (with_reducible assumption) | assumption); obtain ⟨i042, hi042, _, hsz42, _⟩ := info_parts info55; have hroom42 : l1.length ≤ c1 := HC1.out; have hC42 : Kd.C k55 _ (some ad173) l1.length l1 := HR1.out; have hcut42 := cut_to (P := Try.prog) 30 55 .i64 Try.underlying30 hi042 (some ad173) l1.length c1 (ji9) (of_decide_eq_true (by first | (with_reducible assumption) | assumption)) q42 hroom42; have hr42 := Kd.C_take (m := ((ji9) : Int).toNat) hC42 (by omega); have hy42 : y178.length = ((ji9) : Int).toNat := (by rw [Ny178.out, List.length_take]; omega); rw [← Ny178.out] at hr42; rw [← hy42] at hcut42; have HR181 := Aside0.mk hr42; have HC181 := Aside0.mk (show y178.length ≤ c1 from by omega); clear hr42 hC42 hroom42 hi042 hsz42; have KY42 := Aside0.mk hy42; clear hy42; replace q42 := eq_true q42; refine hK.out _ _ ⟨(blk_cell BK176.out 0).trans rfl, (blk_cell BK176.out 1).trans rfl⟩ (fun hHeld => ?_); clear hK K; refine norm_ (a' := ?_) ?_ ?_; rotate_left
        ·show Act.put _ (some 21) _ = _
         simp only [Act.put, List.setIfInBounds_toArray, List.set_cons_zero, List.set_cons_succ, i64_w, i32_w]; rfl
        refine pure_ (i := 3) (N := some 22) (v := ?_) (a' := ?_) #[true, true, true, true, false, false, false, false, false, false, false] rfl rfl (any_of HT_.out (by kernel_rfl)) (fun _ _ _ h => h) (Or.inl ⟨by rfl, ?_⟩) ?_ ?_; rotate_left
        ·intro w'
         go_simp; with_reducible rfl
        rotate_left
        ·simp only [Act.put, List.setIfInBounds_toArray, List.set_cons_zero, List.set_cons_succ, i64_w, i32_w]
         rfl
        refine pure_ (i := 4) (N := some 23) (v := ?_) (a' := ?_) #[true, true, true, true, true, false, false, false, false, false, false] rfl rfl (any_of HT_.out (by kernel_rfl)) (fun _ _ _ h => h) (Or.inl ⟨by rfl, ?_⟩) ?_ ?_; rotate_left
        ·intro w'
         go_simp; with_reducible rfl
        rotate_left
        ·simp only [Act.put, List.setIfInBounds_toArray, List.set_cons_zero, List.set_cons_succ, i64_w, i32_w]
         rfl
        refine pure_ (i := 5) (N := some 24) (v := ?_) (a' := ?_) #[true, true, true, true, true, true, false, false, false, false, false] rfl rfl (any_of HT_.out (by kernel_rfl)) (fun _ _ _ h => h) (Or.inl ⟨by rfl, ?_⟩) ?_ ?_; rotate_left
        ·intro w'
         go_simp; with_reducible rfl
        rotate_left
        ·simp only [Act.put, List.setIfInBounds_toArray, List.set_cons_zero, List.set_cons_succ, i64_w, i32_w]
         rfl
        refine pure_ (i := 6) (N := some 25) (v := ?_) (a' := ?_) #[true, true, true, true, true, true, true, false, false, false, false] rfl rfl (any_of HT_.out (by kernel_rfl)) (fun _ _ _ h => h) (Or.inl ⟨by rfl, ?_⟩) ?_ ?_; rotate_left
        ·intro w'
         go_simp; with_reducible rfl
        rotate_left
        ·simp only [Act.put, List.setIfInBounds_toArray, List.set_cons_zero, List.set_cons_succ, i64_w, i32_w]
         rfl
        refine pure_ (i := 7) (N := some 26) (v := ?_) (a' := ?_) #[true, true, true, true, true, true, true, true, false, false, false] rfl rfl (any_of HT_.out (by kernel_rfl)) (fun _ _ _ h => h) (Or.inl ⟨by rfl, ?_⟩) ?_ ?_; rotate_left
        ·intro w'
         go_simp; with_reducible rfl
        rotate_left
        ·simp only [Act.put, List.setIfInBounds_toArray, List.set_cons_zero, List.set_cons_succ, i64_w, i32_w]
         rfl
        refine take_ (i := 8) (N := some 27) (v := ?_) (a' := ?_) #[true, true, true, true, true, true, true, true, true, false, false] rfl rfl (take_ofW HT_.out HW_.out (by kernel_rfl)) (fun _ _ _ h => h) (Or.inl ⟨by rfl, ?_⟩) hHeld ?_ ?_; rotate_left
        ·rintro w' ⟨s0, s1⟩
         go_simp; with_reducible rfl
        rotate_left
        ·simp only [Act.put, List.setIfInBounds_toArray, List.set_cons_zero, List.set_cons_succ, i64_w, i32_w]
         rfl
        refine one_ (i := 9) (N := some 28) #[true, true, true, true, true, true, true, true, true, true, false] rfl rfl (one_of HT_.out (by kernel_rfl)) (by decide) (fun K hK => ?_); refine goes_ Try.func68 (by kernel_rfl) rfl #[.slice (some ad173) y178.length c1, .agg #[.int .i8 t174, .int .i8 t175]] (by rfl) rfl rfl (by (try simp only [List.map_toArray, List.map_cons, List.map_nil]); first | done | rfl | (simp only [List.length_drop, List.length_take]; rfl)) ?_; with_reducible refine (spec_l01Has.calls k _ _ y178 t174 t175 false _ ?side1 ?side2 A12.out).mono ?_; (case side1 => repeat (first | exact (Kd.C_below HR181.out HB.out) | (with_reducible refine Kd.C_alloc ?_ _) | (with_reducible refine Kd.C_drewN ?_ _) | (with_reducible refine Kd.C_drew ?_))); (case side2 => exact HC181.out)
        rintro e w43 ⟨rfl, hb⟩
        refine ⟨_, rfl, ?_⟩; have n0_ := bkb BK0 hb; have n1_ := bkb BK176 hb; have n2_ := bst HB hb; clear BK0; clear BK176; clear HB; have BK0 := n0_; have BK176 := n1_; have HB := n2_; clear n0_ n1_ n2_; (try clear hb); (try clear hb2); (try clear hk); (try clear hi); refine hK.out _ _ ⟨(blk_cell BK176.out 0).trans rfl, (blk_cell BK176.out 1).trans rfl⟩ (fun hHeld => ?_); clear hK K; refine norm_ (a' := ?_) ?_ ?_; rotate_left
        ·show Act.put _ (some 28) _ = _
         simp only [Act.put, List.setIfInBounds_toArray, List.set_cons_zero, List.set_cons_succ, i64_w, i32_w]; rfl
        refine pure_ (i := 10) (N := some 29) (v := ?_) (a' := ?_) #[true, true, true, true, true, true, true, true, true, true, true] rfl rfl (any_of HT_.out (by kernel_rfl)) (fun _ _ _ h => h) (Or.inl ⟨by rfl, ?_⟩) ?_ ?_; rotate_left
        ·intro w'
         go_simp; with_reducible rfl
        rotate_left
        ·simp only [Act.put, List.setIfInBounds_toArray, List.set_cons_zero, List.set_cons_succ, i64_w, i32_w]
         rfl
        refine done_ (done_of HT_.out (by kernel_rfl)) ?_
        try go_wp2
        have n0_ := Aside0.mk (blk_drew BK0.out); have n1_ := Aside0.mk (blk_drew BK176.out); have n2_ := Aside0.mk (below_drew1 HB.out); clear BK0; clear BK176; clear HB; have BK0 := n0_; have BK176 := n1_; have HB := n2_; clear n0_ n1_ n2_
        refine start_ (n := 12) (S := fun w' => True) (ds := []) #[false, false, false, false, false, false, false, false, false, false, false, false] (by kernel_rfl) rfl rfl trivial (fun hHeld => ?_); refine with_tabW spec_l02Can.tab7 spec_l02Can.bits7 (fun HT_ HW_ => ?_)
        generalize w43.drew = w44 at BK0 BK176 HB hHeld ⊢; refine pure_ (i := 0) (N := some 30) (v := ?_) (a' := ?_) #[true, false, false, false, false, false, false, false, false, false, false, false] rfl rfl (any_of HT_.out (by kernel_rfl)) (fun _ _ _ h => h) (Or.inl ⟨by rfl, ?_⟩) ?_ ?_; rotate_left
        ·intro w'
         go_simp; with_reducible rfl
        rotate_left
        ·simp only [Act.put, List.setIfInBounds_toArray, List.set_cons_zero, List.set_cons_succ, i64_w, i32_w]
         rfl
        refine pure_ (i := 1) (N := some 31) (v := ?_) (a' := ?_) #[true, true, false, false, false, false, false, false, false, false, false, false] rfl rfl (any_of HT_.out (by kernel_rfl)) (fun _ _ _ h => h) (Or.inl ⟨by rfl, ?_⟩) ?_ ?_; rotate_left
        ·intro w'
         go_simp; with_reducible rfl
        rotate_left
        ·simp only [Act.put, List.setIfInBounds_toArray, List.set_cons_zero, List.set_cons_succ, i64_w, i32_w]
         rfl
        refine pure_ (i := 2) (N := some 32) (v := ?_) (a' := ?_) #[true, true, true, false, false, false, false, false, false, false, false, false] rfl rfl (any_of HT_.out (by kernel_rfl)) (fun _ _ _ h => h) (Or.inl ⟨by rfl, ?_⟩) ?_ ?_; rotate_left
        ·intro w'
         go_simp; with_reducible rfl
        rotate_left
        ·simp only [Act.put, List.setIfInBounds_toArray, List.set_cons_zero, List.set_cons_succ, i64_w, i32_w]
         rfl
        refine pure_ (i := 3) (N := some 33) (v := ?_) (a' := ?_) #[true, true, true, true, false, false, false, false, false, false, false, false] rfl rfl (any_of HT_.out (by kernel_rfl)) (fun _ _ _ h => h) (Or.inl ⟨by rfl, ?_⟩) ?_ ?_; rotate_left
        ·intro w'
         go_simp; with_reducible rfl
        rotate_left
        ·simp only [Act.put, List.setIfInBounds_toArray, List.set_cons_zero, List.set_cons_succ, i64_w, i32_w]
         rfl
        refine pure_ (i := 4) (N := some 34) (v := undef) (a' := ?_) #[true, true, true, true, true, false, false, false, false, false, false, false] rfl rfl (any_of HT_.out (by kernel_rfl)) (fun _ _ _ h => h) (Or.inr ⟨by rfl, rfl⟩) ?_ ?_; rotate_left
        ·simp only [Act.put, List.setIfInBounds_toArray, List.set_cons_zero, List.set_cons_succ, i64_w, i32_w]
         rfl
        refine pure_ (i := 5) (N := some 35) (v := undef) (a' := ?_) #[true, true, true, true, true, true, false, false, false, false, false, false] rfl rfl (any_of HT_.out (by kernel_rfl)) (fun _ _ _ h => h) (Or.inr ⟨by rfl, rfl⟩) ?_ ?_; rotate_left
        ·simp only [Act.put, List.setIfInBounds_toArray, List.set_cons_zero, List.set_cons_succ, i64_w, i32_w]
         rfl
        refine pure_ (i := 6) (N := some 36) (v := undef) (a' := ?_) #[true, true, true, true, true, true, true, false, false, false, false, false] rfl rfl (any_of HT_.out (by kernel_rfl)) (fun _ _ _ h => h) (Or.inr ⟨by rfl, rfl⟩) ?_ ?_; rotate_left
        ·simp only [Act.put, List.setIfInBounds_toArray, List.set_cons_zero, List.set_cons_succ, i64_w, i32_w]
         rfl
        refine pure_ (i := 7) (N := some 37) (v := undef) (a' := ?_) #[true, true, true, true, true, true, true, true, false, false, false, false] rfl rfl (any_of HT_.out (by kernel_rfl)) (fun _ _ _ h => h) (Or.inr ⟨by rfl, rfl⟩) ?_ ?_; rotate_left
        ·simp only [Act.put, List.setIfInBounds_toArray, List.set_cons_zero, List.set_cons_succ, i64_w, i32_w]
         rfl
        refine pure_ (i := 8) (N := some 38) (v := undef) (a' := ?_) #[true, true, true, true, true, true, true, true, true, false, false, false] rfl rfl (any_of HT_.out (by kernel_rfl)) (fun _ _ _ h => h) (Or.inr ⟨by rfl, rfl⟩) ?_ ?_; rotate_left
        ·simp only [Act.put, List.setIfInBounds_toArray, List.set_cons_zero, List.set_cons_succ, i64_w, i32_w]
         rfl
        refine pure_ (i := 9) (N := some 39) (v := undef) (a' := ?_) #[true, true, true, true, true, true, true, true, true, true, false, false] rfl rfl (any_of HT_.out (by kernel_rfl)) (fun _ _ _ h => h) (Or.inr ⟨by rfl, rfl⟩) ?_ ?_; rotate_left
        ·simp only [Act.put, List.setIfInBounds_toArray, List.set_cons_zero, List.set_cons_succ, i64_w, i32_w]
         rfl
        refine pure_ (i := 10) (N := some 40) (v := ?_) (a' := ?_) #[true, true, true, true, true, true, true, true, true, true, true, false] rfl rfl (any_of HT_.out (by kernel_rfl)) (fun _ _ _ h => h) (Or.inl ⟨by rfl, ?_⟩) ?_ ?_; rotate_left
        ·intro w'
         go_simp; with_reducible rfl
        rotate_left
        ·simp only [Act.put, List.setIfInBounds_toArray, List.set_cons_zero, List.set_cons_succ, i64_w, i32_w]
         rfl
        refine pure_ (i := 11) (N := some 6) (v := ?_) (a' := ?_) #[true, true, true, true, true, true, true, true, true, true, true, true] rfl rfl (any_of HT_.out (by kernel_rfl)) (fun _ _ _ h => h) (Or.inl ⟨by rfl, ?_⟩) ?_ ?_; rotate_left
        ·intro w'
         go_simp; with_reducible rfl
        rotate_left
        ·simp only [Act.put, List.setIfInBounds_toArray, List.set_cons_zero, List.set_cons_succ, i64_w, i32_w]
         rfl
        refine done_ (done_of HT_.out (by kernel_rfl)) ?_
        try go_wp2
        go_ret
        exact ⟨by first | rfl | (simp [errW_none, errW_some] <;> rfl) | (simp only [← hji9]; first | rfl | (simp [errW_none, errW_some] <;> rfl)) | (simp [*, errW_none, errW_some] <;> rfl), pbs HB⟩
     ·rw [if_neg c11] at H
      exact absurd H (by simp)
    ·rw [if_neg c10] at H
     exact absurd H (by simp)
   ·replace c8 := Bool.eq_false_iff.mpr c8
    subst c8
    have H1 : (some false) = some r := by rw [if_neg (show ¬ (false = true) by decide)] at H; exact H
    clear H; have H := H1; clear H1; obtain rfl := Option.some.inj H; have p173 : 0 ≤ (0 : Int) := (by omega); have q173 : 0 < (l1.length : Int) := of_decide_eq_true (by first | (with_reducible assumption) | assumption); obtain ⟨ad173, e173, hx173_0, hx173_1⟩ := at_T55 HR1.out 0 p173 q173; cases e173; have qi173 : (0 < l1.length) = True := eq_true (by omega); (try rw [show ((0 : Int)).toNat = 0 from rfl] at hx173_0); (try rw [show 0 * 2 = 0 from rfl] at hx173_0); (try rw [Addr.add_zero'] at hx173_0); (try rw [show ((0 : Int)).toNat = 0 from rfl] at hx173_1); (try rw [show 0 * 2 = 0 from rfl] at hx173_1); (try rw [Addr.add_zero'] at hx173_1); replace p173 := eq_true p173; replace q173 := eq_true q173
    go_enter Try.func47, Try.ntmps47
    try go_wp2_with (first | ((with_reducible refine gate_callee (f := 78) rfl ?_); refine goesL_ (some 15) rfl rfl Try.func78 (by kernel_rfl) rfl #[.agg #[.int .i8 ((rd_T55 l1 0).f0), .int .i8 ((rd_T55 l1 0).f1)], .int .i64 a2] rfl (by (try simp only [List.map_toArray, List.map_cons, List.map_nil]); first | done | rfl | (simp only [List.length_drop, List.length_take]; rfl)) ?_; (with_reducible refine (spec_l01Next.calls ((rd_T55 l1 0).f0) ((rd_T55 l1 0).f1) a2 t174 t175 _ A6.out).mono ?_); rintro e w45 ⟨rfl, hb⟩; refine ⟨_, rfl, ?_⟩; have n0_ := bkb BK0 hb; have n1_ := bst HB hb; clear BK0; clear HB; have BK0 := n0_; have HB := n1_; clear n0_ n1_; (try clear hb); (try clear hb2); (try clear hk); (try clear hi)) | ((with_reducible refine gate_dst (N := 7) rfl ?_); refine box_event ?hg (N := 7) ?hd (cs := #[.int .i8 0, .int .i8 0]) (t := 55) ?hr ?_; (case hd => rfl); (case hg => rfl); (case hr => first | (go_simp; done) | (go_simp; rfl)); intro gb176 hg w46 hbox hb; have n0_ := bkb BK0 hb; have n1_ := bst HB hb; have n2_ := Aside0.mk (hbox); have n3_ := gwl HB hg; have n4_ := gwl HB hg; have n5_ := nbl BK0 hg; have n6_ := nbg BK0 hg; clear BK0; clear HB; have BK0 := n0_; have HB := n1_; have BK176 := n2_; have GW176 := n3_; have GE176 := n4_; have NB0_176 := n5_; have NB176_0 := n6_; clear n0_ n1_ n2_ n3_ n4_ n5_ n6_; clear hb hbox hg; have hnb47 := NB176_0.out; have hnc47 := NB0_176.out; have hcz48_0 : w46.cell? ⟨gb176, 0, none⟩ = some (.int .i8 0) := (blk_cell BK176.out 0).trans rfl; have hcz48_1 : w46.cell? ⟨gb176, 1, none⟩ = some (.int .i8 0) := (blk_cell BK176.out 1).trans rfl; have hfz48_0 := blk_frozen BK176.out 0; have hfz48_1 := blk_frozen BK176.out 1))
    have n0_ : Aside0 (((w46.setCell ⟨gb176, 0, none⟩ (.int .i8 t174)).setCell ⟨gb176, 1, none⟩ (.int .i8 t175)).heap[g0]? = some (.cells (mixA (Value.int .u16) [.int .i8 s0_0, .int .i8 s0_1] s0_2) 33 (0, 0))) := ⟨by (with_reducible repeat (first | refine blk_drewN ?_ _ | refine blk_drew ?_ | refine blk_alloc ?_ _)); refine blk_far ?_ NB0_176.out _; (with_reducible repeat (first | refine blk_drewN ?_ _ | refine blk_drew ?_ | refine blk_alloc ?_ _)); refine blk_far ?_ NB0_176.out _; (with_reducible repeat (first | refine blk_drewN ?_ _ | refine blk_drew ?_ | refine blk_alloc ?_ _)); exact BK0.out⟩; have n1_ : Aside0 (((w46.setCell ⟨gb176, 0, none⟩ (.int .i8 t174)).setCell ⟨gb176, 1, none⟩ (.int .i8 t175)).heap[gb176]? = some (.cells #[.int .i8 t174, .int .i8 t175] 55 (0, 0))) := ⟨by (with_reducible repeat (first | refine blk_drewN ?_ _ | refine blk_drew ?_ | refine blk_alloc ?_ _)); refine blk_put (cs := #[.int .i8 t174, .int .i8 0]) ?_ 1 _ rfl; (with_reducible repeat (first | refine blk_drewN ?_ _ | refine blk_drew ?_ | refine blk_alloc ?_ _)); refine blk_put (cs := #[.int .i8 0, .int .i8 0]) ?_ 0 _ rfl; (with_reducible repeat (first | refine blk_drewN ?_ _ | refine blk_drew ?_ | refine blk_alloc ?_ _)); exact BK176.out⟩; have n2_ : Aside0 (Below w.heap.size w ((w46.setCell ⟨gb176, 0, none⟩ (.int .i8 t174)).setCell ⟨gb176, 1, none⟩ (.int .i8 t175))) := ⟨pbs HB⟩; (try clear BK0); (try clear BK176); (try clear HB); generalize ((w46.setCell ⟨gb176, 0, none⟩ (.int .i8 t174)).setCell ⟨gb176, 1, none⟩ (.int .i8 t175)) = w49 at n0_ n1_ n2_ ⊢; have BK0 := n0_; have BK176 := n1_; have HB := n2_; clear n0_ n1_ n2_; have n0_ := Aside0.mk (blk_drew BK0.out); have n1_ := Aside0.mk (blk_drew BK176.out); have n2_ := Aside0.mk (below_drew1 HB.out); clear BK0; clear BK176; clear HB; have BK0 := n0_; have BK176 := n1_; have HB := n2_; clear n0_ n1_ n2_
    refine start_ (n := 11) (S := fun w' => w'.cell? ⟨gb176, 0, none⟩ = some (.int .i8 t174) ∧ w'.cell? ⟨gb176, 1, none⟩ = some (.int .i8 t175)) (ds := []) #[false, false, false, false, false, false, false, false, false, false, false] (by kernel_rfl) rfl rfl ⟨(blk_cell BK176.out 0).trans rfl, (blk_cell BK176.out 1).trans rfl⟩ (fun hHeld => ?_); refine with_tabW spec_l02Can.tab5 spec_l02Can.bits5 (fun HT_ HW_ => ?_)
    generalize w49.drew = w50 at BK0 BK176 HB hHeld ⊢; refine pure_ (i := 0) (N := some 19) (v := ?_) (a' := ?_) #[true, false, false, false, false, false, false, false, false, false, false] rfl rfl (any_of HT_.out (by kernel_rfl)) (fun _ _ _ h => h) (Or.inl ⟨by rfl, ?_⟩) ?_ ?_; rotate_left
    ·intro w'
     go_simp; with_reducible rfl
    rotate_left
    ·simp only [Act.put, List.setIfInBounds_toArray, List.set_cons_zero, List.set_cons_succ, i64_w, i32_w]
     rfl
    refine take_ (i := 1) (N := some 20) (v := ?_) (a' := ?_) #[true, true, false, false, false, false, false, false, false, false, false] rfl rfl (take_ofW HT_.out HW_.out (by kernel_rfl)) (fun _ _ _ h => h) (Or.inl ⟨by rfl, ?_⟩) hHeld ?_ ?_; rotate_left
    ·rintro w' ⟨s0, s1⟩
     go_simp; with_reducible rfl
    rotate_left
    ·simp only [Act.put, List.setIfInBounds_toArray, List.set_cons_zero, List.set_cons_succ, i64_w, i32_w]
     rfl
    refine one_ (i := 2) (N := some 21) #[true, true, true, false, false, false, false, false, false, false, false] rfl rfl (one_of HT_.out (by kernel_rfl)) (by decide) (fun K hK => ?_); refine goes_ Try.func62 (by kernel_rfl) rfl #[.pointer (some ⟨g0, 0, none⟩), .agg #[.int .i8 t174, .int .i8 t175]] (by rfl) rfl rfl (by (try simp only [List.map_toArray, List.map_cons, List.map_nil]); first | done | rfl | (simp only [List.length_drop, List.length_take]; rfl)) ?_; with_reducible refine (spec_l01Free.calls g0 s0_0 s0_1 s0_2 t174 t175 false _ ?side1 A7.out).mono ?_; (case side1 => exact (pk BK0))
    rintro e w51 ⟨rfl, hb⟩
    refine ⟨_, rfl, ?_⟩; have n0_ := bkb BK0 hb; have n1_ := bkb BK176 hb; have n2_ := bst HB hb; clear BK0; clear BK176; clear HB; have BK0 := n0_; have BK176 := n1_; have HB := n2_; clear n0_ n1_ n2_; (try clear hb); (try clear hb2); (try clear hk); (try clear hi); refine hK.out _ _ ⟨(blk_cell BK176.out 0).trans rfl, (blk_cell BK176.out 1).trans rfl⟩ (fun hHeld => ?_); clear hK K; refine norm_ (a' := ?_) ?_ ?_; rotate_left
    ·show Act.put _ (some 21) _ = _
     simp only [Act.put, List.setIfInBounds_toArray, List.set_cons_zero, List.set_cons_succ, i64_w, i32_w]; rfl
    refine pure_ (i := 3) (N := some 22) (v := ?_) (a' := ?_) #[true, true, true, true, false, false, false, false, false, false, false] rfl rfl (any_of HT_.out (by kernel_rfl)) (fun _ _ _ h => h) (Or.inl ⟨by rfl, ?_⟩) ?_ ?_; rotate_left
    ·intro w'
     go_simp; with_reducible rfl
    rotate_left
    ·simp only [Act.put, List.setIfInBounds_toArray, List.set_cons_zero, List.set_cons_succ, i64_w, i32_w]
     rfl
    refine pure_ (i := 4) (N := some 23) (v := ?_) (a' := ?_) #[true, true, true, true, true, false, false, false, false, false, false] rfl rfl (any_of HT_.out (by kernel_rfl)) (fun _ _ _ h => h) (Or.inl ⟨by rfl, ?_⟩) ?_ ?_; rotate_left
    ·intro w'
     go_simp; with_reducible rfl
    rotate_left
    ·simp only [Act.put, List.setIfInBounds_toArray, List.set_cons_zero, List.set_cons_succ, i64_w, i32_w]
     rfl
    refine pure_ (i := 5) (N := some 24) (v := undef) (a' := ?_) #[true, true, true, true, true, true, false, false, false, false, false] rfl rfl (any_of HT_.out (by kernel_rfl)) (fun _ _ _ h => h) (Or.inr ⟨by rfl, rfl⟩) ?_ ?_; rotate_left
    ·simp only [Act.put, List.setIfInBounds_toArray, List.set_cons_zero, List.set_cons_succ, i64_w, i32_w]
     rfl
    refine pure_ (i := 6) (N := some 25) (v := undef) (a' := ?_) #[true, true, true, true, true, true, true, false, false, false, false] rfl rfl (any_of HT_.out (by kernel_rfl)) (fun _ _ _ h => h) (Or.inr ⟨by rfl, rfl⟩) ?_ ?_; rotate_left
    ·simp only [Act.put, List.setIfInBounds_toArray, List.set_cons_zero, List.set_cons_succ, i64_w, i32_w]
     rfl
    refine pure_ (i := 7) (N := some 26) (v := undef) (a' := ?_) #[true, true, true, true, true, true, true, true, false, false, false] rfl rfl (any_of HT_.out (by kernel_rfl)) (fun _ _ _ h => h) (Or.inr ⟨by rfl, rfl⟩) ?_ ?_; rotate_left
    ·simp only [Act.put, List.setIfInBounds_toArray, List.set_cons_zero, List.set_cons_succ, i64_w, i32_w]
     rfl
    refine pure_ (i := 8) (N := some 27) (v := undef) (a' := ?_) #[true, true, true, true, true, true, true, true, true, false, false] rfl rfl (any_of HT_.out (by kernel_rfl)) (fun _ _ _ h => h) (Or.inr ⟨by rfl, rfl⟩) ?_ ?_; rotate_left
    ·simp only [Act.put, List.setIfInBounds_toArray, List.set_cons_zero, List.set_cons_succ, i64_w, i32_w]
     rfl
    refine pure_ (i := 9) (N := some 28) (v := undef) (a' := ?_) #[true, true, true, true, true, true, true, true, true, true, false] rfl rfl (any_of HT_.out (by kernel_rfl)) (fun _ _ _ h => h) (Or.inr ⟨by rfl, rfl⟩) ?_ ?_; rotate_left
    ·simp only [Act.put, List.setIfInBounds_toArray, List.set_cons_zero, List.set_cons_succ, i64_w, i32_w]
     rfl
    refine pure_ (i := 10) (N := some 29) (v := ?_) (a' := ?_) #[true, true, true, true, true, true, true, true, true, true, true] rfl rfl (any_of HT_.out (by kernel_rfl)) (fun _ _ _ h => h) (Or.inl ⟨by rfl, ?_⟩) ?_ ?_; rotate_left
    ·intro w'
     go_simp; with_reducible rfl
    rotate_left
    ·simp only [Act.put, List.setIfInBounds_toArray, List.set_cons_zero, List.set_cons_succ, i64_w, i32_w]
     rfl
    refine done_ (done_of HT_.out (by kernel_rfl)) ?_
    try go_wp2
    go_ret
    exact ⟨by first | rfl | (simp [errW_none, errW_some] <;> rfl) | (simp [*, errW_none, errW_some] <;> rfl), pbs HB⟩
  ·rw [if_neg c5] at H
   exact absurd H (by simp)
end Go.Proofs.Ytjogemppgdeomaa.PB
end
section
namespace Go.Proofs.Ytjogemppgdeomaa.PB
open Go.RowKit Go.Proofs.YtjogemppgdeomaaW.PrintWords Go.Proofs.YtjogemppgdeomaaW.PrintLast Go.Proofs.YtjogemppgdeomaaW.PrintMore Go.Proofs.Ytjogemppgdeomaa.La
attribute [local go_sem] max2_int min2_int max_two min_two max_three min_three max_four min_four   -- for this text's walks alone
set_option linter.unusedVariables false
set_option linter.unusedSimpArgs false
def spec_l02Made.l0 : Nat → List (S55) → List (S55) → Int → Option ((List (S55)))
 | 0, _, _, _ => none
 | k + 1, x0, x5, x6 => if x6 ≥ 0 then (if 0 ≤ x6 then (if x6 < (x0.length : Int) then (if x5.length < 70368744177664 then (spec_l02Made.l0 k x0 (x5 ++ [(⟨(rd_T55 x0 x6).f0, (rd_T55 x0 x6).f1⟩ : S55)]) (wrap64 (x6 - 1))) else (none)) else (none)) else (none)) else (some x5)
def spec_l02Made.f (k : Nat) (l0 : List (S55)) (a1 : Int) : Option ((List (S55))) := (some (([] : List (S55)) : List (S55))).bind fun y184 => (if a1 = 4 then (spec_l02Made.l0 k l0 y184 (wrap64 ((l0.length : Int) - 1))) else (if a1 = 5 then (if y184.length + l0.length < 70368744177664 then (some (y184 ++ l0)) else (none)) else (if 0 < (l0.length : Int) then ((spec_l01Next.f ((rd_T55 l0 0).f0) ((rd_T55 l0 0).f1) a1).bind fun bt195 => (if y184.length < 70368744177664 then ((some (y184 ++ [(⟨bt195.1, bt195.2⟩ : S55)] : List (S55))).bind fun y197 => (if 0 ≤ (wrap64 ((l0.length : Int) - 1)) then (if (wrap64 ((l0.length : Int) - 1)) ≤ (l0.length : Int) then ((some (l0.take ((wrap64 ((l0.length : Int) - 1)) : Int).toNat : List (S55))).bind fun y200 => (if y197.length + y200.length < 70368744177664 then (some (y197 ++ y200)) else (none))) else (none)) else (none))) else (none))) else (none))))
theorem spec_l02Made.mono_l : ∀ k, (∀ y0 y1 y2, LeO (spec_l02Made.l0 k y0 y1 y2) (spec_l02Made.l0 (k + 1) y0 y1 y2))
 | 0 => fun _ _ _ r h => by simp [spec_l02Made.l0] at h
 | k + 1 => by
  have ih0 := spec_l02Made.mono_l k
  ·intro y0 y1 y2
   unfold spec_l02Made.l0
   repeat' first
   | (with_reducible exact ih0 _ _ _)
   | (with_reducible exact LeO.refl _)
   | (with_reducible exact LeO.none _)
   | (with_reducible refine LeO.ite ?_ ?_)
   | (with_reducible refine LeO.bind ?_ (fun _ => ?_))
   | exact ih0 _ _ _
   | exact LeO.none _
   | refine LeO.ite ?_ ?_
   | refine LeO.bind ?_ (fun _ => ?_)
theorem spec_l02Made.mono : ∀ a0 a1 k, LeO (spec_l02Made.f k a0 a1) (spec_l02Made.f (k + 1) a0 a1) := by
 intro a0 a1 k
 have ih0 := spec_l02Made.mono_l k
 unfold spec_l02Made.f
 repeat' first
   | (with_reducible exact ih0 _ _ _)
   | (with_reducible exact LeO.refl _)
   | (with_reducible exact LeO.none _)
   | (with_reducible refine LeO.ite ?_ ?_)
   | (with_reducible refine LeO.bind ?_ (fun _ => ?_))
   | exact ih0 _ _ _
   | exact LeO.none _
   | refine LeO.ite ?_ ?_
   | refine LeO.bind ?_ (fun _ => ?_)
set_option maxHeartbeats 8000000 in
set_option maxRecDepth 100000 in
theorem spec_l02Made.calls (k : Nat) (A0 : Option Addr) (c0 : Nat) (l0 : List (S55)) (a1 : Int) (r : List (S55)) (w : World) (hr0 : Kd.C k55 w A0 l0.length l0) (hc0 : l0.length ≤ c0) (h : spec_l02Made.f k l0 a1 = some r) :
  Calls Try.prog 48 #[.slice A0 l0.length c0, .int .i64 a1] w fun e w' => ∃ v0_ : Value, e = .returned (v0_) ∧ Kd.R k55 55 w' w.heap.size (fun _ => True) v0_ r ∧ Below w.heap.size w w' := by
 have hu55 := Try.underlying55
 have HR0 := Aside0.mk hr0
 have HC0 := Aside0.mk hc0
 clear hr0 hc0
 have HB := Aside0.mk (Below.refl w.heap.size w)
 have H : ((some (([] : List (S55)) : List (S55))).bind fun y184 => (if a1 = 4 then (spec_l02Made.l0 k l0 y184 (wrap64 ((l0.length : Int) - 1))) else (if a1 = 5 then (if y184.length + l0.length < 70368744177664 then (some (y184 ++ l0)) else (none)) else (if 0 < (l0.length : Int) then ((spec_l01Next.f ((rd_T55 l0 0).f0) ((rd_T55 l0 0).f1) a1).bind fun bt195 => (if y184.length < 70368744177664 then ((some (y184 ++ [(⟨bt195.1, bt195.2⟩ : S55)] : List (S55))).bind fun y197 => (if 0 ≤ (wrap64 ((l0.length : Int) - 1)) then (if (wrap64 ((l0.length : Int) - 1)) ≤ (l0.length : Int) then ((some (l0.take ((wrap64 ((l0.length : Int) - 1)) : Int).toNat : List (S55))).bind fun y200 => (if y197.length + y200.length < 70368744177664 then (some (y197 ++ y200)) else (none))) else (none)) else (none))) else (none))) else (none))))) = some r := h
 clear h
 obtain ⟨y184, hy184⟩ : ∃ y_ : List (S55), y_ = (([] : List (S55))) := ⟨_, rfl⟩
 replace H : (if a1 = 4 then (spec_l02Made.l0 k l0 y184 (wrap64 ((l0.length : Int) - 1))) else (if a1 = 5 then (if y184.length + l0.length < 70368744177664 then (some (y184 ++ l0)) else (none)) else (if 0 < (l0.length : Int) then ((spec_l01Next.f ((rd_T55 l0 0).f0) ((rd_T55 l0 0).f1) a1).bind fun bt195 => (if y184.length < 70368744177664 then ((some (y184 ++ [(⟨bt195.1, bt195.2⟩ : S55)] : List (S55))).bind fun y197 => (if 0 ≤ (wrap64 ((l0.length : Int) - 1)) then (if (wrap64 ((l0.length : Int) - 1)) ≤ (l0.length : Int) then ((some (l0.take ((wrap64 ((l0.length : Int) - 1)) : Int).toNat : List (S55))).bind fun y200 => (if y197.length + y200.length < 70368744177664 then (some (y197 ++ y200)) else (none))) else (none)) else (none))) else (none))) else (none)))) = some r := by first | (rw [hy184]; with_reducible exact H) | (have H2_ := (Option.bind_some _ _).symm.trans H; rw [hy184]; with_reducible exact H2_) | (have H2_ := (Option.bind_some _ _).symm.trans H; with_reducible exact H2_) | with_reducible exact H | (rw [hy184]; exact H) | exact H
 have Ny184 := Aside0.mk hy184
 clear hy184
 by_cases c3 : a1 = 4
 ·rw [if_pos c3] at H
  have c3b0 : (a1 == 4) = true := beq_iff_eq.mpr c3; have c3b1 : (a1 != 4) = false := bne_eq_false_iff_eq.mpr c3; clear c3; have H' := Aside0.mk H; clear H
  go_enter Try.func48, Try.ntmps48
  go_wp2_with (first | ((with_reducible refine gate_dst (N := 7) rfl ?_); refine Kd.R_lit k55 _ 55 ?hg (N := 7) ?hd (xs := ([] : List (S55))) (inner := []) (ok := fun _ => True) (okp := fun _ => True) ?hr ?hp (fun _ hk => hk) trivial (Below.refl _ _) (Nat.le_refl _) (by simp) ?_; (case hd => rfl); (case hg => rfl); (case hr => first | (go_simp; done) | (go_simp; rfl)); (case hp => exact (Reps.none _ _)); intro v185 w4 ho5 hb hg_ hnew_; clear hg_ hnew_; (first | rw [← Ny184.out] at ho5 | (simp only [Int.reduceToNat] at ho5; rw [← Ny184.out] at ho5)); have n0_ := Aside0.mk (Kd.R_lower ho5 (below_size (by repeat (first | (with_reducible first | exact HB.out | apply below_alloc | apply pw_below_drewN | apply below_drew1) | exact HB.out)))); have n1_ := bst HB hb; clear HB; have HO186 := n0_; have HB := n1_; clear n0_ n1_; clear hb ho5))
  go_loopg [5, 6] k (fun kq v5 v6 w' => ∃ (x5_1 : List (S55)) (x6_1 : Int), v6 = .int .i64 x6_1 ∧ Aside0 (spec_l02Made.l0 kq l0 x5_1 x6_1 = some r) ∧ Aside0 (kq ≤ k) ∧ Aside0 (Kd.R k55 55 w' w.heap.size (fun _ => True) v5 x5_1) ∧ Aside0 (Below w.heap.size w w'))
  case atStart => exact ⟨(y184), (wrap64 ((l0.length : Int) - 1)), (by first | rfl | (simp; done) | (simp [*]; done)), H', ⟨Nat.le_refl _⟩, ⟨by (with_reducible repeat (first | apply Kd.R_alloc | apply Kd.R_drewN | apply Kd.R_drew)); exact HO186.out⟩, ⟨pb HB⟩⟩
  case round =>
   clear H'
   try clear p2
   try clear c3
   try clear c3b0
   try clear c3b1
   try clear c4
   obtain ⟨x5_1, x6_1, rfl, HA, HK1, HO_5, HB⟩ := hrel
   cases gk with
   | zero => exact absurd HA.out (by simp [spec_l02Made.l0])
   | succ k1 =>
    have H := HA.out; clear HA; simp only [spec_l02Made.l0] at H
    by_cases c6 : x6_1 ≥ 0
    ·rw [if_pos c6] at H
     have c6b0 : decide (0 ≤ x6_1) = true := decide_eq_true c6; clear c6
     by_cases c7 : 0 ≤ x6_1
     ·rw [if_pos c7] at H
      have c7b0 : decide (0 ≤ x6_1) = true := decide_eq_true c7; clear c7
      by_cases c8 : x6_1 < (l0.length : Int)
      ·rw [if_pos c8] at H
       have c8b0 : decide (x6_1 < (l0.length : Int)) = true := decide_eq_true c8; clear c8
       by_cases c9 : x5_1.length < 70368744177664
       ·rw [if_pos c9] at H
        have LMc9 := Aside0.mk c9; clear c9; obtain ⟨y188, hy188⟩ : ∃ y_ : List (S55), y_ = (x5_1 ++ [(⟨(rd_T55 l0 x6_1).f0, (rd_T55 l0 x6_1).f1⟩ : S55)]) := ⟨_, rfl⟩
        replace H : (spec_l02Made.l0 k1 l0 y188 (wrap64 (x6_1 - 1))) = some r := by first | (rw [hy188]; with_reducible exact H) | (have H2_ := (Option.bind_some _ _).symm.trans H; rw [hy188]; with_reducible exact H2_) | (have H2_ := (Option.bind_some _ _).symm.trans H; with_reducible exact H2_) | with_reducible exact H | (rw [hy188]; exact H) | exact H
        have Ny188 := Aside0.mk hy188; clear hy188; have H' := Aside0.mk H; clear H; have p187 : 0 ≤ (x6_1 : Int) := of_decide_eq_true (by first | (with_reducible assumption) | assumption); have q187 : x6_1 < (l0.length : Int) := of_decide_eq_true (by first | (with_reducible assumption) | assumption); obtain ⟨ad187, e187, hx187_0, hx187_1⟩ := at_T55 HR0.out x6_1 p187 q187; cases e187
        try replace hx187_0 := (HB.out.cell (World.block_lt_of_cell? w _ hx187_0)).trans hx187_0
        try replace hx187_1 := (HB.out.cell (World.block_lt_of_cell? w _ hx187_1)).trans hx187_1
        replace p187 := eq_true p187; replace q187 := eq_true q187
        go_wp2_with (first | ((with_reducible refine gate_builtin (b := .append) (xs := #[.tmp 33, .tmp 38]) rfl ?_); at_builtin; refine Kd.R_append k55 (w0 := w) w.heap.size rfl (.tmp 33) (.tmp 38) 30 55 (.agg #[(.int .i8 0), (.int .i8 0)]) 2 rfl Try.underlying30 info55 rfl (by decide) (by omega) u5 x5_1 (⟨(rd_T55 l0 x6_1).f0, (rd_T55 l0 x6_1).f1⟩ : S55) [.int .i8 ((rd_T55 l0 x6_1).f0), .int .i8 ((rd_T55 l0 x6_1).f1)] (fun _ => True) (fun _ => False) rfl rfl ?aP (fun _ hk => hk.elim) ?aF ?aO ?aB ?aS ?aL ?_; (case aP => exact k55_mkM _ _ _ (⟨(rd_T55 l0 x6_1).f0, (rd_T55 l0 x6_1).f1⟩ : S55)); (case aB => exact (pb HB)); (case aF => exact (fun _ _ => trivial)); (case aO => exact (by (with_reducible repeat (first | apply Kd.R_alloc | apply Kd.R_drewN | apply Kd.R_drew)); exact HO_5.out)); (case aS => exact (below_size (by repeat (first | (with_reducible first | exact HB.out | apply below_alloc | apply pw_below_drewN | apply below_drew1) | exact HB.out)))); (case aL => have := LMc9.out; omega); intro v189 w10 ho hb hg hat; rw [← Ny188.out] at ho; have n0_ := Aside0.mk (hb); have n1_ := Aside0.mk (ho); clear HB; clear HO_5; have HB := n0_; have HO190 := n1_; clear n0_ n1_; clear ho hb hg hat))
        go_roundg k1
        case measure => have := HK1.out; omega
        case rel => exact ⟨(y188), (wrap64 (x6_1 - 1)), (by first | rfl | (simp; done) | (simp [*]; done)), H', ⟨by have := HK1.out; omega⟩, ⟨by (with_reducible repeat (first | apply Kd.R_alloc | apply Kd.R_drewN | apply Kd.R_drew)); exact HO190.out⟩, ⟨pb HB⟩⟩
       ·rw [if_neg c9] at H
        exact absurd H (by simp)
      ·rw [if_neg c8] at H
       exact absurd H (by simp)
     ·rw [if_neg c7] at H
      exact absurd H (by simp)
    ·rw [if_neg c6] at H
     have c6b0 : decide (0 ≤ x6_1) = false := decide_eq_false c6; clear c6; obtain rfl := Option.some.inj H
     go_wp2
     go_ret
     exact ⟨_, by first | rfl | (simp [errW_none, errW_some] <;> rfl) | (simp [*, errW_none, errW_some] <;> rfl), by (with_reducible repeat (first | apply Kd.R_alloc | apply Kd.R_drewN | apply Kd.R_drew)); exact HO_5.out, pb HB⟩
 ·rw [if_neg c3] at H
  have c3b0 : (a1 == 4) = false := beq_eq_false_iff_ne.mpr c3; have c3b1 : (a1 != 4) = true := bne_iff_ne.mpr c3
  by_cases c11 : a1 = 5
  ·rw [if_pos c11] at H
   have c11b0 : (a1 == 5) = true := beq_iff_eq.mpr c11; have c11b1 : (a1 != 5) = false := bne_eq_false_iff_eq.mpr c11; clear c11
   by_cases c12 : y184.length + l0.length < 70368744177664
   ·rw [if_pos c12] at H
    have LMc12 := Aside0.mk c12; clear c12; obtain ⟨y191, hy191⟩ : ∃ y_ : List (S55), y_ = (y184 ++ l0) := ⟨_, rfl⟩
    replace H : (some y191) = some r := by first | (rw [hy191]; with_reducible exact H) | (have H2_ := (Option.bind_some _ _).symm.trans H; rw [hy191]; with_reducible exact H2_) | (have H2_ := (Option.bind_some _ _).symm.trans H; with_reducible exact H2_) | with_reducible exact H | (rw [hy191]; exact H) | exact H
    have Ny191 := Aside0.mk hy191; clear hy191; obtain rfl := Option.some.inj H
    go_enter Try.func48, Try.ntmps48
    go_wp2_with (first | ((with_reducible refine gate_dst (N := 7) rfl ?_); refine Kd.R_lit k55 _ 55 ?hg (N := 7) ?hd (xs := ([] : List (S55))) (inner := []) (ok := fun _ => True) (okp := fun _ => True) ?hr ?hp (fun _ hk => hk) trivial (Below.refl _ _) (Nat.le_refl _) (by simp) ?_; (case hd => rfl); (case hg => rfl); (case hr => first | (go_simp; done) | (go_simp; rfl)); (case hp => exact (Reps.none _ _)); intro v185 w13 ho14 hb hg_ hnew_; clear hg_ hnew_; (first | rw [← Ny184.out] at ho14 | (simp only [Int.reduceToNat] at ho14; rw [← Ny184.out] at ho14)); have n0_ := Aside0.mk (Kd.R_lower ho14 (below_size (by repeat (first | (with_reducible first | exact HB.out | apply below_alloc | apply pw_below_drewN | apply below_drew1) | exact HB.out)))); have n1_ := bst HB hb; clear HB; have HO186 := n0_; have HB := n1_; clear n0_ n1_; clear hb ho14) | ((with_reducible refine gate_builtin (b := .append) (xs := #[.tmp 42, .tmp 43]) rfl ?_); at_builtin; refine Kd.R_append_rows k55 (w0 := w) w.heap.size rfl (.tmp 42) (.tmp 43) 30 55 (.agg #[(.int .i8 0), (.int .i8 0)]) 2 rfl Try.underlying30 info55 rfl (by decide) (by omega) v185 y184 l0 _ _ _ (fun _ => True) (fun _ => False) rfl rfl ?aO ?aR (fun _ _ h => h) (fun _ h => h.elim) ?aF ?aB ?aS ?aL ?_; (case aR => repeat (first | exact (Kd.C_below HR0.out HB.out) | (with_reducible refine Kd.C_alloc ?_ _) | (with_reducible refine Kd.C_drewN ?_ _) | (with_reducible refine Kd.C_drew ?_))); (case aB => exact (pb HB)); (case aF => exact (fun _ _ => trivial)); (case aO => exact (by (with_reducible repeat (first | apply Kd.R_alloc | apply Kd.R_drewN | apply Kd.R_drew)); exact HO186.out)); (case aS => exact (below_size (by repeat (first | (with_reducible first | exact HB.out | apply below_alloc | apply pw_below_drewN | apply below_drew1) | exact HB.out)))); (case aL => have := LMc12.out; omega); intro v192 w15 ho hb hg hat; rw [← Ny191.out] at ho; have n0_ := Aside0.mk (hb); have n1_ := Aside0.mk (ho); clear HB; clear HO186; have HB := n0_; have HO193 := n1_; clear n0_ n1_; clear ho hb hg hat))
    go_ret
    exact ⟨_, by first | rfl | (simp [errW_none, errW_some] <;> rfl) | (simp [*, errW_none, errW_some] <;> rfl), by (with_reducible repeat (first | apply Kd.R_alloc | apply Kd.R_drewN | apply Kd.R_drew)); exact HO193.out, pb HB⟩
   ·rw [if_neg c12] at H
    exact absurd H (by simp)
  ·rw [if_neg c11] at H
   have c11b0 : (a1 == 5) = false := beq_eq_false_iff_ne.mpr c11; have c11b1 : (a1 != 5) = true := bne_iff_ne.mpr c11
   by_cases c16 : 0 < (l0.length : Int)
   ·rw [if_pos c16] at H
    have c16b0 : decide (0 < (l0.length : Int)) = true := decide_eq_true c16; have c16b1 : decide (0 < l0.length) = true := decide_eq_true (by omega); clear c16; replace H := Option.bind_eq_some_iff.mp H; obtain ⟨⟨t195, t196⟩, A170, H⟩ := H; replace H : (if y184.length < 70368744177664 then ((some (y184 ++ [(⟨t195, t196⟩ : S55)] : List (S55))).bind fun y197 => (if 0 ≤ (wrap64 ((l0.length : Int) - 1)) then (if (wrap64 ((l0.length : Int) - 1)) ≤ (l0.length : Int) then ((some (l0.take ((wrap64 ((l0.length : Int) - 1)) : Int).toNat : List (S55))).bind fun y200 => (if y197.length + y200.length < 70368744177664 then (some (y197 ++ y200)) else (none))) else (none)) else (none))) else (none)) = some r := H; have A17 := Aside0.mk A170; clear A170
    by_cases c18 : y184.length < 70368744177664
    ·rw [if_pos c18] at H
     have LMc18 := Aside0.mk c18; clear c18; obtain ⟨y197, hy197⟩ : ∃ y_ : List (S55), y_ = (y184 ++ [(⟨t195, t196⟩ : S55)]) := ⟨_, rfl⟩
     replace H : (if 0 ≤ (wrap64 ((l0.length : Int) - 1)) then (if (wrap64 ((l0.length : Int) - 1)) ≤ (l0.length : Int) then ((some (l0.take ((wrap64 ((l0.length : Int) - 1)) : Int).toNat : List (S55))).bind fun y200 => (if y197.length + y200.length < 70368744177664 then (some (y197 ++ y200)) else (none))) else (none)) else (none)) = some r := by first | (rw [hy197]; with_reducible exact H) | (have H2_ := (Option.bind_some _ _).symm.trans H; rw [hy197]; with_reducible exact H2_) | (have H2_ := (Option.bind_some _ _).symm.trans H; with_reducible exact H2_) | with_reducible exact H | (rw [hy197]; exact H) | exact H
     have Ny197 := Aside0.mk hy197; clear hy197; obtain ⟨ji19, hji19⟩ : ∃ j_ : Int, (wrap64 ((l0.length : Int) - 1)) = j_ := ⟨_, rfl⟩
     replace H : (if 0 ≤ (ji19) then (if (ji19) ≤ (l0.length : Int) then ((some (l0.take ((ji19) : Int).toNat : List (S55))).bind fun y200 => (if y197.length + y200.length < 70368744177664 then (some (y197 ++ y200)) else (none))) else (none)) else (none)) = some r := by first | (rw [hji19] at H; exact H) | (simp only [hji19] at H ⊢; exact H)
     (try rw [hji19] at A17); have hji19w : (IntKind.i64.wrap ((l0.length : Int) - 1)) = ji19 := (i64_w _).trans hji19
     by_cases c20 : 0 ≤ (ji19)
     ·rw [if_pos c20] at H
      have c20b0 := eq_true c20; have c20b1 : decide (0 ≤ (ji19)) = true := decide_eq_true c20; clear c20
      by_cases c21 : (ji19) ≤ (l0.length : Int)
      ·rw [if_pos c21] at H
       have c21b0 := eq_true c21; have c21b1 : decide ((ji19) ≤ (l0.length : Int)) = true := decide_eq_true c21; clear c21; obtain ⟨y200, hy200⟩ : ∃ y_ : List (S55), y_ = (l0.take ((ji19) : Int).toNat) := ⟨_, rfl⟩
       replace H : (if y197.length + y200.length < 70368744177664 then (some (y197 ++ y200)) else (none)) = some r := by first | (rw [hy200]; with_reducible exact H) | (have H2_ := (Option.bind_some _ _).symm.trans H; rw [hy200]; with_reducible exact H2_) | (have H2_ := (Option.bind_some _ _).symm.trans H; with_reducible exact H2_) | with_reducible exact H | (rw [hy200]; exact H) | exact H
       have Ny200 := Aside0.mk hy200; clear hy200
       by_cases c22 : y197.length + y200.length < 70368744177664
       ·rw [if_pos c22] at H
        have LMc22 := Aside0.mk c22; clear c22; obtain ⟨y204, hy204⟩ : ∃ y_ : List (S55), y_ = (y197 ++ y200) := ⟨_, rfl⟩
        replace H : (some y204) = some r := by first | (rw [hy204]; with_reducible exact H) | (have H2_ := (Option.bind_some _ _).symm.trans H; rw [hy204]; with_reducible exact H2_) | (have H2_ := (Option.bind_some _ _).symm.trans H; with_reducible exact H2_) | with_reducible exact H | (rw [hy204]; exact H) | exact H
        have Ny204 := Aside0.mk hy204; clear hy204; obtain rfl := Option.some.inj H
        go_enter Try.func48, Try.ntmps48
        go_wp2_with (first | ((with_reducible refine gate_dst (N := 7) rfl ?_); refine Kd.R_lit k55 _ 55 ?hg (N := 7) ?hd (xs := ([] : List (S55))) (inner := []) (ok := fun _ => True) (okp := fun _ => True) ?hr ?hp (fun _ hk => hk) trivial (Below.refl _ _) (Nat.le_refl _) (by simp) ?_; (case hd => rfl); (case hg => rfl); (case hr => first | (go_simp; done) | (go_simp; rfl)); (case hp => exact (Reps.none _ _)); intro v185 w23 ho24 hb hg_ hnew_; clear hg_ hnew_; (first | rw [← Ny184.out] at ho24 | (simp only [Int.reduceToNat] at ho24; rw [← Ny184.out] at ho24)); have n0_ := Aside0.mk (Kd.R_lower ho24 (below_size (by repeat (first | (with_reducible first | exact HB.out | apply below_alloc | apply pw_below_drewN | apply below_drew1) | exact HB.out)))); have n1_ := bst HB hb; clear HB; have HO186 := n0_; have HB := n1_; clear n0_ n1_; clear hb ho24; have p194 : 0 ≤ (0 : Int) := (by omega); have q194 : 0 < (l0.length : Int) := of_decide_eq_true (by first | (with_reducible assumption) | assumption); obtain ⟨ad194, e194, hx194_0, hx194_1⟩ := at_T55 HR0.out 0 p194 q194; cases e194; have qi194 : (0 < l0.length) = True := eq_true (by omega); (try rw [show ((0 : Int)).toNat = 0 from rfl] at hx194_0); (try rw [show 0 * 2 = 0 from rfl] at hx194_0); (try rw [Addr.add_zero'] at hx194_0); (try rw [show ((0 : Int)).toNat = 0 from rfl] at hx194_1); (try rw [show 0 * 2 = 0 from rfl] at hx194_1); (try rw [Addr.add_zero'] at hx194_1); try replace hx194_0 := (HB.out.cell (World.block_lt_of_cell? w _ hx194_0)).trans hx194_0; try replace hx194_1 := (HB.out.cell (World.block_lt_of_cell? w _ hx194_1)).trans hx194_1; replace p194 := eq_true p194; replace q194 := eq_true q194) | ((with_reducible refine gate_callee (f := 78) rfl ?_); refine goesL_ (some 14) rfl rfl Try.func78 (by kernel_rfl) rfl #[.agg #[.int .i8 ((rd_T55 l0 0).f0), .int .i8 ((rd_T55 l0 0).f1)], .int .i64 a1] rfl (by (try simp only [List.map_toArray, List.map_cons, List.map_nil]); first | done | rfl | (simp only [List.length_drop, List.length_take]; rfl)) ?_; (with_reducible refine (spec_l01Next.calls ((rd_T55 l0 0).f0) ((rd_T55 l0 0).f1) a1 t195 t196 _ A17.out).mono ?_); rintro e w25 ⟨rfl, hb⟩; refine ⟨_, rfl, ?_⟩; have n0_ := krb HO186 hb; have n1_ := bst HB hb; clear HO186; clear HB; have HO186 := n0_; have HB := n1_; clear n0_ n1_; (try clear hb); (try clear hb2); (try clear hk); (try clear hi)) | ((with_reducible refine gate_builtin (b := .append) (xs := #[.tmp 9, .tmp 15]) rfl ?_); at_builtin; refine Kd.R_append k55 (w0 := w) w.heap.size rfl (.tmp 9) (.tmp 15) 30 55 (.agg #[(.int .i8 0), (.int .i8 0)]) 2 rfl Try.underlying30 info55 rfl (by decide) (by omega) v185 y184 (⟨t195, t196⟩ : S55) [.int .i8 t195, .int .i8 t196] (fun _ => True) (fun _ => False) rfl rfl ?aP (fun _ hk => hk.elim) ?aF ?aO ?aB ?aS ?aL ?_; (case aP => exact k55_mkM _ _ _ (⟨t195, t196⟩ : S55)); (case aB => exact (pb HB)); (case aF => exact (fun _ _ => trivial)); (case aO => exact (by (with_reducible repeat (first | apply Kd.R_alloc | apply Kd.R_drewN | apply Kd.R_drew)); exact HO186.out)); (case aS => exact (below_size (by repeat (first | (with_reducible first | exact HB.out | apply below_alloc | apply pw_below_drewN | apply below_drew1) | exact HB.out)))); (case aL => have := LMc18.out; omega); intro v198 w26 ho hb hg hat; rw [← Ny197.out] at ho; have n0_ := Aside0.mk (hb); have n1_ := Aside0.mk (ho); clear HB; clear HO186; have HB := n0_; have HO199 := n1_; clear n0_ n1_; clear ho hb hg hat; have q27 : ((ji19) : Int) ≤ ((l0.length : Int) : Int) := of_decide_eq_true (by first | (with_reducible assumption) | assumption); obtain ⟨i027, hi027, _, hsz27, _⟩ := info_parts info55; have hroom27 : l0.length ≤ c0 := HC0.out; have hC27 : Kd.C k55 _ (some ad194) l0.length l0 := HR0.out; have hcut27 := cut_to (P := Try.prog) 30 55 .i64 Try.underlying30 hi027 (some ad194) l0.length c0 (ji19) (of_decide_eq_true (by first | (with_reducible assumption) | assumption)) q27 hroom27; have hr27 := Kd.C_take (m := ((ji19) : Int).toNat) hC27 (by omega); have hy27 : y200.length = ((ji19) : Int).toNat := (by rw [Ny200.out, List.length_take]; omega); rw [← Ny200.out] at hr27; rw [← hy27] at hcut27; have HR203 := Aside0.mk hr27; have HC203 := Aside0.mk (show y200.length ≤ c0 from by omega); clear hr27 hC27 hroom27 hi027 hsz27; have KY27 := Aside0.mk hy27; clear hy27; replace q27 := eq_true q27) | ((with_reducible refine gate_builtin (b := .append) (xs := #[.tmp 17, .tmp 22]) rfl ?_); at_builtin; refine Kd.R_append_rows k55 (w0 := w) w.heap.size rfl (.tmp 17) (.tmp 22) 30 55 (.agg #[(.int .i8 0), (.int .i8 0)]) 2 rfl Try.underlying30 info55 rfl (by decide) (by omega) v198 y197 y200 _ _ _ (fun _ => True) (fun _ => False) rfl rfl ?aO ?aR (fun _ _ h => h) (fun _ h => h.elim) ?aF ?aB ?aS ?aL ?_; (case aR => repeat (first | exact (Kd.C_below HR203.out HB.out) | (with_reducible refine Kd.C_alloc ?_ _) | (with_reducible refine Kd.C_drewN ?_ _) | (with_reducible refine Kd.C_drew ?_))); (case aB => exact (pb HB)); (case aF => exact (fun _ _ => trivial)); (case aO => exact (by (with_reducible repeat (first | apply Kd.R_alloc | apply Kd.R_drewN | apply Kd.R_drew)); exact HO199.out)); (case aS => exact (below_size (by repeat (first | (with_reducible first | exact HB.out | apply below_alloc | apply pw_below_drewN | apply below_drew1) | exact HB.out)))); (case aL => have := LMc22.out; omega); intro v205 w28 ho hb hg hat; rw [← Ny204.out] at ho; have n0_ := Aside0.mk (hb); have n1_ := Aside0.mk (ho); clear HB; clear HO199; have HB := n0_; have HO206 := n1_; clear n0_ n1_; clear ho hb hg hat))
        go_ret
        exact ⟨_, by first | rfl | (simp [errW_none, errW_some] <;> rfl) | (simp only [← hji19]; first | rfl | (simp [errW_none, errW_some] <;> rfl)) | (simp [*, errW_none, errW_some] <;> rfl), by (with_reducible repeat (first | apply Kd.R_alloc | apply Kd.R_drewN | apply Kd.R_drew)); exact HO206.out, pb HB⟩
       ·rw [if_neg c22] at H
        exact absurd H (by simp)
      ·rw [if_neg c21] at H
       exact absurd H (by simp)
     ·rw [if_neg c20] at H
      exact absurd H (by simp)
    ·rw [if_neg c18] at H
     exact absurd H (by simp)
   ·rw [if_neg c16] at H
    exact absurd H (by simp)
def spec_l02Walk.l0 : Nat → List S55 → Int → List (List S55) → Int → Int → LA 10 → List Int → Option (List (List S55))
  | 0, _, _, _, _, _, _, _ => none
  | k + 1, f, i, o, s0, s1, W, ms => if i < (ms.length : Int) then (if 0 ≤ i then ((spec_l02Can.f k s0 s1 W f (rd ms i)).bind fun b => (if b = true then ((spec_l02Made.f k f (rd ms i)).bind fun g => (if o.length < 5864062014805 then (spec_l02Walk.l0 k g (wrap64 (i + 1)) (o ++ [g]) s0 s1 W ms) else none)) else (some o))) else none) else (some o)
def spec_l02Walk.f (k : Nat) (s0 : Int) (s1 : Int) (W : LA 10) (l0 : List S55) (ms : List Int) : Option (List (List S55)) := spec_l02Walk.l0 k l0 0 [] s0 s1 W ms
theorem spec_l02Walk.mono_l : ∀ k, ∀ y0 y1 y2 y3 y4 y5 y6, LeO (spec_l02Walk.l0 k y0 y1 y2 y3 y4 y5 y6) (spec_l02Walk.l0 (k + 1) y0 y1 y2 y3 y4 y5 y6)
  | 0 => fun _ _ _ _ _ _ _ r h => by simp [spec_l02Walk.l0] at h
  | k + 1 => by
    have ih0 := spec_l02Walk.mono_l k; intro y0 y1 y2 y3 y4 y5 y6; unfold spec_l02Walk.l0; exact LeO.ite (LeO.ite (LeO.bind (spec_l02Can.mono _ _ _ _ _ _) (fun _ => LeO.ite (LeO.bind (spec_l02Made.mono _ _ _) (fun _ => LeO.ite (ih0 _ _ _ _ _ _ _) (LeO.none _))) (LeO.refl _))) (LeO.none _)) (LeO.refl _)
theorem spec_l02Walk.mono : ∀ a0 a1 a2 a3 a4 k, LeO (spec_l02Walk.f k a0 a1 a2 a3 a4) (spec_l02Walk.f (k + 1) a0 a1 a2 a3 a4) := by
  intro a0 a1 a2 a3 a4 k; unfold spec_l02Walk.f; exact spec_l02Walk.mono_l k _ _ _ _ _ _ _
set_option maxHeartbeats 8000000 in
set_option maxRecDepth 100000 in
theorem spec_l02Walk.calls (k : Nat) (g0 : Nat) (s0 : Int) (s1 : Int) (W : LA 10) (A0 : Option Addr) (c0 : Nat) (l0 : List S55) (A2 : Option Addr) (c2 : Nat) (ms : List Int) (r : List (List S55)) (w : World) (hb0 : w.heap[g0]? = some (.cells (mixA (Value.int .u16) [.int .i8 s0, .int .i8 s1] W) 33 (0, 0))) (hr0 : Kd.C k55 w A0 l0.length l0) (hc0 : l0.length ≤ c0) (hr2 : Kd.C (Kd.int .i64) w A2 ms.length ms) (hc2 : ms.length ≤ c2) (h : spec_l02Walk.f k s0 s1 W l0 ms = some r) :
    Calls Try.prog 55 #[.pointer (some ⟨g0, 0, none⟩), .slice A0 l0.length c0, .slice A2 ms.length c2] w fun e w' => ∃ v0_ : Value, e = .returned (v0_) ∧ Kd.S (Kd.slice 55 k55) 30 w' w.heap.size (fun _ => True) v0_ r ∧ Below w.heap.size w w' := by
  have hu1 := Try.underlying33; have HR := Aside0.mk hr0; have HC := Aside0.mk hc0; have HR2 := Aside0.mk hr2; clear hr0 hc0 hr2; have HB := Aside0.mk (Below.refl w.heap.size w); have H' := Aside0.mk (show spec_l02Walk.l0 k l0 0 [] s0 s1 W ms = some r from h); clear h; have BK := Aside0.mk hb0; clear hb0
  go_enter Try.func55, Try.ntmps55
  go_wp2_with (first | ((with_reducible refine gate_dst (N := 9) rfl ?_); refine Kd.S_lit (Kd.slice 55 k55) _ 30 ?hg (N := 9) ?hd (xs := ([] : List (List S55))) (inner := []) (ok := (fun _ => True)) (okp := (fun _ => True)) ?hr ?hp (fun _ hk => hk) trivial (Below.refl _ _) (Nat.le_refl _) (by simp) ?_; (case hd => rfl); (case hg => rfl); (case hr => first | (go_simp; done) | (go_simp; rfl)); (case hp => exact (Reps.none _ _)); intro vo wo ho hb hg_ hnew_; clear hg_ hnew_; have n1_ := Aside0.mk (Kd.S_lower ho (below_size (pbs HB))); have n2_ := bkb BK hb; clear BK; have BK := n2_; clear n2_; have n0_ := bst HB hb; clear HB; have HB := n0_; have HO := n1_; clear n0_ n1_; clear hb ho))
  go_loopg [1, 7, 8] k (fun kq v0 v7 v13 w' => ∃ (f : List S55) (i : Int) (o : List (List S55)) (A : Option Addr) (c : Nat), v0 = .slice A f.length c ∧ v13 = .int .i64 i ∧ Aside0 (spec_l02Walk.l0 kq f i o s0 s1 W ms = some r) ∧ Aside0 (kq ≤ k) ∧ Aside0 (f.length ≤ c) ∧ Aside0 (Kd.F k55 w' (fun k_ => True ∧ some k_ ≠ v7.ownBlock) A f.length f) ∧ Aside0 (Kd.S (Kd.slice 55 k55) 30 w' w.heap.size (fun _ => True) v7 o) ∧ Aside0 (w'.heap[g0]? = some (.cells (mixA (Value.int .u16) [.int .i8 s0, .int .i8 s1] W) 33 (0, 0))) ∧ Aside0 (Below w.heap.size w w'))
  case atStart => exact ⟨l0, 0, [], A0, c0, (by first | rfl | (simp; done) | (simp [*]; done)), (by first | rfl | (simp; done) | (simp [*]; done)), H', ⟨Nat.le_refl _⟩, HC, ⟨by (with_reducible repeat (first | apply Kd.F_alloc | apply Kd.F_drewN | apply Kd.F_drew)); exact Kd.F_mono (Kd.F_below (Kd.C_F (Kd.heap_iso _ (Kd.heap_pair (Kd.heap_int _) (Kd.heap_int _))) HR.out) HB.out) (fun k_ hk => ⟨trivial, fun e_ => absurd hk (by have := Kd.S_base HO.out k_ e_.symm; omega)⟩)⟩, ⟨by (with_reducible repeat (first | apply Kd.S_alloc | apply Kd.S_drewN | apply Kd.S_drew)); exact HO.out⟩, ⟨pk BK⟩, ⟨pbs HB⟩⟩
  case round =>
    clear H'; obtain ⟨f, i, o, A, c, rfl, rfl, HA, HK1, HC_, HF, HO, BK, HB⟩ := hrel; obtain ⟨Ao, co, eo⟩ := Kd.S_slice HO.out; subst eo
    cases gk with
    | zero => exact absurd HA.out (by simp [spec_l02Walk.l0])
    | succ k1 =>
      have H := HA.out; clear HA; simp only [spec_l02Walk.l0] at H
      by_cases c2_ : i < (ms.length : Int)
      · rw [if_pos c2_] at H
        have c2b0 : decide (i < (ms.length : Int)) = true := decide_eq_true c2_
        by_cases c3_ : 0 ≤ i
        · rw [if_pos c3_] at H
          obtain ⟨b, A4, H⟩ := Option.bind_eq_some_iff.mp H; have A5 := Aside0.mk A4; clear A4; obtain ⟨ad, e_, hx⟩ := Kd.at_int HR2.out i c3_ c2_; cases e_; have HX := Aside0.mk hx; clear hx; have hx := (HB.out.cell (World.block_lt_of_cell? w _ HX.out)).trans HX.out; have p_ := eq_true c3_; have q_ := eq_true c2_; clear c2_ c3_
          by_cases cb : b = true
          · subst cb
            replace H : ((spec_l02Made.f k1 f (rd ms i)).bind fun g => (if o.length < 5864062014805 then (spec_l02Walk.l0 k1 g (wrap64 (i + 1)) (o ++ [g]) s0 s1 W ms) else none)) = some r := by rw [if_pos rfl] at H; exact H
            obtain ⟨g2, A6, H⟩ := Option.bind_eq_some_iff.mp H; have A7 := Aside0.mk A6; clear A6
            by_cases cl : o.length < 5864062014805
            · rw [if_pos cl] at H
              have LM := Aside0.mk cl; clear cl; obtain ⟨y, hy⟩ : ∃ y_ : List (List S55), y_ = o ++ [g2] := ⟨_, rfl⟩; rw [← hy] at H; have NY := Aside0.mk hy; clear hy; have H' := Aside0.mk H; clear H
              go_wp2_with (first | ((with_reducible refine gate_callee (f := 47) rfl ?_); refine goesL_ (some 22) rfl rfl Try.func47 (by kernel_rfl) rfl #[.pointer (some ⟨g0, 0, none⟩), .slice A f.length c, .int .i64 (rd ms i)] rfl (by (try simp only [List.map_toArray, List.map_cons, List.map_nil]); first | done | rfl) ?_; (with_reducible refine (spec_l02Can.calls k1 g0 s0 s1 W A c f (rd ms i) true _ ?sB ?sC ?sL A5.out).mono ?_); (case sB => exact pk BK); (case sC => exact Kd.F_now (by (with_reducible repeat (first | apply Kd.F_alloc | apply Kd.F_drewN | apply Kd.F_drew)); exact HF.out)); (case sL => exact HC_.out); rintro e w1 ⟨rfl, hb⟩; refine ⟨_, rfl, ?_⟩; have n0_ := Aside0.mk (Kd.F_below (by (with_reducible repeat (first | apply Kd.F_alloc | apply Kd.F_drewN | apply Kd.F_drew)); exact HF.out) hb); have n1_ := Aside0.mk (Kd.S_below (by (with_reducible repeat (first | apply Kd.S_alloc | apply Kd.S_drewN | apply Kd.S_drew)); exact HO.out) hb); have n2_ := bkb BK hb; have n3_ := bst HB hb; clear HF HO BK HB; have HF := n0_; have HO := n1_; have BK := n2_; have HB := n3_; clear n0_ n1_ n2_ n3_; clear hb hx; have hx := (HB.out.cell (World.block_lt_of_cell? w _ HX.out)).trans HX.out) | ((with_reducible refine gate_callee (f := 48) rfl ?_); refine goesL_ (some 29) rfl rfl Try.func48 (by kernel_rfl) rfl #[.slice A f.length c, .int .i64 (rd ms i)] rfl (by (try simp only [List.map_toArray, List.map_cons, List.map_nil]); first | done | rfl) ?_; (with_reducible refine (spec_l02Made.calls k1 A c f (rd ms i) g2 _ ?sC ?sL A7.out).mono ?_); (case sC => exact Kd.F_now (by (with_reducible repeat (first | apply Kd.F_alloc | apply Kd.F_drewN | apply Kd.F_drew)); exact HF.out)); (case sL => exact HC_.out); rintro e w2 ⟨vg, rfl, hog, hb⟩; refine ⟨_, rfl, ?_⟩; have n4_ := Aside0.mk (Kd.S_elder' (by (with_reducible repeat (first | apply Kd.S_alloc | apply Kd.S_drewN | apply Kd.S_drew)); exact HO.out) (fun k_ h_ => Kd.R_base hog k_ h_) hb); have n1_ := Aside0.mk (Kd.S_below (by (with_reducible repeat (first | apply Kd.S_alloc | apply Kd.S_drewN | apply Kd.S_drew)); exact HO.out) hb); have n2_ := bkb BK hb; have n0_ := Aside0.mk (Kd.R_lower hog (below_size (pbs HB))); have n3_ := bst HB hb; clear HO BK HB hog; have HO := n1_; have BK := n2_; have HB := n3_; have HG := n0_; have HOE := n4_; clear n0_ n1_ n2_ n3_ n4_; clear hb; obtain ⟨Ag, cg, eg⟩ := Kd.R_slice HG.out; subst eg; have HCg := Aside0.mk (Kd.R_reads' HG.out).2.1) | ((with_reducible refine gate_builtin (b := .append) (xs := #[.tmp 30, .tmp 32]) rfl ?_); at_builtin; refine Kd.S_append (Kd.slice 55 k55) (w0 := w) w.heap.size rfl (.tmp 30) (.tmp 32) 45 30 (.slice none 0 0) 24 rfl Try.underlying45 (by kernel_rfl) rfl (by decide) (by omega) (.slice Ao o.length co) o g2 [.slice Ag g2.length cg] (fun _ => True) (fun k_ => some k_ = (.slice Ag g2.length cg : Value).ownBlock) rfl rfl ?aP (fun k_ hk_ => (Kd.R_apart' (HG.out) (Kd.S_typed HO.out) (by decide)).1 k_ hk_.symm) ?aF ?aO ?aB ?aS ?aL ?_; (case aP => exact Kd.M_row (Kd.R_tight rfl HG.out)); (case aB => exact (pbs HB)); (case aF => exact (fun _ _ => trivial)); (case aO => exact (by (with_reducible repeat (first | apply Kd.S_alloc | apply Kd.S_drewN | apply Kd.S_drew)); exact Kd.S_mono HOE.out (fun k_ hk => ⟨trivial, fun e_ => hk.2 e_⟩))); (case aS => exact (below_size (pbs HB))); (case aL => have := LM.out; omega); intro v3 w3 ho hb hg hat; rw [← NY.out] at ho; have n0_ := Aside0.mk (Kd.F_after (Kd.R_F (by (with_reducible repeat (first | apply Kd.R_alloc | apply Kd.R_drewN | apply Kd.R_drew)); exact Kd.R_apart' HG.out (Kd.S_typed HO.out) (by decide))) hg hat); have n1_ := Aside0.mk (blk_grown (g := g0) (o := .cells (mixA (Value.int .u16) [.int .i8 s0, .int .i8 s1] W) 33 (0, 0)) (pk BK) hg (Kd.S_ne HO.out BK.out (by decide))); have n2_ := Aside0.mk hb; have n3_ := Aside0.mk ho; clear HO HOE BK HB; have HFg := n0_; have BK := n1_; have HB := n2_; have HO := n3_; clear n0_ n1_ n2_ n3_; clear ho hb hg hat))
              go_roundg k1
              case measure => have := HK1.out; omega
              case rel => exact ⟨g2, (wrap64 (i + 1)), y, Ag, cg, (by first | rfl | (simp; done) | (simp [*]; done)), (by first | rfl | (simp; done) | (simp [*]; done)), H', ⟨by have := HK1.out; omega⟩, HCg, ⟨by (with_reducible repeat (first | apply Kd.F_alloc | apply Kd.F_drewN | apply Kd.F_drew)); exact HFg.out⟩, ⟨by (with_reducible repeat (first | apply Kd.S_alloc | apply Kd.S_drewN | apply Kd.S_drew)); exact HO.out⟩, ⟨pk BK⟩, ⟨pbs HB⟩⟩
            · rw [if_neg cl] at H
              exact absurd H (by simp)
          · replace cb := Bool.eq_false_iff.mpr cb
            subst cb
            replace H : (some o) = some r := by rw [if_neg (show ¬ (false = true) by decide)] at H; exact H
            obtain rfl := Option.some.inj H
            go_wp2_with (first | ((with_reducible refine gate_callee (f := 47) rfl ?_); refine goesL_ (some 22) rfl rfl Try.func47 (by kernel_rfl) rfl #[.pointer (some ⟨g0, 0, none⟩), .slice A f.length c, .int .i64 (rd ms i)] rfl (by (try simp only [List.map_toArray, List.map_cons, List.map_nil]); first | done | rfl) ?_; (with_reducible refine (spec_l02Can.calls k1 g0 s0 s1 W A c f (rd ms i) false _ ?sB ?sC ?sL A5.out).mono ?_); (case sB => exact pk BK); (case sC => exact Kd.F_now (by (with_reducible repeat (first | apply Kd.F_alloc | apply Kd.F_drewN | apply Kd.F_drew)); exact HF.out)); (case sL => exact HC_.out); rintro e w1 ⟨rfl, hb⟩; refine ⟨_, rfl, ?_⟩; have n0_ := Aside0.mk (Kd.F_below (by (with_reducible repeat (first | apply Kd.F_alloc | apply Kd.F_drewN | apply Kd.F_drew)); exact HF.out) hb); have n1_ := Aside0.mk (Kd.S_below (by (with_reducible repeat (first | apply Kd.S_alloc | apply Kd.S_drewN | apply Kd.S_drew)); exact HO.out) hb); have n2_ := bkb BK hb; have n3_ := bst HB hb; clear HF HO BK HB; have HF := n0_; have HO := n1_; have BK := n2_; have HB := n3_; clear n0_ n1_ n2_ n3_; clear hb hx; have hx := (HB.out.cell (World.block_lt_of_cell? w _ HX.out)).trans HX.out))
            go_ret
            exact ⟨_, by first | rfl | (simp; done) | (simp [*]; done), by (with_reducible repeat (first | apply Kd.S_alloc | apply Kd.S_drewN | apply Kd.S_drew)); exact HO.out, pbs HB⟩
        · rw [if_neg c3_] at H
          exact absurd H (by simp)
      · rw [if_neg c2_] at H
        obtain rfl := Option.some.inj H; have c2b0 : decide (i < (ms.length : Int)) = false := decide_eq_false c2_
        go_wp2
        go_ret
        exact ⟨_, by first | rfl | (simp; done) | (simp [*]; done), by (with_reducible repeat (first | apply Kd.S_alloc | apply Kd.S_drewN | apply Kd.S_drew)); exact HO.out, pbs HB⟩
def impl_within.f (a0 : Int) (a1 : Int) (a2 : Int) : Option (Bool) := if a1 ≤ a0 then (some (decide (a0 ≤ a2))) else (some false)
set_option maxHeartbeats 8000000 in
set_option maxRecDepth 100000 in
theorem impl_within.calls (a0 : Int) (a1 : Int) (a2 : Int) (r : Bool) (w : World) (h : impl_within.f a0 a1 a2 = some r) :
  Calls Try.prog 97 #[.int .i64 a0, .int .i64 a1, .int .i64 a2] w fun e w' => e = .returned (.bool r) ∧ Drawn0 w w' := by
 have H : (if a1 ≤ a0 then (some (decide (a0 ≤ a2))) else (some false)) = some r := h
 clear h
 by_cases c4 : a1 ≤ a0
 ·rw [if_pos c4] at H
  have c4b0 : decide (a1 ≤ a0) = true := decide_eq_true c4; clear c4; obtain rfl := Option.some.inj H
  go_enter Try.func97, Try.ntmps97
  go_wp2
  go_ret
  exact ⟨by first | rfl | (simp; done) | (simp [*]; done), by repeat (first | exact Drawn0.refl _ | apply Drawn0.step)⟩
 ·rw [if_neg c4] at H
  have c4b0 : decide (a1 ≤ a0) = false := decide_eq_false c4; clear c4; obtain rfl := Option.some.inj H
  go_enter Try.func97, Try.ntmps97
  go_wp2
  go_ret
  exact ⟨by first | rfl | (simp; done) | (simp [*]; done), by repeat (first | exact Drawn0.refl _ | apply Drawn0.step)⟩
mutual
def impl_ValidRoom.j0 : Nat → Bool → Int → Int → LA 10 → Option (Bool)
 | 0, _, _, _, _ => none
 | k + 1, x16, x219000, x219001, x219002 => if x16 = true then (some false) else (impl_ValidRoom.l0 k x219002 0 x219000 x219001 x219002)
def impl_ValidRoom.l0 : Nat → LA 10 → Int → Int → Int → LA 10 → Option (Bool)
 | 0, _, _, _, _, _ => none
 | k + 1, x18, x19, x219000, x219001, x219002 => if x19 < 10 then (if 0 ≤ x19 then (if 0 ≤ x219000 then (if (shr .u16 (rd x18.l x19) x219000) = 0 then (if x19 ≥ (wrap64 (x219001)) then (if (rd x18.l x19) = 0 then (impl_ValidRoom.l0 k x18 (wrap64 (x19 + 1)) x219000 x219001 x219002) else (some false)) else (impl_ValidRoom.l0 k x18 (wrap64 (x19 + 1)) x219000 x219001 x219002)) else (some false)) else (none)) else (none)) else (some true)
end
def impl_ValidRoom.f (k : Nat) (a0_0 : Int) (a0_1 : Int) (a0_2 : LA 10) : Option (Bool) := (impl_within.f (wrap64 (a0_0)) 1 10).bind fun t219 => (if t219 = true then ((impl_within.f (wrap64 (a0_1)) 1 10).bind fun t220 => (impl_ValidRoom.j0 k (!t220) a0_0 a0_1 a0_2)) else (impl_ValidRoom.j0 k true a0_0 a0_1 a0_2))
theorem impl_ValidRoom.mono_l : ∀ k, (∀ y0 y1 y2 y3, LeO (impl_ValidRoom.j0 k y0 y1 y2 y3) (impl_ValidRoom.j0 (k + 1) y0 y1 y2 y3)) ∧ (∀ y0 y1 y2 y3 y4, LeO (impl_ValidRoom.l0 k y0 y1 y2 y3 y4) (impl_ValidRoom.l0 (k + 1) y0 y1 y2 y3 y4))
 | 0 => ⟨fun _ _ _ _ r h => by simp [impl_ValidRoom.j0] at h, fun _ _ _ _ _ r h => by simp [impl_ValidRoom.l0] at h⟩
 | k + 1 => by
  obtain ⟨ih0, ih1⟩ := impl_ValidRoom.mono_l k; refine ⟨?_, ?_⟩
  ·intro y0 y1 y2 y3
   unfold impl_ValidRoom.j0
   repeat' first
   | (with_reducible exact ih0 _ _ _ _)
   | (with_reducible exact ih1 _ _ _ _ _)
   | (with_reducible exact LeO.refl _)
   | (with_reducible exact LeO.none _)
   | (with_reducible refine LeO.ite ?_ ?_)
   | (with_reducible refine LeO.bind ?_ (fun _ => ?_))
   | exact ih0 _ _ _ _
   | exact ih1 _ _ _ _ _
   | exact LeO.none _
   | refine LeO.ite ?_ ?_
   | refine LeO.bind ?_ (fun _ => ?_)
  ·intro y0 y1 y2 y3 y4
   unfold impl_ValidRoom.l0
   repeat' first
   | (with_reducible exact ih0 _ _ _ _)
   | (with_reducible exact ih1 _ _ _ _ _)
   | (with_reducible exact LeO.refl _)
   | (with_reducible exact LeO.none _)
   | (with_reducible refine LeO.ite ?_ ?_)
   | (with_reducible refine LeO.bind ?_ (fun _ => ?_))
   | exact ih0 _ _ _ _
   | exact ih1 _ _ _ _ _
   | exact LeO.none _
   | refine LeO.ite ?_ ?_
   | refine LeO.bind ?_ (fun _ => ?_)
theorem impl_ValidRoom.mono : ∀ a0 a1 a2 k, LeO (impl_ValidRoom.f k a0 a1 a2) (impl_ValidRoom.f (k + 1) a0 a1 a2) := by
 intro a0 a1 a2 k
 obtain ⟨ih0, ih1⟩ := impl_ValidRoom.mono_l k
 unfold impl_ValidRoom.f
 repeat' first
   | (with_reducible exact ih0 _ _ _ _)
   | (with_reducible exact ih1 _ _ _ _ _)
   | (with_reducible exact LeO.refl _)
   | (with_reducible exact LeO.none _)
   | (with_reducible refine LeO.ite ?_ ?_)
   | (with_reducible refine LeO.bind ?_ (fun _ => ?_))
   | exact ih0 _ _ _ _
   | exact ih1 _ _ _ _ _
   | exact LeO.none _
   | refine LeO.ite ?_ ?_
   | refine LeO.bind ?_ (fun _ => ?_)
set_option maxHeartbeats 8000000 in
set_option maxRecDepth 100000 in
theorem impl_ValidRoom.calls (k : Nat) (a0_0 : Int) (a0_1 : Int) (a0_2 : LA 10) (r : Bool) (w : World) (h : impl_ValidRoom.f k a0_0 a0_1 a0_2 = some r) :
  Calls Try.prog 93 #[.agg (mixA (Value.int .u16) [.int .i8 a0_0, .int .i8 a0_1] a0_2)] w fun e w' => e = .returned (.bool r) ∧ Below w.heap.size w w' := by
 have hu33 := Try.underlying33
 have HB := Aside0.mk (Below.refl w.heap.size w)
 have H : ((impl_within.f (wrap64 (a0_0)) 1 10).bind fun t219 => (if t219 = true then ((impl_within.f (wrap64 (a0_1)) 1 10).bind fun t220 => (impl_ValidRoom.j0 k (!t220) a0_0 a0_1 a0_2)) else (impl_ValidRoom.j0 k true a0_0 a0_1 a0_2))) = some r := h
 clear h
 have HC2 := Aside0.mk H
 clear H
 go_enter Try.func93, Try.ntmps93
 go_upto_region 1 with (first | ((with_reducible refine gate_dst (N := 1) rfl ?_); refine box_event ?hg (N := 1) ?hd (cs := (mixA (Value.int .u16) [.int .i8 a0_0, .int .i8 a0_1] a0_2)) (t := 33) ?hr ?_; (case hd => rfl); (case hg => rfl); (case hr => first | (go_simp; done) | (go_simp; rfl)); intro gb218 hg w3 hbox hb; have n0_ := bst HB hb; have n1_ := Aside0.mk (hbox); have n2_ := gwl HB hg; have n3_ := gwl HB hg; clear HB; have HB := n0_; have BK218 := n1_; have GW218 := n2_; have GE218 := n3_; clear n0_ n1_ n2_ n3_; clear hb hbox hg))
 (try simp only [Act.put, List.setIfInBounds_toArray, List.set_cons_zero, List.set_cons_succ])
 go_cut [16] (fun v16 wc => ∃ (kq : Nat) (x16_1 : Bool), v16 = .bool x16_1 ∧ Aside0 (impl_ValidRoom.j0 kq x16_1 a0_0 a0_1 a0_2 = some r) ∧ Aside0 (kq ≤ k) ∧ Aside0 (wc.heap[gb218]? = some (.cells (mixA (Value.int .u16) [.int .i8 a0_0, .int .i8 a0_1] a0_2) 33 (0, 0))) ∧ Aside0 (Below w.heap.size w wc))
 case first =>
  have H := HC2.out; clear HC2; replace H := Option.bind_eq_some_iff.mp H; obtain ⟨t219, A40, H⟩ := H; replace H : (if t219 = true then ((impl_within.f (wrap64 (a0_1)) 1 10).bind fun t220 => (impl_ValidRoom.j0 k (!t220) a0_0 a0_1 a0_2)) else (impl_ValidRoom.j0 k true a0_0 a0_1 a0_2)) = some r := H; have A4 := Aside0.mk A40; clear A40
  by_cases c5 : t219 = true
  ·subst c5
   have H1 : ((impl_within.f (wrap64 (a0_1)) 1 10).bind fun t220 => (impl_ValidRoom.j0 k (!t220) a0_0 a0_1 a0_2)) = some r := by rw [if_pos rfl] at H; exact H
   clear H; have H := H1; clear H1; replace H := Option.bind_eq_some_iff.mp H; obtain ⟨t220, A60, H⟩ := H; replace H : (impl_ValidRoom.j0 k (!t220) a0_0 a0_1 a0_2) = some r := H; have A6 := Aside0.mk A60; clear A60; have H' := Aside0.mk H; clear H; have hcz7_0 : w3.cell? ⟨gb218, 0, none⟩ = some (.int .i8 a0_0) := mix_cell0 BK218.out 0; have hcz7_1 : w3.cell? ⟨gb218, 1, none⟩ = some (.int .i8 a0_1) := mix_cell0 BK218.out 1; have hfz7_0 := blk_frozen BK218.out 0; have hfz7_1 := blk_frozen BK218.out 1
   go_wp2_with (first | ((with_reducible refine gate_callee (f := 97) rfl ?_); refine goesL_ (some 8) rfl rfl Try.func97 (by kernel_rfl) rfl #[.int .i64 (wrap64 (a0_0)), .int .i64 1, .int .i64 10] rfl (by (try simp only [List.map_toArray, List.map_cons, List.map_nil]); first | done | rfl | (simp only [List.length_drop, List.length_take]; rfl)) ?_; (with_reducible refine (impl_within.calls (wrap64 (a0_0)) 1 10 true _ A4.out).mono ?_); rintro e w' ⟨rfl, ⟨nd, rfl⟩⟩; refine ⟨_, rfl, ?_⟩) | (go_at_call 97; (with_reducible refine (impl_within.calls (wrap64 (a0_1)) 1 10 t220 _ A6.out).mono ?_); rintro e w' ⟨rfl, ⟨nd, rfl⟩⟩))
   go_meet
   case rel => exact ⟨_, (!t220), (by first | rfl | (simp; done) | (simp [*]; done)), H', ⟨by first | omega | exact Nat.le_refl _⟩, ⟨pk BK218⟩, ⟨pbs HB⟩⟩
  ·replace c5 := Bool.eq_false_iff.mpr c5
   subst c5
   have H1 : (impl_ValidRoom.j0 k true a0_0 a0_1 a0_2) = some r := by rw [if_neg (show ¬ (false = true) by decide)] at H; exact H
   clear H; have H := H1; clear H1; have H' := Aside0.mk H; clear H; have hcz8_0 : w3.cell? ⟨gb218, 0, none⟩ = some (.int .i8 a0_0) := mix_cell0 BK218.out 0; have hcz8_1 : w3.cell? ⟨gb218, 1, none⟩ = some (.int .i8 a0_1) := mix_cell0 BK218.out 1; have hfz8_0 := blk_frozen BK218.out 0; have hfz8_1 := blk_frozen BK218.out 1
   go_wp2_with (first | ((with_reducible refine gate_callee (f := 97) rfl ?_); refine goesL_ (some 8) rfl rfl Try.func97 (by kernel_rfl) rfl #[.int .i64 (wrap64 (a0_0)), .int .i64 1, .int .i64 10] rfl (by (try simp only [List.map_toArray, List.map_cons, List.map_nil]); first | done | rfl | (simp only [List.length_drop, List.length_take]; rfl)) ?_; (with_reducible refine (impl_within.calls (wrap64 (a0_0)) 1 10 false _ A4.out).mono ?_); rintro e w' ⟨rfl, ⟨nd, rfl⟩⟩; refine ⟨_, rfl, ?_⟩))
   go_meet
   case rel => exact ⟨_, (true), (by first | rfl | (simp; done) | (simp [*]; done)), H', ⟨by first | omega | exact Nat.le_refl _⟩, ⟨pk BK218⟩, ⟨pbs HB⟩⟩
 case rest =>
  clear HC2
  try clear p2
  try clear c5
  try clear p6
  try clear hcz7_0
  try clear hcz7_1
  try clear hcz8_0
  try clear hcz8_1
  try clear hfz7_0
  try clear hfz7_1
  try clear hfz8_0
  try clear hfz8_1
  obtain ⟨kq, x16_1, rfl, HA, HJ1, BK218, HB⟩ := hcut
  cases kq with
  | zero => exact absurd HA.out (by simp [impl_ValidRoom.j0])
  | succ kj1 =>
   have H := HA.out; clear HA; simp only [impl_ValidRoom.j0] at H
   by_cases c9 : x16_1 = true
   ·subst c9
    have H1 : (some false) = some r := by rw [if_pos rfl] at H; exact H
    clear H; have H := H1; clear H1; obtain rfl := Option.some.inj H
    go_wp2
    go_ret
    exact ⟨by first | rfl | (simp [errW_none, errW_some] <;> rfl) | (simp [*, errW_none, errW_some] <;> rfl), pbs HB⟩
   ·replace c9 := Bool.eq_false_iff.mpr c9
    subst c9
    have H1 : (impl_ValidRoom.l0 kj1 a0_2 0 a0_0 a0_1 a0_2) = some r := by rw [if_neg (show ¬ (false = true) by decide)] at H; exact H
    clear H; have H := H1; clear H1; have H' := Aside0.mk H; clear H
    go_wp2_with (first | ((with_reducible refine gate_dst (N := 18) rfl ?_); refine wpList_run0 (v := .agg (mixA (Value.int .u16) [] a0_2)) rfl (load_arr_run (P := Try.prog) 24 (.tmp 17) rfl gb218 2 rfl (show World.rangeAt _ gb218 2 (a0_2.l.map (Value.int .u16)) from mix_range_arr (show (World.heap _)[gb218]? = some (.cells (mixA (Value.int .u16) [.int .i8 a0_0, .int .i8 a0_1] a0_2) 33 (0, 0)) from by (with_reducible repeat (first | refine blk_drewN ?_ _ | refine blk_drew ?_ | refine blk_alloc ?_ _)); exact BK218.out) 2 rfl) Try.underlying24 rfl (by kernel_rfl)) ?_))
    go_loopg [19] kj1 (fun kq v19 w' => ∃ (x19_2 : Int), v19 = .int .i64 x19_2 ∧ Aside0 (impl_ValidRoom.l0 kq a0_2 x19_2 a0_0 a0_1 a0_2 = some r) ∧ Aside0 (kq ≤ kj1) ∧ Aside0 (w'.heap[gb218]? = some (.cells (mixA (Value.int .u16) [.int .i8 a0_0, .int .i8 a0_1] a0_2) 33 (0, 0))) ∧ Aside0 (Below w.heap.size w w'))
    case atStart => exact ⟨(0), (by first | rfl | (simp; done) | (simp [*]; done)), H', ⟨Nat.le_refl _⟩, ⟨pk BK218⟩, ⟨pbs HB⟩⟩
    case round =>
     clear H'
     try clear p2
     try clear c5
     try clear p6
     try clear c9
     try clear hcz7_0
     try clear hcz7_1
     try clear hcz8_0
     try clear hcz8_1
     try clear hfz7_0
     try clear hfz7_1
     try clear hfz8_0
     try clear hfz8_1
     try clear p2
     try clear p6
     obtain ⟨x19_2, rfl, HA, HK2, BK218, HB⟩ := hrel
     cases gk with
     | zero => exact absurd HA.out (by simp [impl_ValidRoom.l0])
     | succ k2 =>
      have H := HA.out; clear HA; simp only [impl_ValidRoom.l0] at H
      by_cases c11 : x19_2 < 10
      ·rw [if_pos c11] at H
       have c11b0 : decide (x19_2 < 10) = true := decide_eq_true c11; clear c11
       by_cases c12 : 0 ≤ x19_2
       ·rw [if_pos c12] at H
        have c12b0 : decide (0 ≤ x19_2) = true := decide_eq_true c12; clear c12
        by_cases c13 : 0 ≤ a0_0
        ·rw [if_pos c13] at H
         have c13b0 := eq_true c13; have c13b1 : decide (0 ≤ a0_0) = true := decide_eq_true c13; clear c13; obtain ⟨ji14, hji14⟩ : ∃ j_ : Int, (shr .u16 (rd a0_2.l x19_2) a0_0) = j_ := ⟨_, rfl⟩
         replace H : (if (ji14) = 0 then (if x19_2 ≥ (wrap64 (a0_1)) then (if (rd a0_2.l x19_2) = 0 then (impl_ValidRoom.l0 k2 a0_2 (wrap64 (x19_2 + 1)) a0_0 a0_1 a0_2) else (some false)) else (impl_ValidRoom.l0 k2 a0_2 (wrap64 (x19_2 + 1)) a0_0 a0_1 a0_2)) else (some false)) = some r := by first | (rw [hji14] at H; exact H) | (simp only [hji14] at H ⊢; exact H)
         have hji14_ : ((rd a0_2.l x19_2) / 2 ^ min a0_0.toNat 16) = ji14 := hji14; have hji14z : a0_0 ≤ 16 → ((rd a0_2.l x19_2) / 2 ^ a0_0.toNat) = ji14 := shr_small hji14
         by_cases c15 : (ji14) = 0
         ·rw [if_pos c15] at H
          have c15b0 : ((ji14) == 0) = true := beq_iff_eq.mpr c15; have c15b1 : ((ji14) != 0) = false := bne_eq_false_iff_eq.mpr c15; clear c15
          by_cases c16 : x19_2 ≥ (wrap64 (a0_1))
          ·rw [if_pos c16] at H
           have c16b0 : decide ((wrap64 (a0_1)) ≤ x19_2) = true := decide_eq_true c16; clear c16
           by_cases c17 : (rd a0_2.l x19_2) = 0
           ·rw [if_pos c17] at H
            have c17b0 : ((rd a0_2.l x19_2) == 0) = true := beq_iff_eq.mpr c17; have c17b1 : ((rd a0_2.l x19_2) != 0) = false := bne_eq_false_iff_eq.mpr c17; clear c17; have H' := Aside0.mk H; clear H; have hixd18 : ∀ W_ : World, (Instr.index 24 (.agg (mixA (Value.int .u16) [] a0_2)) (.int .i64 x19_2)).run Try.prog W_ = .ok (.int .u16 (rd a0_2.l x19_2)) W_ := fun W_ => idx_la (e := (Value.int .u16)) Try.underlying24 (fun _ => by kernel_rfl) (fun _ => by kernel_rfl) x19_2 (by first | omega | exact of_decide_eq_true (by first | (with_reducible assumption) | assumption)) (by first | omega | exact of_decide_eq_true (by first | (with_reducible assumption) | assumption)) W_; have hcz19_0 : wr.cell? ⟨gb218, 0, none⟩ = some (.int .i8 a0_0) := mix_cell0 BK218.out 0; have hcz19_1 : wr.cell? ⟨gb218, 1, none⟩ = some (.int .i8 a0_1) := mix_cell0 BK218.out 1; have hfz19_0 := blk_frozen BK218.out 0; have hfz19_1 := blk_frozen BK218.out 1
            go_wp2
            go_roundg k2
            case measure => have := HJ1.out; have := HK2.out; omega
            case rel => exact ⟨(wrap64 (x19_2 + 1)), (by first | rfl | (simp; done) | (simp [*]; done)), H', ⟨by have := HJ1.out; have := HK2.out; omega⟩, ⟨pk BK218⟩, ⟨pbs HB⟩⟩
           ·rw [if_neg c17] at H
            have c17b0 : ((rd a0_2.l x19_2) == 0) = false := beq_eq_false_iff_ne.mpr c17; have c17b1 : ((rd a0_2.l x19_2) != 0) = true := bne_iff_ne.mpr c17; obtain rfl := Option.some.inj H; have hixd20 : ∀ W_ : World, (Instr.index 24 (.agg (mixA (Value.int .u16) [] a0_2)) (.int .i64 x19_2)).run Try.prog W_ = .ok (.int .u16 (rd a0_2.l x19_2)) W_ := fun W_ => idx_la (e := (Value.int .u16)) Try.underlying24 (fun _ => by kernel_rfl) (fun _ => by kernel_rfl) x19_2 (by first | omega | exact of_decide_eq_true (by first | (with_reducible assumption) | assumption)) (by first | omega | exact of_decide_eq_true (by first | (with_reducible assumption) | assumption)) W_; have hcz21_0 : wr.cell? ⟨gb218, 0, none⟩ = some (.int .i8 a0_0) := mix_cell0 BK218.out 0; have hcz21_1 : wr.cell? ⟨gb218, 1, none⟩ = some (.int .i8 a0_1) := mix_cell0 BK218.out 1; have hfz21_0 := blk_frozen BK218.out 0; have hfz21_1 := blk_frozen BK218.out 1
            go_wp2
            go_ret
            exact ⟨by first | rfl | (simp [errW_none, errW_some] <;> rfl) | (simp only [← hji14]; first | rfl | (simp [errW_none, errW_some] <;> rfl)) | (simp [*, errW_none, errW_some] <;> rfl), pbs HB⟩
          ·rw [if_neg c16] at H
           have c16b0 : decide ((wrap64 (a0_1)) ≤ x19_2) = false := decide_eq_false c16; clear c16; have H' := Aside0.mk H; clear H; have hixd22 : ∀ W_ : World, (Instr.index 24 (.agg (mixA (Value.int .u16) [] a0_2)) (.int .i64 x19_2)).run Try.prog W_ = .ok (.int .u16 (rd a0_2.l x19_2)) W_ := fun W_ => idx_la (e := (Value.int .u16)) Try.underlying24 (fun _ => by kernel_rfl) (fun _ => by kernel_rfl) x19_2 (by first | omega | exact of_decide_eq_true (by first | (with_reducible assumption) | assumption)) (by first | omega | exact of_decide_eq_true (by first | (with_reducible assumption) | assumption)) W_; have hcz23_0 : wr.cell? ⟨gb218, 0, none⟩ = some (.int .i8 a0_0) := mix_cell0 BK218.out 0; have hcz23_1 : wr.cell? ⟨gb218, 1, none⟩ = some (.int .i8 a0_1) := mix_cell0 BK218.out 1; have hfz23_0 := blk_frozen BK218.out 0; have hfz23_1 := blk_frozen BK218.out 1
           go_wp2
           go_roundg k2
           case measure => have := HJ1.out; have := HK2.out; omega
           case rel => exact ⟨(wrap64 (x19_2 + 1)), (by first | rfl | (simp; done) | (simp [*]; done)), H', ⟨by have := HJ1.out; have := HK2.out; omega⟩, ⟨pk BK218⟩, ⟨pbs HB⟩⟩
         ·rw [if_neg c15] at H
          have c15b0 : ((ji14) == 0) = false := beq_eq_false_iff_ne.mpr c15; have c15b1 : ((ji14) != 0) = true := bne_iff_ne.mpr c15; obtain rfl := Option.some.inj H; have hixd24 : ∀ W_ : World, (Instr.index 24 (.agg (mixA (Value.int .u16) [] a0_2)) (.int .i64 x19_2)).run Try.prog W_ = .ok (.int .u16 (rd a0_2.l x19_2)) W_ := fun W_ => idx_la (e := (Value.int .u16)) Try.underlying24 (fun _ => by kernel_rfl) (fun _ => by kernel_rfl) x19_2 (by first | omega | exact of_decide_eq_true (by first | (with_reducible assumption) | assumption)) (by first | omega | exact of_decide_eq_true (by first | (with_reducible assumption) | assumption)) W_; have hcz25_0 : wr.cell? ⟨gb218, 0, none⟩ = some (.int .i8 a0_0) := mix_cell0 BK218.out 0; have hcz25_1 : wr.cell? ⟨gb218, 1, none⟩ = some (.int .i8 a0_1) := mix_cell0 BK218.out 1; have hfz25_0 := blk_frozen BK218.out 0; have hfz25_1 := blk_frozen BK218.out 1
          go_wp2
          go_ret
          exact ⟨by first | rfl | (simp [errW_none, errW_some] <;> rfl) | (simp only [← hji14]; first | rfl | (simp [errW_none, errW_some] <;> rfl)) | (simp [*, errW_none, errW_some] <;> rfl), pbs HB⟩
        ·rw [if_neg c13] at H
         exact absurd H (by simp)
       ·rw [if_neg c12] at H
        exact absurd H (by simp)
      ·rw [if_neg c11] at H
       have c11b0 : decide (x19_2 < 10) = false := decide_eq_false c11; clear c11; obtain rfl := Option.some.inj H
       go_wp2
       go_ret
       exact ⟨by first | rfl | (simp [errW_none, errW_some] <;> rfl) | (simp [*, errW_none, errW_some] <;> rfl), pbs HB⟩
end Go.Proofs.Ytjogemppgdeomaa.PB
end
section
namespace Go.Proofs.Ytjogemppgdeomaa.PB
open Go.RowKit Go.Proofs.YtjogemppgdeomaaW.PrintWords Go.Proofs.YtjogemppgdeomaaW.PrintLast Go.Proofs.YtjogemppgdeomaaW.PrintMore Go.Proofs.Ytjogemppgdeomaa.La
attribute [local go_sem] max2_int min2_int max_two min_two max_three min_three max_four min_four   -- for this text's walks alone
set_option linter.unusedVariables false
set_option linter.unusedSimpArgs false
attribute [local go_sem high] eqA55
def impl_Spot_112.l0 : Nat → List (S55) → Int → Int → Int → Int → Option (Int)
 | 0, _, _, _, _, _ => none
 | k + 1, x0, x7, x8, x222000, x222001 => if x8 < x7 then (if 0 ≤ x8 then (if x8 < (x0.length : Int) then (if (x222000 == ((rd_T55 x0 x8).f0) && (x222001 == ((rd_T55 x0 x8).f1))) = true then (some x8) else (impl_Spot_112.l0 k x0 x7 (wrap64 (x8 + 1)) x222000 x222001)) else (none)) else (none)) else (some (-1))
def impl_Spot_112.f (k : Nat) (l0 : List (S55)) (a1_0 : Int) (a1_1 : Int) : Option (Int) := impl_Spot_112.l0 k l0 (l0.length : Int) 0 a1_0 a1_1
theorem impl_Spot_112.mono_l : ∀ k, (∀ y0 y1 y2 y3 y4, LeO (impl_Spot_112.l0 k y0 y1 y2 y3 y4) (impl_Spot_112.l0 (k + 1) y0 y1 y2 y3 y4))
 | 0 => fun _ _ _ _ _ r h => by simp [impl_Spot_112.l0] at h
 | k + 1 => by
  have ih0 := impl_Spot_112.mono_l k
  ·intro y0 y1 y2 y3 y4
   unfold impl_Spot_112.l0
   repeat' first
   | (with_reducible exact ih0 _ _ _ _ _)
   | (with_reducible exact LeO.refl _)
   | (with_reducible exact LeO.none _)
   | (with_reducible refine LeO.ite ?_ ?_)
   | (with_reducible refine LeO.bind ?_ (fun _ => ?_))
   | exact ih0 _ _ _ _ _
   | exact LeO.none _
   | refine LeO.ite ?_ ?_
   | refine LeO.bind ?_ (fun _ => ?_)
theorem impl_Spot_112.mono : ∀ a0 a1 a2 k, LeO (impl_Spot_112.f k a0 a1 a2) (impl_Spot_112.f (k + 1) a0 a1 a2) := by
 intro a0 a1 a2 k
 have ih0 := impl_Spot_112.mono_l k
 unfold impl_Spot_112.f
 repeat' first
   | (with_reducible exact ih0 _ _ _ _ _)
   | (with_reducible exact LeO.refl _)
   | (with_reducible exact LeO.none _)
   | (with_reducible refine LeO.ite ?_ ?_)
   | (with_reducible refine LeO.bind ?_ (fun _ => ?_))
   | exact ih0 _ _ _ _ _
   | exact LeO.none _
   | refine LeO.ite ?_ ?_
   | refine LeO.bind ?_ (fun _ => ?_)
set_option maxHeartbeats 8000000 in
set_option maxRecDepth 100000 in
theorem impl_Spot_112.calls (k : Nat) (A0 : Option Addr) (c0 : Nat) (l0 : List (S55)) (a1_0 : Int) (a1_1 : Int) (r : Int) (w : World) (hr0 : Kd.C k55 w A0 l0.length l0) (hc0 : l0.length ≤ c0) (h : impl_Spot_112.f k l0 a1_0 a1_1 = some r) :
  Calls Try.prog 112 #[.slice A0 l0.length c0, .agg #[.int .i8 a1_0, .int .i8 a1_1]] w fun e w' => e = .returned (.int .i64 r) ∧ Below w.heap.size w w' := by
 have hu55 := Try.underlying55
 have HR0 := Aside0.mk hr0
 have HC0 := Aside0.mk hc0
 clear hr0 hc0
 have HB := Aside0.mk (Below.refl w.heap.size w)
 have H : (impl_Spot_112.l0 k l0 (l0.length : Int) 0 a1_0 a1_1) = some r := h
 clear h
 have H' := Aside0.mk H
 clear H
 go_enter Try.func112, Try.ntmps112
 go_wp2_with (first | ((with_reducible refine gate_dst (N := 3) rfl ?_); refine box_event ?hg (N := 3) ?hd (cs := #[.int .i8 a1_0, .int .i8 a1_1]) (t := 55) ?hr ?_; (case hd => rfl); (case hg => rfl); (case hr => first | (go_simp; done) | (go_simp; rfl)); intro gb221 hg w3 hbox hb; have n0_ := bst HB hb; have n1_ := Aside0.mk (hbox); have n2_ := gwl HB hg; have n3_ := gwl HB hg; clear HB; have HB := n0_; have BK221 := n1_; have GW221 := n2_; have GE221 := n3_; clear n0_ n1_ n2_ n3_; clear hb hbox hg))
 repeat (go_quiet (first | ((with_reducible refine gate_dst (N := 3) rfl ?_); refine box_event ?hg (N := 3) ?hd (cs := #[.int .i8 a1_0, .int .i8 a1_1]) (t := 55) ?hr ?_; (case hd => rfl); (case hg => rfl); (case hr => first | (go_simp; done) | (go_simp; rfl)); intro gb221 hg w3 hbox hb; have n0_ := bst HB hb; have n1_ := Aside0.mk (hbox); have n2_ := gwl HB hg; have n3_ := gwl HB hg; clear HB; have HB := n0_; have BK221 := n1_; have GW221 := n2_; have GE221 := n3_; clear n0_ n1_ n2_ n3_; clear hb hbox hg)); try go_wp2_with (first | ((with_reducible refine gate_dst (N := 3) rfl ?_); refine box_event ?hg (N := 3) ?hd (cs := #[.int .i8 a1_0, .int .i8 a1_1]) (t := 55) ?hr ?_; (case hd => rfl); (case hg => rfl); (case hr => first | (go_simp; done) | (go_simp; rfl)); intro gb221 hg w3 hbox hb; have n0_ := bst HB hb; have n1_ := Aside0.mk (hbox); have n2_ := gwl HB hg; have n3_ := gwl HB hg; clear HB; have HB := n0_; have BK221 := n1_; have GW221 := n2_; have GE221 := n3_; clear n0_ n1_ n2_ n3_; clear hb hbox hg)))
 go_loopg [8] k (fun kq v8 w' => ∃ (x8_1 : Int), v8 = .int .i64 x8_1 ∧ Aside0 (impl_Spot_112.l0 kq l0 (l0.length : Int) x8_1 a1_0 a1_1 = some r) ∧ Aside0 (kq ≤ k) ∧ Aside0 (w'.heap[gb221]? = some (.cells #[.int .i8 a1_0, .int .i8 a1_1] 55 (0, 0))) ∧ Aside0 (Below w.heap.size w w'))
 case atStart => exact ⟨(0), (by first | rfl | (simp; done) | (simp [*]; done)), H', ⟨Nat.le_refl _⟩, ⟨pk BK221⟩, ⟨pbs HB⟩⟩
 case round =>
  clear H'
  try clear c1
  try clear p2
  obtain ⟨x8_1, rfl, HA, HK1, BK221, HB⟩ := hrel
  cases gk with
  | zero => exact absurd HA.out (by simp [impl_Spot_112.l0])
  | succ k1 =>
   have H := HA.out; clear HA; simp only [impl_Spot_112.l0] at H
   by_cases c4 : x8_1 < (l0.length : Int)
   ·rw [if_pos c4] at H
    have c4b0 : decide (x8_1 < (l0.length : Int)) = true := decide_eq_true c4; clear c4
    by_cases c5 : 0 ≤ x8_1
    ·rw [if_pos c5] at H
     have c5b0 : decide (0 ≤ x8_1) = true := decide_eq_true c5; clear c5
     by_cases c6 : x8_1 < (l0.length : Int)
     ·rw [if_pos c6] at H
      have c6b0 : decide (x8_1 < (l0.length : Int)) = true := decide_eq_true c6; clear c6
      by_cases c7 : (a1_0 == ((rd_T55 l0 x8_1).f0) && (a1_1 == ((rd_T55 l0 x8_1).f1))) = true
      ·rw [if_pos c7] at H
       have c7b0 : (a1_0 == ((rd_T55 l0 x8_1).f0) && (a1_1 == ((rd_T55 l0 x8_1).f1))) = true := c7; (try (have c7b1 : decide (a1_0 = ((rd_T55 l0 x8_1).f0) && (a1_1 == ((rd_T55 l0 x8_1).f1))) = true := by simpa using c7)); (try (have c7b2 : (a1_0 == ((rd_T55 l0 x8_1).f0) && (a1_1 == ((rd_T55 l0 x8_1).f1))) = true := by simpa using c7)); clear c7; obtain rfl := Option.some.inj H; have hcz8_0 : wr.cell? ⟨gb221, 0, none⟩ = some (.int .i8 a1_0) := (blk_cell BK221.out 0).trans rfl; have hcz8_1 : wr.cell? ⟨gb221, 1, none⟩ = some (.int .i8 a1_1) := (blk_cell BK221.out 1).trans rfl; have hfz8_0 := blk_frozen BK221.out 0; have hfz8_1 := blk_frozen BK221.out 1; have p222 : 0 ≤ (x8_1 : Int) := of_decide_eq_true (by first | (with_reducible assumption) | assumption); have q222 : x8_1 < (l0.length : Int) := of_decide_eq_true (by first | (with_reducible assumption) | assumption); obtain ⟨ad222, e222, hx222_0, hx222_1⟩ := at_T55 HR0.out x8_1 p222 q222; cases e222
       try replace hx222_0 := (HB.out.cell (World.block_lt_of_cell? w _ hx222_0)).trans hx222_0
       try replace hx222_1 := (HB.out.cell (World.block_lt_of_cell? w _ hx222_1)).trans hx222_1
       replace p222 := eq_true p222; replace q222 := eq_true q222
       go_wp2
       repeat (go_quiet (fail); try go_wp2)
       go_ret
       exact ⟨by first | rfl | (simp [errW_none, errW_some] <;> rfl) | (simp [*, errW_none, errW_some] <;> rfl), pbs HB⟩
      ·rw [if_neg c7] at H
       have c7b0 : (a1_0 == ((rd_T55 l0 x8_1).f0) && (a1_1 == ((rd_T55 l0 x8_1).f1))) = false := by simpa using c7
       (try (have c7b1 : decide (a1_0 = ((rd_T55 l0 x8_1).f0) && (a1_1 == ((rd_T55 l0 x8_1).f1))) = false := by simpa using c7)); (try (have c7b2 : (a1_0 == ((rd_T55 l0 x8_1).f0) && (a1_1 == ((rd_T55 l0 x8_1).f1))) = false := by simpa using c7)); (try (have c7b3 : ¬ (a1_0 = ((rd_T55 l0 x8_1).f0) && (a1_1 == ((rd_T55 l0 x8_1).f1))) := by simpa using c7)); clear c7; have H' := Aside0.mk H; clear H; have hcz9_0 : wr.cell? ⟨gb221, 0, none⟩ = some (.int .i8 a1_0) := (blk_cell BK221.out 0).trans rfl; have hcz9_1 : wr.cell? ⟨gb221, 1, none⟩ = some (.int .i8 a1_1) := (blk_cell BK221.out 1).trans rfl; have hfz9_0 := blk_frozen BK221.out 0; have hfz9_1 := blk_frozen BK221.out 1; have p222 : 0 ≤ (x8_1 : Int) := of_decide_eq_true (by first | (with_reducible assumption) | assumption); have q222 : x8_1 < (l0.length : Int) := of_decide_eq_true (by first | (with_reducible assumption) | assumption); obtain ⟨ad222, e222, hx222_0, hx222_1⟩ := at_T55 HR0.out x8_1 p222 q222; cases e222
       try replace hx222_0 := (HB.out.cell (World.block_lt_of_cell? w _ hx222_0)).trans hx222_0
       try replace hx222_1 := (HB.out.cell (World.block_lt_of_cell? w _ hx222_1)).trans hx222_1
       replace p222 := eq_true p222; replace q222 := eq_true q222
       go_wp2
       repeat (go_quiet (fail); try go_wp2)
       go_roundg k1
       case measure => have := HK1.out; omega
       case rel => exact ⟨(wrap64 (x8_1 + 1)), (by first | rfl | (simp; done) | (simp [*]; done)), H', ⟨by have := HK1.out; omega⟩, ⟨pk BK221⟩, ⟨pbs HB⟩⟩
     ·rw [if_neg c6] at H
      exact absurd H (by simp)
    ·rw [if_neg c5] at H
     exact absurd H (by simp)
   ·rw [if_neg c4] at H
    have c4b0 : decide (x8_1 < (l0.length : Int)) = false := decide_eq_false c4; clear c4; obtain rfl := Option.some.inj H
    go_wp2
    repeat (go_quiet (fail); try go_wp2)
    go_ret
    exact ⟨by first | rfl | (simp [errW_none, errW_some] <;> rfl) | (simp [*, errW_none, errW_some] <;> rfl), pbs HB⟩
def impl_Spot_83.f (k : Nat) (l0 : List (S55)) (a1_0 : Int) (a1_1 : Int) : Option (Bool) := (impl_Spot_112.f k l0 a1_0 a1_1).bind fun t224 => (some (decide (t224 ≥ 0)))
theorem impl_Spot_83.mono : ∀ a0 a1 a2 k, LeO (impl_Spot_83.f k a0 a1 a2) (impl_Spot_83.f (k + 1) a0 a1 a2) := by
 intro a0 a1 a2 k
 unfold impl_Spot_83.f
 repeat' first
   | (with_reducible exact impl_Spot_112.mono _ _ _ _)
   | (with_reducible exact LeO.refl _)
   | (with_reducible exact LeO.none _)
   | (with_reducible refine LeO.ite ?_ ?_)
   | (with_reducible refine LeO.bind ?_ (fun _ => ?_))
   | exact impl_Spot_112.mono _ _ _ _
   | exact LeO.none _
   | refine LeO.ite ?_ ?_
   | refine LeO.bind ?_ (fun _ => ?_)
set_option maxHeartbeats 8000000 in
set_option maxRecDepth 100000 in
theorem impl_Spot_83.calls (k : Nat) (A0 : Option Addr) (c0 : Nat) (l0 : List (S55)) (a1_0 : Int) (a1_1 : Int) (r : Bool) (w : World) (hr0 : Kd.C k55 w A0 l0.length l0) (hc0 : l0.length ≤ c0) (h : impl_Spot_83.f k l0 a1_0 a1_1 = some r) :
  Calls Try.prog 83 #[.slice A0 l0.length c0, .agg #[.int .i8 a1_0, .int .i8 a1_1]] w fun e w' => e = .returned (.bool r) ∧ Below w.heap.size w w' := by
 have hu55 := Try.underlying55
 have HR0 := Aside0.mk hr0
 have HC0 := Aside0.mk hc0
 clear hr0 hc0
 have HB := Aside0.mk (Below.refl w.heap.size w)
 have H : ((impl_Spot_112.f k l0 a1_0 a1_1).bind fun t224 => (some (decide (t224 ≥ 0)))) = some r := h
 clear h
 replace H := Option.bind_eq_some_iff.mp H
 obtain ⟨t224, A30, H⟩ := H
 replace H : (some (decide (t224 ≥ 0))) = some r := H
 have A3 := Aside0.mk A30
 clear A30
 obtain rfl := Option.some.inj H
 go_enter Try.func83, Try.ntmps83
 go_wp2_with (first | ((with_reducible refine gate_dst (N := 3) rfl ?_); refine box_event ?hg (N := 3) ?hd (cs := #[.int .i8 a1_0, .int .i8 a1_1]) (t := 55) ?hr ?_; (case hd => rfl); (case hg => rfl); (case hr => first | (go_simp; done) | (go_simp; rfl)); intro gb223 hg w4 hbox hb; have n0_ := bst HB hb; have n1_ := Aside0.mk (hbox); have n2_ := gwl HB hg; have n3_ := gwl HB hg; clear HB; have HB := n0_; have BK223 := n1_; have GW223 := n2_; have GE223 := n3_; clear n0_ n1_ n2_ n3_; clear hb hbox hg; have hcz5_0 : w4.cell? ⟨gb223, 0, none⟩ = some (.int .i8 a1_0) := (blk_cell BK223.out 0).trans rfl; have hcz5_1 : w4.cell? ⟨gb223, 1, none⟩ = some (.int .i8 a1_1) := (blk_cell BK223.out 1).trans rfl; have hfz5_0 := blk_frozen BK223.out 0; have hfz5_1 := blk_frozen BK223.out 1) | ((with_reducible refine gate_callee (f := 112) rfl ?_); refine goesL_ (some 7) rfl rfl Try.func112 (by kernel_rfl) rfl #[.slice A0 l0.length c0, .agg #[.int .i8 a1_0, .int .i8 a1_1]] rfl (by (try simp only [List.map_toArray, List.map_cons, List.map_nil]); first | done | rfl | (simp only [List.length_drop, List.length_take]; rfl)) ?_; (with_reducible refine (impl_Spot_112.calls k _ _ l0 a1_0 a1_1 t224 _ ?side1 ?side2 A3.out).mono ?_); (case side1 => repeat (first | exact (Kd.C_below HR0.out HB.out) | (with_reducible refine Kd.C_alloc ?_ _) | (with_reducible refine Kd.C_drewN ?_ _) | (with_reducible refine Kd.C_drew ?_))); (case side2 => exact HC0.out); rintro e w6 ⟨rfl, hb⟩; refine ⟨_, rfl, ?_⟩; have n0_ := bkb BK223 hb; have n1_ := bst HB hb; clear BK223; clear HB; have BK223 := n0_; have HB := n1_; clear n0_ n1_; (try clear hb); (try clear hb2); (try clear hk); (try clear hi)))
 go_ret
 exact ⟨by first | rfl | (simp [errW_none, errW_some] <;> rfl) | (simp [*, errW_none, errW_some] <;> rfl), pbs HB⟩
def impl_NextSpot.f (a0_0 : Int) (a0_1 : Int) (a1 : Int) : Option (Int × Int) := if a1 = 0 then (some (a0_0, IntKind.i8.wrap (a0_1 - 1))) else (if a1 = 1 then (some (IntKind.i8.wrap (a0_0 + 1), a0_1)) else (if a1 = 2 then (some (a0_0, IntKind.i8.wrap (a0_1 + 1))) else (if a1 = 3 then (some (IntKind.i8.wrap (a0_0 - 1), a0_1)) else (some (a0_0, a0_1)))))
set_option maxHeartbeats 8000000 in
set_option maxRecDepth 100000 in
theorem impl_NextSpot.calls (a0_0 : Int) (a0_1 : Int) (a1 : Int) (r1 : Int) (r2 : Int) (w : World) (h : impl_NextSpot.f a0_0 a0_1 a1 = some (r1, r2)) :
  Calls Try.prog 81 #[.agg #[.int .i8 a0_0, .int .i8 a0_1], .int .i64 a1] w fun e w' => e = .returned (.agg #[.int .i8 r1, .int .i8 r2]) ∧ Below w.heap.size w w' := by
 have hu55 := Try.underlying55
 have HB := Aside0.mk (Below.refl w.heap.size w)
 have H : (if a1 = 0 then (some (a0_0, IntKind.i8.wrap (a0_1 - 1))) else (if a1 = 1 then (some (IntKind.i8.wrap (a0_0 + 1), a0_1)) else (if a1 = 2 then (some (a0_0, IntKind.i8.wrap (a0_1 + 1))) else (if a1 = 3 then (some (IntKind.i8.wrap (a0_0 - 1), a0_1)) else (some (a0_0, a0_1)))))) = some (r1, r2) := h
 clear h
 by_cases c3 : a1 = 0
 ·rw [if_pos c3] at H
  have c3b0 : (a1 == 0) = true := beq_iff_eq.mpr c3; have c3b1 : (a1 != 0) = false := bne_eq_false_iff_eq.mpr c3; clear c3; simp only [Option.some.injEq, Prod.mk.injEq] at H; obtain ⟨rfl, rfl⟩ := H
  go_enter Try.func81, Try.ntmps81
  go_wp2_with (first | ((with_reducible refine gate_dst (N := 2) rfl ?_); refine box_event ?hg (N := 2) ?hd (cs := #[.int .i8 a0_0, .int .i8 a0_1]) (t := 55) ?hr ?_; (case hd => rfl); (case hg => rfl); (case hr => first | (go_simp; done) | (go_simp; rfl)); intro gb225 hg w4 hbox hb; have n0_ := bst HB hb; have n1_ := Aside0.mk (hbox); have n2_ := gwl HB hg; have n3_ := gwl HB hg; clear HB; have HB := n0_; have BK225 := n1_; have GW225 := n2_; have GE225 := n3_; clear n0_ n1_ n2_ n3_; clear hb hbox hg) | ((with_reducible refine gate_dst (N := 4) rfl ?_); refine box_event ?hg (N := 4) ?hd (cs := #[.int .i8 0, .int .i8 0]) (t := 55) ?hr ?_; (case hd => rfl); (case hg => rfl); (case hr => first | (go_simp; done) | (go_simp; rfl)); intro gb226 hg w5 hbox hb; have n0_ := bkb BK225 hb; have n1_ := bst HB hb; have n2_ := Aside0.mk (hbox); have n3_ := gwl HB hg; have n4_ := gwl HB hg; have n5_ := nbl BK225 hg; have n6_ := nbg BK225 hg; clear BK225; clear HB; have BK225 := n0_; have HB := n1_; have BK226 := n2_; have GW226 := n3_; have GE226 := n4_; have NB225_226 := n5_; have NB226_225 := n6_; clear n0_ n1_ n2_ n3_ n4_ n5_ n6_; clear hb hbox hg; have hnb6 := NB225_226.out; have hnc6 := NB226_225.out; have hcz7_0 : w5.cell? ⟨gb225, 0, none⟩ = some (.int .i8 a0_0) := (blk_cell BK225.out 0).trans rfl; have hcz7_1 : w5.cell? ⟨gb225, 1, none⟩ = some (.int .i8 a0_1) := (blk_cell BK225.out 1).trans rfl; have hfz7_0 := blk_frozen BK225.out 0; have hfz7_1 := blk_frozen BK225.out 1; have hcz8_0 : w5.cell? ⟨gb226, 0, none⟩ = some (.int .i8 0) := (blk_cell BK226.out 0).trans rfl; have hcz8_1 : w5.cell? ⟨gb226, 1, none⟩ = some (.int .i8 0) := (blk_cell BK226.out 1).trans rfl; have hfz8_0 := blk_frozen BK226.out 0; have hfz8_1 := blk_frozen BK226.out 1))
  refine bodyPost_ret (results_cell_row rfl _ _ gb226 55 #[.int .i8 a0_0, .int .i8 (IntKind.i8.wrap (a0_1 - 1))] (0, 0) _ rfl (by (with_reducible repeat (first | refine blk_drewN ?_ _ | refine blk_drew ?_ | refine blk_alloc ?_ _)); refine blk_put (cs := #[.int .i8 a0_0, .int .i8 0]) ?_ 1 _ rfl; (with_reducible repeat (first | refine blk_drewN ?_ _ | refine blk_drew ?_ | refine blk_alloc ?_ _)); refine blk_put (cs := #[.int .i8 0, .int .i8 0]) ?_ 0 _ rfl; (with_reducible repeat (first | refine blk_drewN ?_ _ | refine blk_drew ?_ | refine blk_alloc ?_ _)); refine blk_far ?_ NB226_225.out _; (with_reducible repeat (first | refine blk_drewN ?_ _ | refine blk_drew ?_ | refine blk_alloc ?_ _)); exact BK226.out) Try.underlying55 rfl (by kernel_rfl)) rfl ?_; exact ⟨by first | rfl | (simp [errW_none, errW_some] <;> rfl) | (simp [*, errW_none, errW_some] <;> rfl), pbs HB⟩
 ·rw [if_neg c3] at H
  have c3b0 : (a1 == 0) = false := beq_eq_false_iff_ne.mpr c3; have c3b1 : (a1 != 0) = true := bne_iff_ne.mpr c3
  by_cases c9 : a1 = 1
  ·rw [if_pos c9] at H
   have c9b0 : (a1 == 1) = true := beq_iff_eq.mpr c9; have c9b1 : (a1 != 1) = false := bne_eq_false_iff_eq.mpr c9; clear c9; simp only [Option.some.injEq, Prod.mk.injEq] at H; obtain ⟨rfl, rfl⟩ := H
   go_enter Try.func81, Try.ntmps81
   go_wp2_with (first | ((with_reducible refine gate_dst (N := 2) rfl ?_); refine box_event ?hg (N := 2) ?hd (cs := #[.int .i8 a0_0, .int .i8 a0_1]) (t := 55) ?hr ?_; (case hd => rfl); (case hg => rfl); (case hr => first | (go_simp; done) | (go_simp; rfl)); intro gb225 hg w10 hbox hb; have n0_ := bst HB hb; have n1_ := Aside0.mk (hbox); have n2_ := gwl HB hg; have n3_ := gwl HB hg; clear HB; have HB := n0_; have BK225 := n1_; have GW225 := n2_; have GE225 := n3_; clear n0_ n1_ n2_ n3_; clear hb hbox hg) | ((with_reducible refine gate_dst (N := 4) rfl ?_); refine box_event ?hg (N := 4) ?hd (cs := #[.int .i8 0, .int .i8 0]) (t := 55) ?hr ?_; (case hd => rfl); (case hg => rfl); (case hr => first | (go_simp; done) | (go_simp; rfl)); intro gb226 hg w11 hbox hb; have n0_ := bkb BK225 hb; have n1_ := bst HB hb; have n2_ := Aside0.mk (hbox); have n3_ := gwl HB hg; have n4_ := gwl HB hg; have n5_ := nbl BK225 hg; have n6_ := nbg BK225 hg; clear BK225; clear HB; have BK225 := n0_; have HB := n1_; have BK226 := n2_; have GW226 := n3_; have GE226 := n4_; have NB225_226 := n5_; have NB226_225 := n6_; clear n0_ n1_ n2_ n3_ n4_ n5_ n6_; clear hb hbox hg; have hnb12 := NB225_226.out; have hnc12 := NB226_225.out; have hcz13_0 : w11.cell? ⟨gb225, 0, none⟩ = some (.int .i8 a0_0) := (blk_cell BK225.out 0).trans rfl; have hcz13_1 : w11.cell? ⟨gb225, 1, none⟩ = some (.int .i8 a0_1) := (blk_cell BK225.out 1).trans rfl; have hfz13_0 := blk_frozen BK225.out 0; have hfz13_1 := blk_frozen BK225.out 1; have hcz14_0 : w11.cell? ⟨gb226, 0, none⟩ = some (.int .i8 0) := (blk_cell BK226.out 0).trans rfl; have hcz14_1 : w11.cell? ⟨gb226, 1, none⟩ = some (.int .i8 0) := (blk_cell BK226.out 1).trans rfl; have hfz14_0 := blk_frozen BK226.out 0; have hfz14_1 := blk_frozen BK226.out 1))
   refine bodyPost_ret (results_cell_row rfl _ _ gb226 55 #[.int .i8 (IntKind.i8.wrap (a0_0 + 1)), .int .i8 a0_1] (0, 0) _ rfl (by (with_reducible repeat (first | refine blk_drewN ?_ _ | refine blk_drew ?_ | refine blk_alloc ?_ _)); refine blk_put (cs := #[.int .i8 (IntKind.i8.wrap (a0_0 + 1)), .int .i8 0]) ?_ 1 _ rfl; (with_reducible repeat (first | refine blk_drewN ?_ _ | refine blk_drew ?_ | refine blk_alloc ?_ _)); refine blk_put (cs := #[.int .i8 0, .int .i8 0]) ?_ 0 _ rfl; (with_reducible repeat (first | refine blk_drewN ?_ _ | refine blk_drew ?_ | refine blk_alloc ?_ _)); refine blk_far ?_ NB226_225.out _; (with_reducible repeat (first | refine blk_drewN ?_ _ | refine blk_drew ?_ | refine blk_alloc ?_ _)); exact BK226.out) Try.underlying55 rfl (by kernel_rfl)) rfl ?_; exact ⟨by first | rfl | (simp [errW_none, errW_some] <;> rfl) | (simp [*, errW_none, errW_some] <;> rfl), pbs HB⟩
  ·rw [if_neg c9] at H
   have c9b0 : (a1 == 1) = false := beq_eq_false_iff_ne.mpr c9; have c9b1 : (a1 != 1) = true := bne_iff_ne.mpr c9
   by_cases c15 : a1 = 2
   ·rw [if_pos c15] at H
    have c15b0 : (a1 == 2) = true := beq_iff_eq.mpr c15; have c15b1 : (a1 != 2) = false := bne_eq_false_iff_eq.mpr c15; clear c15; simp only [Option.some.injEq, Prod.mk.injEq] at H; obtain ⟨rfl, rfl⟩ := H
    go_enter Try.func81, Try.ntmps81
    go_wp2_with (first | ((with_reducible refine gate_dst (N := 2) rfl ?_); refine box_event ?hg (N := 2) ?hd (cs := #[.int .i8 a0_0, .int .i8 a0_1]) (t := 55) ?hr ?_; (case hd => rfl); (case hg => rfl); (case hr => first | (go_simp; done) | (go_simp; rfl)); intro gb225 hg w16 hbox hb; have n0_ := bst HB hb; have n1_ := Aside0.mk (hbox); have n2_ := gwl HB hg; have n3_ := gwl HB hg; clear HB; have HB := n0_; have BK225 := n1_; have GW225 := n2_; have GE225 := n3_; clear n0_ n1_ n2_ n3_; clear hb hbox hg) | ((with_reducible refine gate_dst (N := 4) rfl ?_); refine box_event ?hg (N := 4) ?hd (cs := #[.int .i8 0, .int .i8 0]) (t := 55) ?hr ?_; (case hd => rfl); (case hg => rfl); (case hr => first | (go_simp; done) | (go_simp; rfl)); intro gb226 hg w17 hbox hb; have n0_ := bkb BK225 hb; have n1_ := bst HB hb; have n2_ := Aside0.mk (hbox); have n3_ := gwl HB hg; have n4_ := gwl HB hg; have n5_ := nbl BK225 hg; have n6_ := nbg BK225 hg; clear BK225; clear HB; have BK225 := n0_; have HB := n1_; have BK226 := n2_; have GW226 := n3_; have GE226 := n4_; have NB225_226 := n5_; have NB226_225 := n6_; clear n0_ n1_ n2_ n3_ n4_ n5_ n6_; clear hb hbox hg; have hnb18 := NB225_226.out; have hnc18 := NB226_225.out; have hcz19_0 : w17.cell? ⟨gb225, 0, none⟩ = some (.int .i8 a0_0) := (blk_cell BK225.out 0).trans rfl; have hcz19_1 : w17.cell? ⟨gb225, 1, none⟩ = some (.int .i8 a0_1) := (blk_cell BK225.out 1).trans rfl; have hfz19_0 := blk_frozen BK225.out 0; have hfz19_1 := blk_frozen BK225.out 1; have hcz20_0 : w17.cell? ⟨gb226, 0, none⟩ = some (.int .i8 0) := (blk_cell BK226.out 0).trans rfl; have hcz20_1 : w17.cell? ⟨gb226, 1, none⟩ = some (.int .i8 0) := (blk_cell BK226.out 1).trans rfl; have hfz20_0 := blk_frozen BK226.out 0; have hfz20_1 := blk_frozen BK226.out 1))
    refine bodyPost_ret (results_cell_row rfl _ _ gb226 55 #[.int .i8 a0_0, .int .i8 (IntKind.i8.wrap (a0_1 + 1))] (0, 0) _ rfl (by (with_reducible repeat (first | refine blk_drewN ?_ _ | refine blk_drew ?_ | refine blk_alloc ?_ _)); refine blk_put (cs := #[.int .i8 a0_0, .int .i8 0]) ?_ 1 _ rfl; (with_reducible repeat (first | refine blk_drewN ?_ _ | refine blk_drew ?_ | refine blk_alloc ?_ _)); refine blk_put (cs := #[.int .i8 0, .int .i8 0]) ?_ 0 _ rfl; (with_reducible repeat (first | refine blk_drewN ?_ _ | refine blk_drew ?_ | refine blk_alloc ?_ _)); refine blk_far ?_ NB226_225.out _; (with_reducible repeat (first | refine blk_drewN ?_ _ | refine blk_drew ?_ | refine blk_alloc ?_ _)); exact BK226.out) Try.underlying55 rfl (by kernel_rfl)) rfl ?_; exact ⟨by first | rfl | (simp [errW_none, errW_some] <;> rfl) | (simp [*, errW_none, errW_some] <;> rfl), pbs HB⟩
   ·rw [if_neg c15] at H
    have c15b0 : (a1 == 2) = false := beq_eq_false_iff_ne.mpr c15; have c15b1 : (a1 != 2) = true := bne_iff_ne.mpr c15
    by_cases c21 : a1 = 3
    ·rw [if_pos c21] at H
     have c21b0 : (a1 == 3) = true := beq_iff_eq.mpr c21; have c21b1 : (a1 != 3) = false := bne_eq_false_iff_eq.mpr c21; clear c21; simp only [Option.some.injEq, Prod.mk.injEq] at H; obtain ⟨rfl, rfl⟩ := H
     go_enter Try.func81, Try.ntmps81
     go_wp2_with (first | ((with_reducible refine gate_dst (N := 2) rfl ?_); refine box_event ?hg (N := 2) ?hd (cs := #[.int .i8 a0_0, .int .i8 a0_1]) (t := 55) ?hr ?_; (case hd => rfl); (case hg => rfl); (case hr => first | (go_simp; done) | (go_simp; rfl)); intro gb225 hg w22 hbox hb; have n0_ := bst HB hb; have n1_ := Aside0.mk (hbox); have n2_ := gwl HB hg; have n3_ := gwl HB hg; clear HB; have HB := n0_; have BK225 := n1_; have GW225 := n2_; have GE225 := n3_; clear n0_ n1_ n2_ n3_; clear hb hbox hg) | ((with_reducible refine gate_dst (N := 4) rfl ?_); refine box_event ?hg (N := 4) ?hd (cs := #[.int .i8 0, .int .i8 0]) (t := 55) ?hr ?_; (case hd => rfl); (case hg => rfl); (case hr => first | (go_simp; done) | (go_simp; rfl)); intro gb226 hg w23 hbox hb; have n0_ := bkb BK225 hb; have n1_ := bst HB hb; have n2_ := Aside0.mk (hbox); have n3_ := gwl HB hg; have n4_ := gwl HB hg; have n5_ := nbl BK225 hg; have n6_ := nbg BK225 hg; clear BK225; clear HB; have BK225 := n0_; have HB := n1_; have BK226 := n2_; have GW226 := n3_; have GE226 := n4_; have NB225_226 := n5_; have NB226_225 := n6_; clear n0_ n1_ n2_ n3_ n4_ n5_ n6_; clear hb hbox hg; have hnb24 := NB225_226.out; have hnc24 := NB226_225.out; have hcz25_0 : w23.cell? ⟨gb225, 0, none⟩ = some (.int .i8 a0_0) := (blk_cell BK225.out 0).trans rfl; have hcz25_1 : w23.cell? ⟨gb225, 1, none⟩ = some (.int .i8 a0_1) := (blk_cell BK225.out 1).trans rfl; have hfz25_0 := blk_frozen BK225.out 0; have hfz25_1 := blk_frozen BK225.out 1; have hcz26_0 : w23.cell? ⟨gb226, 0, none⟩ = some (.int .i8 0) := (blk_cell BK226.out 0).trans rfl; have hcz26_1 : w23.cell? ⟨gb226, 1, none⟩ = some (.int .i8 0) := (blk_cell BK226.out 1).trans rfl; have hfz26_0 := blk_frozen BK226.out 0; have hfz26_1 := blk_frozen BK226.out 1))
     refine bodyPost_ret (results_cell_row rfl _ _ gb226 55 #[.int .i8 (IntKind.i8.wrap (a0_0 - 1)), .int .i8 a0_1] (0, 0) _ rfl (by (with_reducible repeat (first | refine blk_drewN ?_ _ | refine blk_drew ?_ | refine blk_alloc ?_ _)); refine blk_put (cs := #[.int .i8 (IntKind.i8.wrap (a0_0 - 1)), .int .i8 0]) ?_ 1 _ rfl; (with_reducible repeat (first | refine blk_drewN ?_ _ | refine blk_drew ?_ | refine blk_alloc ?_ _)); refine blk_put (cs := #[.int .i8 0, .int .i8 0]) ?_ 0 _ rfl; (with_reducible repeat (first | refine blk_drewN ?_ _ | refine blk_drew ?_ | refine blk_alloc ?_ _)); refine blk_far ?_ NB226_225.out _; (with_reducible repeat (first | refine blk_drewN ?_ _ | refine blk_drew ?_ | refine blk_alloc ?_ _)); exact BK226.out) Try.underlying55 rfl (by kernel_rfl)) rfl ?_; exact ⟨by first | rfl | (simp [errW_none, errW_some] <;> rfl) | (simp [*, errW_none, errW_some] <;> rfl), pbs HB⟩
    ·rw [if_neg c21] at H
     have c21b0 : (a1 == 3) = false := beq_eq_false_iff_ne.mpr c21; have c21b1 : (a1 != 3) = true := bne_iff_ne.mpr c21; simp only [Option.some.injEq, Prod.mk.injEq] at H; obtain ⟨rfl, rfl⟩ := H
     go_enter Try.func81, Try.ntmps81
     go_wp2_with (first | ((with_reducible refine gate_dst (N := 2) rfl ?_); refine box_event ?hg (N := 2) ?hd (cs := #[.int .i8 a0_0, .int .i8 a0_1]) (t := 55) ?hr ?_; (case hd => rfl); (case hg => rfl); (case hr => first | (go_simp; done) | (go_simp; rfl)); intro gb225 hg w27 hbox hb; have n0_ := bst HB hb; have n1_ := Aside0.mk (hbox); have n2_ := gwl HB hg; have n3_ := gwl HB hg; clear HB; have HB := n0_; have BK225 := n1_; have GW225 := n2_; have GE225 := n3_; clear n0_ n1_ n2_ n3_; clear hb hbox hg) | ((with_reducible refine gate_dst (N := 4) rfl ?_); refine box_event ?hg (N := 4) ?hd (cs := #[.int .i8 0, .int .i8 0]) (t := 55) ?hr ?_; (case hd => rfl); (case hg => rfl); (case hr => first | (go_simp; done) | (go_simp; rfl)); intro gb226 hg w28 hbox hb; have n0_ := bkb BK225 hb; have n1_ := bst HB hb; have n2_ := Aside0.mk (hbox); have n3_ := gwl HB hg; have n4_ := gwl HB hg; have n5_ := nbl BK225 hg; have n6_ := nbg BK225 hg; clear BK225; clear HB; have BK225 := n0_; have HB := n1_; have BK226 := n2_; have GW226 := n3_; have GE226 := n4_; have NB225_226 := n5_; have NB226_225 := n6_; clear n0_ n1_ n2_ n3_ n4_ n5_ n6_; clear hb hbox hg; have hnb29 := NB225_226.out; have hnc29 := NB226_225.out; have hcz30_0 : w28.cell? ⟨gb225, 0, none⟩ = some (.int .i8 a0_0) := (blk_cell BK225.out 0).trans rfl; have hcz30_1 : w28.cell? ⟨gb225, 1, none⟩ = some (.int .i8 a0_1) := (blk_cell BK225.out 1).trans rfl; have hfz30_0 := blk_frozen BK225.out 0; have hfz30_1 := blk_frozen BK225.out 1; have hcz31_0 : w28.cell? ⟨gb226, 0, none⟩ = some (.int .i8 0) := (blk_cell BK226.out 0).trans rfl; have hcz31_1 : w28.cell? ⟨gb226, 1, none⟩ = some (.int .i8 0) := (blk_cell BK226.out 1).trans rfl; have hfz31_0 := blk_frozen BK226.out 0; have hfz31_1 := blk_frozen BK226.out 1))
     refine bodyPost_ret (results_cell_row rfl _ _ gb226 55 #[.int .i8 a0_0, .int .i8 a0_1] (0, 0) _ rfl (by (with_reducible repeat (first | refine blk_drewN ?_ _ | refine blk_drew ?_ | refine blk_alloc ?_ _)); refine blk_put (cs := #[.int .i8 a0_0, .int .i8 0]) ?_ 1 _ rfl; (with_reducible repeat (first | refine blk_drewN ?_ _ | refine blk_drew ?_ | refine blk_alloc ?_ _)); refine blk_put (cs := #[.int .i8 0, .int .i8 0]) ?_ 0 _ rfl; (with_reducible repeat (first | refine blk_drewN ?_ _ | refine blk_drew ?_ | refine blk_alloc ?_ _)); exact BK226.out) Try.underlying55 rfl (by kernel_rfl)) rfl ?_; exact ⟨by first | rfl | (simp [errW_none, errW_some] <;> rfl) | (simp [*, errW_none, errW_some] <;> rfl), pbs HB⟩
def impl_SideTo.l0 : Nat → Int → Int → Int → Int → Int → Option (Int)
 | 0, _, _, _, _, _ => none
 | k + 1, x6, x228000, x228001, x229000, x229001 => if x6 < 4 then ((impl_NextSpot.f x228000 x228001 x6).bind fun bt229 => (if (bt229.1 == x229000 && (bt229.2 == x229001)) = true then (some x6) else (impl_SideTo.l0 k (wrap64 (x6 + 1)) x228000 x228001 x229000 x229001))) else (some (-1))
def impl_SideTo.f (k : Nat) (a0_0 : Int) (a0_1 : Int) (a1_0 : Int) (a1_1 : Int) : Option (Int) := impl_SideTo.l0 k 0 a0_0 a0_1 a1_0 a1_1
theorem impl_SideTo.mono_l : ∀ k, (∀ y0 y1 y2 y3 y4, LeO (impl_SideTo.l0 k y0 y1 y2 y3 y4) (impl_SideTo.l0 (k + 1) y0 y1 y2 y3 y4))
 | 0 => fun _ _ _ _ _ r h => by simp [impl_SideTo.l0] at h
 | k + 1 => by
  have ih0 := impl_SideTo.mono_l k
  ·intro y0 y1 y2 y3 y4
   unfold impl_SideTo.l0
   repeat' first
   | (with_reducible exact ih0 _ _ _ _ _)
   | (with_reducible exact LeO.refl _)
   | (with_reducible exact LeO.none _)
   | (with_reducible refine LeO.ite ?_ ?_)
   | (with_reducible refine LeO.bind ?_ (fun _ => ?_))
   | exact ih0 _ _ _ _ _
   | exact LeO.none _
   | refine LeO.ite ?_ ?_
   | refine LeO.bind ?_ (fun _ => ?_)
theorem impl_SideTo.mono : ∀ a0 a1 a2 a3 k, LeO (impl_SideTo.f k a0 a1 a2 a3) (impl_SideTo.f (k + 1) a0 a1 a2 a3) := by
 intro a0 a1 a2 a3 k
 have ih0 := impl_SideTo.mono_l k
 unfold impl_SideTo.f
 repeat' first
   | (with_reducible exact ih0 _ _ _ _ _)
   | (with_reducible exact LeO.refl _)
   | (with_reducible exact LeO.none _)
   | (with_reducible refine LeO.ite ?_ ?_)
   | (with_reducible refine LeO.bind ?_ (fun _ => ?_))
   | exact ih0 _ _ _ _ _
   | exact LeO.none _
   | refine LeO.ite ?_ ?_
   | refine LeO.bind ?_ (fun _ => ?_)
set_option maxHeartbeats 8000000 in
set_option maxRecDepth 100000 in
theorem impl_SideTo.calls (k : Nat) (a0_0 : Int) (a0_1 : Int) (a1_0 : Int) (a1_1 : Int) (r : Int) (w : World) (h : impl_SideTo.f k a0_0 a0_1 a1_0 a1_1 = some r) :
  Calls Try.prog 126 #[.agg #[.int .i8 a0_0, .int .i8 a0_1], .agg #[.int .i8 a1_0, .int .i8 a1_1]] w fun e w' => e = .returned (.int .i64 r) ∧ Below w.heap.size w w' := by
 have hu55 := Try.underlying55
 have HB := Aside0.mk (Below.refl w.heap.size w)
 have H : (impl_SideTo.l0 k 0 a0_0 a0_1 a1_0 a1_1) = some r := h
 clear h
 have H' := Aside0.mk H
 clear H
 go_enter Try.func126, Try.ntmps126
 go_wp2_with (first | ((with_reducible refine gate_dst (N := 2) rfl ?_); refine box_event ?hg (N := 2) ?hd (cs := #[.int .i8 a0_0, .int .i8 a0_1]) (t := 55) ?hr ?_; (case hd => rfl); (case hg => rfl); (case hr => first | (go_simp; done) | (go_simp; rfl)); intro gb227 hg w3 hbox hb; have n0_ := bst HB hb; have n1_ := Aside0.mk (hbox); have n2_ := gwl HB hg; have n3_ := gwl HB hg; clear HB; have HB := n0_; have BK227 := n1_; have GW227 := n2_; have GE227 := n3_; clear n0_ n1_ n2_ n3_; clear hb hbox hg) | ((with_reducible refine gate_dst (N := 3) rfl ?_); refine box_event ?hg (N := 3) ?hd (cs := #[.int .i8 a1_0, .int .i8 a1_1]) (t := 55) ?hr ?_; (case hd => rfl); (case hg => rfl); (case hr => first | (go_simp; done) | (go_simp; rfl)); intro gb228 hg w4 hbox hb; have n0_ := bkb BK227 hb; have n1_ := bst HB hb; have n2_ := Aside0.mk (hbox); have n3_ := gwl HB hg; have n4_ := gwl HB hg; have n5_ := nbl BK227 hg; have n6_ := nbg BK227 hg; clear BK227; clear HB; have BK227 := n0_; have HB := n1_; have BK228 := n2_; have GW228 := n3_; have GE228 := n4_; have NB227_228 := n5_; have NB228_227 := n6_; clear n0_ n1_ n2_ n3_ n4_ n5_ n6_; clear hb hbox hg))
 go_loopg [6] k (fun kq v6 w' => ∃ (x6_1 : Int), v6 = .int .i64 x6_1 ∧ Aside0 (impl_SideTo.l0 kq x6_1 a0_0 a0_1 a1_0 a1_1 = some r) ∧ Aside0 (kq ≤ k) ∧ Aside0 (w'.heap[gb227]? = some (.cells #[.int .i8 a0_0, .int .i8 a0_1] 55 (0, 0))) ∧ Aside0 (w'.heap[gb228]? = some (.cells #[.int .i8 a1_0, .int .i8 a1_1] 55 (0, 0))) ∧ Aside0 (Below w.heap.size w w'))
 case atStart => exact ⟨(0), (by first | rfl | (simp; done) | (simp [*]; done)), H', ⟨Nat.le_refl _⟩, ⟨pk BK227⟩, ⟨pk BK228⟩, ⟨pbs HB⟩⟩
 case round =>
  clear H'
  try clear c1
  try clear p2
  obtain ⟨x6_1, rfl, HA, HK1, BK227, BK228, HB⟩ := hrel
  cases gk with
  | zero => exact absurd HA.out (by simp [impl_SideTo.l0])
  | succ k1 =>
   have H := HA.out; clear HA; simp only [impl_SideTo.l0] at H
   by_cases c5 : x6_1 < 4
   ·rw [if_pos c5] at H
    have c5b0 : decide (x6_1 < 4) = true := decide_eq_true c5; clear c5; replace H := Option.bind_eq_some_iff.mp H; obtain ⟨⟨t229, t230⟩, A60, H⟩ := H; replace H : (if (t229 == a1_0 && (t230 == a1_1)) = true then (some x6_1) else (impl_SideTo.l0 k1 (wrap64 (x6_1 + 1)) a0_0 a0_1 a1_0 a1_1)) = some r := H; have A6 := Aside0.mk A60; clear A60
    by_cases c7 : (t229 == a1_0 && (t230 == a1_1)) = true
    ·rw [if_pos c7] at H
     have c7b0 : (t229 == a1_0 && (t230 == a1_1)) = true := c7; (try (have c7b1 : decide (t229 = a1_0 && (t230 == a1_1)) = true := by simpa using c7)); (try (have c7b2 : (t229 == a1_0 && (t230 == a1_1)) = true := by simpa using c7)); clear c7; obtain rfl := Option.some.inj H
     try go_wp2
     have n0_ := Aside0.mk (blk_drew BK227.out); have n1_ := Aside0.mk (blk_drew BK228.out); have n2_ := Aside0.mk (below_drew1 HB.out); clear BK227; clear BK228; clear HB; have BK227 := n0_; have BK228 := n1_; have HB := n2_; clear n0_ n1_ n2_; refine start_ (n := 5) (S := fun w' => w'.cell? ⟨gb227, 0, none⟩ = some (.int .i8 a0_0) ∧ w'.cell? ⟨gb227, 1, none⟩ = some (.int .i8 a0_1) ∧ w'.cell? ⟨gb228, 0, none⟩ = some (.int .i8 a1_0) ∧ w'.cell? ⟨gb228, 1, none⟩ = some (.int .i8 a1_1)) (ds := []) #[false, false, false, false, false] (by kernel_rfl) rfl rfl ⟨(blk_cell BK227.out 0).trans rfl, (blk_cell BK227.out 1).trans rfl, (blk_cell BK228.out 0).trans rfl, (blk_cell BK228.out 1).trans rfl⟩ (fun hHeld => ?_); generalize wr.drew = w8 at BK227 BK228 HB hHeld ⊢; refine pure_ (i := 1) (N := some 10) (v := ?_) (a' := ?_) #[false, true, false, false, false] rfl rfl (by kernel_rfl) (fun _ _ _ h => h) (Or.inl ⟨by rfl, ?_⟩) ?_ ?_; rotate_left
     ·intro w'
      go_simp; with_reducible rfl
     rotate_left
     ·simp only [Act.put, List.setIfInBounds_toArray, List.set_cons_zero, List.set_cons_succ, i64_w, i32_w]
      rfl
     refine take_ (i := 0) (N := some 9) (v := ?_) (a' := ?_) #[true, true, false, false, false] rfl rfl (by kernel_rfl) (fun _ _ _ h => h) (Or.inl ⟨by rfl, ?_⟩) hHeld ?_ ?_; rotate_left
     ·rintro w' ⟨s0, s1, s2, s3⟩
      go_simp; with_reducible rfl
     rotate_left
     ·simp only [Act.put, List.setIfInBounds_toArray, List.set_cons_zero, List.set_cons_succ, i64_w, i32_w]
      rfl
     refine take_ (i := 3) (N := some 12) (v := ?_) (a' := ?_) #[true, true, false, true, false] rfl rfl (by kernel_rfl) (fun _ _ _ h => h) (Or.inl ⟨by rfl, ?_⟩) hHeld ?_ ?_; rotate_left
     ·rintro w' ⟨s0, s1, s2, s3⟩
      go_simp; with_reducible rfl
     rotate_left
     ·simp only [Act.put, List.setIfInBounds_toArray, List.set_cons_zero, List.set_cons_succ, i64_w, i32_w]
      rfl
     refine one_ (i := 2) (N := some 11) #[true, true, true, true, false] rfl rfl (by kernel_rfl) (by decide) (fun K hK => ?_); refine goes_ Try.func81 (by kernel_rfl) rfl #[.agg #[.int .i8 a0_0, .int .i8 a0_1], .int .i64 x6_1] (by rfl) rfl rfl (by (try simp only [List.map_toArray, List.map_cons, List.map_nil]); first | done | rfl | (simp only [List.length_drop, List.length_take]; rfl)) ?_; with_reducible refine (impl_NextSpot.calls a0_0 a0_1 x6_1 t229 t230 _ A6.out).mono ?_
     rintro e w9 ⟨rfl, hb⟩
     refine ⟨_, rfl, ?_⟩; have n0_ := bkb BK227 hb; have n1_ := bkb BK228 hb; have n2_ := bst HB hb; clear BK227; clear BK228; clear HB; have BK227 := n0_; have BK228 := n1_; have HB := n2_; clear n0_ n1_ n2_; (try clear hb); (try clear hb2); (try clear hk); (try clear hi); refine hK.out _ _ ⟨(blk_cell BK227.out 0).trans rfl, (blk_cell BK227.out 1).trans rfl, (blk_cell BK228.out 0).trans rfl, (blk_cell BK228.out 1).trans rfl⟩ (fun hHeld => ?_); clear hK K; refine norm_ (a' := ?_) ?_ ?_; rotate_left
     ·show Act.put _ (some 11) _ = _
      simp only [Act.put, List.setIfInBounds_toArray, List.set_cons_zero, List.set_cons_succ, i64_w, i32_w]; rfl
     refine pure_ (i := 4) (N := some 13) (v := ?_) (a' := ?_) #[true, true, true, true, true] rfl rfl (by kernel_rfl) (fun _ _ _ h => h) (Or.inl ⟨by rfl, ?_⟩) ?_ ?_; rotate_left
     ·intro w'
      go_simp; with_reducible rfl
     rotate_left
     ·simp only [Act.put, List.setIfInBounds_toArray, List.set_cons_zero, List.set_cons_succ, i64_w, i32_w]
      rfl
     refine done_ (by kernel_rfl) ?_
     try go_wp2
     go_ret
     exact ⟨by first | rfl | (simp [errW_none, errW_some] <;> rfl) | (simp [*, errW_none, errW_some] <;> rfl), pbs HB⟩
    ·rw [if_neg c7] at H
     have c7b0 : (t229 == a1_0 && (t230 == a1_1)) = false := by simpa using c7
     (try (have c7b1 : decide (t229 = a1_0 && (t230 == a1_1)) = false := by simpa using c7)); (try (have c7b2 : (t229 == a1_0 && (t230 == a1_1)) = false := by simpa using c7)); (try (have c7b3 : ¬ (t229 = a1_0 && (t230 == a1_1)) := by simpa using c7)); clear c7; have H' := Aside0.mk H; clear H
     try go_wp2
     have n0_ := Aside0.mk (blk_drew BK227.out); have n1_ := Aside0.mk (blk_drew BK228.out); have n2_ := Aside0.mk (below_drew1 HB.out); clear BK227; clear BK228; clear HB; have BK227 := n0_; have BK228 := n1_; have HB := n2_; clear n0_ n1_ n2_; refine start_ (n := 5) (S := fun w' => w'.cell? ⟨gb227, 0, none⟩ = some (.int .i8 a0_0) ∧ w'.cell? ⟨gb227, 1, none⟩ = some (.int .i8 a0_1) ∧ w'.cell? ⟨gb228, 0, none⟩ = some (.int .i8 a1_0) ∧ w'.cell? ⟨gb228, 1, none⟩ = some (.int .i8 a1_1)) (ds := []) #[false, false, false, false, false] (by kernel_rfl) rfl rfl ⟨(blk_cell BK227.out 0).trans rfl, (blk_cell BK227.out 1).trans rfl, (blk_cell BK228.out 0).trans rfl, (blk_cell BK228.out 1).trans rfl⟩ (fun hHeld => ?_); generalize wr.drew = w10 at BK227 BK228 HB hHeld ⊢; refine pure_ (i := 1) (N := some 10) (v := ?_) (a' := ?_) #[false, true, false, false, false] rfl rfl (by kernel_rfl) (fun _ _ _ h => h) (Or.inl ⟨by rfl, ?_⟩) ?_ ?_; rotate_left
     ·intro w'
      go_simp; with_reducible rfl
     rotate_left
     ·simp only [Act.put, List.setIfInBounds_toArray, List.set_cons_zero, List.set_cons_succ, i64_w, i32_w]
      rfl
     refine take_ (i := 0) (N := some 9) (v := ?_) (a' := ?_) #[true, true, false, false, false] rfl rfl (by kernel_rfl) (fun _ _ _ h => h) (Or.inl ⟨by rfl, ?_⟩) hHeld ?_ ?_; rotate_left
     ·rintro w' ⟨s0, s1, s2, s3⟩
      go_simp; with_reducible rfl
     rotate_left
     ·simp only [Act.put, List.setIfInBounds_toArray, List.set_cons_zero, List.set_cons_succ, i64_w, i32_w]
      rfl
     refine take_ (i := 3) (N := some 12) (v := ?_) (a' := ?_) #[true, true, false, true, false] rfl rfl (by kernel_rfl) (fun _ _ _ h => h) (Or.inl ⟨by rfl, ?_⟩) hHeld ?_ ?_; rotate_left
     ·rintro w' ⟨s0, s1, s2, s3⟩
      go_simp; with_reducible rfl
     rotate_left
     ·simp only [Act.put, List.setIfInBounds_toArray, List.set_cons_zero, List.set_cons_succ, i64_w, i32_w]
      rfl
     refine one_ (i := 2) (N := some 11) #[true, true, true, true, false] rfl rfl (by kernel_rfl) (by decide) (fun K hK => ?_); refine goes_ Try.func81 (by kernel_rfl) rfl #[.agg #[.int .i8 a0_0, .int .i8 a0_1], .int .i64 x6_1] (by rfl) rfl rfl (by (try simp only [List.map_toArray, List.map_cons, List.map_nil]); first | done | rfl | (simp only [List.length_drop, List.length_take]; rfl)) ?_; with_reducible refine (impl_NextSpot.calls a0_0 a0_1 x6_1 t229 t230 _ A6.out).mono ?_
     rintro e w11 ⟨rfl, hb⟩
     refine ⟨_, rfl, ?_⟩; have n0_ := bkb BK227 hb; have n1_ := bkb BK228 hb; have n2_ := bst HB hb; clear BK227; clear BK228; clear HB; have BK227 := n0_; have BK228 := n1_; have HB := n2_; clear n0_ n1_ n2_; (try clear hb); (try clear hb2); (try clear hk); (try clear hi); refine hK.out _ _ ⟨(blk_cell BK227.out 0).trans rfl, (blk_cell BK227.out 1).trans rfl, (blk_cell BK228.out 0).trans rfl, (blk_cell BK228.out 1).trans rfl⟩ (fun hHeld => ?_); clear hK K; refine norm_ (a' := ?_) ?_ ?_; rotate_left
     ·show Act.put _ (some 11) _ = _
      simp only [Act.put, List.setIfInBounds_toArray, List.set_cons_zero, List.set_cons_succ, i64_w, i32_w]; rfl
     refine pure_ (i := 4) (N := some 13) (v := ?_) (a' := ?_) #[true, true, true, true, true] rfl rfl (by kernel_rfl) (fun _ _ _ h => h) (Or.inl ⟨by rfl, ?_⟩) ?_ ?_; rotate_left
     ·intro w'
      go_simp; with_reducible rfl
     rotate_left
     ·simp only [Act.put, List.setIfInBounds_toArray, List.set_cons_zero, List.set_cons_succ, i64_w, i32_w]
      rfl
     refine done_ (by kernel_rfl) ?_
     try go_wp2
     go_roundg k1
     case measure => have := HK1.out; omega
     case rel => exact ⟨(wrap64 (x6_1 + 1)), (by first | rfl | (simp; done) | (simp [*]; done)), H', ⟨by have := HK1.out; omega⟩, ⟨pk BK227⟩, ⟨pk BK228⟩, ⟨pbs HB⟩⟩
   ·rw [if_neg c5] at H
    have c5b0 : decide (x6_1 < 4) = false := decide_eq_false c5; clear c5; obtain rfl := Option.some.inj H
    go_wp2
    go_ret
    exact ⟨by first | rfl | (simp [errW_none, errW_some] <;> rfl) | (simp [*, errW_none, errW_some] <;> rfl), pbs HB⟩
def impl_Spot_127.f (l0 : List (S55)) : Option (Int) := some (l0.length : Int)
set_option maxHeartbeats 8000000 in
set_option maxRecDepth 100000 in
theorem impl_Spot_127.calls (A0 : Option Addr) (c0 : Nat) (l0 : List (S55)) (r : Int) (w : World) (hr0 : Kd.C k55 w A0 l0.length l0) (hc0 : l0.length ≤ c0) (h : impl_Spot_127.f l0 = some r) :
  Calls Try.prog 127 #[.slice A0 l0.length c0] w fun e w' => e = .returned (.int .i64 r) ∧ Drawn0 w w' := by
 have HR0 := Aside0.mk hr0
 have HC0 := Aside0.mk hc0
 clear hr0 hc0
 have H : (some (l0.length : Int)) = some r := h
 clear h
 obtain rfl := Option.some.inj H
 go_enter Try.func127, Try.ntmps127
 go_wp2
 go_ret
 exact ⟨by first | rfl | (simp; done) | (simp [*]; done), by repeat (first | exact Drawn0.refl _ | apply Drawn0.step)⟩
end Go.Proofs.Ytjogemppgdeomaa.PB
end
