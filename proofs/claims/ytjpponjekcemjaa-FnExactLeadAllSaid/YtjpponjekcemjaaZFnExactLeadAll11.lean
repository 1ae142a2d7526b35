/- The statement FnExactLeadAll of this program: what its proof uses, part 12 of 15. The call returns true for all arguments. No condition of its own. -/
import Derived.Test.YtjpponjekcemjaaZFnExactLeadAll10
section
namespace Go.Proofs.Ytjpponjekcemjaa.PB
open Go.RowKit Go.Proofs.YtjpponjekcemjaaW.PrintWords Go.Proofs.YtjpponjekcemjaaW.PrintLast Go.Proofs.YtjpponjekcemjaaW.PrintMore Go.Proofs.Ytjpponjekcemjaa.La
attribute [local go_sem] max2_int min2_int max_two min_two max_three min_three max_four min_four   -- for this text's walks alone
set_option linter.unusedVariables false
set_option linter.unusedSimpArgs false
attribute [local go_sem high] eqA39
def impl_File_can.f (k : Nat) (l0 : List (S39)) (a1_0 : Int) (a1_1 : Int) (a1_2 : LA 10) (a2 : Int) : Option (Bool) := if a2 ≥ 4 then (some true) else (if 0 < (l0.length : Int) then ((impl_NextSpot.f ((rd_T39 l0 0).f0) ((rd_T39 l0 0).f1) a2).bind fun bt335 => ((impl_Room_isFree.f a1_0 a1_1 a1_2 bt335.1 bt335.2).bind fun t338 => (if t338 = true then (if 0 ≤ (wrap64 ((l0.length : Int) - 1)) then (if (wrap64 ((l0.length : Int) - 1)) ≤ (l0.length : Int) then ((impl_Spot_91.f k (l0.take ((wrap64 ((l0.length : Int) - 1)) : Int).toNat) bt335.1 bt335.2).bind fun t343 => (if t343 = true then (some false) else (if (l0.length : Int) > 2 then (some true) else (if (wrap64 ((l0.length : Int) - 1)) < (l0.length : Int) then (some (!(bt335.1 == ((rd_T39 l0 (wrap64 ((l0.length : Int) - 1))).f0)) || (!(bt335.2 == ((rd_T39 l0 (wrap64 ((l0.length : Int) - 1))).f1))))) else (none))))) else (none)) else (none)) else (some false)))) else (none))
theorem impl_File_can.mono : ∀ a0 a1 a2 a3 a4 k, LeO (impl_File_can.f k a0 a1 a2 a3 a4) (impl_File_can.f (k + 1) a0 a1 a2 a3 a4) := by
 intro a0 a1 a2 a3 a4 k
 unfold impl_File_can.f
 repeat' first
   | (with_reducible exact impl_Spot_91.mono _ _ _ _)
   | (with_reducible exact LeO.refl _)
   | (with_reducible exact LeO.none _)
   | (with_reducible refine LeO.ite ?_ ?_)
   | (with_reducible refine LeO.bind ?_ (fun _ => ?_))
   | exact impl_Spot_91.mono _ _ _ _
   | exact LeO.none _
   | refine LeO.ite ?_ ?_
   | refine LeO.bind ?_ (fun _ => ?_)
def impl_File_can.T4 : Bool × List (List Nat × List Nat) := (true, [([], []), ([], []), ([0, 1], [0, 1]), ([2], [2]), ([3, 2], [3]), ([4], [4]), ([4], [4]), ([5, 6, 4], [4, 5, 6]), ([4], [4]), ([7, 8, 4, 4], [4, 7, 8]), ([4, 9], [4, 9])])
def impl_File_can.B4 : List Nat := [0, 0, 3, 7, 15, 31, 31, 127, 31, 511, 1023]
theorem impl_File_can.tab4 : rtab .any (opsOf Try.f65 4) = impl_File_can.T4 := by kernel_rfl
theorem impl_File_can.bits4 : waitsOk impl_File_can.T4.2 impl_File_can.B4 = true := by kernel_rfl
def impl_File_can.T6 : Bool × List (List Nat × List Nat) := (true, [([], []), ([0], [0]), ([1], [1]), ([2], [2]), ([3], [3]), ([3], [3]), ([3], [3]), ([5, 6, 3], [3, 5, 6]), ([7, 3], [3, 7]), ([4, 8, 3], [3, 4, 8]), ([3, 9], [3, 9]), ([10, 3, 0, 1, 2, 3, 4, 5, 6, 7, 8, 9, 10], [10])])
def impl_File_can.B6 : List Nat := [0, 1, 3, 7, 15, 15, 15, 111, 239, 511, 1023, 2047]
theorem impl_File_can.tab6 : rtab .any (opsOf Try.f65 6) = impl_File_can.T6 := by kernel_rfl
theorem impl_File_can.bits6 : waitsOk impl_File_can.T6.2 impl_File_can.B6 = true := by kernel_rfl
set_option maxHeartbeats 8000000 in
set_option maxRecDepth 100000 in
theorem impl_File_can.calls (k : Nat) (A0 : Option Addr) (c0 : Nat) (l0 : List (S39)) (a1_0 : Int) (a1_1 : Int) (a1_2 : LA 10) (a2 : Int) (r : Bool) (w : World) (hr0 : Kd.C k39 w A0 l0.length l0) (hc0 : l0.length ≤ c0) (h : impl_File_can.f k l0 a1_0 a1_1 a1_2 a2 = some r) :
  Calls Try.prog 65 #[.slice A0 l0.length c0, .agg (mixA (Value.int .u16) [.int .i8 a1_0, .int .i8 a1_1] a1_2), .int .i64 a2] w fun e w' => e = .returned (.bool r) ∧ Below w.heap.size w w' := by
 have hu34 := Try.underlying34
 have hu39 := Try.underlying39
 have HR0 := Aside0.mk hr0
 have HC0 := Aside0.mk hc0
 clear hr0 hc0
 have HB := Aside0.mk (Below.refl w.heap.size w)
 have H : (if a2 ≥ 4 then (some true) else (if 0 < (l0.length : Int) then ((impl_NextSpot.f ((rd_T39 l0 0).f0) ((rd_T39 l0 0).f1) a2).bind fun bt335 => ((impl_Room_isFree.f a1_0 a1_1 a1_2 bt335.1 bt335.2).bind fun t338 => (if t338 = true then (if 0 ≤ (wrap64 ((l0.length : Int) - 1)) then (if (wrap64 ((l0.length : Int) - 1)) ≤ (l0.length : Int) then ((impl_Spot_91.f k (l0.take ((wrap64 ((l0.length : Int) - 1)) : Int).toNat) bt335.1 bt335.2).bind fun t343 => (if t343 = true then (some false) else (if (l0.length : Int) > 2 then (some true) else (if (wrap64 ((l0.length : Int) - 1)) < (l0.length : Int) then (some (!(bt335.1 == ((rd_T39 l0 (wrap64 ((l0.length : Int) - 1))).f0)) || (!(bt335.2 == ((rd_T39 l0 (wrap64 ((l0.length : Int) - 1))).f1))))) else (none))))) else (none)) else (none)) else (some false)))) else (none))) = some r := h
 clear h
 by_cases c4 : a2 ≥ 4
 ·rw [if_pos c4] at H
  have c4b0 : decide (4 ≤ a2) = true := decide_eq_true c4; clear c4; obtain rfl := Option.some.inj H
  go_enter Try.func65, Try.ntmps65
  go_wp2_with (first | ((with_reducible refine gate_dst (N := 4) rfl ?_); refine box_event ?hg (N := 4) ?hd (cs := (mixA (Value.int .u16) [.int .i8 a1_0, .int .i8 a1_1] a1_2)) (t := 34) ?hr ?_; (case hd => rfl); (case hg => rfl); (case hr => first | (go_simp; done) | (go_simp; rfl)); intro gb333 hg w5 hbox hb; have n0_ := bst HB hb; have n1_ := Aside0.mk (hbox); have n2_ := gwl HB hg; have n3_ := gwl HB hg; clear HB; have HB := n0_; have BK333 := n1_; have GW333 := n2_; have GE333 := n3_; clear n0_ n1_ n2_ n3_; clear hb hbox hg))
  go_ret
  exact ⟨by first | rfl | (simp [errW_none, errW_some] <;> rfl) | (simp [*, errW_none, errW_some] <;> rfl), pbs HB⟩
 ·rw [if_neg c4] at H
  have c4b0 : decide (4 ≤ a2) = false := decide_eq_false c4; clear c4
  by_cases c6 : 0 < (l0.length : Int)
  ·rw [if_pos c6] at H
   have c6b0 : decide (0 < (l0.length : Int)) = true := decide_eq_true c6; have c6b1 : decide (0 < l0.length) = true := decide_eq_true (by omega); clear c6; replace H := Option.bind_eq_some_iff.mp H; obtain ⟨⟨t335, t336⟩, A70, H⟩ := H; replace H : ((impl_Room_isFree.f a1_0 a1_1 a1_2 t335 t336).bind fun t338 => (if t338 = true then (if 0 ≤ (wrap64 ((l0.length : Int) - 1)) then (if (wrap64 ((l0.length : Int) - 1)) ≤ (l0.length : Int) then ((impl_Spot_91.f k (l0.take ((wrap64 ((l0.length : Int) - 1)) : Int).toNat) t335 t336).bind fun t343 => (if t343 = true then (some false) else (if (l0.length : Int) > 2 then (some true) else (if (wrap64 ((l0.length : Int) - 1)) < (l0.length : Int) then (some (!(t335 == ((rd_T39 l0 (wrap64 ((l0.length : Int) - 1))).f0)) || (!(t336 == ((rd_T39 l0 (wrap64 ((l0.length : Int) - 1))).f1))))) else (none))))) else (none)) else (none)) else (some false))) = some r := H; have A7 := Aside0.mk A70; clear A70; obtain ⟨t338, A8, H⟩ := obn H
   by_cases c9 : t338 = true
   ·subst c9
    have H1 : (if 0 ≤ (wrap64 ((l0.length : Int) - 1)) then (if (wrap64 ((l0.length : Int) - 1)) ≤ (l0.length : Int) then ((impl_Spot_91.f k (l0.take ((wrap64 ((l0.length : Int) - 1)) : Int).toNat) t335 t336).bind fun t343 => (if t343 = true then (some false) else (if (l0.length : Int) > 2 then (some true) else (if (wrap64 ((l0.length : Int) - 1)) < (l0.length : Int) then (some (!(t335 == ((rd_T39 l0 (wrap64 ((l0.length : Int) - 1))).f0)) || (!(t336 == ((rd_T39 l0 (wrap64 ((l0.length : Int) - 1))).f1))))) else (none))))) else (none)) else (none)) = some r := by rw [if_pos rfl] at H; exact H
    clear H; have H := H1; clear H1; obtain ⟨ji10, hji10⟩ : ∃ j_ : Int, (wrap64 ((l0.length : Int) - 1)) = j_ := ⟨_, rfl⟩
    replace H : (if 0 ≤ (ji10) then (if (ji10) ≤ (l0.length : Int) then ((impl_Spot_91.f k (l0.take ((ji10) : Int).toNat) t335 t336).bind fun t343 => (if t343 = true then (some false) else (if (l0.length : Int) > 2 then (some true) else (if (ji10) < (l0.length : Int) then (some (!(t335 == ((rd_T39 l0 (ji10)).f0)) || (!(t336 == ((rd_T39 l0 (ji10)).f1))))) else (none))))) else (none)) else (none)) = some r := by first | (rw [hji10] at H; exact H) | (simp only [hji10] at H ⊢; exact H)
    (try rw [hji10] at A7); (try rw [hji10] at A8); have hji10w : (IntKind.i64.wrap ((l0.length : Int) - 1)) = ji10 := (i64_w _).trans hji10
    by_cases c11 : 0 ≤ (ji10)
    ·rw [if_pos c11] at H
     have c11b0 := eq_true c11; have c11b1 : decide (0 ≤ (ji10)) = true := decide_eq_true c11; clear c11
     by_cases c12 : (ji10) ≤ (l0.length : Int)
     ·rw [if_pos c12] at H
      have c12b0 := eq_true c12; have c12b1 : decide ((ji10) ≤ (l0.length : Int)) = true := decide_eq_true c12; clear c12; obtain ⟨y339, hy339⟩ : ∃ y_ : List (S39), y_ = (l0.take ((ji10) : Int).toNat) := ⟨_, rfl⟩
      replace H : ((impl_Spot_91.f k y339 t335 t336).bind fun t343 => (if t343 = true then (some false) else (if (l0.length : Int) > 2 then (some true) else (if (ji10) < (l0.length : Int) then (some (!(t335 == ((rd_T39 l0 (ji10)).f0)) || (!(t336 == ((rd_T39 l0 (ji10)).f1))))) else (none))))) = some r := by first | (rw [hy339]; with_reducible exact H) | (have H2_ := (Option.bind_some _ _).symm.trans H; rw [hy339]; with_reducible exact H2_) | (have H2_ := (Option.bind_some _ _).symm.trans H; with_reducible exact H2_) | with_reducible exact H | (rw [hy339]; exact H) | exact H
      have Ny339 := Aside0.mk hy339; clear hy339; obtain ⟨t343, A13, H⟩ := obn H
      by_cases c14 : t343 = true
      ·subst c14
       have H1 : (some false) = some r := by rw [if_pos rfl] at H; exact H
       clear H; have H := H1; clear H1; obtain rfl := Option.some.inj H
       go_enter Try.func65, Try.ntmps65
       try go_wp2_with (first | ((with_reducible refine gate_dst (N := 4) rfl ?_); refine box_event ?hg (N := 4) ?hd (cs := (mixA (Value.int .u16) [.int .i8 a1_0, .int .i8 a1_1] a1_2)) (t := 34) ?hr ?_; (case hd => rfl); (case hg => rfl); (case hr => first | (go_simp; done) | (go_simp; rfl)); intro gb333 hg w15 hbox hb; have n0_ := bst HB hb; have n1_ := Aside0.mk (hbox); have n2_ := gwl HB hg; have n3_ := gwl HB hg; clear HB; have HB := n0_; have BK333 := n1_; have GW333 := n2_; have GE333 := n3_; clear n0_ n1_ n2_ n3_; clear hb hbox hg; have p334 : 0 ≤ (0 : Int) := (by omega); have q334 : 0 < (l0.length : Int) := oda; obtain ⟨ad334, e334, hx334_0, hx334_1⟩ := at_T39 HR0.out 0 p334 q334; cases e334; have qi334 : (0 < l0.length) = True := eq_true (by omega); (try rw [show ((0 : Int)).toNat = 0 from rfl] at hx334_0); (try rw [show 0 * 2 = 0 from rfl] at hx334_0); (try rw [Addr.add_zero'] at hx334_0); (try rw [show ((0 : Int)).toNat = 0 from rfl] at hx334_1); (try rw [show 0 * 2 = 0 from rfl] at hx334_1); (try rw [Addr.add_zero'] at hx334_1); try replace hx334_0 := cb HB hx334_0; try replace hx334_1 := cb HB hx334_1; replace p334 := eq_true p334; replace q334 := eq_true q334) | ((with_reducible refine gate_callee (f := 69) rfl ?_); refine gl (some 15) Try.func69 #[.agg #[.int .i8 ((rd_T39 l0 0).f0), .int .i8 ((rd_T39 l0 0).f1)], .int .i64 a2] ?_; (with_reducible refine (impl_NextSpot.calls ((rd_T39 l0 0).f0) ((rd_T39 l0 0).f1) a2 t335 t336 _ A7.out).mono ?_); rintro e w16 ⟨rfl, hb⟩; refine ⟨_, rfl, ?_⟩; replace BK333 := bkb BK333 hb; replace HB := bst HB hb; (try clear hb); (try clear hb2); (try clear hk); (try clear hi)) | ((with_reducible refine gate_dst (N := 7) rfl ?_); refine box_event ?hg (N := 7) ?hd (cs := #[.int .i8 0, .int .i8 0]) (t := 39) ?hr ?_; (case hd => rfl); (case hg => rfl); (case hr => first | (go_simp; done) | (go_simp; rfl)); intro gb337 hg w17 hbox hb; have n0_ := bkb BK333 hb; have n1_ := bst HB hb; have n2_ := Aside0.mk (hbox); have n3_ := gwl HB hg; have n4_ := gwl HB hg; have n5_ := nbl BK333 hg; have n6_ := nbg BK333 hg; clear BK333; clear HB; have BK333 := n0_; have HB := n1_; have BK337 := n2_; have GW337 := n3_; have GE337 := n4_; have NB333_337 := n5_; have NB337_333 := n6_; clear n0_ n1_ n2_ n3_ n4_ n5_ n6_; clear hb hbox hg; have hnb18 := NB337_333.out; have hnc18 := NB333_337.out; have hcz19_0 : w17.cell? ⟨gb337, 0, none⟩ = some (.int .i8 0) := (blk_cell BK337.out 0).trans rfl; have hcz19_1 : w17.cell? ⟨gb337, 1, none⟩ = some (.int .i8 0) := (blk_cell BK337.out 1).trans rfl; have hfz19_0 := blk_frozen BK337.out 0; have hfz19_1 := blk_frozen BK337.out 1))
       have n0_ : Aside0 (((w17.setCell ⟨gb337, 0, none⟩ (.int .i8 t335)).setCell ⟨gb337, 1, none⟩ (.int .i8 t336)).heap[gb333]? = some (.cells (mixA (Value.int .u16) [.int .i8 a1_0, .int .i8 a1_1] a1_2) 34 (0, 0))) := ⟨by (with_reducible repeat (first | refine blk_drewN ?_ _ | refine blk_drew ?_ | refine blk_alloc ?_ _)); refine blk_far ?_ NB333_337.out _; (with_reducible repeat (first | refine blk_drewN ?_ _ | refine blk_drew ?_ | refine blk_alloc ?_ _)); refine blk_far ?_ NB333_337.out _; (with_reducible repeat (first | refine blk_drewN ?_ _ | refine blk_drew ?_ | refine blk_alloc ?_ _)); exact BK333.out⟩; have n1_ : Aside0 (((w17.setCell ⟨gb337, 0, none⟩ (.int .i8 t335)).setCell ⟨gb337, 1, none⟩ (.int .i8 t336)).heap[gb337]? = some (.cells #[.int .i8 t335, .int .i8 t336] 39 (0, 0))) := ⟨by (with_reducible repeat (first | refine blk_drewN ?_ _ | refine blk_drew ?_ | refine blk_alloc ?_ _)); refine blk_put (cs := #[.int .i8 t335, .int .i8 0]) ?_ 1 _ rfl; (with_reducible repeat (first | refine blk_drewN ?_ _ | refine blk_drew ?_ | refine blk_alloc ?_ _)); refine blk_put (cs := #[.int .i8 0, .int .i8 0]) ?_ 0 _ rfl; (with_reducible repeat (first | refine blk_drewN ?_ _ | refine blk_drew ?_ | refine blk_alloc ?_ _)); exact BK337.out⟩; have n2_ : Aside0 (Below w.heap.size w ((w17.setCell ⟨gb337, 0, none⟩ (.int .i8 t335)).setCell ⟨gb337, 1, none⟩ (.int .i8 t336))) := ⟨pbs HB⟩; (try clear BK333); (try clear BK337); (try clear HB); generalize ((w17.setCell ⟨gb337, 0, none⟩ (.int .i8 t335)).setCell ⟨gb337, 1, none⟩ (.int .i8 t336)) = w20 at n0_ n1_ n2_ ⊢; have BK333 := n0_; have BK337 := n1_; have HB := n2_; clear n0_ n1_ n2_; replace BK333 := Aside0.mk (blk_drew BK333.out); replace BK337 := Aside0.mk (blk_drew BK337.out); replace HB := Aside0.mk (below_drew1 HB.out)
       refine start_ (n := 11) (S := fun w' => w'.cell? ⟨gb337, 0, none⟩ = some (.int .i8 t335) ∧ w'.cell? ⟨gb337, 1, none⟩ = some (.int .i8 t336) ∧ World.rangeAt w' gb333 0 ([.int .i8 a1_0, .int .i8 a1_1] ++ a1_2.l.map (Value.int .u16))) (ds := []) (bA 11 0) (by kernel_rfl) rfl rfl ⟨(blk_cell BK337.out 0).trans rfl, (blk_cell BK337.out 1).trans rfl, mix_range BK333.out⟩ (fun hHeld => ?_); refine with_tabW impl_File_can.tab4 impl_File_can.bits4 (fun HT_ HW_ => ?_)
       generalize w20.drew = w21 at BK333 BK337 HB hHeld ⊢; refine take_ (i := 0) (N := some 19) (v := ?_) (a' := ?_) (bA 11 1) rfl rfl (take_ofW HT_.out HW_.out (by kernel_rfl)) (fun _ _ _ h => h) (Or.inl ⟨by rfl, ?_⟩) hHeld ?_ ?_; rotate_left
       ·rintro w' ⟨s0, s1, s2⟩
        refine load_mix_run (P := Try.prog) 34 (.tmp 4) ?_ gb333 ?_ s2 Try.underlying34 rfl (by kernel_rfl) rfl
        all_goals rfl
       rotate_left
       ·simp only [Act.put, List.setIfInBounds_toArray, List.set_cons_zero, List.set_cons_succ, i64_w, i32_w]
        rfl
       refine tk 1 20 11 3 HT_ HW_ hHeld ?_; refine one_ (i := 2) (N := some 21) (bA 11 7) rfl rfl (one_of HT_.out (by kernel_rfl)) (by decide) (fun K hK => ?_); refine gs Try.func86 #[.agg (mixA (Value.int .u16) [.int .i8 a1_0, .int .i8 a1_1] a1_2), .agg #[.int .i8 t335, .int .i8 t336]] ?_; with_reducible refine (impl_Room_isFree.calls a1_0 a1_1 a1_2 t335 t336 true _ A8.out).mono ?_
       rintro e w22 ⟨rfl, hb⟩
       refine ⟨_, rfl, ?_⟩; replace BK333 := bkb BK333 hb; replace BK337 := bkb BK337 hb; replace HB := bst HB hb; (try clear hb); (try clear hb2); (try clear hk); (try clear hi); have q23 : ((ji10) : Int) ≤ ((l0.length : Int) : Int) := oda; obtain ⟨i023, hi023, _, hsz23, _⟩ := info_parts info39; have hroom23 : l0.length ≤ c0 := HC0.out; have hC23 : Kd.C k39 _ (some ad334) l0.length l0 := HR0.out; have hcut23 := cut_to (P := Try.prog) 37 39 .i64 Try.underlying37 hi023 (some ad334) l0.length c0 (ji10) (oda) q23 hroom23; have hr23 := Kd.C_take (m := ((ji10) : Int).toNat) hC23 (by omega); have hy23 : y339.length = ((ji10) : Int).toNat := (by rw [Ny339.out, List.length_take]; omega); rw [← Ny339.out] at hr23; rw [← hy23] at hcut23; have HR342 := Aside0.mk hr23; have HC342 := Aside0.mk (show y339.length ≤ c0 from by omega); clear hr23 hC23 hroom23 hi023 hsz23; have KY23 := Aside0.mk hy23; clear hy23; replace q23 := eq_true q23; refine hK.out _ _ ⟨(blk_cell BK337.out 0).trans rfl, (blk_cell BK337.out 1).trans rfl, mix_range BK333.out⟩ (fun hHeld => ?_); clear hK K; refine nm 21 ?_; refine pu 3 22 11 15 HT_ ?_; refine pu 4 23 11 31 HT_ ?_; refine pu 5 24 11 63 HT_ ?_; refine pu 6 25 11 127 HT_ ?_; refine pu 7 26 11 255 HT_ ?_; refine tk 8 27 11 511 HT_ HW_ hHeld ?_; refine one_ (i := 9) (N := some 28) (bA 11 1023) rfl rfl (one_of HT_.out (by kernel_rfl)) (by decide) (fun K hK => ?_); refine gs Try.func91 #[.slice (some ad334) y339.length c0, .agg #[.int .i8 t335, .int .i8 t336]] ?_; with_reducible refine (impl_Spot_91.calls k _ _ y339 t335 t336 true _ ?side1 ?side2 A13.out).mono ?_; (case side1 => repeat (first | exact (Kd.C_below HR342.out HB.out) | (with_reducible refine Kd.C_alloc ?_ _) | (with_reducible refine Kd.C_drewN ?_ _) | (with_reducible refine Kd.C_drew ?_))); (case side2 => exact HC342.out)
       rintro e w24 ⟨rfl, hb⟩
       refine ⟨_, rfl, ?_⟩; replace BK333 := bkb BK333 hb; replace BK337 := bkb BK337 hb; replace HB := bst HB hb; (try clear hb); (try clear hb2); (try clear hk); (try clear hi); refine hK.out _ _ ⟨(blk_cell BK337.out 0).trans rfl, (blk_cell BK337.out 1).trans rfl, mix_range BK333.out⟩ (fun hHeld => ?_); clear hK K; refine nm 28 ?_; refine pu 10 29 11 2047 HT_ ?_; refine done_ (done_of HT_.out (by kernel_rfl)) ?_
       try go_wp2
       go_ret
       exact ⟨by first | rfl | (simp [errW_none, errW_some] <;> rfl) | (simp only [← hji10]; first | rfl | (simp [errW_none, errW_some] <;> rfl)) | (simp [*, errW_none, errW_some] <;> rfl), pbs HB⟩
      ·replace c14 := Bool.eq_false_iff.mpr c14
       subst c14
       have H1 : (if (l0.length : Int) > 2 then (some true) else (if (ji10) < (l0.length : Int) then (some (!(t335 == ((rd_T39 l0 (ji10)).f0)) || (!(t336 == ((rd_T39 l0 (ji10)).f1))))) else (none))) = some r := by rw [if_neg (show ¬ (false = true) by decide)] at H; exact H
       clear H; have H := H1; clear H1
       by_cases c26 : (l0.length : Int) > 2
       ·rw [if_pos c26] at H
        have c26b0 : decide (2 < (l0.length : Int)) = true := decide_eq_true c26; have c26b1 : decide (2 < l0.length) = true := decide_eq_true (by omega); clear c26; obtain rfl := Option.some.inj H
        go_enter Try.func65, Try.ntmps65
        try go_wp2_with (first | ((with_reducible refine gate_dst (N := 4) rfl ?_); refine box_event ?hg (N := 4) ?hd (cs := (mixA (Value.int .u16) [.int .i8 a1_0, .int .i8 a1_1] a1_2)) (t := 34) ?hr ?_; (case hd => rfl); (case hg => rfl); (case hr => first | (go_simp; done) | (go_simp; rfl)); intro gb333 hg w27 hbox hb; have n0_ := bst HB hb; have n1_ := Aside0.mk (hbox); have n2_ := gwl HB hg; have n3_ := gwl HB hg; clear HB; have HB := n0_; have BK333 := n1_; have GW333 := n2_; have GE333 := n3_; clear n0_ n1_ n2_ n3_; clear hb hbox hg; have p334 : 0 ≤ (0 : Int) := (by omega); have q334 : 0 < (l0.length : Int) := oda; obtain ⟨ad334, e334, hx334_0, hx334_1⟩ := at_T39 HR0.out 0 p334 q334; cases e334; have qi334 : (0 < l0.length) = True := eq_true (by omega); (try rw [show ((0 : Int)).toNat = 0 from rfl] at hx334_0); (try rw [show 0 * 2 = 0 from rfl] at hx334_0); (try rw [Addr.add_zero'] at hx334_0); (try rw [show ((0 : Int)).toNat = 0 from rfl] at hx334_1); (try rw [show 0 * 2 = 0 from rfl] at hx334_1); (try rw [Addr.add_zero'] at hx334_1); try replace hx334_0 := cb HB hx334_0; try replace hx334_1 := cb HB hx334_1; replace p334 := eq_true p334; replace q334 := eq_true q334) | ((with_reducible refine gate_callee (f := 69) rfl ?_); refine gl (some 15) Try.func69 #[.agg #[.int .i8 ((rd_T39 l0 0).f0), .int .i8 ((rd_T39 l0 0).f1)], .int .i64 a2] ?_; (with_reducible refine (impl_NextSpot.calls ((rd_T39 l0 0).f0) ((rd_T39 l0 0).f1) a2 t335 t336 _ A7.out).mono ?_); rintro e w28 ⟨rfl, hb⟩; refine ⟨_, rfl, ?_⟩; replace BK333 := bkb BK333 hb; replace HB := bst HB hb; (try clear hb); (try clear hb2); (try clear hk); (try clear hi)) | ((with_reducible refine gate_dst (N := 7) rfl ?_); refine box_event ?hg (N := 7) ?hd (cs := #[.int .i8 0, .int .i8 0]) (t := 39) ?hr ?_; (case hd => rfl); (case hg => rfl); (case hr => first | (go_simp; done) | (go_simp; rfl)); intro gb337 hg w29 hbox hb; have n0_ := bkb BK333 hb; have n1_ := bst HB hb; have n2_ := Aside0.mk (hbox); have n3_ := gwl HB hg; have n4_ := gwl HB hg; have n5_ := nbl BK333 hg; have n6_ := nbg BK333 hg; clear BK333; clear HB; have BK333 := n0_; have HB := n1_; have BK337 := n2_; have GW337 := n3_; have GE337 := n4_; have NB333_337 := n5_; have NB337_333 := n6_; clear n0_ n1_ n2_ n3_ n4_ n5_ n6_; clear hb hbox hg; have hnb30 := NB337_333.out; have hnc30 := NB333_337.out; have hcz31_0 : w29.cell? ⟨gb337, 0, none⟩ = some (.int .i8 0) := (blk_cell BK337.out 0).trans rfl; have hcz31_1 : w29.cell? ⟨gb337, 1, none⟩ = some (.int .i8 0) := (blk_cell BK337.out 1).trans rfl; have hfz31_0 := blk_frozen BK337.out 0; have hfz31_1 := blk_frozen BK337.out 1))
        have n0_ : Aside0 (((w29.setCell ⟨gb337, 0, none⟩ (.int .i8 t335)).setCell ⟨gb337, 1, none⟩ (.int .i8 t336)).heap[gb333]? = some (.cells (mixA (Value.int .u16) [.int .i8 a1_0, .int .i8 a1_1] a1_2) 34 (0, 0))) := ⟨by (with_reducible repeat (first | refine blk_drewN ?_ _ | refine blk_drew ?_ | refine blk_alloc ?_ _)); refine blk_far ?_ NB333_337.out _; (with_reducible repeat (first | refine blk_drewN ?_ _ | refine blk_drew ?_ | refine blk_alloc ?_ _)); refine blk_far ?_ NB333_337.out _; (with_reducible repeat (first | refine blk_drewN ?_ _ | refine blk_drew ?_ | refine blk_alloc ?_ _)); exact BK333.out⟩; have n1_ : Aside0 (((w29.setCell ⟨gb337, 0, none⟩ (.int .i8 t335)).setCell ⟨gb337, 1, none⟩ (.int .i8 t336)).heap[gb337]? = some (.cells #[.int .i8 t335, .int .i8 t336] 39 (0, 0))) := ⟨by (with_reducible repeat (first | refine blk_drewN ?_ _ | refine blk_drew ?_ | refine blk_alloc ?_ _)); refine blk_put (cs := #[.int .i8 t335, .int .i8 0]) ?_ 1 _ rfl; (with_reducible repeat (first | refine blk_drewN ?_ _ | refine blk_drew ?_ | refine blk_alloc ?_ _)); refine blk_put (cs := #[.int .i8 0, .int .i8 0]) ?_ 0 _ rfl; (with_reducible repeat (first | refine blk_drewN ?_ _ | refine blk_drew ?_ | refine blk_alloc ?_ _)); exact BK337.out⟩; have n2_ : Aside0 (Below w.heap.size w ((w29.setCell ⟨gb337, 0, none⟩ (.int .i8 t335)).setCell ⟨gb337, 1, none⟩ (.int .i8 t336))) := ⟨pbs HB⟩; (try clear BK333); (try clear BK337); (try clear HB); generalize ((w29.setCell ⟨gb337, 0, none⟩ (.int .i8 t335)).setCell ⟨gb337, 1, none⟩ (.int .i8 t336)) = w32 at n0_ n1_ n2_ ⊢; have BK333 := n0_; have BK337 := n1_; have HB := n2_; clear n0_ n1_ n2_; replace BK333 := Aside0.mk (blk_drew BK333.out); replace BK337 := Aside0.mk (blk_drew BK337.out); replace HB := Aside0.mk (below_drew1 HB.out)
        refine start_ (n := 11) (S := fun w' => w'.cell? ⟨gb337, 0, none⟩ = some (.int .i8 t335) ∧ w'.cell? ⟨gb337, 1, none⟩ = some (.int .i8 t336) ∧ World.rangeAt w' gb333 0 ([.int .i8 a1_0, .int .i8 a1_1] ++ a1_2.l.map (Value.int .u16))) (ds := []) (bA 11 0) (by kernel_rfl) rfl rfl ⟨(blk_cell BK337.out 0).trans rfl, (blk_cell BK337.out 1).trans rfl, mix_range BK333.out⟩ (fun hHeld => ?_); refine with_tabW impl_File_can.tab4 impl_File_can.bits4 (fun HT_ HW_ => ?_)
        generalize w32.drew = w33 at BK333 BK337 HB hHeld ⊢; refine take_ (i := 0) (N := some 19) (v := ?_) (a' := ?_) (bA 11 1) rfl rfl (take_ofW HT_.out HW_.out (by kernel_rfl)) (fun _ _ _ h => h) (Or.inl ⟨by rfl, ?_⟩) hHeld ?_ ?_; rotate_left
        ·rintro w' ⟨s0, s1, s2⟩
         refine load_mix_run (P := Try.prog) 34 (.tmp 4) ?_ gb333 ?_ s2 Try.underlying34 rfl (by kernel_rfl) rfl
         all_goals rfl
        rotate_left
        ·simp only [Act.put, List.setIfInBounds_toArray, List.set_cons_zero, List.set_cons_succ, i64_w, i32_w]
         rfl
        refine tk 1 20 11 3 HT_ HW_ hHeld ?_; refine one_ (i := 2) (N := some 21) (bA 11 7) rfl rfl (one_of HT_.out (by kernel_rfl)) (by decide) (fun K hK => ?_); refine gs Try.func86 #[.agg (mixA (Value.int .u16) [.int .i8 a1_0, .int .i8 a1_1] a1_2), .agg #[.int .i8 t335, .int .i8 t336]] ?_; with_reducible refine (impl_Room_isFree.calls a1_0 a1_1 a1_2 t335 t336 true _ A8.out).mono ?_
        rintro e w34 ⟨rfl, hb⟩
        refine ⟨_, rfl, ?_⟩; replace BK333 := bkb BK333 hb; replace BK337 := bkb BK337 hb; replace HB := bst HB hb; (try clear hb); (try clear hb2); (try clear hk); (try clear hi); have q35 : ((ji10) : Int) ≤ ((l0.length : Int) : Int) := oda; obtain ⟨i035, hi035, _, hsz35, _⟩ := info_parts info39; have hroom35 : l0.length ≤ c0 := HC0.out; have hC35 : Kd.C k39 _ (some ad334) l0.length l0 := HR0.out; have hcut35 := cut_to (P := Try.prog) 37 39 .i64 Try.underlying37 hi035 (some ad334) l0.length c0 (ji10) (oda) q35 hroom35; have hr35 := Kd.C_take (m := ((ji10) : Int).toNat) hC35 (by omega); have hy35 : y339.length = ((ji10) : Int).toNat := (by rw [Ny339.out, List.length_take]; omega); rw [← Ny339.out] at hr35; rw [← hy35] at hcut35; have HR342 := Aside0.mk hr35; have HC342 := Aside0.mk (show y339.length ≤ c0 from by omega); clear hr35 hC35 hroom35 hi035 hsz35; have KY35 := Aside0.mk hy35; clear hy35; replace q35 := eq_true q35; refine hK.out _ _ ⟨(blk_cell BK337.out 0).trans rfl, (blk_cell BK337.out 1).trans rfl, mix_range BK333.out⟩ (fun hHeld => ?_); clear hK K; refine nm 21 ?_; refine pu 3 22 11 15 HT_ ?_; refine pu 4 23 11 31 HT_ ?_; refine pu 5 24 11 63 HT_ ?_; refine pu 6 25 11 127 HT_ ?_; refine pu 7 26 11 255 HT_ ?_; refine tk 8 27 11 511 HT_ HW_ hHeld ?_; refine one_ (i := 9) (N := some 28) (bA 11 1023) rfl rfl (one_of HT_.out (by kernel_rfl)) (by decide) (fun K hK => ?_); refine gs Try.func91 #[.slice (some ad334) y339.length c0, .agg #[.int .i8 t335, .int .i8 t336]] ?_; with_reducible refine (impl_Spot_91.calls k _ _ y339 t335 t336 false _ ?side1 ?side2 A13.out).mono ?_; (case side1 => repeat (first | exact (Kd.C_below HR342.out HB.out) | (with_reducible refine Kd.C_alloc ?_ _) | (with_reducible refine Kd.C_drewN ?_ _) | (with_reducible refine Kd.C_drew ?_))); (case side2 => exact HC342.out)
        rintro e w36 ⟨rfl, hb⟩
        refine ⟨_, rfl, ?_⟩; replace BK333 := bkb BK333 hb; replace BK337 := bkb BK337 hb; replace HB := bst HB hb; (try clear hb); (try clear hb2); (try clear hk); (try clear hi); refine hK.out _ _ ⟨(blk_cell BK337.out 0).trans rfl, (blk_cell BK337.out 1).trans rfl, mix_range BK333.out⟩ (fun hHeld => ?_); clear hK K; refine nm 28 ?_; refine pu 10 29 11 2047 HT_ ?_; refine done_ (done_of HT_.out (by kernel_rfl)) ?_
        try go_wp2
        replace BK333 := Aside0.mk (blk_drew BK333.out); replace BK337 := Aside0.mk (blk_drew BK337.out); replace HB := Aside0.mk (below_drew1 HB.out)
        refine start_ (n := 12) (S := fun w' => True) (ds := []) (bA 12 0) (by kernel_rfl) rfl rfl trivial (fun hHeld => ?_); refine with_tabW impl_File_can.tab6 impl_File_can.bits6 (fun HT_ HW_ => ?_)
        generalize w36.drew = w38 at BK333 BK337 HB hHeld ⊢; refine pu 0 30 12 1 HT_ ?_; refine pu 1 31 12 3 HT_ ?_; refine pu 2 32 12 7 HT_ ?_; refine pu 3 33 12 15 HT_ ?_; refine pn 4 34 12 31 HT_ ?_; refine pn 5 35 12 63 HT_ ?_; refine pn 6 36 12 127 HT_ ?_; refine pn 7 37 12 255 HT_ ?_; refine pn 8 38 12 511 HT_ ?_; refine pn 9 39 12 1023 HT_ ?_; refine pu 10 40 12 2047 HT_ ?_; refine pu 11 6 12 4095 HT_ ?_; refine done_ (done_of HT_.out (by kernel_rfl)) ?_
        try go_wp2
        go_ret
        exact ⟨by first | rfl | (simp [errW_none, errW_some] <;> rfl) | (simp only [← hji10]; first | rfl | (simp [errW_none, errW_some] <;> rfl)) | (simp [*, errW_none, errW_some] <;> rfl), pbs HB⟩
       ·rw [if_neg c26] at H
        have c26b0 : decide (2 < (l0.length : Int)) = false := decide_eq_false c26; have c26b1 : decide (2 < l0.length) = false := decide_eq_false (by omega); clear c26
        by_cases c39 : (ji10) < (l0.length : Int)
        ·rw [if_pos c39] at H
         have c39b0 : decide ((ji10) < (l0.length : Int)) = true := decide_eq_true c39; clear c39; obtain rfl := Option.some.inj H
         go_enter Try.func65, Try.ntmps65
         try go_wp2_with (first | ((with_reducible refine gate_dst (N := 4) rfl ?_); refine box_event ?hg (N := 4) ?hd (cs := (mixA (Value.int .u16) [.int .i8 a1_0, .int .i8 a1_1] a1_2)) (t := 34) ?hr ?_; (case hd => rfl); (case hg => rfl); (case hr => first | (go_simp; done) | (go_simp; rfl)); intro gb333 hg w40 hbox hb; have n0_ := bst HB hb; have n1_ := Aside0.mk (hbox); have n2_ := gwl HB hg; have n3_ := gwl HB hg; clear HB; have HB := n0_; have BK333 := n1_; have GW333 := n2_; have GE333 := n3_; clear n0_ n1_ n2_ n3_; clear hb hbox hg; have p334 : 0 ≤ (0 : Int) := (by omega); have q334 : 0 < (l0.length : Int) := oda; obtain ⟨ad334, e334, hx334_0, hx334_1⟩ := at_T39 HR0.out 0 p334 q334; cases e334; have qi334 : (0 < l0.length) = True := eq_true (by omega); (try rw [show ((0 : Int)).toNat = 0 from rfl] at hx334_0); (try rw [show 0 * 2 = 0 from rfl] at hx334_0); (try rw [Addr.add_zero'] at hx334_0); (try rw [show ((0 : Int)).toNat = 0 from rfl] at hx334_1); (try rw [show 0 * 2 = 0 from rfl] at hx334_1); (try rw [Addr.add_zero'] at hx334_1); try replace hx334_0 := cb HB hx334_0; try replace hx334_1 := cb HB hx334_1; replace p334 := eq_true p334; replace q334 := eq_true q334) | ((with_reducible refine gate_callee (f := 69) rfl ?_); refine gl (some 15) Try.func69 #[.agg #[.int .i8 ((rd_T39 l0 0).f0), .int .i8 ((rd_T39 l0 0).f1)], .int .i64 a2] ?_; (with_reducible refine (impl_NextSpot.calls ((rd_T39 l0 0).f0) ((rd_T39 l0 0).f1) a2 t335 t336 _ A7.out).mono ?_); rintro e w41 ⟨rfl, hb⟩; refine ⟨_, rfl, ?_⟩; replace BK333 := bkb BK333 hb; replace HB := bst HB hb; (try clear hb); (try clear hb2); (try clear hk); (try clear hi)) | ((with_reducible refine gate_dst (N := 7) rfl ?_); refine box_event ?hg (N := 7) ?hd (cs := #[.int .i8 0, .int .i8 0]) (t := 39) ?hr ?_; (case hd => rfl); (case hg => rfl); (case hr => first | (go_simp; done) | (go_simp; rfl)); intro gb337 hg w42 hbox hb; have n0_ := bkb BK333 hb; have n1_ := bst HB hb; have n2_ := Aside0.mk (hbox); have n3_ := gwl HB hg; have n4_ := gwl HB hg; have n5_ := nbl BK333 hg; have n6_ := nbg BK333 hg; clear BK333; clear HB; have BK333 := n0_; have HB := n1_; have BK337 := n2_; have GW337 := n3_; have GE337 := n4_; have NB333_337 := n5_; have NB337_333 := n6_; clear n0_ n1_ n2_ n3_ n4_ n5_ n6_; clear hb hbox hg; have hnb43 := NB337_333.out; have hnc43 := NB333_337.out; have hcz44_0 : w42.cell? ⟨gb337, 0, none⟩ = some (.int .i8 0) := (blk_cell BK337.out 0).trans rfl; have hcz44_1 : w42.cell? ⟨gb337, 1, none⟩ = some (.int .i8 0) := (blk_cell BK337.out 1).trans rfl; have hfz44_0 := blk_frozen BK337.out 0; have hfz44_1 := blk_frozen BK337.out 1))
         have n0_ : Aside0 (((w42.setCell ⟨gb337, 0, none⟩ (.int .i8 t335)).setCell ⟨gb337, 1, none⟩ (.int .i8 t336)).heap[gb333]? = some (.cells (mixA (Value.int .u16) [.int .i8 a1_0, .int .i8 a1_1] a1_2) 34 (0, 0))) := ⟨by (with_reducible repeat (first | refine blk_drewN ?_ _ | refine blk_drew ?_ | refine blk_alloc ?_ _)); refine blk_far ?_ NB333_337.out _; (with_reducible repeat (first | refine blk_drewN ?_ _ | refine blk_drew ?_ | refine blk_alloc ?_ _)); refine blk_far ?_ NB333_337.out _; (with_reducible repeat (first | refine blk_drewN ?_ _ | refine blk_drew ?_ | refine blk_alloc ?_ _)); exact BK333.out⟩; have n1_ : Aside0 (((w42.setCell ⟨gb337, 0, none⟩ (.int .i8 t335)).setCell ⟨gb337, 1, none⟩ (.int .i8 t336)).heap[gb337]? = some (.cells #[.int .i8 t335, .int .i8 t336] 39 (0, 0))) := ⟨by (with_reducible repeat (first | refine blk_drewN ?_ _ | refine blk_drew ?_ | refine blk_alloc ?_ _)); refine blk_put (cs := #[.int .i8 t335, .int .i8 0]) ?_ 1 _ rfl; (with_reducible repeat (first | refine blk_drewN ?_ _ | refine blk_drew ?_ | refine blk_alloc ?_ _)); refine blk_put (cs := #[.int .i8 0, .int .i8 0]) ?_ 0 _ rfl; (with_reducible repeat (first | refine blk_drewN ?_ _ | refine blk_drew ?_ | refine blk_alloc ?_ _)); exact BK337.out⟩; have n2_ : Aside0 (Below w.heap.size w ((w42.setCell ⟨gb337, 0, none⟩ (.int .i8 t335)).setCell ⟨gb337, 1, none⟩ (.int .i8 t336))) := ⟨pbs HB⟩; (try clear BK333); (try clear BK337); (try clear HB); generalize ((w42.setCell ⟨gb337, 0, none⟩ (.int .i8 t335)).setCell ⟨gb337, 1, none⟩ (.int .i8 t336)) = w45 at n0_ n1_ n2_ ⊢; have BK333 := n0_; have BK337 := n1_; have HB := n2_; clear n0_ n1_ n2_; replace BK333 := Aside0.mk (blk_drew BK333.out); replace BK337 := Aside0.mk (blk_drew BK337.out); replace HB := Aside0.mk (below_drew1 HB.out)
         refine start_ (n := 11) (S := fun w' => w'.cell? ⟨gb337, 0, none⟩ = some (.int .i8 t335) ∧ w'.cell? ⟨gb337, 1, none⟩ = some (.int .i8 t336) ∧ World.rangeAt w' gb333 0 ([.int .i8 a1_0, .int .i8 a1_1] ++ a1_2.l.map (Value.int .u16))) (ds := []) (bA 11 0) (by kernel_rfl) rfl rfl ⟨(blk_cell BK337.out 0).trans rfl, (blk_cell BK337.out 1).trans rfl, mix_range BK333.out⟩ (fun hHeld => ?_); refine with_tabW impl_File_can.tab4 impl_File_can.bits4 (fun HT_ HW_ => ?_)
         generalize w45.drew = w46 at BK333 BK337 HB hHeld ⊢; refine take_ (i := 0) (N := some 19) (v := ?_) (a' := ?_) (bA 11 1) rfl rfl (take_ofW HT_.out HW_.out (by kernel_rfl)) (fun _ _ _ h => h) (Or.inl ⟨by rfl, ?_⟩) hHeld ?_ ?_; rotate_left
         ·rintro w' ⟨s0, s1, s2⟩
          refine load_mix_run (P := Try.prog) 34 (.tmp 4) ?_ gb333 ?_ s2 Try.underlying34 rfl (by kernel_rfl) rfl
          all_goals rfl
         rotate_left
         ·simp only [Act.put, List.setIfInBounds_toArray, List.set_cons_zero, List.set_cons_succ, i64_w, i32_w]
          rfl
         refine tk 1 20 11 3 HT_ HW_ hHeld ?_; refine one_ (i := 2) (N := some 21) (bA 11 7) rfl rfl (one_of HT_.out (by kernel_rfl)) (by decide) (fun K hK => ?_); refine gs Try.func86 #[.agg (mixA (Value.int .u16) [.int .i8 a1_0, .int .i8 a1_1] a1_2), .agg #[.int .i8 t335, .int .i8 t336]] ?_; with_reducible refine (impl_Room_isFree.calls a1_0 a1_1 a1_2 t335 t336 true _ A8.out).mono ?_
         rintro e w47 ⟨rfl, hb⟩
         refine ⟨_, rfl, ?_⟩; replace BK333 := bkb BK333 hb; replace BK337 := bkb BK337 hb; replace HB := bst HB hb; (try clear hb); (try clear hb2); (try clear hk); (try clear hi); have q48 : ((ji10) : Int) ≤ ((l0.length : Int) : Int) := oda; obtain ⟨i048, hi048, _, hsz48, _⟩ := info_parts info39; have hroom48 : l0.length ≤ c0 := HC0.out; have hC48 : Kd.C k39 _ (some ad334) l0.length l0 := HR0.out; have hcut48 := cut_to (P := Try.prog) 37 39 .i64 Try.underlying37 hi048 (some ad334) l0.length c0 (ji10) (oda) q48 hroom48; have hr48 := Kd.C_take (m := ((ji10) : Int).toNat) hC48 (by omega); have hy48 : y339.length = ((ji10) : Int).toNat := (by rw [Ny339.out, List.length_take]; omega); rw [← Ny339.out] at hr48; rw [← hy48] at hcut48; have HR342 := Aside0.mk hr48; have HC342 := Aside0.mk (show y339.length ≤ c0 from by omega); clear hr48 hC48 hroom48 hi048 hsz48; have KY48 := Aside0.mk hy48; clear hy48; replace q48 := eq_true q48; refine hK.out _ _ ⟨(blk_cell BK337.out 0).trans rfl, (blk_cell BK337.out 1).trans rfl, mix_range BK333.out⟩ (fun hHeld => ?_); clear hK K; refine nm 21 ?_; refine pu 3 22 11 15 HT_ ?_; refine pu 4 23 11 31 HT_ ?_; refine pu 5 24 11 63 HT_ ?_; refine pu 6 25 11 127 HT_ ?_; refine pu 7 26 11 255 HT_ ?_; refine tk 8 27 11 511 HT_ HW_ hHeld ?_; refine one_ (i := 9) (N := some 28) (bA 11 1023) rfl rfl (one_of HT_.out (by kernel_rfl)) (by decide) (fun K hK => ?_); refine gs Try.func91 #[.slice (some ad334) y339.length c0, .agg #[.int .i8 t335, .int .i8 t336]] ?_; with_reducible refine (impl_Spot_91.calls k _ _ y339 t335 t336 false _ ?side1 ?side2 A13.out).mono ?_; (case side1 => repeat (first | exact (Kd.C_below HR342.out HB.out) | (with_reducible refine Kd.C_alloc ?_ _) | (with_reducible refine Kd.C_drewN ?_ _) | (with_reducible refine Kd.C_drew ?_))); (case side2 => exact HC342.out)
         rintro e w49 ⟨rfl, hb⟩
         refine ⟨_, rfl, ?_⟩; replace BK333 := bkb BK333 hb; replace BK337 := bkb BK337 hb; replace HB := bst HB hb; (try clear hb); (try clear hb2); (try clear hk); (try clear hi); refine hK.out _ _ ⟨(blk_cell BK337.out 0).trans rfl, (blk_cell BK337.out 1).trans rfl, mix_range BK333.out⟩ (fun hHeld => ?_); clear hK K; refine nm 28 ?_; refine pu 10 29 11 2047 HT_ ?_; refine done_ (done_of HT_.out (by kernel_rfl)) ?_
         try go_wp2
         replace BK333 := Aside0.mk (blk_drew BK333.out); replace BK337 := Aside0.mk (blk_drew BK337.out); replace HB := Aside0.mk (below_drew1 HB.out); have p344 : 0 ≤ ((ji10) : Int) := oda; have q344 : (ji10) < (l0.length : Int) := oda; obtain ⟨ad344, e344, hx344_0, hx344_1⟩ := at_T39 HR0.out (ji10) p344 q344; have hw344_1 := hx344_1; have hw344_0 := hx344_0; obtain rfl : ad334 = ad344 := (by injection e344)
         try replace hx344_0 := cb HB hx344_0
         try replace hx344_1 := cb HB hx344_1
         replace p344 := eq_true p344; replace q344 := eq_true q344
         refine start_ (n := 12) (S := fun w' => w'.cell? ⟨gb337, 0, none⟩ = some (.int .i8 t335) ∧ w'.cell? ⟨gb337, 1, none⟩ = some (.int .i8 t336) ∧ w'.cell? (ad334.add (((ji10)).toNat * 2)) = some (.int .i8 ((rd_T39 l0 (ji10)).f0)) ∧ w'.cell? ⟨(ad334.add (((ji10)).toNat * 2)).block, (ad334.add (((ji10)).toNat * 2)).off + 1, none⟩ = some (.int .i8 ((rd_T39 l0 (ji10)).f1))) (ds := []) (bA 12 0) (by kernel_rfl) rfl rfl ⟨(blk_cell BK337.out 0).trans rfl, (blk_cell BK337.out 1).trans rfl, (cb HB hw344_0), (cb HB hw344_1)⟩ (fun hHeld => ?_); refine with_tabW impl_File_can.tab6 impl_File_can.bits6 (fun HT_ HW_ => ?_)
         generalize w49.drew = w51 at BK333 BK337 HB hx344_0 hx344_1 hHeld ⊢; refine pu 0 30 12 1 HT_ ?_; refine pu 1 31 12 3 HT_ ?_; refine pu 2 32 12 7 HT_ ?_; refine pu 3 33 12 15 HT_ ?_; refine pu 5 35 12 47 HT_ ?_; refine pu 6 36 12 111 HT_ ?_; refine pu 7 37 12 239 HT_ ?_; refine tk 4 34 12 255 HT_ HW_ hHeld ?_; refine tk 8 38 12 511 HT_ HW_ hHeld ?_; refine pu 9 39 12 1023 HT_ ?_; refine pu 10 40 12 2047 HT_ ?_; refine pu 11 6 12 4095 HT_ ?_; refine done_ (done_of HT_.out (by kernel_rfl)) ?_
         try go_wp2
         go_ret
         exact ⟨by first | rfl | (simp [errW_none, errW_some] <;> rfl) | (simp only [← hji10]; first | rfl | (simp [errW_none, errW_some] <;> rfl)) | (simp [*, errW_none, errW_some] <;> rfl), pbs HB⟩
        ·rw [if_neg c39] at H
         exact absurd H (by simp)
     ·rw [if_neg c12] at H
      exact absurd H (by simp)
    ·rw [if_neg c11] at H
     exact absurd H (by simp)
   ·replace c9 := Bool.eq_false_iff.mpr c9
    subst c9
    have H1 : (some false) = some r := by rw [if_neg (show ¬ (false = true) by decide)] at H; exact H
    clear H; have H := H1; clear H1; obtain rfl := Option.some.inj H
    go_enter Try.func65, Try.ntmps65
    try go_wp2_with (first | ((with_reducible refine gate_dst (N := 4) rfl ?_); refine box_event ?hg (N := 4) ?hd (cs := (mixA (Value.int .u16) [.int .i8 a1_0, .int .i8 a1_1] a1_2)) (t := 34) ?hr ?_; (case hd => rfl); (case hg => rfl); (case hr => first | (go_simp; done) | (go_simp; rfl)); intro gb333 hg w52 hbox hb; have n0_ := bst HB hb; have n1_ := Aside0.mk (hbox); have n2_ := gwl HB hg; have n3_ := gwl HB hg; clear HB; have HB := n0_; have BK333 := n1_; have GW333 := n2_; have GE333 := n3_; clear n0_ n1_ n2_ n3_; clear hb hbox hg; have p334 : 0 ≤ (0 : Int) := (by omega); have q334 : 0 < (l0.length : Int) := oda; obtain ⟨ad334, e334, hx334_0, hx334_1⟩ := at_T39 HR0.out 0 p334 q334; cases e334; have qi334 : (0 < l0.length) = True := eq_true (by omega); (try rw [show ((0 : Int)).toNat = 0 from rfl] at hx334_0); (try rw [show 0 * 2 = 0 from rfl] at hx334_0); (try rw [Addr.add_zero'] at hx334_0); (try rw [show ((0 : Int)).toNat = 0 from rfl] at hx334_1); (try rw [show 0 * 2 = 0 from rfl] at hx334_1); (try rw [Addr.add_zero'] at hx334_1); try replace hx334_0 := cb HB hx334_0; try replace hx334_1 := cb HB hx334_1; replace p334 := eq_true p334; replace q334 := eq_true q334) | ((with_reducible refine gate_callee (f := 69) rfl ?_); refine gl (some 15) Try.func69 #[.agg #[.int .i8 ((rd_T39 l0 0).f0), .int .i8 ((rd_T39 l0 0).f1)], .int .i64 a2] ?_; (with_reducible refine (impl_NextSpot.calls ((rd_T39 l0 0).f0) ((rd_T39 l0 0).f1) a2 t335 t336 _ A7.out).mono ?_); rintro e w53 ⟨rfl, hb⟩; refine ⟨_, rfl, ?_⟩; replace BK333 := bkb BK333 hb; replace HB := bst HB hb; (try clear hb); (try clear hb2); (try clear hk); (try clear hi)) | ((with_reducible refine gate_dst (N := 7) rfl ?_); refine box_event ?hg (N := 7) ?hd (cs := #[.int .i8 0, .int .i8 0]) (t := 39) ?hr ?_; (case hd => rfl); (case hg => rfl); (case hr => first | (go_simp; done) | (go_simp; rfl)); intro gb337 hg w54 hbox hb; have n0_ := bkb BK333 hb; have n1_ := bst HB hb; have n2_ := Aside0.mk (hbox); have n3_ := gwl HB hg; have n4_ := gwl HB hg; have n5_ := nbl BK333 hg; have n6_ := nbg BK333 hg; clear BK333; clear HB; have BK333 := n0_; have HB := n1_; have BK337 := n2_; have GW337 := n3_; have GE337 := n4_; have NB333_337 := n5_; have NB337_333 := n6_; clear n0_ n1_ n2_ n3_ n4_ n5_ n6_; clear hb hbox hg; have hnb55 := NB337_333.out; have hnc55 := NB333_337.out; have hcz56_0 : w54.cell? ⟨gb337, 0, none⟩ = some (.int .i8 0) := (blk_cell BK337.out 0).trans rfl; have hcz56_1 : w54.cell? ⟨gb337, 1, none⟩ = some (.int .i8 0) := (blk_cell BK337.out 1).trans rfl; have hfz56_0 := blk_frozen BK337.out 0; have hfz56_1 := blk_frozen BK337.out 1))
    have n0_ : Aside0 (((w54.setCell ⟨gb337, 0, none⟩ (.int .i8 t335)).setCell ⟨gb337, 1, none⟩ (.int .i8 t336)).heap[gb333]? = some (.cells (mixA (Value.int .u16) [.int .i8 a1_0, .int .i8 a1_1] a1_2) 34 (0, 0))) := ⟨by (with_reducible repeat (first | refine blk_drewN ?_ _ | refine blk_drew ?_ | refine blk_alloc ?_ _)); refine blk_far ?_ NB333_337.out _; (with_reducible repeat (first | refine blk_drewN ?_ _ | refine blk_drew ?_ | refine blk_alloc ?_ _)); refine blk_far ?_ NB333_337.out _; (with_reducible repeat (first | refine blk_drewN ?_ _ | refine blk_drew ?_ | refine blk_alloc ?_ _)); exact BK333.out⟩; have n1_ : Aside0 (((w54.setCell ⟨gb337, 0, none⟩ (.int .i8 t335)).setCell ⟨gb337, 1, none⟩ (.int .i8 t336)).heap[gb337]? = some (.cells #[.int .i8 t335, .int .i8 t336] 39 (0, 0))) := ⟨by (with_reducible repeat (first | refine blk_drewN ?_ _ | refine blk_drew ?_ | refine blk_alloc ?_ _)); refine blk_put (cs := #[.int .i8 t335, .int .i8 0]) ?_ 1 _ rfl; (with_reducible repeat (first | refine blk_drewN ?_ _ | refine blk_drew ?_ | refine blk_alloc ?_ _)); refine blk_put (cs := #[.int .i8 0, .int .i8 0]) ?_ 0 _ rfl; (with_reducible repeat (first | refine blk_drewN ?_ _ | refine blk_drew ?_ | refine blk_alloc ?_ _)); exact BK337.out⟩; have n2_ : Aside0 (Below w.heap.size w ((w54.setCell ⟨gb337, 0, none⟩ (.int .i8 t335)).setCell ⟨gb337, 1, none⟩ (.int .i8 t336))) := ⟨pbs HB⟩; (try clear BK333); (try clear BK337); (try clear HB); generalize ((w54.setCell ⟨gb337, 0, none⟩ (.int .i8 t335)).setCell ⟨gb337, 1, none⟩ (.int .i8 t336)) = w57 at n0_ n1_ n2_ ⊢; have BK333 := n0_; have BK337 := n1_; have HB := n2_; clear n0_ n1_ n2_; replace BK333 := Aside0.mk (blk_drew BK333.out); replace BK337 := Aside0.mk (blk_drew BK337.out); replace HB := Aside0.mk (below_drew1 HB.out)
    refine start_ (n := 11) (S := fun w' => w'.cell? ⟨gb337, 0, none⟩ = some (.int .i8 t335) ∧ w'.cell? ⟨gb337, 1, none⟩ = some (.int .i8 t336) ∧ World.rangeAt w' gb333 0 ([.int .i8 a1_0, .int .i8 a1_1] ++ a1_2.l.map (Value.int .u16))) (ds := []) (bA 11 0) (by kernel_rfl) rfl rfl ⟨(blk_cell BK337.out 0).trans rfl, (blk_cell BK337.out 1).trans rfl, mix_range BK333.out⟩ (fun hHeld => ?_); refine with_tabW impl_File_can.tab4 impl_File_can.bits4 (fun HT_ HW_ => ?_)
    generalize w57.drew = w58 at BK333 BK337 HB hHeld ⊢; refine take_ (i := 0) (N := some 19) (v := ?_) (a' := ?_) (bA 11 1) rfl rfl (take_ofW HT_.out HW_.out (by kernel_rfl)) (fun _ _ _ h => h) (Or.inl ⟨by rfl, ?_⟩) hHeld ?_ ?_; rotate_left
    ·rintro w' ⟨s0, s1, s2⟩
     refine load_mix_run (P := Try.prog) 34 (.tmp 4) ?_ gb333 ?_ s2 Try.underlying34 rfl (by kernel_rfl) rfl
     all_goals rfl
    rotate_left
    ·simp only [Act.put, List.setIfInBounds_toArray, List.set_cons_zero, List.set_cons_succ, i64_w, i32_w]
     rfl
    refine tk 1 20 11 3 HT_ HW_ hHeld ?_; refine one_ (i := 2) (N := some 21) (bA 11 7) rfl rfl (one_of HT_.out (by kernel_rfl)) (by decide) (fun K hK => ?_); refine gs Try.func86 #[.agg (mixA (Value.int .u16) [.int .i8 a1_0, .int .i8 a1_1] a1_2), .agg #[.int .i8 t335, .int .i8 t336]] ?_; with_reducible refine (impl_Room_isFree.calls a1_0 a1_1 a1_2 t335 t336 false _ A8.out).mono ?_
    rintro e w59 ⟨rfl, hb⟩
    refine ⟨_, rfl, ?_⟩; replace BK333 := bkb BK333 hb; replace BK337 := bkb BK337 hb; replace HB := bst HB hb; (try clear hb); (try clear hb2); (try clear hk); (try clear hi); refine hK.out _ _ ⟨(blk_cell BK337.out 0).trans rfl, (blk_cell BK337.out 1).trans rfl, mix_range BK333.out⟩ (fun hHeld => ?_); clear hK K; refine nm 21 ?_; refine pu 3 22 11 15 HT_ ?_; refine pu 4 23 11 31 HT_ ?_; refine pn 5 24 11 63 HT_ ?_; refine pn 6 25 11 127 HT_ ?_; refine pn 7 26 11 255 HT_ ?_; refine pn 8 27 11 511 HT_ ?_; refine pn 9 28 11 1023 HT_ ?_; refine pu 10 29 11 2047 HT_ ?_; refine done_ (done_of HT_.out (by kernel_rfl)) ?_
    try go_wp2
    go_ret
    exact ⟨by first | rfl | (simp [errW_none, errW_some] <;> rfl) | (simp [*, errW_none, errW_some] <;> rfl), pbs HB⟩
  ·rw [if_neg c6] at H
   exact absurd H (by simp)
end Go.Proofs.Ytjpponjekcemjaa.PB
end
section
namespace Go.Proofs.Ytjpponjekcemjaa.PB
open Go.RowKit Go.Proofs.YtjpponjekcemjaaW.PrintWords Go.Proofs.YtjpponjekcemjaaW.PrintLast Go.Proofs.YtjpponjekcemjaaW.PrintMore Go.Proofs.Ytjpponjekcemjaa.La
attribute [local go_sem] max2_int min2_int max_two min_two max_three min_three max_four min_four   -- for this text's walks alone
set_option linter.unusedVariables false
set_option linter.unusedSimpArgs false
structure impl_File_lead.Nd where
  f0 : List S39
  f1 : Int
  f2 : Int
def impl_File_lead.zN : impl_File_lead.Nd := ⟨[], 0, 0⟩
def impl_File_lead.rd (xs : List impl_File_lead.Nd) (i : Int) : impl_File_lead.Nd := xs.getD i.toNat impl_File_lead.zN
def impl_File_lead.kM (w : World) : Kd impl_File_lead.Nd := Kd.iso (Kd.pair (Kd.mix 39 k39 k39 w) (Kd.pair (Kd.int .i64) (Kd.int .i64))) (fun x : impl_File_lead.Nd => (x.f0, x.f1, x.f2))
theorem impl_File_lead.openM {w W : World} (hb : Below w.heap.size w W) {base : Nat} {ok : Nat → Prop} {x : impl_File_lead.Nd} {cs : List Value} (h : (impl_File_lead.kM w).M W base ok x cs) :
    ∃ A c, cs = [.slice A x.f0.length c, .int .i64 x.f1, .int .i64 x.f2] ∧ x.f0.length ≤ c ∧ Kd.F k39 W (fun k => k < w.heap.size ∨ ok k) A x.f0.length x.f0 := by
  obtain ⟨c0, c1, rfl, h0, ⟨c2, c3, rfl, h1, h2⟩⟩ := h; have e1 : c2 = [.int .i64 x.f1] := h1; have e2 : c3 = [.int .i64 x.f2] := h2; subst e1; subst e2
  rcases h0 with ⟨A, c, rfl, hl, hr⟩ | ⟨v, rfl, hr⟩
  · exact ⟨A, c, rfl, hl, Kd.F_mono (Kd.F_below (Kd.C_F (Kd.heap_iso _ (Kd.heap_pair (Kd.heap_int _) (Kd.heap_int _))) hr) hb) (fun k hk => Or.inl hk)⟩
  · obtain ⟨A, k0, rfl⟩ := Kd.R_slice hr
    exact ⟨A, k0, rfl, (Kd.R_reads' hr).2.1, Kd.F_mono (Kd.R_F hr) (fun k hk => Or.inr hk)⟩
theorem impl_File_lead.came {w W : World} {base : Nat} {ok : Nat → Prop} {A : Option Addr} {c : Nat} {f : List S39} {a b : Int} (hl : f.length ≤ c) (h : Kd.C k39 w A f.length f) : (impl_File_lead.kM w).M W base ok ⟨f, a, b⟩ [.slice A f.length c, .int .i64 a, .int .i64 b] :=
  ⟨[.slice A f.length c], [.int .i64 a, .int .i64 b], rfl, Kd.mix_came hl h, ⟨[.int .i64 a], [.int .i64 b], rfl, rfl, rfl⟩⟩
theorem impl_File_lead.made {w W : World} {base : Nat} {ok : Nat → Prop} {u : Value} {f : List S39} {a b : Int} (h : Kd.R k39 39 W base ok u f) : (impl_File_lead.kM w).M W base ok ⟨f, a, b⟩ [u, .int .i64 a, .int .i64 b] :=
  ⟨[u], [.int .i64 a, .int .i64 b], rfl, Kd.mix_made h, ⟨[.int .i64 a], [.int .i64 b], rfl, rfl, rfl⟩⟩
structure impl_File_lead.LI (w : World) (gr gb : Nat) (s0 s1 : Int) (W0 : LA 10) (x y : Int) (vq : Value) (q : List impl_File_lead.Nd) (gm : Nat) (seen : List ByteArray) (W : World) : Prop where
  hb : Below w.heap.size w W
  hq : Kd.R (impl_File_lead.kM w) 100 W w.heap.size (fun _ => True) vq q
  hm : W.heap[gm]? = some (Ms.obS seen)
  gm : w.heap.size ≤ gm
  br : W.heap[gr]? = some (.cells (mixA (Value.int .u16) [.int .i8 s0, .int .i8 s1] W0) 34 (0, 0))
  bx : W.heap[gb]? = some (.cells #[.int .i8 x, .int .i8 y] 39 (0, 0))
section
variable {w W W1 : World} {gr gb gm : Nat} {s0 s1 : Int} {W0 : LA 10} {x y : Int} {vq : Value} {q : List impl_File_lead.Nd} {seen : List ByteArray} {g c : Nat}
theorem impl_File_lead.LI.below (h : impl_File_lead.LI w gr gb s0 s1 W0 x y vq q gm seen W) (hb : Below W.heap.size W W1) : impl_File_lead.LI w gr gb s0 s1 W0 x y vq q gm seen W1 :=
  ⟨below_step h.hb hb, Kd.R_below h.hq hb, (hb.block gm (blk_lt h.hm)).trans h.hm, h.gm, (hb.block gr (blk_lt h.br)).trans h.br, (hb.block gb (blk_lt h.bx)).trans h.bx⟩
theorem impl_File_lead.LI.alloc (h : impl_File_lead.LI w gr gb s0 s1 W0 x y vq q gm seen W) (o : Obj) : impl_File_lead.LI w gr gb s0 s1 W0 x y vq q gm seen (W.alloc o) := h.below (below_alloc (Below.refl _ _) o)
theorem impl_File_lead.LI.drew (h : impl_File_lead.LI w gr gb s0 s1 W0 x y vq q gm seen W) : impl_File_lead.LI w gr gb s0 s1 W0 x y vq q gm seen W.drew := h.below (below_drew (Below.refl _ _))
theorem impl_File_lead.LI.drewN (h : impl_File_lead.LI w gr gb s0 s1 W0 x y vq q gm seen W) (n_ : Nat) : impl_File_lead.LI w gr gb s0 s1 W0 x y vq q gm seen (W.drewN n_) := h.below (pw_below_drewN (Below.refl _ _) n_)
theorem impl_File_lead.cellsNe {gm k : Nat} (h : W.heap[gm]? = some (Ms.obS seen)) {cs : Array Value} {t : TypeId} {fr : Nat × Nat} (hk : W.heap[k]? = some (.cells cs t fr)) : k ≠ gm := fun e => by
  subst e; rw [h] at hk; exact Ms.obS_cells hk
theorem impl_File_lead.LI.more (h : impl_File_lead.LI w gr gb s0 s1 W0 x y vq q gm seen W) {seen1 : List ByteArray} (hm : W1.heap[gm]? = some (Ms.obS seen1)) (hk : KeepBut W W1 gm none) (hb : Below w.heap.size w W1) : impl_File_lead.LI w gr gb s0 s1 W0 x y vq q gm seen1 W1 := by
  have hq := Kd.R_bound h.hq; refine ⟨hb, Kd.R_mono (Kd.R_keep (g := gm) hq hk (fun k hk he => ?_)) (fun _ hk => hk.1), hm, h.gm, (hk.2 gr (blk_lt h.br) (impl_File_lead.cellsNe h.hm h.br) (by simp)).trans h.br, (hk.2 gb (blk_lt h.bx) (impl_File_lead.cellsNe h.hm h.bx) (by simp)).trans h.bx⟩; obtain ⟨_, _, _, q_, _, cells, hc⟩ := hk; exact impl_File_lead.cellsNe h.hm hc he
theorem impl_File_lead.LI.queue (h : impl_File_lead.LI w gr gb s0 s1 W0 x y vq q gm seen W) {vq1 : Value} {q1 : List impl_File_lead.Nd} (hq : Kd.R (impl_File_lead.kM w) 100 W1 w.heap.size (fun _ => True) vq1 q1) (hb : Below w.heap.size w W1) (hg : W.grownBy W1 vq.ownBlock) : impl_File_lead.LI w gr gb s0 s1 W0 x y vq1 q1 gm seen W1 :=
  ⟨hb, hq, (hg.block gm (blk_lt h.hm) (fun he => by
    obtain ⟨cells, hc⟩ := Kd.R_typed h.hq gm he.symm
    exact impl_File_lead.cellsNe h.hm hc rfl)).trans h.hm, h.gm, blk_grown h.br hg (Kd.R_ne h.hq h.br (by decide)), blk_grown h.bx hg (Kd.R_ne h.hq h.bx (by decide))⟩
theorem impl_File_lead.LI.other (h : impl_File_lead.LI w gr gb s0 s1 W0 x y vq q gm seen W) {u : Value} {l : List Int} {b_ : Nat} {ok_ : Nat → Prop} (hu : Kd.R (Kd.int .i64) 2 W b_ ok_ u l) (hb : Below w.heap.size w W1) (hg : W.grownBy W1 u.ownBlock) : impl_File_lead.LI w gr gb s0 s1 W0 x y vq q gm seen W1 :=
  ⟨hb, Kd.R_over' h.hq (Kd.R_typed hu) (show ∀ q_, q_ ∈ [100, 39] → q_ ≠ 2 by decide) hg, (hg.block gm (blk_lt h.hm) (fun he => by
    obtain ⟨cells, hc⟩ := Kd.R_typed hu gm he.symm
    exact impl_File_lead.cellsNe h.hm hc rfl)).trans h.hm, h.gm, blk_grown h.br hg (Kd.R_ne hu h.br (by decide)), blk_grown h.bx hg (Kd.R_ne hu h.bx (by decide))⟩
theorem impl_File_lead.LI.node (h : impl_File_lead.LI w gr gb s0 s1 W0 x y (.slice (some ⟨g, 0, none⟩) q.length c) q gm seen W) (i : Int) (h0 : 0 ≤ i) (h1 : i < (q.length : Int)) :
    ∃ A k, W.cell? ⟨g, i.toNat * 3, none⟩ = some (.slice A (impl_File_lead.rd q i).f0.length k) ∧ W.cell? ⟨g, i.toNat * 3 + 1, none⟩ = some (.int .i64 (impl_File_lead.rd q i).f1) ∧ W.cell? ⟨g, i.toNat * 3 + 2, none⟩ = some (.int .i64 (impl_File_lead.rd q i).f2) ∧ (impl_File_lead.rd q i).f0.length ≤ k ∧ Kd.F k39 W (fun _ => True) A (impl_File_lead.rd q i).f0.length (impl_File_lead.rd q i).f0 := by
  obtain ⟨cs, hcl, hM, hcc⟩ := Kd.R_get h.hq impl_File_lead.zN i h0 h1; obtain ⟨A, k, rfl, l0, hF⟩ := impl_File_lead.openM h.hb hM; have e0 := hcc 0 _ rfl; have e1 := hcc 1 _ rfl; have e2 := hcc 2 _ rfl; have sz : (impl_File_lead.kM w).sz = 3 := rfl; rw [sz, add_plain] at e0 e1 e2; exact ⟨A, k, e0, e1, e2, l0, Kd.F_mono hF (fun _ _ => trivial)⟩
end
def impl_File_lead.l2 : Nat → List impl_File_lead.Nd → Int → List Int → Int → Option (List Int × Int × Int)
  | 0, _, _, _, _ => none
  | k + 1, q, i, out, kk => if 0 ≤ kk then (if kk < (q.length : Int) then (if (impl_File_lead.rd q kk).f1 ≥ 0 then (if out.length < 17592186044415 then (impl_File_lead.l2 k q i (out ++ [(impl_File_lead.rd q kk).f2]) (impl_File_lead.rd q kk).f1) else none) else ((slices_Reverse_int64_int64.f k out).bind fun o => (if (o.length : Int) > 60 then some ([], 0, 3) else some (o, wrap64 (i + 1), 0)))) else none) else none
mutual
def impl_File_lead.l0 : Nat → List impl_File_lead.Nd → List ByteArray → Int → Int → Int → LA 10 → Int → Int → Int → Option (List Int × Int × Int)
  | 0, _, _, _, _, _, _, _, _, _ => none
  | k + 1, q, seen, i, s0, s1, W, x, y, bud => if i < (q.length : Int) then (if i = bud then some ([], 0, 7) else (if 0 ≤ i then (if 0 < ((impl_File_lead.rd q i).f0.length : Int) then (if ((rd_T39 (impl_File_lead.rd q i).f0 0).f0 == x && (rd_T39 (impl_File_lead.rd q i).f0 0).f1 == y) = true then (impl_File_lead.l2 k q i [] i) else (impl_File_lead.l1 k q seen i 0 s0 s1 W x y bud)) else none) else none)) else some ([], 0, 6)
def impl_File_lead.l1 : Nat → List impl_File_lead.Nd → List ByteArray → Int → Int → Int → Int → LA 10 → Int → Int → Int → Option (List Int × Int × Int)
  | 0, _, _, _, _, _, _, _, _, _, _ => none
  | k + 1, q, seen, i, mv, s0, s1, W, x, y, bud => if mv < 5 then (if 0 ≤ i then (if i < (q.length : Int) then ((impl_File_can.f k (impl_File_lead.rd q i).f0 s0 s1 W mv).bind fun b => (if b = true then ((impl_File_moved.f k (impl_File_lead.rd q i).f0 mv).bind fun nx => ((impl_File_key.f k nx).bind fun key => (if Ms.shas seen key = true then (impl_File_lead.l1 k q seen i (wrap64 (mv + 1)) s0 s1 W x y bud) else (if q.length < 3518437208882 then (impl_File_lead.l1 k (q ++ [⟨nx, i, mv⟩]) (seen ++ [key]) i (wrap64 (mv + 1)) s0 s1 W x y bud) else none)))) else (impl_File_lead.l1 k q seen i (wrap64 (mv + 1)) s0 s1 W x y bud))) else none) else none) else (impl_File_lead.l0 k q seen (wrap64 (i + 1)) s0 s1 W x y bud)
end
def impl_File_lead.f (k : Nat) (l0 : List S39) (s0 : Int) (s1 : Int) (W : LA 10) (x : Int) (y : Int) (bud : Int) : Option (List Int × Int × Int) := (impl_File_key.f k l0).bind fun key => impl_File_lead.l0 k [⟨l0, -1, 0⟩] [key] 0 s0 s1 W x y bud
theorem impl_File_lead.mono_l2 : ∀ k, ∀ y0 y1 y2 y3, LeO (impl_File_lead.l2 k y0 y1 y2 y3) (impl_File_lead.l2 (k + 1) y0 y1 y2 y3)
  | 0 => fun _ _ _ _ r h => by simp [impl_File_lead.l2] at h
  | k + 1 => by
    have ih := impl_File_lead.mono_l2 k; intro y0 y1 y2 y3; unfold impl_File_lead.l2; exact LeO.ite (LeO.ite (LeO.ite (LeO.ite (ih _ _ _ _) (LeO.refl _)) (LeO.bind (slices_Reverse_int64_int64.mono _ _) (fun _ => LeO.refl _))) (LeO.refl _)) (LeO.refl _)
mutual
theorem impl_File_lead.mono_l0 : ∀ k, ∀ y0 y1 y2 y3 y4 y5 y6 y7 y8, LeO (impl_File_lead.l0 k y0 y1 y2 y3 y4 y5 y6 y7 y8) (impl_File_lead.l0 (k + 1) y0 y1 y2 y3 y4 y5 y6 y7 y8)
  | 0 => fun _ _ _ _ _ _ _ _ _ r h => by simp [impl_File_lead.l0] at h
  | k + 1 => by
    have ih := impl_File_lead.mono_l1 k; intro y0 y1 y2 y3 y4 y5 y6 y7 y8; unfold impl_File_lead.l0; exact LeO.ite (LeO.ite (LeO.refl _) (LeO.ite (LeO.ite (LeO.ite (impl_File_lead.mono_l2 k _ _ _ _) (ih _ _ _ _ _ _ _ _ _ _)) (LeO.refl _)) (LeO.refl _))) (LeO.refl _)
theorem impl_File_lead.mono_l1 : ∀ k, ∀ y0 y1 y2 y3 y4 y5 y6 y7 y8 y9, LeO (impl_File_lead.l1 k y0 y1 y2 y3 y4 y5 y6 y7 y8 y9) (impl_File_lead.l1 (k + 1) y0 y1 y2 y3 y4 y5 y6 y7 y8 y9)
  | 0 => fun _ _ _ _ _ _ _ _ _ _ r h => by simp [impl_File_lead.l1] at h
  | k + 1 => by
    have ih0 := impl_File_lead.mono_l0 k; have ih := impl_File_lead.mono_l1 k; intro y0 y1 y2 y3 y4 y5 y6 y7 y8 y9; unfold impl_File_lead.l1; exact LeO.ite (LeO.ite (LeO.ite (LeO.bind (impl_File_can.mono _ _ _ _ _ _) (fun _ => LeO.ite (LeO.bind (impl_File_moved.mono _ _ _) (fun _ => LeO.bind (impl_File_key.mono _ _) (fun _ => LeO.ite (ih _ _ _ _ _ _ _ _ _ _) (LeO.ite (ih _ _ _ _ _ _ _ _ _ _) (LeO.refl _))))) (ih _ _ _ _ _ _ _ _ _ _))) (LeO.refl _)) (LeO.refl _)) (ih0 _ _ _ _ _ _ _ _ _)
end
theorem impl_File_lead.mono : ∀ a0 a1 a2 a3 a4 a5 a6 k, LeO (impl_File_lead.f k a0 a1 a2 a3 a4 a5 a6) (impl_File_lead.f (k + 1) a0 a1 a2 a3 a4 a5 a6) := by
  intro a0 a1 a2 a3 a4 a5 a6 k; unfold impl_File_lead.f; exact LeO.bind (impl_File_key.mono _ _) (fun _ => impl_File_lead.mono_l0 k _ _ _ _ _ _ _ _ _)
def impl_File_lead.T20 : Bool × List (List Nat × List Nat) := (true, [([], []), ([], []), ([0, 1], [0, 1]), ([2], [2]), ([3], [3]), ([], []), ([], []), ([4, 5, 6], [4, 5, 6]), ([7], [7])])
def impl_File_lead.B20 : List Nat := [0, 0, 3, 7, 15, 0, 0, 127, 255]
theorem impl_File_lead.tab20 : rtab .any (opsOf Try.f37 20) = impl_File_lead.T20 := by kernel_rfl
theorem impl_File_lead.bits20 : waitsOk impl_File_lead.T20.2 impl_File_lead.B20 = true := by kernel_rfl
set_option maxHeartbeats 8000000 in
set_option maxRecDepth 100000 in
theorem impl_File_lead.calls (k : Nat) (A0 : Option Addr) (c0 : Nat) (l0 : List S39) (s0 : Int) (s1 : Int) (W : LA 10) (x : Int) (y : Int) (bud : Int) (r1 : List Int) (r2 : Int) (r3 : Int) (w : World) (hr0 : Kd.C k39 w A0 l0.length l0) (hc0 : l0.length ≤ c0) (h : impl_File_lead.f k l0 s0 s1 W x y bud = some (r1, r2, r3)) :
    Calls Try.prog 37 #[.slice A0 l0.length c0, .agg (mixA (Value.int .u16) [.int .i8 s0, .int .i8 s1] W), .agg #[.int .i8 x, .int .i8 y], .int .i64 bud] w fun e w' => ∃ v0_ : Value, e = .returned (.tuple #[v0_, .int .i64 r2, .int .i64 r3]) ∧ Kd.R (Kd.int .i64) 2 w' w.heap.size (fun _ => True) v0_ r1 ∧ Below w.heap.size w w' := by
  obtain ⟨key, hkey, h⟩ := Option.bind_eq_some_iff.1 h; have AK := Aside0.mk hkey; have H' := Aside0.mk h; have HR := Aside0.mk hr0; have HC := Aside0.mk hc0; have HB := Aside0.mk (Below.refl w.heap.size w); clear hkey h hr0 hc0
  go_enter Try.func37, Try.ntmps37
  go_wp2_with (first | ((with_reducible refine gate_dst (N := 5) rfl ?_); refine box_event ?hg (N := 5) ?hd (cs := (mixA (Value.int .u16) [.int .i8 s0, .int .i8 s1] W)) (t := 34) ?hr ?_; (case hd => rfl); (case hg => rfl); (case hr => first | (go_simp; done) | (go_simp; rfl)); intro gr hgb wb hbox hb; have n0_ := bst HB hb; have BR := Aside0.mk hbox; clear HB; have HB := n0_; clear n0_ hb hbox hgb) | ((with_reducible refine gate_dst (N := 6) rfl ?_); refine box_event ?hg (N := 6) ?hd (cs := #[.int .i8 x, .int .i8 y]) (t := 39) ?hr ?_; (case hd => rfl); (case hg => rfl); (case hr => first | (go_simp; done) | (go_simp; rfl)); intro gb hgb wb hbox hb; have n0_ := bst HB hb; have n1_ := bkb BR hb; clear BR; have BR := n1_; clear n1_; have BX := Aside0.mk hbox; clear HB; have HB := n0_; clear n0_ hb hbox hgb) | ((with_reducible refine gate_dst (N := 21) rfl ?_); refine Kd.R_lit (impl_File_lead.kM w) (w0 := w) w.heap.size 100 ?hg (N := 21) ?hd (xs := [⟨l0, -1, 0⟩]) (inner := [.slice A0 l0.length c0, .int .i64 (-1), .int .i64 0]) (ok := fun _ => True) (okp := fun _ => True) ?hr ?hp (fun _ hk => hk) trivial ?hB ?hS (by simp) ?_; (case hd => rfl); (case hg => rfl); (case hr => first | (go_simp; done) | (go_simp; rfl)); (case hp => exact Reps.snoc (Reps.none _ _) (impl_File_lead.came HC.out HR.out) rfl); (case hB => exact pbs HB); (case hS => exact below_size (pbs HB)); intro vl wl ho hb hg_ hnew_; have HQ := Aside0.mk ho; have n0_ := Aside0.mk hb; have n1_ := Aside0.mk ((hg_.block gb (blk_lt (pk BX)) (by simp)).trans (pk BX)); have n2_ := Aside0.mk ((hg_.block gr (blk_lt (pk BR)) (by simp)).trans (pk BR)); clear HB BX BR ho hb hg_ hnew_; have HB := n0_; have BX := n1_; have BR := n2_; clear n0_ n1_ n2_) | ((with_reducible refine gate_dst (N := 22) rfl ?_); refine Ms.mapS_event ?hg (N := 22) ?hd ?hr ?_; (case hd => rfl); (case hg => rfl); (case hr => exact Ms.makeS_run rfl); intro gm hgm wm hmm hb; have n4_ := gwl HB hgm; have n0_ := bst HB hb; have n1_ := bkb BX hb; have n2_ := bkb BR hb; have n3_ := krb HQ hb; clear HB BX BR HQ; have HB := n0_; have BX := n1_; have BR := n2_; have HQ := n3_; have HM := Aside0.mk hmm; have GM := n4_; clear n0_ n1_ n2_ n3_ n4_ hb hmm hgm) | ((with_reducible refine gate_callee (f := 63) rfl ?_); refine goesL_ (some 24) rfl rfl Try.func63 (by kernel_rfl) rfl #[.slice A0 l0.length c0] rfl (by (try simp only [List.map_toArray, List.map_cons, List.map_nil]); first | done | rfl) ?_; (with_reducible refine (impl_File_key.calls k A0 c0 l0 key _ ?sC ?sL AK.out).mono ?_); (case sC => exact Kd.C_below HR.out (pbs HB)); (case sL => exact HC.out); rintro e w1 ⟨rfl, hb⟩; refine ⟨_, rfl, ?_⟩; have n0_ := bst HB hb; have n1_ := bkb BX hb; have n2_ := bkb BR hb; have n3_ := krb HQ hb; have n4_ := bkb HM hb; clear HB BX BR HQ HM hb; have HL := Aside0.mk (show impl_File_lead.LI w gr gb s0 s1 W x y _ _ gm [] _ from ⟨n0_.out, n3_.out, n4_.out, GM.out, n2_.out, n1_.out⟩); clear n0_ n1_ n2_ n3_ n4_) | ((with_reducible refine Ms.gate_insert (m := 22) rfl ?_); refine Ms.wpList_putS rfl (.tmp 22) (.tmp 24) (.const (.bool true)) (.inr rfl) gm key [] rfl rfl rfl ?hmap rfl ?_; (case hmap => exact (impl_File_lead.LI.hm (by (with_reducible repeat (first | apply impl_File_lead.LI.alloc | apply impl_File_lead.LI.drewN | apply impl_File_lead.LI.drew)); exact HL.out))); intro w1 hm_ hk_ hbl_; have n0_ := Aside0.mk (impl_File_lead.LI.more (by (with_reducible repeat (first | apply impl_File_lead.LI.alloc | apply impl_File_lead.LI.drewN | apply impl_File_lead.LI.drew)); exact HL.out) hm_ hk_ (hbl_ _ _ (impl_File_lead.LI.hb (by (with_reducible repeat (first | apply impl_File_lead.LI.alloc | apply impl_File_lead.LI.drewN | apply impl_File_lead.LI.drew)); exact HL.out)) HL.out.gm)); clear HL; have HL := n0_; clear n0_ hm_ hk_ hbl_))
  go_loopg [11, 13] k (fun kq v11 v13 w' => ∃ (q : List impl_File_lead.Nd) (seen : List ByteArray) (i : Int), v13 = .int .i64 i ∧ Aside0 (impl_File_lead.l0 kq q seen i s0 s1 W x y bud = some (r1, r2, r3)) ∧ Aside0 (kq ≤ k) ∧ Aside0 (impl_File_lead.LI w gr gb s0 s1 W x y v11 q gm seen w'))
  case atStart => exact ⟨[⟨l0, -1, 0⟩], [key], 0, (by first | rfl | (simp; done) | (simp [*]; done)), H', ⟨Nat.le_refl _⟩, ⟨by (with_reducible repeat (first | apply impl_File_lead.LI.alloc | apply impl_File_lead.LI.drewN | apply impl_File_lead.LI.drew)); exact HL.out⟩⟩
  case round =>
    clear H'; obtain ⟨q, seen, i, rfl, HA, HK1, HL⟩ := hrel; obtain ⟨Aq, cq, eq_⟩ := Kd.R_slice HL.out.hq; subst eq_
    cases gk with
    | zero => exact absurd HA.out (by simp [impl_File_lead.l0])
    | succ k1 =>
      have H := HA.out; clear HA; simp only [impl_File_lead.l0] at H
      by_cases c2_ : i < (q.length : Int)
      · rw [if_pos c2_] at H
        have c2b0 : decide (i < (q.length : Int)) = true := decide_eq_true c2_
        by_cases c3_ : i = bud
        · rw [if_pos c3_] at H
          have c3b0 : (i == bud) = true := beq_iff_eq.mpr c3_; have c3b1 : (i != bud) = false := bne_eq_false_iff_eq.mpr c3_; simp only [Option.some.injEq, Prod.mk.injEq] at H; obtain ⟨rfl, rfl, rfl⟩ := H; have HB := Aside0.mk HL.out.hb
          go_wp2_with fail
          (try simp only [Exit.inBlock, Exit.then]); refine bodyPost_ret (results_tmp3 rfl _ _ _) rfl ?_; exact ⟨_, (by first | rfl | (simp; done) | (simp [*]; done)), Kd.R_nil _ _ _ _ _, pbs HB⟩
        · rw [if_neg c3_] at H
          have c3b0 : (i == bud) = false := beq_eq_false_iff_ne.mpr c3_; have c3b1 : (i != bud) = true := bne_iff_ne.mpr c3_
          by_cases c4_ : 0 ≤ i
          case neg => rw [if_neg c4_] at H; exact absurd H (by simp)
          rw [if_pos c4_] at H
          by_cases c5_ : 0 < ((impl_File_lead.rd q i).f0.length : Int)
          case neg => rw [if_neg c5_] at H; exact absurd H (by simp)
          rw [if_pos c5_] at H
          have hpos : 0 < q.length := by omega
          obtain ⟨gq, cq2, eq2, _, _, _⟩ := Kd.R_form HL.out.hq hpos
          injection eq2 with eqa _ eqc
          subst eqa; subst eqc; obtain ⟨A, c, e0, e1, e2, lc, hF⟩ := HL.out.node i c4_ c2_; obtain ⟨nd, hnd⟩ : ∃ nd, nd = impl_File_lead.rd q i := ⟨_, rfl⟩; rw [← hnd] at H c5_ e0 e1 e2 lc hF; have H2 := Aside0.mk H; have C5 := Aside0.mk c5_; clear H c5_ hnd e1 e2 lc; obtain ⟨ad, e_, h0, h1⟩ := at_T39 (Kd.F_now hF) 0 (by decide) C5.out; subst e_; rw [show ((0 : Int)).toNat = 0 from rfl, show 0 * 2 = 0 from rfl, Addr.add_zero'] at h0 h1; clear hF; have qi : (0 < nd.f0.length) = True := eq_true (by have := C5.out; omega); have x0 := (blk_cell HL.out.bx 0).trans rfl; have x1 := (blk_cell HL.out.bx 1).trans rfl; have p_ := eq_true c4_; have q_ := eq_true c2_; clear c2_ c4_
          by_cases hat : ((rd_T39 nd.f0 0).f0 = x ∧ (rd_T39 nd.f0 0).f1 = y)
          · have H := H2.out
            clear H2; rw [if_pos (show ((rd_T39 nd.f0 0).f0 == x && (rd_T39 nd.f0 0).f1 == y) = true by rw [hat.1, hat.2]; simp)] at H; have H' := Aside0.mk H; clear H; have ha1 := hat.1; have ha2 := hat.2; clear hat; rw [ha1] at h0; rw [ha2] at h1; clear ha1 ha2
            go_wp2_with fail
            go_region
            have HB := Aside0.mk HL.out.hb
            go_wp2_with (first | ((with_reducible refine gate_dst (N := 44) rfl ?_); refine Kd.R_lit (Kd.int .i64) (w0 := w) w.heap.size 2 ?hg (N := 44) ?hd (xs := ([] : List Int)) (inner := []) (ok := fun _ => True) (okp := fun _ => True) ?hr ?hp (fun _ hk => hk) trivial ?hB ?hS (by simp) ?_; (case hd => rfl); (case hg => rfl); (case hr => first | (go_simp; done) | (go_simp; rfl)); (case hp => exact (Reps.none _ _)); (case hB => exact pbs HB); (case hS => exact below_size (pbs HB)); intro vl wl ho hb hg_ hnew_; have HO := Aside0.mk ho; have n0_ := Aside0.mk (impl_File_lead.LI.below (by (with_reducible repeat (first | apply impl_File_lead.LI.alloc | apply impl_File_lead.LI.drewN | apply impl_File_lead.LI.drew)); exact HL.out) (show Below _ _ wl from ⟨hg_.os, hg_.tape, hg_.output, hg_.size, fun k_ hk_ => hg_.block k_ hk_ (by simp)⟩)); clear HL HB hb; have HL := n0_; have HB := Aside0.mk HL.out.hb; clear n0_ ho hg_ hnew_))
            go_loopg [14, 15] k1 (fun kq v14 v15 w' => ∃ (out : List Int) (kk : Int), v15 = .int .i64 kk ∧ Aside0 (impl_File_lead.l2 kq q i out kk = some (r1, r2, r3)) ∧ Aside0 (kq ≤ k1) ∧ Aside0 (Kd.R (Kd.int .i64) 2 w' w.heap.size (fun _ => True) v14 out) ∧ Aside0 (impl_File_lead.LI w gr gb s0 s1 W x y (.slice (some ⟨gq, 0, none⟩) q.length cq) q gm seen w'))
            case atStart => exact ⟨[], i, (by first | rfl | (simp; done) | (simp [*]; done)), H', ⟨Nat.le_refl _⟩, ⟨by (with_reducible repeat (first | apply Kd.R_alloc | apply Kd.R_drewN | apply Kd.R_drew)); exact HO.out⟩, ⟨by (with_reducible repeat (first | apply impl_File_lead.LI.alloc | apply impl_File_lead.LI.drewN | apply impl_File_lead.LI.drew)); exact HL.out⟩⟩
            case round =>
              clear H'; clear p_ q_ e0 h0 h1 qi x0 x1; obtain ⟨out, kk, rfl, HA, HK2, HO, HL⟩ := hrel; obtain ⟨Ao, co, eo⟩ := Kd.R_slice HO.out; subst eo
              cases gk with
              | zero => exact absurd HA.out (by simp [impl_File_lead.l2])
              | succ k2 =>
                have H := HA.out; clear HA; simp only [impl_File_lead.l2] at H
                by_cases g1_ : 0 ≤ kk
                case neg => rw [if_neg g1_] at H; exact absurd H (by simp)
                rw [if_pos g1_] at H
                by_cases g2_ : kk < (q.length : Int)
                case neg => rw [if_neg g2_] at H; exact absurd H (by simp)
                rw [if_pos g2_] at H; obtain ⟨A3, c3, _, f1, f2, _, _⟩ := HL.out.node kk g1_ g2_; obtain ⟨n2, hn2⟩ : ∃ n2, n2 = impl_File_lead.rd q kk := ⟨_, rfl⟩; rw [← hn2] at H f1 f2; have HN2 := Aside0.mk hn2; have G1 := Aside0.mk g1_; have G2 := Aside0.mk g2_; have p_ := eq_true g1_; have q_ := eq_true g2_; clear hn2 g1_ g2_
                by_cases g3_ : n2.f1 ≥ 0
                · rw [if_pos g3_] at H
                  have g3b0 : decide (n2.f1 ≥ 0) = true := decide_eq_true g3_; clear g3_
                  by_cases g4_ : out.length < 17592186044415
                  case neg => rw [if_neg g4_] at H; exact absurd H (by simp)
                  rw [if_pos g4_] at H; obtain ⟨yo, hyo⟩ : ∃ y_ : List Int, y_ = out ++ [n2.f2] := ⟨_, rfl⟩; rw [← hyo] at H; have NO := Aside0.mk hyo; have L5 := Aside0.mk g4_; have H' := Aside0.mk H; clear hyo g4_ H; have HB := Aside0.mk HL.out.hb
                  go_wp2_with (first | ((with_reducible refine gate_builtin (b := .append) (xs := #[.tmp 57, .tmp 63]) rfl ?_); at_builtin; refine Kd.R_append (Kd.int .i64) (w0 := w) w.heap.size rfl (.tmp 57) (.tmp 63) 31 2 (.int .i64 0) 8 rfl Try.underlying31 (by kernel_rfl) rfl (by first | decide | (show 0 < 2; decide) | (show 0 < 3; decide)) (by omega) (.slice Ao out.length co) out n2.f2 [.int .i64 n2.f2] (fun _ => True) (fun _ => False) rfl rfl ?aP (fun _ hk => hk.elim) ?aF ?aO ?aB ?aS ?aL ?_; (case aB => exact pbs HB); (case aO => exact (by (with_reducible repeat (first | apply Kd.R_alloc | apply Kd.R_drewN | apply Kd.R_drew)); exact HO.out)); (case aP => exact rfl); (case aF => exact (fun _ _ => trivial)); (case aS => exact below_size (pbs HB)); (case aL => have := L5.out; (try simp only [List.length_append, List.length_cons, List.length_nil]); omega); intro v3 w3 ho hb hg hat; rw [← NO.out] at ho; have n0_ := Aside0.mk (impl_File_lead.LI.other (by (with_reducible repeat (first | apply impl_File_lead.LI.alloc | apply impl_File_lead.LI.drewN | apply impl_File_lead.LI.drew)); exact HL.out) (show Kd.R (Kd.int .i64) 2 _ w.heap.size (fun _ => True) (.slice Ao out.length co) out from by (with_reducible repeat (first | apply Kd.R_alloc | apply Kd.R_drewN | apply Kd.R_drew)); exact HO.out) hb hg); clear HL HB HO f1 f2; have HL := n0_; have HO := Aside0.mk ho; have HB := Aside0.mk HL.out.hb; clear n0_ ho hb hg hat; obtain ⟨_, _, _, f1, _, _, _⟩ := HL.out.node kk G1.out G2.out; rw [← HN2.out] at f1))
                  go_roundg k2
                  case measure => have := HK1.out; have := HK2.out; omega
                  case rel => exact ⟨yo, n2.f1, (by first | rfl | (simp; done) | (simp [*]; done)), H', ⟨by have := HK1.out; have := HK2.out; omega⟩, ⟨by (with_reducible repeat (first | apply Kd.R_alloc | apply Kd.R_drewN | apply Kd.R_drew)); exact HO.out⟩, ⟨by (with_reducible repeat (first | apply impl_File_lead.LI.alloc | apply impl_File_lead.LI.drewN | apply impl_File_lead.LI.drew)); exact HL.out⟩⟩
                · rw [if_neg g3_] at H
                  have g3b0 : decide (n2.f1 ≥ 0) = false := decide_eq_false g3_; clear g3_; obtain ⟨o, A14, H⟩ := Option.bind_eq_some_iff.mp H; have A15 := Aside0.mk A14; have H' := Aside0.mk H; clear A14 H; have HB := Aside0.mk HL.out.hb
                  by_cases g5_ : (out.length : Int) > 60
                  · have g5b0 : decide ((out.length : Int) > 60) = true := decide_eq_true g5_
                    have G5 := Aside0.mk g5_; clear g5_
                    go_wp2_with (first | ((with_reducible refine gate_callee (f := 64) rfl ?_); refine goesL_ (some 66) rfl rfl Try.func64 (by kernel_rfl) rfl #[.slice Ao out.length co] rfl (by (try simp only [List.map_toArray, List.map_cons, List.map_nil]); first | done | rfl) ?_; (with_reducible refine (slices_Reverse_int64_int64.calls k2 (fun _ => True) (.slice Ao out.length co) out o w _ ?sB ?sO A15.out).mono ?_); (case sB => exact pbs HB); (case sO => (with_reducible repeat (first | apply Kd.R_alloc | apply Kd.R_drewN | apply Kd.R_drew)); exact HO.out); rintro e w1 ⟨rfl, ho, hb, -⟩; refine ⟨_, rfl, ?_⟩; clear HL HB HO f1 f2; have HO := Aside0.mk (Kd.R_mono ho (fun _ _ => trivial)); have HLEN := Aside0.mk (Kd.R_reads' HO.out).1; have HB := Aside0.mk hb; clear ho hb))
                    have H := H'.out; rw [if_pos (show (o.length : Int) > 60 by have := G5.out; have := HLEN.out; omega)] at H; simp only [Option.some.injEq, Prod.mk.injEq] at H; obtain ⟨rfl, rfl, rfl⟩ := H; (try simp only [Exit.inBlock, Exit.then]); refine bodyPost_ret (results_tmp3 rfl _ _ _) rfl ?_; exact ⟨_, (by first | rfl | (simp; done) | (simp [*]; done)), Kd.R_nil _ _ _ _ _, pbs HB⟩
                  · have g5b0 : decide ((out.length : Int) > 60) = false := decide_eq_false g5_
                    have G5 := Aside0.mk g5_; clear g5_
                    go_wp2_with (first | ((with_reducible refine gate_callee (f := 64) rfl ?_); refine goesL_ (some 66) rfl rfl Try.func64 (by kernel_rfl) rfl #[.slice Ao out.length co] rfl (by (try simp only [List.map_toArray, List.map_cons, List.map_nil]); first | done | rfl) ?_; (with_reducible refine (slices_Reverse_int64_int64.calls k2 (fun _ => True) (.slice Ao out.length co) out o w _ ?sB ?sO A15.out).mono ?_); (case sB => exact pbs HB); (case sO => (with_reducible repeat (first | apply Kd.R_alloc | apply Kd.R_drewN | apply Kd.R_drew)); exact HO.out); rintro e w1 ⟨rfl, ho, hb, -⟩; refine ⟨_, rfl, ?_⟩; clear HL HB HO f1 f2; have HO := Aside0.mk (Kd.R_mono ho (fun _ _ => trivial)); have HLEN := Aside0.mk (Kd.R_reads' HO.out).1; have HB := Aside0.mk hb; clear ho hb))
                    have H := H'.out; rw [if_neg (show ¬ (o.length : Int) > 60 by have := G5.out; have := HLEN.out; omega)] at H; simp only [Option.some.injEq, Prod.mk.injEq] at H; obtain ⟨rfl, rfl, rfl⟩ := H; (try simp only [Exit.inBlock, Exit.then]); refine bodyPost_ret (results_tmp3 rfl _ _ _) rfl ?_; exact ⟨_, (by first | rfl | (simp; done) | (simp [*]; done)), (by (with_reducible repeat (first | apply Kd.R_alloc | apply Kd.R_drewN | apply Kd.R_drew)); exact HO.out), pbs HB⟩
          · have H := H2.out
            clear H2; rw [if_neg (show ¬ ((rd_T39 nd.f0 0).f0 == x && (rd_T39 nd.f0 0).f1 == y) = true by simpa using hat)] at H; have H' := Aside0.mk H; clear H; have hne : (rd_T39 nd.f0 0).f0 = x → (rd_T39 nd.f0 0).f1 = y → False := fun a b => hat ⟨a, b⟩; clear hat; generalize (rd_T39 nd.f0 0).f0 = a1 at h0 hne; generalize (rd_T39 nd.f0 0).f1 = a2 at h1 hne; have NE := Aside0.mk hne; clear hne
            by_cases hx1 : a1 = x
            · have hx2 : ¬ a2 = y := fun e => NE.out hx1 e
              rw [hx1] at h0; clear hx1
              go_wp2_with fail
              go_region
              go_wp2_with fail
              go_loopg [11, 73] k1 (fun kq v11 v73 w' => ∃ (q2 : List impl_File_lead.Nd) (seen2 : List ByteArray) (mv : Int), v73 = .int .i64 mv ∧ Aside0 (impl_File_lead.l1 kq q2 seen2 i mv s0 s1 W x y bud = some (r1, r2, r3)) ∧ Aside0 (kq ≤ k1) ∧ Aside0 (impl_File_lead.LI w gr gb s0 s1 W x y v11 q2 gm seen2 w'))
              case atStart => exact ⟨q, seen, 0, (by first | rfl | (simp; done) | (simp [*]; done)), H', ⟨Nat.le_refl _⟩, ⟨by (with_reducible repeat (first | apply impl_File_lead.LI.alloc | apply impl_File_lead.LI.drewN | apply impl_File_lead.LI.drew)); exact HL.out⟩⟩
              case round =>
                clear H'; clear p_ q_ e0 h0 h1 qi x0 x1; obtain ⟨q2, seen2, mv, rfl, HA, HK2, HL⟩ := hrel; obtain ⟨Aq, cq, eq_⟩ := Kd.R_slice HL.out.hq; subst eq_
                cases gk with
                | zero => exact absurd HA.out (by simp [impl_File_lead.l1])
                | succ k2 =>
                  have H := HA.out; clear HA; simp only [impl_File_lead.l1] at H
                  by_cases d1_ : mv < 5
                  · rw [if_pos d1_] at H
                    have d1b0 : decide (mv < 5) = true := decide_eq_true d1_; clear d1_
                    by_cases d2_ : 0 ≤ i
                    case neg => rw [if_neg d2_] at H; exact absurd H (by simp)
                    rw [if_pos d2_] at H
                    by_cases d3_ : i < (q2.length : Int)
                    case neg => rw [if_neg d3_] at H; exact absurd H (by simp)
                    rw [if_pos d3_] at H
                    have hpos2 : 0 < q2.length := by omega
                    obtain ⟨gq, cq2, eq2, _, _, _⟩ := Kd.R_form HL.out.hq hpos2
                    injection eq2 with eqa _ eqc
                    subst eqa; subst eqc; clear hpos2; obtain ⟨A4, c4, e0, _, _, lc, hF⟩ := HL.out.node i d2_ d3_; obtain ⟨n3, hn3⟩ : ∃ n3, n3 = impl_File_lead.rd q2 i := ⟨_, rfl⟩; rw [← hn3] at H e0 lc hF; have HF := Aside0.mk hF; have LC := Aside0.mk lc; clear hn3 hF lc; obtain ⟨b, A4_, H⟩ := Option.bind_eq_some_iff.mp H; have A5 := Aside0.mk A4_; have H2 := Aside0.mk H; clear A4_ H; have p_ := eq_true d2_; have q_ := eq_true d3_; clear d2_ d3_
                    go_wp2_with fail
                    refine start_ (n := 9) (S := fun w' => w'.cell? ⟨gq, i.toNat * 3, none⟩ = some (.slice A4 n3.f0.length c4) ∧ World.rangeAt w' gr 0 ([.int .i8 s0, .int .i8 s1] ++ W.l.map (Value.int .u16))) (ds := []) (bA 9 0) (by kernel_rfl) rfl rfl ⟨e0, mix_range (blk_drew HL.out.br)⟩ (fun hHeld => ?_); refine with_tabW impl_File_lead.tab20 impl_File_lead.bits20 (fun HT_ HW_ => ?_)
                    have n0_ := Aside0.mk (impl_File_lead.LI.drew HL.out); have n1_ := Aside0.mk (Kd.F_drew HF.out); clear HL HF; have HL := n0_; have HF := n1_; clear n0_ n1_; generalize wr.drew = w21 at HL HF hHeld ⊢; clear e0; refine pu 0 76 9 1 HT_ ?_; refine pu 1 77 9 3 HT_ ?_; refine pu 2 78 9 7 HT_ ?_; refine pu 3 79 9 15 HT_ ?_; refine pu 6 82 9 79 HT_ ?_; refine take_ (i := 4) (N := some 80) (v := ?_) (a' := ?_) (bA 9 95) rfl rfl (take_ofW HT_.out HW_.out (by kernel_rfl)) (fun _ _ _ h => h) (Or.inl ⟨by rfl, ?_⟩) hHeld ?_ ?_; rotate_left
                    ·rintro w' ⟨s0_, s1_⟩
                     go_simp; with_reducible rfl
                    rotate_left
                    ·simp only [Act.put, List.setIfInBounds_toArray, List.set_cons_zero, List.set_cons_succ, i64_w, i32_w]
                     rfl
                    refine take_ (i := 5) (N := some 81) (v := ?_) (a' := ?_) (bA 9 127) rfl rfl (take_ofW HT_.out HW_.out (by kernel_rfl)) (fun _ _ _ h => h) (Or.inl ⟨by rfl, ?_⟩) hHeld ?_ ?_; rotate_left
                    ·rintro w' ⟨s0_, s1_⟩
                     refine load_mix_run (P := Try.prog) 34 (.tmp 5) ?_ gr ?_ s1_ Try.underlying34 rfl (by kernel_rfl) rfl
                     all_goals rfl
                    rotate_left
                    ·simp only [Act.put, List.setIfInBounds_toArray, List.set_cons_zero, List.set_cons_succ, i64_w, i32_w]
                     rfl
                    refine one_ (i := 7) (N := some 83) (bA 9 255) rfl rfl (one_of HT_.out (by kernel_rfl)) (by decide) (fun K hK => ?_); refine goes_ Try.func65 (by kernel_rfl) rfl #[.slice A4 n3.f0.length c4, .agg (mixA (Value.int .u16) [.int .i8 s0, .int .i8 s1] W), .int .i64 mv] (by rfl) rfl rfl (by (try simp only [List.map_toArray, List.map_cons, List.map_nil]); first | done | rfl) ?_; with_reducible refine (impl_File_can.calls k2 A4 c4 n3.f0 s0 s1 W mv b _ (Kd.F_now HF.out) LC.out A5.out).mono ?_
                    rintro e w22 ⟨rfl, hb⟩
                    refine ⟨_, rfl, ?_⟩; have e0 := (hb.cell (World.block_lt_of_cell? _ _ hHeld.1)).trans hHeld.1; have n0_ := Aside0.mk (impl_File_lead.LI.below HL.out hb); have n1_ := Aside0.mk (Kd.F_below HF.out hb); clear HL HF hb; have HL := n0_; have HF := n1_; clear n0_ n1_; refine hK.out _ _ ⟨e0, mix_range HL.out.br⟩ (fun hHeld => ?_); clear hK K; refine nm 83 ?_; refine pu 8 84 9 511 HT_ ?_; refine done_ (done_of HT_.out (by kernel_rfl)) ?_; clear hHeld
                    cases b with
                    | false =>
                      have H := H2.out; rw [if_neg Bool.false_ne_true] at H; have H' := Aside0.mk H; clear H H2
                      go_wp2_with fail
                      go_roundg k2
                      case measure => have := HK1.out; have := HK2.out; omega
                      case rel => exact ⟨q2, seen2, wrap64 (mv + 1), (by first | rfl | (simp; done) | (simp [*]; done)), H', ⟨by have := HK1.out; have := HK2.out; omega⟩, ⟨by (with_reducible repeat (first | apply impl_File_lead.LI.alloc | apply impl_File_lead.LI.drewN | apply impl_File_lead.LI.drew)); exact HL.out⟩⟩
                    | true =>
                      have H := H2.out; rw [if_pos rfl] at H; clear H2; obtain ⟨nx, A6, H⟩ := Option.bind_eq_some_iff.mp H; have A7 := Aside0.mk A6; clear A6; obtain ⟨key2, A8, H⟩ := Option.bind_eq_some_iff.mp H; have A9 := Aside0.mk A8; clear A8; have HB := Aside0.mk HL.out.hb
                      by_cases sh_ : Ms.shas seen2 key2 = true
                      · rw [if_pos sh_] at H
                        have SHB := Aside0.mk sh_; have H' := Aside0.mk H; clear H sh_
                        go_wp2_with (first | ((with_reducible refine gate_callee (f := 40) rfl ?_); refine goesL_ (some 91) rfl rfl Try.func40 (by kernel_rfl) rfl #[.slice A4 n3.f0.length c4, .int .i64 mv] rfl (by (try simp only [List.map_toArray, List.map_cons, List.map_nil]); first | done | rfl) ?_; (with_reducible refine (impl_File_moved.calls k2 A4 c4 n3.f0 mv nx _ ?sC ?sL A7.out).mono ?_); (case sC => exact Kd.F_now (by (with_reducible repeat (first | apply Kd.F_alloc | apply Kd.F_drewN | apply Kd.F_drew)); exact HF.out)); (case sL => exact LC.out); rintro e w1 ⟨vn, rfl, hn, hb⟩; refine ⟨_, rfl, ?_⟩; have HN := Aside0.mk (Kd.R_lower hn (below_size (pbs HB))); have n0_ := Aside0.mk (impl_File_lead.LI.below (by (with_reducible repeat (first | apply impl_File_lead.LI.alloc | apply impl_File_lead.LI.drewN | apply impl_File_lead.LI.drew)); exact HL.out) hb); clear HL HB HF e0 hb hn; have HL := n0_; clear n0_; have HB := Aside0.mk HL.out.hb; obtain ⟨An, cn, en⟩ := Kd.R_slice HN.out; subst en; have HCn := Aside0.mk (Kd.R_reads' HN.out).2.1) | ((with_reducible refine gate_callee (f := 63) rfl ?_); refine goesL_ (some 93) rfl rfl Try.func63 (by kernel_rfl) rfl #[.slice An nx.length cn] rfl (by (try simp only [List.map_toArray, List.map_cons, List.map_nil]); first | done | rfl) ?_; (with_reducible refine (impl_File_key.calls k2 An cn nx key2 _ ?sC ?sL A9.out).mono ?_); (case sC => exact (Kd.R_reads' (by (with_reducible repeat (first | apply Kd.R_alloc | apply Kd.R_drewN | apply Kd.R_drew)); exact HN.out)).2.2); (case sL => exact HCn.out); rintro e w1 ⟨rfl, hb⟩; refine ⟨_, rfl, ?_⟩; have n5_ := krb HN hb; have n0_ := Aside0.mk (impl_File_lead.LI.below (by (with_reducible repeat (first | apply impl_File_lead.LI.alloc | apply impl_File_lead.LI.drewN | apply impl_File_lead.LI.drew)); exact HL.out) hb); clear HL HB HN hb; have HL := n0_; have HN := n5_; clear n0_ n5_; have HB := Aside0.mk HL.out.hb) | ((with_reducible refine gate_dst (N := 96) rfl ?_); refine Ms.lookS_event rfl (.tmp 94) (.tmp 95) rfl gm rfl key2 rfl seen2 ?hmap ?_; (case hmap => exact (impl_File_lead.LI.hm (by (with_reducible repeat (first | apply impl_File_lead.LI.alloc | apply impl_File_lead.LI.drewN | apply impl_File_lead.LI.drew)); exact HL.out))); rw [SHB.out]))
                        go_roundg k2
                        case measure => have := HK1.out; have := HK2.out; omega
                        case rel => exact ⟨q2, seen2, wrap64 (mv + 1), (by first | rfl | (simp; done) | (simp [*]; done)), H', ⟨by have := HK1.out; have := HK2.out; omega⟩, ⟨by (with_reducible repeat (first | apply impl_File_lead.LI.alloc | apply impl_File_lead.LI.drewN | apply impl_File_lead.LI.drew)); exact HL.out⟩⟩
                      · rw [if_neg sh_] at H
                        have SHB := Aside0.mk (Bool.eq_false_iff.mpr sh_)
                        by_cases d4_ : q2.length < 3518437208882
                        case neg => rw [if_neg d4_] at H; exact absurd H (by simp)
                        rw [if_pos d4_] at H; have L4 := Aside0.mk d4_; have H' := Aside0.mk H; clear H sh_ d4_
                        go_wp2_with (first | ((with_reducible refine gate_callee (f := 40) rfl ?_); refine goesL_ (some 91) rfl rfl Try.func40 (by kernel_rfl) rfl #[.slice A4 n3.f0.length c4, .int .i64 mv] rfl (by (try simp only [List.map_toArray, List.map_cons, List.map_nil]); first | done | rfl) ?_; (with_reducible refine (impl_File_moved.calls k2 A4 c4 n3.f0 mv nx _ ?sC ?sL A7.out).mono ?_); (case sC => exact Kd.F_now (by (with_reducible repeat (first | apply Kd.F_alloc | apply Kd.F_drewN | apply Kd.F_drew)); exact HF.out)); (case sL => exact LC.out); rintro e w1 ⟨vn, rfl, hn, hb⟩; refine ⟨_, rfl, ?_⟩; have HN := Aside0.mk (Kd.R_lower hn (below_size (pbs HB))); have n0_ := Aside0.mk (impl_File_lead.LI.below (by (with_reducible repeat (first | apply impl_File_lead.LI.alloc | apply impl_File_lead.LI.drewN | apply impl_File_lead.LI.drew)); exact HL.out) hb); clear HL HB HF e0 hb hn; have HL := n0_; clear n0_; have HB := Aside0.mk HL.out.hb; obtain ⟨An, cn, en⟩ := Kd.R_slice HN.out; subst en; have HCn := Aside0.mk (Kd.R_reads' HN.out).2.1) | ((with_reducible refine gate_callee (f := 63) rfl ?_); refine goesL_ (some 93) rfl rfl Try.func63 (by kernel_rfl) rfl #[.slice An nx.length cn] rfl (by (try simp only [List.map_toArray, List.map_cons, List.map_nil]); first | done | rfl) ?_; (with_reducible refine (impl_File_key.calls k2 An cn nx key2 _ ?sC ?sL A9.out).mono ?_); (case sC => exact (Kd.R_reads' (by (with_reducible repeat (first | apply Kd.R_alloc | apply Kd.R_drewN | apply Kd.R_drew)); exact HN.out)).2.2); (case sL => exact HCn.out); rintro e w1 ⟨rfl, hb⟩; refine ⟨_, rfl, ?_⟩; have n5_ := krb HN hb; have n0_ := Aside0.mk (impl_File_lead.LI.below (by (with_reducible repeat (first | apply impl_File_lead.LI.alloc | apply impl_File_lead.LI.drewN | apply impl_File_lead.LI.drew)); exact HL.out) hb); clear HL HB HN hb; have HL := n0_; have HN := n5_; clear n0_ n5_; have HB := Aside0.mk HL.out.hb) | ((with_reducible refine gate_dst (N := 96) rfl ?_); refine Ms.lookS_event rfl (.tmp 94) (.tmp 95) rfl gm rfl key2 rfl seen2 ?hmap ?_; (case hmap => exact (impl_File_lead.LI.hm (by (with_reducible repeat (first | apply impl_File_lead.LI.alloc | apply impl_File_lead.LI.drewN | apply impl_File_lead.LI.drew)); exact HL.out))); rw [SHB.out]) | ((with_reducible refine Ms.gate_map (m := 98) rfl ?_); refine Ms.wpList_putS rfl (.tmp 98) (.tmp 99) (.const (.bool true)) (.inl rfl) gm key2 seen2 rfl rfl rfl ?hmap SHB.out ?_; (case hmap => exact (impl_File_lead.LI.hm (by (with_reducible repeat (first | apply impl_File_lead.LI.alloc | apply impl_File_lead.LI.drewN | apply impl_File_lead.LI.drew)); exact HL.out))); intro w1 hm_ hk_ hbl_; have n0_ := Aside0.mk (impl_File_lead.LI.more (by (with_reducible repeat (first | apply impl_File_lead.LI.alloc | apply impl_File_lead.LI.drewN | apply impl_File_lead.LI.drew)); exact HL.out) hm_ hk_ (hbl_ _ _ (impl_File_lead.LI.hb (by (with_reducible repeat (first | apply impl_File_lead.LI.alloc | apply impl_File_lead.LI.drewN | apply impl_File_lead.LI.drew)); exact HL.out)) HL.out.gm)); have n5_ := Aside0.mk (Kd.R_mono (Kd.R_keep (Kd.R_bound (by (with_reducible repeat (first | apply Kd.R_alloc | apply Kd.R_drewN | apply Kd.R_drew)); exact HN.out)) hk_ (fun k_ hk2_ he_ => by obtain ⟨_, _, _, q_, _, cells_, hc_⟩ := hk2_; exact impl_File_lead.cellsNe (impl_File_lead.LI.hm (by (with_reducible repeat (first | apply impl_File_lead.LI.alloc | apply impl_File_lead.LI.drewN | apply impl_File_lead.LI.drew)); exact HL.out)) hc_ he_)) (fun _ hk2_ => hk2_.1)); clear HN HB; have HN := n5_; have HB := Aside0.mk n0_.out.hb; clear n5_; clear HL; have HL := n0_; clear n0_ hm_ hk_ hbl_) | ((with_reducible refine gate_builtin (b := .append) (xs := #[.tmp 100, .tmp 105]) rfl ?_); at_builtin; refine Kd.R_append (impl_File_lead.kM w) (w0 := w) w.heap.size rfl (.tmp 100) (.tmp 105) 101 100 (.agg #[.slice none 0 0, .int .i64 0, .int .i64 0]) 40 rfl Try.underlying101 (by kernel_rfl) rfl (by first | decide | (show 0 < 2; decide) | (show 0 < 3; decide)) (by omega) (.slice (some ⟨gq, 0, none⟩) q2.length cq) q2 ⟨nx, i, mv⟩ [.slice An nx.length cn, .int .i64 i, .int .i64 mv] (fun _ => True) (fun k_ => True ∧ some k_ ≠ (Value.slice (some ⟨gq, 0, none⟩) q2.length cq).ownBlock) rfl rfl ?aP (fun _ hk => hk) ?aF ?aO ?aB ?aS ?aL ?_; (case aB => exact pbs HB); (case aO => exact impl_File_lead.LI.hq (by (with_reducible repeat (first | apply impl_File_lead.LI.alloc | apply impl_File_lead.LI.drewN | apply impl_File_lead.LI.drew)); exact HL.out)); (case aP => exact impl_File_lead.made (Kd.R_apart' (by (with_reducible repeat (first | apply Kd.R_alloc | apply Kd.R_drewN | apply Kd.R_drew)); exact HN.out) (Kd.R_typed (impl_File_lead.LI.hq (by (with_reducible repeat (first | apply impl_File_lead.LI.alloc | apply impl_File_lead.LI.drewN | apply impl_File_lead.LI.drew)); exact HL.out))) (by decide))); (case aF => exact (fun _ _ => trivial)); (case aS => exact below_size (pbs HB)); (case aL => have := L4.out; (try simp only [List.length_append, List.length_cons, List.length_nil]); omega); intro v3 w3 ho hb hg hat; have n0_ := Aside0.mk (impl_File_lead.LI.queue (by (with_reducible repeat (first | apply impl_File_lead.LI.alloc | apply impl_File_lead.LI.drewN | apply impl_File_lead.LI.drew)); exact HL.out) ho hb hg); clear HL HB HN; have HL := n0_; clear n0_ ho hb hg hat))
                        go_roundg k2
                        case measure => have := HK1.out; have := HK2.out; omega
                        case rel => exact ⟨_, _, wrap64 (mv + 1), (by first | rfl | (simp; done) | (simp [*]; done)), H', ⟨by have := HK1.out; have := HK2.out; omega⟩, ⟨by (with_reducible repeat (first | apply impl_File_lead.LI.alloc | apply impl_File_lead.LI.drewN | apply impl_File_lead.LI.drew)); exact HL.out⟩⟩
                  · rw [if_neg d1_] at H
                    have d1b0 : decide (mv < 5) = false := decide_eq_false d1_; have H' := Aside0.mk H; clear H d1_
                    go_wp2
                    go_roundg k2
                    case measure => have := HK1.out; have := HK2.out; omega
                    case rel => exact ⟨q2, seen2, wrap64 (i + 1), (by first | rfl | (simp; done) | (simp [*]; done)), H', ⟨by have := HK1.out; have := HK2.out; omega⟩, ⟨by (with_reducible repeat (first | apply impl_File_lead.LI.alloc | apply impl_File_lead.LI.drewN | apply impl_File_lead.LI.drew)); exact HL.out⟩⟩
            · go_wp2_with fail
              go_region
              go_wp2_with fail
              go_loopg [11, 73] k1 (fun kq v11 v73 w' => ∃ (q2 : List impl_File_lead.Nd) (seen2 : List ByteArray) (mv : Int), v73 = .int .i64 mv ∧ Aside0 (impl_File_lead.l1 kq q2 seen2 i mv s0 s1 W x y bud = some (r1, r2, r3)) ∧ Aside0 (kq ≤ k1) ∧ Aside0 (impl_File_lead.LI w gr gb s0 s1 W x y v11 q2 gm seen2 w'))
              case atStart => exact ⟨q, seen, 0, (by first | rfl | (simp; done) | (simp [*]; done)), H', ⟨Nat.le_refl _⟩, ⟨by (with_reducible repeat (first | apply impl_File_lead.LI.alloc | apply impl_File_lead.LI.drewN | apply impl_File_lead.LI.drew)); exact HL.out⟩⟩
              case round =>
                clear H'; clear p_ q_ e0 h0 h1 qi x0 x1; obtain ⟨q2, seen2, mv, rfl, HA, HK2, HL⟩ := hrel; obtain ⟨Aq, cq, eq_⟩ := Kd.R_slice HL.out.hq; subst eq_
                cases gk with
                | zero => exact absurd HA.out (by simp [impl_File_lead.l1])
                | succ k2 =>
                  have H := HA.out; clear HA; simp only [impl_File_lead.l1] at H
                  by_cases d1_ : mv < 5
                  · rw [if_pos d1_] at H
                    have d1b0 : decide (mv < 5) = true := decide_eq_true d1_; clear d1_
                    by_cases d2_ : 0 ≤ i
                    case neg => rw [if_neg d2_] at H; exact absurd H (by simp)
                    rw [if_pos d2_] at H
                    by_cases d3_ : i < (q2.length : Int)
                    case neg => rw [if_neg d3_] at H; exact absurd H (by simp)
                    rw [if_pos d3_] at H
                    have hpos2 : 0 < q2.length := by omega
                    obtain ⟨gq, cq2, eq2, _, _, _⟩ := Kd.R_form HL.out.hq hpos2
                    injection eq2 with eqa _ eqc
                    subst eqa; subst eqc; clear hpos2; obtain ⟨A4, c4, e0, _, _, lc, hF⟩ := HL.out.node i d2_ d3_; obtain ⟨n3, hn3⟩ : ∃ n3, n3 = impl_File_lead.rd q2 i := ⟨_, rfl⟩; rw [← hn3] at H e0 lc hF; have HF := Aside0.mk hF; have LC := Aside0.mk lc; clear hn3 hF lc; obtain ⟨b, A4_, H⟩ := Option.bind_eq_some_iff.mp H; have A5 := Aside0.mk A4_; have H2 := Aside0.mk H; clear A4_ H; have p_ := eq_true d2_; have q_ := eq_true d3_; clear d2_ d3_
                    go_wp2_with fail
                    refine start_ (n := 9) (S := fun w' => w'.cell? ⟨gq, i.toNat * 3, none⟩ = some (.slice A4 n3.f0.length c4) ∧ World.rangeAt w' gr 0 ([.int .i8 s0, .int .i8 s1] ++ W.l.map (Value.int .u16))) (ds := []) (bA 9 0) (by kernel_rfl) rfl rfl ⟨e0, mix_range (blk_drew HL.out.br)⟩ (fun hHeld => ?_); refine with_tabW impl_File_lead.tab20 impl_File_lead.bits20 (fun HT_ HW_ => ?_)
                    have n0_ := Aside0.mk (impl_File_lead.LI.drew HL.out); have n1_ := Aside0.mk (Kd.F_drew HF.out); clear HL HF; have HL := n0_; have HF := n1_; clear n0_ n1_; generalize wr.drew = w21 at HL HF hHeld ⊢; clear e0; refine pu 0 76 9 1 HT_ ?_; refine pu 1 77 9 3 HT_ ?_; refine pu 2 78 9 7 HT_ ?_; refine pu 3 79 9 15 HT_ ?_; refine pu 6 82 9 79 HT_ ?_; refine take_ (i := 4) (N := some 80) (v := ?_) (a' := ?_) (bA 9 95) rfl rfl (take_ofW HT_.out HW_.out (by kernel_rfl)) (fun _ _ _ h => h) (Or.inl ⟨by rfl, ?_⟩) hHeld ?_ ?_; rotate_left
                    ·rintro w' ⟨s0_, s1_⟩
                     go_simp; with_reducible rfl
                    rotate_left
                    ·simp only [Act.put, List.setIfInBounds_toArray, List.set_cons_zero, List.set_cons_succ, i64_w, i32_w]
                     rfl
                    refine take_ (i := 5) (N := some 81) (v := ?_) (a' := ?_) (bA 9 127) rfl rfl (take_ofW HT_.out HW_.out (by kernel_rfl)) (fun _ _ _ h => h) (Or.inl ⟨by rfl, ?_⟩) hHeld ?_ ?_; rotate_left
                    ·rintro w' ⟨s0_, s1_⟩
                     refine load_mix_run (P := Try.prog) 34 (.tmp 5) ?_ gr ?_ s1_ Try.underlying34 rfl (by kernel_rfl) rfl
                     all_goals rfl
                    rotate_left
                    ·simp only [Act.put, List.setIfInBounds_toArray, List.set_cons_zero, List.set_cons_succ, i64_w, i32_w]
                     rfl
                    refine one_ (i := 7) (N := some 83) (bA 9 255) rfl rfl (one_of HT_.out (by kernel_rfl)) (by decide) (fun K hK => ?_); refine goes_ Try.func65 (by kernel_rfl) rfl #[.slice A4 n3.f0.length c4, .agg (mixA (Value.int .u16) [.int .i8 s0, .int .i8 s1] W), .int .i64 mv] (by rfl) rfl rfl (by (try simp only [List.map_toArray, List.map_cons, List.map_nil]); first | done | rfl) ?_; with_reducible refine (impl_File_can.calls k2 A4 c4 n3.f0 s0 s1 W mv b _ (Kd.F_now HF.out) LC.out A5.out).mono ?_
                    rintro e w22 ⟨rfl, hb⟩
                    refine ⟨_, rfl, ?_⟩; have e0 := (hb.cell (World.block_lt_of_cell? _ _ hHeld.1)).trans hHeld.1; have n0_ := Aside0.mk (impl_File_lead.LI.below HL.out hb); have n1_ := Aside0.mk (Kd.F_below HF.out hb); clear HL HF hb; have HL := n0_; have HF := n1_; clear n0_ n1_; refine hK.out _ _ ⟨e0, mix_range HL.out.br⟩ (fun hHeld => ?_); clear hK K; refine nm 83 ?_; refine pu 8 84 9 511 HT_ ?_; refine done_ (done_of HT_.out (by kernel_rfl)) ?_; clear hHeld
                    cases b with
                    | false =>
                      have H := H2.out; rw [if_neg Bool.false_ne_true] at H; have H' := Aside0.mk H; clear H H2
                      go_wp2_with fail
                      go_roundg k2
                      case measure => have := HK1.out; have := HK2.out; omega
                      case rel => exact ⟨q2, seen2, wrap64 (mv + 1), (by first | rfl | (simp; done) | (simp [*]; done)), H', ⟨by have := HK1.out; have := HK2.out; omega⟩, ⟨by (with_reducible repeat (first | apply impl_File_lead.LI.alloc | apply impl_File_lead.LI.drewN | apply impl_File_lead.LI.drew)); exact HL.out⟩⟩
                    | true =>
                      have H := H2.out; rw [if_pos rfl] at H; clear H2; obtain ⟨nx, A6, H⟩ := Option.bind_eq_some_iff.mp H; have A7 := Aside0.mk A6; clear A6; obtain ⟨key2, A8, H⟩ := Option.bind_eq_some_iff.mp H; have A9 := Aside0.mk A8; clear A8; have HB := Aside0.mk HL.out.hb
                      by_cases sh_ : Ms.shas seen2 key2 = true
                      · rw [if_pos sh_] at H
                        have SHB := Aside0.mk sh_; have H' := Aside0.mk H; clear H sh_
                        go_wp2_with (first | ((with_reducible refine gate_callee (f := 40) rfl ?_); refine goesL_ (some 91) rfl rfl Try.func40 (by kernel_rfl) rfl #[.slice A4 n3.f0.length c4, .int .i64 mv] rfl (by (try simp only [List.map_toArray, List.map_cons, List.map_nil]); first | done | rfl) ?_; (with_reducible refine (impl_File_moved.calls k2 A4 c4 n3.f0 mv nx _ ?sC ?sL A7.out).mono ?_); (case sC => exact Kd.F_now (by (with_reducible repeat (first | apply Kd.F_alloc | apply Kd.F_drewN | apply Kd.F_drew)); exact HF.out)); (case sL => exact LC.out); rintro e w1 ⟨vn, rfl, hn, hb⟩; refine ⟨_, rfl, ?_⟩; have HN := Aside0.mk (Kd.R_lower hn (below_size (pbs HB))); have n0_ := Aside0.mk (impl_File_lead.LI.below (by (with_reducible repeat (first | apply impl_File_lead.LI.alloc | apply impl_File_lead.LI.drewN | apply impl_File_lead.LI.drew)); exact HL.out) hb); clear HL HB HF e0 hb hn; have HL := n0_; clear n0_; have HB := Aside0.mk HL.out.hb; obtain ⟨An, cn, en⟩ := Kd.R_slice HN.out; subst en; have HCn := Aside0.mk (Kd.R_reads' HN.out).2.1) | ((with_reducible refine gate_callee (f := 63) rfl ?_); refine goesL_ (some 93) rfl rfl Try.func63 (by kernel_rfl) rfl #[.slice An nx.length cn] rfl (by (try simp only [List.map_toArray, List.map_cons, List.map_nil]); first | done | rfl) ?_; (with_reducible refine (impl_File_key.calls k2 An cn nx key2 _ ?sC ?sL A9.out).mono ?_); (case sC => exact (Kd.R_reads' (by (with_reducible repeat (first | apply Kd.R_alloc | apply Kd.R_drewN | apply Kd.R_drew)); exact HN.out)).2.2); (case sL => exact HCn.out); rintro e w1 ⟨rfl, hb⟩; refine ⟨_, rfl, ?_⟩; have n5_ := krb HN hb; have n0_ := Aside0.mk (impl_File_lead.LI.below (by (with_reducible repeat (first | apply impl_File_lead.LI.alloc | apply impl_File_lead.LI.drewN | apply impl_File_lead.LI.drew)); exact HL.out) hb); clear HL HB HN hb; have HL := n0_; have HN := n5_; clear n0_ n5_; have HB := Aside0.mk HL.out.hb) | ((with_reducible refine gate_dst (N := 96) rfl ?_); refine Ms.lookS_event rfl (.tmp 94) (.tmp 95) rfl gm rfl key2 rfl seen2 ?hmap ?_; (case hmap => exact (impl_File_lead.LI.hm (by (with_reducible repeat (first | apply impl_File_lead.LI.alloc | apply impl_File_lead.LI.drewN | apply impl_File_lead.LI.drew)); exact HL.out))); rw [SHB.out]))
                        go_roundg k2
                        case measure => have := HK1.out; have := HK2.out; omega
                        case rel => exact ⟨q2, seen2, wrap64 (mv + 1), (by first | rfl | (simp; done) | (simp [*]; done)), H', ⟨by have := HK1.out; have := HK2.out; omega⟩, ⟨by (with_reducible repeat (first | apply impl_File_lead.LI.alloc | apply impl_File_lead.LI.drewN | apply impl_File_lead.LI.drew)); exact HL.out⟩⟩
                      · rw [if_neg sh_] at H
                        have SHB := Aside0.mk (Bool.eq_false_iff.mpr sh_)
                        by_cases d4_ : q2.length < 3518437208882
                        case neg => rw [if_neg d4_] at H; exact absurd H (by simp)
                        rw [if_pos d4_] at H; have L4 := Aside0.mk d4_; have H' := Aside0.mk H; clear H sh_ d4_
                        go_wp2_with (first | ((with_reducible refine gate_callee (f := 40) rfl ?_); refine goesL_ (some 91) rfl rfl Try.func40 (by kernel_rfl) rfl #[.slice A4 n3.f0.length c4, .int .i64 mv] rfl (by (try simp only [List.map_toArray, List.map_cons, List.map_nil]); first | done | rfl) ?_; (with_reducible refine (impl_File_moved.calls k2 A4 c4 n3.f0 mv nx _ ?sC ?sL A7.out).mono ?_); (case sC => exact Kd.F_now (by (with_reducible repeat (first | apply Kd.F_alloc | apply Kd.F_drewN | apply Kd.F_drew)); exact HF.out)); (case sL => exact LC.out); rintro e w1 ⟨vn, rfl, hn, hb⟩; refine ⟨_, rfl, ?_⟩; have HN := Aside0.mk (Kd.R_lower hn (below_size (pbs HB))); have n0_ := Aside0.mk (impl_File_lead.LI.below (by (with_reducible repeat (first | apply impl_File_lead.LI.alloc | apply impl_File_lead.LI.drewN | apply impl_File_lead.LI.drew)); exact HL.out) hb); clear HL HB HF e0 hb hn; have HL := n0_; clear n0_; have HB := Aside0.mk HL.out.hb; obtain ⟨An, cn, en⟩ := Kd.R_slice HN.out; subst en; have HCn := Aside0.mk (Kd.R_reads' HN.out).2.1) | ((with_reducible refine gate_callee (f := 63) rfl ?_); refine goesL_ (some 93) rfl rfl Try.func63 (by kernel_rfl) rfl #[.slice An nx.length cn] rfl (by (try simp only [List.map_toArray, List.map_cons, List.map_nil]); first | done | rfl) ?_; (with_reducible refine (impl_File_key.calls k2 An cn nx key2 _ ?sC ?sL A9.out).mono ?_); (case sC => exact (Kd.R_reads' (by (with_reducible repeat (first | apply Kd.R_alloc | apply Kd.R_drewN | apply Kd.R_drew)); exact HN.out)).2.2); (case sL => exact HCn.out); rintro e w1 ⟨rfl, hb⟩; refine ⟨_, rfl, ?_⟩; have n5_ := krb HN hb; have n0_ := Aside0.mk (impl_File_lead.LI.below (by (with_reducible repeat (first | apply impl_File_lead.LI.alloc | apply impl_File_lead.LI.drewN | apply impl_File_lead.LI.drew)); exact HL.out) hb); clear HL HB HN hb; have HL := n0_; have HN := n5_; clear n0_ n5_; have HB := Aside0.mk HL.out.hb) | ((with_reducible refine gate_dst (N := 96) rfl ?_); refine Ms.lookS_event rfl (.tmp 94) (.tmp 95) rfl gm rfl key2 rfl seen2 ?hmap ?_; (case hmap => exact (impl_File_lead.LI.hm (by (with_reducible repeat (first | apply impl_File_lead.LI.alloc | apply impl_File_lead.LI.drewN | apply impl_File_lead.LI.drew)); exact HL.out))); rw [SHB.out]) | ((with_reducible refine Ms.gate_map (m := 98) rfl ?_); refine Ms.wpList_putS rfl (.tmp 98) (.tmp 99) (.const (.bool true)) (.inl rfl) gm key2 seen2 rfl rfl rfl ?hmap SHB.out ?_; (case hmap => exact (impl_File_lead.LI.hm (by (with_reducible repeat (first | apply impl_File_lead.LI.alloc | apply impl_File_lead.LI.drewN | apply impl_File_lead.LI.drew)); exact HL.out))); intro w1 hm_ hk_ hbl_; have n0_ := Aside0.mk (impl_File_lead.LI.more (by (with_reducible repeat (first | apply impl_File_lead.LI.alloc | apply impl_File_lead.LI.drewN | apply impl_File_lead.LI.drew)); exact HL.out) hm_ hk_ (hbl_ _ _ (impl_File_lead.LI.hb (by (with_reducible repeat (first | apply impl_File_lead.LI.alloc | apply impl_File_lead.LI.drewN | apply impl_File_lead.LI.drew)); exact HL.out)) HL.out.gm)); have n5_ := Aside0.mk (Kd.R_mono (Kd.R_keep (Kd.R_bound (by (with_reducible repeat (first | apply Kd.R_alloc | apply Kd.R_drewN | apply Kd.R_drew)); exact HN.out)) hk_ (fun k_ hk2_ he_ => by obtain ⟨_, _, _, q_, _, cells_, hc_⟩ := hk2_; exact impl_File_lead.cellsNe (impl_File_lead.LI.hm (by (with_reducible repeat (first | apply impl_File_lead.LI.alloc | apply impl_File_lead.LI.drewN | apply impl_File_lead.LI.drew)); exact HL.out)) hc_ he_)) (fun _ hk2_ => hk2_.1)); clear HN HB; have HN := n5_; have HB := Aside0.mk n0_.out.hb; clear n5_; clear HL; have HL := n0_; clear n0_ hm_ hk_ hbl_) | ((with_reducible refine gate_builtin (b := .append) (xs := #[.tmp 100, .tmp 105]) rfl ?_); at_builtin; refine Kd.R_append (impl_File_lead.kM w) (w0 := w) w.heap.size rfl (.tmp 100) (.tmp 105) 101 100 (.agg #[.slice none 0 0, .int .i64 0, .int .i64 0]) 40 rfl Try.underlying101 (by kernel_rfl) rfl (by first | decide | (show 0 < 2; decide) | (show 0 < 3; decide)) (by omega) (.slice (some ⟨gq, 0, none⟩) q2.length cq) q2 ⟨nx, i, mv⟩ [.slice An nx.length cn, .int .i64 i, .int .i64 mv] (fun _ => True) (fun k_ => True ∧ some k_ ≠ (Value.slice (some ⟨gq, 0, none⟩) q2.length cq).ownBlock) rfl rfl ?aP (fun _ hk => hk) ?aF ?aO ?aB ?aS ?aL ?_; (case aB => exact pbs HB); (case aO => exact impl_File_lead.LI.hq (by (with_reducible repeat (first | apply impl_File_lead.LI.alloc | apply impl_File_lead.LI.drewN | apply impl_File_lead.LI.drew)); exact HL.out)); (case aP => exact impl_File_lead.made (Kd.R_apart' (by (with_reducible repeat (first | apply Kd.R_alloc | apply Kd.R_drewN | apply Kd.R_drew)); exact HN.out) (Kd.R_typed (impl_File_lead.LI.hq (by (with_reducible repeat (first | apply impl_File_lead.LI.alloc | apply impl_File_lead.LI.drewN | apply impl_File_lead.LI.drew)); exact HL.out))) (by decide))); (case aF => exact (fun _ _ => trivial)); (case aS => exact below_size (pbs HB)); (case aL => have := L4.out; (try simp only [List.length_append, List.length_cons, List.length_nil]); omega); intro v3 w3 ho hb hg hat; have n0_ := Aside0.mk (impl_File_lead.LI.queue (by (with_reducible repeat (first | apply impl_File_lead.LI.alloc | apply impl_File_lead.LI.drewN | apply impl_File_lead.LI.drew)); exact HL.out) ho hb hg); clear HL HB HN; have HL := n0_; clear n0_ ho hb hg hat))
                        go_roundg k2
                        case measure => have := HK1.out; have := HK2.out; omega
                        case rel => exact ⟨_, _, wrap64 (mv + 1), (by first | rfl | (simp; done) | (simp [*]; done)), H', ⟨by have := HK1.out; have := HK2.out; omega⟩, ⟨by (with_reducible repeat (first | apply impl_File_lead.LI.alloc | apply impl_File_lead.LI.drewN | apply impl_File_lead.LI.drew)); exact HL.out⟩⟩
                  · rw [if_neg d1_] at H
                    have d1b0 : decide (mv < 5) = false := decide_eq_false d1_; have H' := Aside0.mk H; clear H d1_
                    go_wp2
                    go_roundg k2
                    case measure => have := HK1.out; have := HK2.out; omega
                    case rel => exact ⟨q2, seen2, wrap64 (i + 1), (by first | rfl | (simp; done) | (simp [*]; done)), H', ⟨by have := HK1.out; have := HK2.out; omega⟩, ⟨by (with_reducible repeat (first | apply impl_File_lead.LI.alloc | apply impl_File_lead.LI.drewN | apply impl_File_lead.LI.drew)); exact HL.out⟩⟩
      · rw [if_neg c2_] at H
        have c2b0 : decide (i < (q.length : Int)) = false := decide_eq_false c2_; simp only [Option.some.injEq, Prod.mk.injEq] at H; obtain ⟨rfl, rfl, rfl⟩ := H; have HB := Aside0.mk HL.out.hb
        go_wp2_with fail
        (try simp only [Exit.inBlock, Exit.then]); refine bodyPost_ret (results_tmp3 rfl _ _ _) rfl ?_; exact ⟨_, (by first | rfl | (simp; done) | (simp [*]; done)), Kd.R_nil _ _ _ _ _, pbs HB⟩
end Go.Proofs.Ytjpponjekcemjaa.PB
end
section
namespace Go.Proofs.Ytjpponjekcemjaa.PB
open Go.RowKit Go.Proofs.YtjpponjekcemjaaW.PrintWords Go.Proofs.YtjpponjekcemjaaW.PrintLast Go.Proofs.YtjpponjekcemjaaW.PrintMore Go.Proofs.Ytjpponjekcemjaa.La
attribute [local go_sem] max2_int min2_int max_two min_two max_three min_three max_four min_four   -- for this text's walks alone
set_option linter.unusedVariables false
set_option linter.unusedSimpArgs false
def impl_LeadTo.f (k : Nat) (a0_0 : Int) (a0_1 : Int) (a0_2 : LA 10) (l1 : List (S39)) (a2_0 : Int) (a2_1 : Int) (a3 : Int) : Option (List Int × Int × Int) := (impl_ValidFile.f k a0_0 a0_1 a0_2 l1).bind fun t347 => (if t347 = true then ((impl_leadCode.f k a0_0 a0_1 a0_2 a2_0 a2_1 a3).bind fun t348 => (if t348 = 0 then ((impl_File_lead.f k l1 a0_0 a0_1 a0_2 a2_0 a2_1 a3).bind fun bt349 => (some (bt349.1, bt349.2.1, bt349.2.2))) else (some (([] : List Int), 0, t348)))) else (some (([] : List Int), 0, 1)))
theorem impl_LeadTo.mono : ∀ a0 a1 a2 a3 a4 a5 a6 k, LeO (impl_LeadTo.f k a0 a1 a2 a3 a4 a5 a6) (impl_LeadTo.f (k + 1) a0 a1 a2 a3 a4 a5 a6) := by
 intro a0 a1 a2 a3 a4 a5 a6 k
 unfold impl_LeadTo.f
 repeat' first
   | (with_reducible exact impl_File_lead.mono _ _ _ _ _ _ _ _)
   | (with_reducible exact impl_ValidFile.mono _ _ _ _ _)
   | (with_reducible exact impl_leadCode.mono _ _ _ _ _ _ _)
   | (with_reducible exact LeO.refl _)
   | (with_reducible exact LeO.none _)
   | (with_reducible refine LeO.ite ?_ ?_)
   | (with_reducible refine LeO.bind ?_ (fun _ => ?_))
   | exact impl_File_lead.mono _ _ _ _ _ _ _ _
   | exact impl_ValidFile.mono _ _ _ _ _
   | exact impl_leadCode.mono _ _ _ _ _ _ _
   | exact LeO.none _
   | refine LeO.ite ?_ ?_
   | refine LeO.bind ?_ (fun _ => ?_)
set_option maxHeartbeats 8000000 in
set_option maxRecDepth 100000 in
theorem impl_LeadTo.calls (k : Nat) (a0_0 : Int) (a0_1 : Int) (a0_2 : LA 10) (A1 : Option Addr) (c1 : Nat) (l1 : List (S39)) (a2_0 : Int) (a2_1 : Int) (a3 : Int) (r1 : List Int) (r2 : Int) (r3 : Int) (w : World) (hr1 : Kd.C k39 w A1 l1.length l1) (hc1 : l1.length ≤ c1) (h : impl_LeadTo.f k a0_0 a0_1 a0_2 l1 a2_0 a2_1 a3 = some (r1, r2, r3)) :
  Calls Try.prog 11 #[.agg (mixA (Value.int .u16) [.int .i8 a0_0, .int .i8 a0_1] a0_2), .slice A1 l1.length c1, .agg #[.int .i8 a2_0, .int .i8 a2_1], .int .i64 a3] w fun e w' => ∃ v0_ : Value, e = .returned (.tuple #[v0_, .int .i64 r2, .int .i64 r3]) ∧ Kd.R (Kd.int .i64) 2 w' w.heap.size (fun _ => True) v0_ r1 ∧ Below w.heap.size w w' := by
 have hu34 := Try.underlying34
 have hu39 := Try.underlying39
 have HR1 := Aside0.mk hr1
 have HC1 := Aside0.mk hc1
 clear hr1 hc1
 have HB := Aside0.mk (Below.refl w.heap.size w)
 have H : ((impl_ValidFile.f k a0_0 a0_1 a0_2 l1).bind fun t347 => (if t347 = true then ((impl_leadCode.f k a0_0 a0_1 a0_2 a2_0 a2_1 a3).bind fun t348 => (if t348 = 0 then ((impl_File_lead.f k l1 a0_0 a0_1 a0_2 a2_0 a2_1 a3).bind fun bt349 => (some (bt349.1, bt349.2.1, bt349.2.2))) else (some (([] : List Int), 0, t348)))) else (some (([] : List Int), 0, 1)))) = some (r1, r2, r3) := h
 clear h
 replace H := Option.bind_eq_some_iff.mp H
 obtain ⟨t347, A50, H⟩ := H
 replace H : (if t347 = true then ((impl_leadCode.f k a0_0 a0_1 a0_2 a2_0 a2_1 a3).bind fun t348 => (if t348 = 0 then ((impl_File_lead.f k l1 a0_0 a0_1 a0_2 a2_0 a2_1 a3).bind fun bt349 => (some (bt349.1, bt349.2.1, bt349.2.2))) else (some (([] : List Int), 0, t348)))) else (some (([] : List Int), 0, 1))) = some (r1, r2, r3) := H
 have A5 := Aside0.mk A50
 clear A50
 by_cases c6 : t347 = true
 ·subst c6
  have H1 : ((impl_leadCode.f k a0_0 a0_1 a0_2 a2_0 a2_1 a3).bind fun t348 => (if t348 = 0 then ((impl_File_lead.f k l1 a0_0 a0_1 a0_2 a2_0 a2_1 a3).bind fun bt349 => (some (bt349.1, bt349.2.1, bt349.2.2))) else (some (([] : List Int), 0, t348)))) = some (r1, r2, r3) := by rw [if_pos rfl] at H; exact H
  clear H; have H := H1; clear H1; replace H := Option.bind_eq_some_iff.mp H; obtain ⟨t348, A70, H⟩ := H; replace H : (if t348 = 0 then ((impl_File_lead.f k l1 a0_0 a0_1 a0_2 a2_0 a2_1 a3).bind fun bt349 => (some (bt349.1, bt349.2.1, bt349.2.2))) else (some (([] : List Int), 0, t348))) = some (r1, r2, r3) := H; have A7 := Aside0.mk A70; clear A70
  by_cases c8 : t348 = 0
  ·rw [if_pos c8] at H
   have c8b0 : (t348 == 0) = true := beq_iff_eq.mpr c8; have c8b1 : (t348 != 0) = false := bne_eq_false_iff_eq.mpr c8; clear c8; replace H := Option.bind_eq_some_iff.mp H; obtain ⟨⟨t349, t352, t353⟩, A90, H⟩ := H; replace H : (some (t349, t352, t353)) = some (r1, r2, r3) := H; have A9 := Aside0.mk A90; clear A90; simp only [Option.some.injEq, Prod.mk.injEq] at H; obtain ⟨rfl, rfl, rfl⟩ := H
   go_enter Try.func11, Try.ntmps11
   go_wp2_with (first | ((with_reducible refine gate_dst (N := 4) rfl ?_); refine box_event ?hg (N := 4) ?hd (cs := (mixA (Value.int .u16) [.int .i8 a0_0, .int .i8 a0_1] a0_2)) (t := 34) ?hr ?_; (case hd => rfl); (case hg => rfl); (case hr => first | (go_simp; done) | (go_simp; rfl)); intro gb345 hg w10 hbox hb; have n0_ := bst HB hb; have n1_ := Aside0.mk (hbox); have n2_ := gwl HB hg; have n3_ := gwl HB hg; clear HB; have HB := n0_; have BK345 := n1_; have GW345 := n2_; have GE345 := n3_; clear n0_ n1_ n2_ n3_; clear hb hbox hg) | ((with_reducible refine gate_dst (N := 6) rfl ?_); refine box_event ?hg (N := 6) ?hd (cs := #[.int .i8 a2_0, .int .i8 a2_1]) (t := 39) ?hr ?_; (case hd => rfl); (case hg => rfl); (case hr => first | (go_simp; done) | (go_simp; rfl)); intro gb346 hg w11 hbox hb; have n0_ := bkb BK345 hb; have n1_ := bst HB hb; have n2_ := Aside0.mk (hbox); have n3_ := gwl HB hg; have n4_ := gwl HB hg; have n5_ := nbl BK345 hg; have n6_ := nbg BK345 hg; clear BK345; clear HB; have BK345 := n0_; have HB := n1_; have BK346 := n2_; have GW346 := n3_; have GE346 := n4_; have NB345_346 := n5_; have NB346_345 := n6_; clear n0_ n1_ n2_ n3_ n4_ n5_ n6_; clear hb hbox hg) | ((with_reducible refine gate_dst (N := 12) rfl ?_); refine wpList_run0 (v := .agg (mixA (Value.int .u16) [.int .i8 a0_0, .int .i8 a0_1] a0_2)) rfl (load_mix_run (P := Try.prog) 34 (.tmp 4) rfl gb345 rfl (show World.rangeAt _ gb345 0 ([.int .i8 a0_0, .int .i8 a0_1] ++ a0_2.l.map (Value.int .u16)) from mix_range (show (World.heap _)[gb345]? = some (.cells (mixA (Value.int .u16) [.int .i8 a0_0, .int .i8 a0_1] a0_2) 34 (0, 0)) from by (with_reducible repeat (first | refine blk_drewN ?_ _ | refine blk_drew ?_ | refine blk_alloc ?_ _)); exact BK345.out)) Try.underlying34 rfl (by kernel_rfl) rfl) ?_) | ((with_reducible refine gate_callee (f := 35) rfl ?_); refine gl (some 14) Try.func35 #[.agg (mixA (Value.int .u16) [.int .i8 a0_0, .int .i8 a0_1] a0_2), .slice A1 l1.length c1] ?_; (with_reducible refine (impl_ValidFile.calls k a0_0 a0_1 a0_2 _ _ l1 true _ ?side1 ?side2 A5.out).mono ?_); (case side1 => repeat (first | exact (Kd.C_below HR1.out HB.out) | (with_reducible refine Kd.C_alloc ?_ _) | (with_reducible refine Kd.C_drewN ?_ _) | (with_reducible refine Kd.C_drew ?_))); (case side2 => exact HC1.out); rintro e w13 ⟨rfl, hb⟩; refine ⟨_, rfl, ?_⟩; replace BK345 := bkb BK345 hb; replace BK346 := bkb BK346 hb; replace HB := bst HB hb; (try clear hb); (try clear hb2); (try clear hk); (try clear hi)) | ((with_reducible refine gate_dst (N := 16) rfl ?_); refine wpList_run0 (v := .agg (mixA (Value.int .u16) [.int .i8 a0_0, .int .i8 a0_1] a0_2)) rfl (load_mix_run (P := Try.prog) 34 (.tmp 4) rfl gb345 rfl (show World.rangeAt _ gb345 0 ([.int .i8 a0_0, .int .i8 a0_1] ++ a0_2.l.map (Value.int .u16)) from mix_range (show (World.heap _)[gb345]? = some (.cells (mixA (Value.int .u16) [.int .i8 a0_0, .int .i8 a0_1] a0_2) 34 (0, 0)) from by (with_reducible repeat (first | refine blk_drewN ?_ _ | refine blk_drew ?_ | refine blk_alloc ?_ _)); exact BK345.out)) Try.underlying34 rfl (by kernel_rfl) rfl) ?_; have hnb15 := NB346_345.out; have hnc15 := NB345_346.out; have hcz16_0 : w13.cell? ⟨gb346, 0, none⟩ = some (.int .i8 a2_0) := (blk_cell BK346.out 0).trans rfl; have hcz16_1 : w13.cell? ⟨gb346, 1, none⟩ = some (.int .i8 a2_1) := (blk_cell BK346.out 1).trans rfl; have hfz16_0 := blk_frozen BK346.out 0; have hfz16_1 := blk_frozen BK346.out 1) | ((with_reducible refine gate_callee (f := 36) rfl ?_); refine gl (some 19) Try.func36 #[.agg (mixA (Value.int .u16) [.int .i8 a0_0, .int .i8 a0_1] a0_2), .agg #[.int .i8 a2_0, .int .i8 a2_1], .int .i64 a3] ?_; (with_reducible refine (impl_leadCode.calls k a0_0 a0_1 a0_2 a2_0 a2_1 a3 t348 _ A7.out).mono ?_); rintro e w17 ⟨rfl, hb⟩; refine ⟨_, rfl, ?_⟩; replace BK345 := bkb BK345 hb; replace BK346 := bkb BK346 hb; replace HB := bst HB hb; (try clear hb); (try clear hb2); (try clear hk); (try clear hi)) | ((with_reducible refine gate_dst (N := 24) rfl ?_); refine wpList_run0 (v := .agg (mixA (Value.int .u16) [.int .i8 a0_0, .int .i8 a0_1] a0_2)) rfl (load_mix_run (P := Try.prog) 34 (.tmp 4) rfl gb345 rfl (show World.rangeAt _ gb345 0 ([.int .i8 a0_0, .int .i8 a0_1] ++ a0_2.l.map (Value.int .u16)) from mix_range (show (World.heap _)[gb345]? = some (.cells (mixA (Value.int .u16) [.int .i8 a0_0, .int .i8 a0_1] a0_2) 34 (0, 0)) from by (with_reducible repeat (first | refine blk_drewN ?_ _ | refine blk_drew ?_ | refine blk_alloc ?_ _)); exact BK345.out)) Try.underlying34 rfl (by kernel_rfl) rfl) ?_; have hcz19_0 : w17.cell? ⟨gb346, 0, none⟩ = some (.int .i8 a2_0) := (blk_cell BK346.out 0).trans rfl; have hcz19_1 : w17.cell? ⟨gb346, 1, none⟩ = some (.int .i8 a2_1) := (blk_cell BK346.out 1).trans rfl; have hfz19_0 := blk_frozen BK346.out 0; have hfz19_1 := blk_frozen BK346.out 1) | ((with_reducible refine gate_callee (f := 37) rfl ?_); refine gl (some 27) Try.func37 #[.slice A1 l1.length c1, .agg (mixA (Value.int .u16) [.int .i8 a0_0, .int .i8 a0_1] a0_2), .agg #[.int .i8 a2_0, .int .i8 a2_1], .int .i64 a3] ?_; (with_reducible refine (impl_File_lead.calls k _ _ l1 a0_0 a0_1 a0_2 a2_0 a2_1 a3 t349 t352 t353 _ ?side1 ?side2 A9.out).mono ?_); (case side1 => repeat (first | exact (Kd.C_below HR1.out HB.out) | (with_reducible refine Kd.C_alloc ?_ _) | (with_reducible refine Kd.C_drewN ?_ _) | (with_reducible refine Kd.C_drew ?_))); (case side2 => exact HC1.out); rintro e w20 ⟨v350, rfl, ho0, hb⟩; refine ⟨_, rfl, ?_⟩; have HO351 := Aside0.mk (Kd.R_lower ho0 (below_size (by repeat (first | (with_reducible first | exact HB.out | apply below_alloc | apply pw_below_drewN | apply below_drew1 | refine below_set ?_ GE345.out | refine below_set ?_ GE346.out) | exact HB.out)))); replace BK345 := bkb BK345 hb; replace BK346 := bkb BK346 hb; replace HB := bst HB hb; (try clear hb); (try clear hb2); (try clear hk); (try clear hi); (try clear ho0)))
   go_ret3
   exact ⟨_, by first | rfl | (simp [errW_none, errW_some] <;> rfl) | (simp [*, errW_none, errW_some] <;> rfl), by (with_reducible repeat (first | apply Kd.R_alloc | apply Kd.R_drewN | apply Kd.R_drew)); exact HO351.out, pbs HB⟩
  ·rw [if_neg c8] at H
   have c8b0 : (t348 == 0) = false := beq_eq_false_iff_ne.mpr c8; have c8b1 : (t348 != 0) = true := bne_iff_ne.mpr c8; simp only [Option.some.injEq, Prod.mk.injEq] at H; obtain ⟨rfl, rfl, rfl⟩ := H
   go_enter Try.func11, Try.ntmps11
   go_wp2_with (first | ((with_reducible refine gate_dst (N := 4) rfl ?_); refine box_event ?hg (N := 4) ?hd (cs := (mixA (Value.int .u16) [.int .i8 a0_0, .int .i8 a0_1] a0_2)) (t := 34) ?hr ?_; (case hd => rfl); (case hg => rfl); (case hr => first | (go_simp; done) | (go_simp; rfl)); intro gb345 hg w21 hbox hb; have n0_ := bst HB hb; have n1_ := Aside0.mk (hbox); have n2_ := gwl HB hg; have n3_ := gwl HB hg; clear HB; have HB := n0_; have BK345 := n1_; have GW345 := n2_; have GE345 := n3_; clear n0_ n1_ n2_ n3_; clear hb hbox hg) | ((with_reducible refine gate_dst (N := 6) rfl ?_); refine box_event ?hg (N := 6) ?hd (cs := #[.int .i8 a2_0, .int .i8 a2_1]) (t := 39) ?hr ?_; (case hd => rfl); (case hg => rfl); (case hr => first | (go_simp; done) | (go_simp; rfl)); intro gb346 hg w22 hbox hb; have n0_ := bkb BK345 hb; have n1_ := bst HB hb; have n2_ := Aside0.mk (hbox); have n3_ := gwl HB hg; have n4_ := gwl HB hg; have n5_ := nbl BK345 hg; have n6_ := nbg BK345 hg; clear BK345; clear HB; have BK345 := n0_; have HB := n1_; have BK346 := n2_; have GW346 := n3_; have GE346 := n4_; have NB345_346 := n5_; have NB346_345 := n6_; clear n0_ n1_ n2_ n3_ n4_ n5_ n6_; clear hb hbox hg) | ((with_reducible refine gate_dst (N := 12) rfl ?_); refine wpList_run0 (v := .agg (mixA (Value.int .u16) [.int .i8 a0_0, .int .i8 a0_1] a0_2)) rfl (load_mix_run (P := Try.prog) 34 (.tmp 4) rfl gb345 rfl (show World.rangeAt _ gb345 0 ([.int .i8 a0_0, .int .i8 a0_1] ++ a0_2.l.map (Value.int .u16)) from mix_range (show (World.heap _)[gb345]? = some (.cells (mixA (Value.int .u16) [.int .i8 a0_0, .int .i8 a0_1] a0_2) 34 (0, 0)) from by (with_reducible repeat (first | refine blk_drewN ?_ _ | refine blk_drew ?_ | refine blk_alloc ?_ _)); exact BK345.out)) Try.underlying34 rfl (by kernel_rfl) rfl) ?_) | ((with_reducible refine gate_callee (f := 35) rfl ?_); refine gl (some 14) Try.func35 #[.agg (mixA (Value.int .u16) [.int .i8 a0_0, .int .i8 a0_1] a0_2), .slice A1 l1.length c1] ?_; (with_reducible refine (impl_ValidFile.calls k a0_0 a0_1 a0_2 _ _ l1 true _ ?side1 ?side2 A5.out).mono ?_); (case side1 => repeat (first | exact (Kd.C_below HR1.out HB.out) | (with_reducible refine Kd.C_alloc ?_ _) | (with_reducible refine Kd.C_drewN ?_ _) | (with_reducible refine Kd.C_drew ?_))); (case side2 => exact HC1.out); rintro e w24 ⟨rfl, hb⟩; refine ⟨_, rfl, ?_⟩; replace BK345 := bkb BK345 hb; replace BK346 := bkb BK346 hb; replace HB := bst HB hb; (try clear hb); (try clear hb2); (try clear hk); (try clear hi)) | ((with_reducible refine gate_dst (N := 16) rfl ?_); refine wpList_run0 (v := .agg (mixA (Value.int .u16) [.int .i8 a0_0, .int .i8 a0_1] a0_2)) rfl (load_mix_run (P := Try.prog) 34 (.tmp 4) rfl gb345 rfl (show World.rangeAt _ gb345 0 ([.int .i8 a0_0, .int .i8 a0_1] ++ a0_2.l.map (Value.int .u16)) from mix_range (show (World.heap _)[gb345]? = some (.cells (mixA (Value.int .u16) [.int .i8 a0_0, .int .i8 a0_1] a0_2) 34 (0, 0)) from by (with_reducible repeat (first | refine blk_drewN ?_ _ | refine blk_drew ?_ | refine blk_alloc ?_ _)); exact BK345.out)) Try.underlying34 rfl (by kernel_rfl) rfl) ?_; have hnb26 := NB346_345.out; have hnc26 := NB345_346.out; have hcz27_0 : w24.cell? ⟨gb346, 0, none⟩ = some (.int .i8 a2_0) := (blk_cell BK346.out 0).trans rfl; have hcz27_1 : w24.cell? ⟨gb346, 1, none⟩ = some (.int .i8 a2_1) := (blk_cell BK346.out 1).trans rfl; have hfz27_0 := blk_frozen BK346.out 0; have hfz27_1 := blk_frozen BK346.out 1) | ((with_reducible refine gate_callee (f := 36) rfl ?_); refine gl (some 19) Try.func36 #[.agg (mixA (Value.int .u16) [.int .i8 a0_0, .int .i8 a0_1] a0_2), .agg #[.int .i8 a2_0, .int .i8 a2_1], .int .i64 a3] ?_; (with_reducible refine (impl_leadCode.calls k a0_0 a0_1 a0_2 a2_0 a2_1 a3 t348 _ A7.out).mono ?_); rintro e w28 ⟨rfl, hb⟩; refine ⟨_, rfl, ?_⟩; replace BK345 := bkb BK345 hb; replace BK346 := bkb BK346 hb; replace HB := bst HB hb; (try clear hb); (try clear hb2); (try clear hk); (try clear hi)))
   go_ret3
   exact ⟨_, by first | rfl | (simp [errW_none, errW_some] <;> rfl) | (simp [*, errW_none, errW_some] <;> rfl), by first | exact Kd.R_nil _ _ _ _ _ | exact Kd.N_nil _ _ _ _ _ | exact Kd.V_nil _ _ _ _ _ | exact Kd.Q_nil _ _ _ _ _ | exact Kd.S_nil _ _ _ _ _, pbs HB⟩
 ·replace c6 := Bool.eq_false_iff.mpr c6
  subst c6
  have H1 : (some (([] : List Int), 0, 1)) = some (r1, r2, r3) := by rw [if_neg (show ¬ (false = true) by decide)] at H; exact H
  clear H; have H := H1; clear H1; simp only [Option.some.injEq, Prod.mk.injEq] at H; obtain ⟨rfl, rfl, rfl⟩ := H
  go_enter Try.func11, Try.ntmps11
  go_wp2_with (first | ((with_reducible refine gate_dst (N := 4) rfl ?_); refine box_event ?hg (N := 4) ?hd (cs := (mixA (Value.int .u16) [.int .i8 a0_0, .int .i8 a0_1] a0_2)) (t := 34) ?hr ?_; (case hd => rfl); (case hg => rfl); (case hr => first | (go_simp; done) | (go_simp; rfl)); intro gb345 hg w29 hbox hb; have n0_ := bst HB hb; have n1_ := Aside0.mk (hbox); have n2_ := gwl HB hg; have n3_ := gwl HB hg; clear HB; have HB := n0_; have BK345 := n1_; have GW345 := n2_; have GE345 := n3_; clear n0_ n1_ n2_ n3_; clear hb hbox hg) | ((with_reducible refine gate_dst (N := 6) rfl ?_); refine box_event ?hg (N := 6) ?hd (cs := #[.int .i8 a2_0, .int .i8 a2_1]) (t := 39) ?hr ?_; (case hd => rfl); (case hg => rfl); (case hr => first | (go_simp; done) | (go_simp; rfl)); intro gb346 hg w30 hbox hb; have n0_ := bkb BK345 hb; have n1_ := bst HB hb; have n2_ := Aside0.mk (hbox); have n3_ := gwl HB hg; have n4_ := gwl HB hg; have n5_ := nbl BK345 hg; have n6_ := nbg BK345 hg; clear BK345; clear HB; have BK345 := n0_; have HB := n1_; have BK346 := n2_; have GW346 := n3_; have GE346 := n4_; have NB345_346 := n5_; have NB346_345 := n6_; clear n0_ n1_ n2_ n3_ n4_ n5_ n6_; clear hb hbox hg) | ((with_reducible refine gate_dst (N := 12) rfl ?_); refine wpList_run0 (v := .agg (mixA (Value.int .u16) [.int .i8 a0_0, .int .i8 a0_1] a0_2)) rfl (load_mix_run (P := Try.prog) 34 (.tmp 4) rfl gb345 rfl (show World.rangeAt _ gb345 0 ([.int .i8 a0_0, .int .i8 a0_1] ++ a0_2.l.map (Value.int .u16)) from mix_range (show (World.heap _)[gb345]? = some (.cells (mixA (Value.int .u16) [.int .i8 a0_0, .int .i8 a0_1] a0_2) 34 (0, 0)) from by (with_reducible repeat (first | refine blk_drewN ?_ _ | refine blk_drew ?_ | refine blk_alloc ?_ _)); exact BK345.out)) Try.underlying34 rfl (by kernel_rfl) rfl) ?_) | ((with_reducible refine gate_callee (f := 35) rfl ?_); refine gl (some 14) Try.func35 #[.agg (mixA (Value.int .u16) [.int .i8 a0_0, .int .i8 a0_1] a0_2), .slice A1 l1.length c1] ?_; (with_reducible refine (impl_ValidFile.calls k a0_0 a0_1 a0_2 _ _ l1 false _ ?side1 ?side2 A5.out).mono ?_); (case side1 => repeat (first | exact (Kd.C_below HR1.out HB.out) | (with_reducible refine Kd.C_alloc ?_ _) | (with_reducible refine Kd.C_drewN ?_ _) | (with_reducible refine Kd.C_drew ?_))); (case side2 => exact HC1.out); rintro e w32 ⟨rfl, hb⟩; refine ⟨_, rfl, ?_⟩; replace BK345 := bkb BK345 hb; replace BK346 := bkb BK346 hb; replace HB := bst HB hb; (try clear hb); (try clear hb2); (try clear hk); (try clear hi)))
  go_ret3
  exact ⟨_, by first | rfl | (simp [errW_none, errW_some] <;> rfl) | (simp [*, errW_none, errW_some] <;> rfl), by first | exact Kd.R_nil _ _ _ _ _ | exact Kd.N_nil _ _ _ _ _ | exact Kd.V_nil _ _ _ _ _ | exact Kd.Q_nil _ _ _ _ _ | exact Kd.S_nil _ _ _ _ _, pbs HB⟩
def laws_eqInt64S.l0 : Nat → List Int → List Int → Int → Option (Bool)
 | 0, _, _, _ => none
 | k + 1, x0, x1, x5 => if x5 < (x0.length : Int) then (if 0 ≤ x5 then (if x5 < (x1.length : Int) then (if (rd x0 x5) = (rd x1 x5) then (laws_eqInt64S.l0 k x0 x1 (wrap64 (x5 + 1))) else (some false)) else (none)) else (none)) else (some true)
def laws_eqInt64S.f (k : Nat) (l0 : List Int) (l1 : List Int) : Option (Bool) := if (l0.length : Int) = (l1.length : Int) then (laws_eqInt64S.l0 k l0 l1 0) else (some false)
theorem laws_eqInt64S.mono_l : ∀ k, (∀ y0 y1 y2, LeO (laws_eqInt64S.l0 k y0 y1 y2) (laws_eqInt64S.l0 (k + 1) y0 y1 y2))
 | 0 => fun _ _ _ r h => by simp [laws_eqInt64S.l0] at h
 | k + 1 => by
  have ih0 := laws_eqInt64S.mono_l k
  ·intro y0 y1 y2
   unfold laws_eqInt64S.l0
   repeat' first
   | (with_reducible exact ih0 _ _ _)
   | (with_reducible exact LeO.refl _)
   | (with_reducible exact LeO.none _)
   | (with_reducible refine LeO.ite ?_ ?_)
   | (with_reducible refine LeO.bind ?_ (fun _ => ?_))
   | exact ih0 _ _ _
   | exact LeO.none _
   | refine LeO.ite ?_ ?_
   | refine LeO.bind ?_ (fun _ => ?_)
theorem laws_eqInt64S.mono : ∀ a0 a1 k, LeO (laws_eqInt64S.f k a0 a1) (laws_eqInt64S.f (k + 1) a0 a1) := by
 intro a0 a1 k
 have ih0 := laws_eqInt64S.mono_l k
 unfold laws_eqInt64S.f
 repeat' first
   | (with_reducible exact ih0 _ _ _)
   | (with_reducible exact LeO.refl _)
   | (with_reducible exact LeO.none _)
   | (with_reducible refine LeO.ite ?_ ?_)
   | (with_reducible refine LeO.bind ?_ (fun _ => ?_))
   | exact ih0 _ _ _
   | exact LeO.none _
   | refine LeO.ite ?_ ?_
   | refine LeO.bind ?_ (fun _ => ?_)
set_option maxHeartbeats 8000000 in
set_option maxRecDepth 100000 in
theorem laws_eqInt64S.calls (k : Nat) (A0 : Option Addr) (c0 : Nat) (l0 : List Int) (A1 : Option Addr) (c1 : Nat) (l1 : List Int) (r : Bool) (w : World) (hr0 : Kd.C (Kd.int .i64) w A0 l0.length l0) (hc0 : l0.length ≤ c0) (hr1 : Kd.C (Kd.int .i64) w A1 l1.length l1) (hc1 : l1.length ≤ c1) (h : laws_eqInt64S.f k l0 l1 = some r) :
  Calls Try.prog 12 #[.slice A0 l0.length c0, .slice A1 l1.length c1] w fun e w' => e = .returned (.bool r) ∧ Drawn0 w w' := by
 have HR0 := Aside0.mk hr0
 have HC0 := Aside0.mk hc0
 clear hr0 hc0
 have HR1 := Aside0.mk hr1
 have HC1 := Aside0.mk hc1
 clear hr1 hc1
 have H : (if (l0.length : Int) = (l1.length : Int) then (laws_eqInt64S.l0 k l0 l1 0) else (some false)) = some r := h
 clear h
 by_cases c3 : (l0.length : Int) = (l1.length : Int)
 ·rw [if_pos c3] at H
  have c3b0 : ((l0.length : Int) == (l1.length : Int)) = true := beq_iff_eq.mpr c3; have c3b1 : ((l0.length : Int) != (l1.length : Int)) = false := bne_eq_false_iff_eq.mpr c3
  have c3b2 : (l0.length == l1.length) = true := by first | simpa using c3 | (simp at c3 ⊢; omega)
  clear c3; have H' := Aside0.mk H; clear H
  go_enter Try.func12, Try.ntmps12
  go_wp2
  repeat (go_quiet (fail); try go_wp2)
  go_loopg [5] k (fun kq v5 w' => ∃ (x5_1 : Int), v5 = .int .i64 x5_1 ∧ Aside0 (laws_eqInt64S.l0 kq l0 l1 x5_1 = some r) ∧ Aside0 (kq ≤ k) ∧ Drawn0 w w')
  case atStart => exact ⟨(0), (by first | rfl | (simp; done) | (simp [*]; done)), H', ⟨Nat.le_refl _⟩, by repeat (first | exact Drawn0.refl _ | apply Drawn0.step)⟩
  case round =>
   clear H'
   try clear c1
   try clear p2
   try clear c3
   try clear c3b0
   try clear c3b1
   try clear c3b2
   obtain ⟨x5_1, rfl, HA, HK1, ⟨m1, rfl⟩⟩ := hrel
   cases gk with
   | zero => exact absurd HA.out (by simp [laws_eqInt64S.l0])
   | succ k1 =>
    have H := HA.out; clear HA; simp only [laws_eqInt64S.l0] at H
    by_cases c4 : x5_1 < (l0.length : Int)
    ·rw [if_pos c4] at H
     have c4b0 : decide (x5_1 < (l0.length : Int)) = true := decide_eq_true c4; clear c4
     by_cases c5 : 0 ≤ x5_1
     ·rw [if_pos c5] at H
      have c5b0 : decide (0 ≤ x5_1) = true := decide_eq_true c5; clear c5
      by_cases c6 : x5_1 < (l1.length : Int)
      ·rw [if_pos c6] at H
       have c6b0 : decide (x5_1 < (l1.length : Int)) = true := decide_eq_true c6; clear c6
       by_cases c7 : (rd l0 x5_1) = (rd l1 x5_1)
       ·rw [if_pos c7] at H
        have c7b0 : ((rd l0 x5_1) == (rd l1 x5_1)) = true := beq_iff_eq.mpr c7; have c7b1 : ((rd l0 x5_1) != (rd l1 x5_1)) = false := bne_eq_false_iff_eq.mpr c7; clear c7; have H' := Aside0.mk H; clear H; have p354 : 0 ≤ (x5_1 : Int) := oda; have q354 : x5_1 < (l0.length : Int) := oda; obtain ⟨ad354, e354, hx354_0⟩ := Kd.at_int HR0.out x5_1 p354 q354; cases e354; replace p354 := eq_true p354; replace q354 := eq_true q354; have p355 : 0 ≤ (x5_1 : Int) := oda; have q355 : x5_1 < (l1.length : Int) := oda; obtain ⟨ad355, e355, hx355_0⟩ := Kd.at_int HR1.out x5_1 p355 q355; cases e355; replace p355 := eq_true p355; replace q355 := eq_true q355
        go_wp2
        repeat (go_quiet (fail); try go_wp2)
        go_roundg k1
        case measure => have := HK1.out; omega
        case rel => exact ⟨(wrap64 (x5_1 + 1)), (by first | rfl | (simp; done) | (simp [*]; done)), H', ⟨by have := HK1.out; omega⟩, by repeat (first | exact Drawn0.refl _ | apply Drawn0.step)⟩
       ·rw [if_neg c7] at H
        have c7b0 : ((rd l0 x5_1) == (rd l1 x5_1)) = false := beq_eq_false_iff_ne.mpr c7; have c7b1 : ((rd l0 x5_1) != (rd l1 x5_1)) = true := bne_iff_ne.mpr c7; obtain rfl := Option.some.inj H; have p354 : 0 ≤ (x5_1 : Int) := oda; have q354 : x5_1 < (l0.length : Int) := oda; obtain ⟨ad354, e354, hx354_0⟩ := Kd.at_int HR0.out x5_1 p354 q354; cases e354; replace p354 := eq_true p354; replace q354 := eq_true q354; have p355 : 0 ≤ (x5_1 : Int) := oda; have q355 : x5_1 < (l1.length : Int) := oda; obtain ⟨ad355, e355, hx355_0⟩ := Kd.at_int HR1.out x5_1 p355 q355; cases e355; replace p355 := eq_true p355; replace q355 := eq_true q355
        go_wp2
        repeat (go_quiet (fail); try go_wp2)
        go_ret
        exact ⟨by first | rfl | (simp; done) | (simp [*]; done), by repeat (first | exact Drawn0.refl _ | apply Drawn0.step)⟩
      ·rw [if_neg c6] at H
       exact absurd H (by simp)
     ·rw [if_neg c5] at H
      exact absurd H (by simp)
    ·rw [if_neg c4] at H
     have c4b0 : decide (x5_1 < (l0.length : Int)) = false := decide_eq_false c4; clear c4; obtain rfl := Option.some.inj H
     go_wp2
     repeat (go_quiet (fail); try go_wp2)
     go_ret
     exact ⟨by first | rfl | (simp; done) | (simp [*]; done), by repeat (first | exact Drawn0.refl _ | apply Drawn0.step)⟩
 ·rw [if_neg c3] at H
  have c3b0 : ((l0.length : Int) == (l1.length : Int)) = false := beq_eq_false_iff_ne.mpr c3; have c3b1 : ((l0.length : Int) != (l1.length : Int)) = true := bne_iff_ne.mpr c3
  have c3b2 : (l0.length == l1.length) = false := by first | simpa using c3 | (simp at c3 ⊢; omega)
  obtain rfl := Option.some.inj H
  go_enter Try.func12, Try.ntmps12
  go_wp2
  repeat (go_quiet (fail); try go_wp2)
  go_ret
  exact ⟨by first | rfl | (simp; done) | (simp [*]; done), by repeat (first | exact Drawn0.refl _ | apply Drawn0.step)⟩
def laws_eqSpot.f (a0_0 : Int) (a0_1 : Int) (a1_0 : Int) (a1_1 : Int) : Option (Bool) := if a0_0 = a1_0 then (if a0_1 = a1_1 then (some true) else (some false)) else (some false)
set_option maxHeartbeats 8000000 in
set_option maxRecDepth 100000 in
theorem laws_eqSpot.calls (a0_0 : Int) (a0_1 : Int) (a1_0 : Int) (a1_1 : Int) (r : Bool) (w : World) (h : laws_eqSpot.f a0_0 a0_1 a1_0 a1_1 = some r) :
  Calls Try.prog 38 #[.agg #[.int .i8 a0_0, .int .i8 a0_1], .agg #[.int .i8 a1_0, .int .i8 a1_1]] w fun e w' => e = .returned (.bool r) ∧ Below w.heap.size w w' := by
 have hu39 := Try.underlying39
 have HB := Aside0.mk (Below.refl w.heap.size w)
 have H : (if a0_0 = a1_0 then (if a0_1 = a1_1 then (some true) else (some false)) else (some false)) = some r := h
 clear h
 by_cases c3 : a0_0 = a1_0
 ·rw [if_pos c3] at H
  have c3b0 : (a0_0 == a1_0) = true := beq_iff_eq.mpr c3; have c3b1 : (a0_0 != a1_0) = false := bne_eq_false_iff_eq.mpr c3; clear c3
  by_cases c4 : a0_1 = a1_1
  ·rw [if_pos c4] at H
   have c4b0 : (a0_1 == a1_1) = true := beq_iff_eq.mpr c4; have c4b1 : (a0_1 != a1_1) = false := bne_eq_false_iff_eq.mpr c4; clear c4; obtain rfl := Option.some.inj H
   go_enter Try.func38, Try.ntmps38
   go_wp2_with (first | ((with_reducible refine gate_dst (N := 2) rfl ?_); refine box_event ?hg (N := 2) ?hd (cs := #[.int .i8 a0_0, .int .i8 a0_1]) (t := 39) ?hr ?_; (case hd => rfl); (case hg => rfl); (case hr => first | (go_simp; done) | (go_simp; rfl)); intro gb356 hg w5 hbox hb; have n0_ := bst HB hb; have n1_ := Aside0.mk (hbox); have n2_ := gwl HB hg; have n3_ := gwl HB hg; clear HB; have HB := n0_; have BK356 := n1_; have GW356 := n2_; have GE356 := n3_; clear n0_ n1_ n2_ n3_; clear hb hbox hg) | ((with_reducible refine gate_dst (N := 3) rfl ?_); refine box_event ?hg (N := 3) ?hd (cs := #[.int .i8 a1_0, .int .i8 a1_1]) (t := 39) ?hr ?_; (case hd => rfl); (case hg => rfl); (case hr => first | (go_simp; done) | (go_simp; rfl)); intro gb357 hg w6 hbox hb; have n0_ := bkb BK356 hb; have n1_ := bst HB hb; have n2_ := Aside0.mk (hbox); have n3_ := gwl HB hg; have n4_ := gwl HB hg; have n5_ := nbl BK356 hg; have n6_ := nbg BK356 hg; clear BK356; clear HB; have BK356 := n0_; have HB := n1_; have BK357 := n2_; have GW357 := n3_; have GE357 := n4_; have NB356_357 := n5_; have NB357_356 := n6_; clear n0_ n1_ n2_ n3_ n4_ n5_ n6_; clear hb hbox hg; have hnb7 := NB356_357.out; have hnc7 := NB357_356.out; have hcz8_0 : w6.cell? ⟨gb356, 0, none⟩ = some (.int .i8 a0_0) := (blk_cell BK356.out 0).trans rfl; have hcz8_1 : w6.cell? ⟨gb356, 1, none⟩ = some (.int .i8 a0_1) := (blk_cell BK356.out 1).trans rfl; have hfz8_0 := blk_frozen BK356.out 0; have hfz8_1 := blk_frozen BK356.out 1; have hcz9_0 : w6.cell? ⟨gb357, 0, none⟩ = some (.int .i8 a1_0) := (blk_cell BK357.out 0).trans rfl; have hcz9_1 : w6.cell? ⟨gb357, 1, none⟩ = some (.int .i8 a1_1) := (blk_cell BK357.out 1).trans rfl; have hfz9_0 := blk_frozen BK357.out 0; have hfz9_1 := blk_frozen BK357.out 1))
   go_ret
   exact ⟨by first | rfl | (simp [errW_none, errW_some] <;> rfl) | (simp [*, errW_none, errW_some] <;> rfl), pbs HB⟩
  ·rw [if_neg c4] at H
   have c4b0 : (a0_1 == a1_1) = false := beq_eq_false_iff_ne.mpr c4; have c4b1 : (a0_1 != a1_1) = true := bne_iff_ne.mpr c4; obtain rfl := Option.some.inj H
   go_enter Try.func38, Try.ntmps38
   go_wp2_with (first | ((with_reducible refine gate_dst (N := 2) rfl ?_); refine box_event ?hg (N := 2) ?hd (cs := #[.int .i8 a0_0, .int .i8 a0_1]) (t := 39) ?hr ?_; (case hd => rfl); (case hg => rfl); (case hr => first | (go_simp; done) | (go_simp; rfl)); intro gb356 hg w10 hbox hb; have n0_ := bst HB hb; have n1_ := Aside0.mk (hbox); have n2_ := gwl HB hg; have n3_ := gwl HB hg; clear HB; have HB := n0_; have BK356 := n1_; have GW356 := n2_; have GE356 := n3_; clear n0_ n1_ n2_ n3_; clear hb hbox hg) | ((with_reducible refine gate_dst (N := 3) rfl ?_); refine box_event ?hg (N := 3) ?hd (cs := #[.int .i8 a1_0, .int .i8 a1_1]) (t := 39) ?hr ?_; (case hd => rfl); (case hg => rfl); (case hr => first | (go_simp; done) | (go_simp; rfl)); intro gb357 hg w11 hbox hb; have n0_ := bkb BK356 hb; have n1_ := bst HB hb; have n2_ := Aside0.mk (hbox); have n3_ := gwl HB hg; have n4_ := gwl HB hg; have n5_ := nbl BK356 hg; have n6_ := nbg BK356 hg; clear BK356; clear HB; have BK356 := n0_; have HB := n1_; have BK357 := n2_; have GW357 := n3_; have GE357 := n4_; have NB356_357 := n5_; have NB357_356 := n6_; clear n0_ n1_ n2_ n3_ n4_ n5_ n6_; clear hb hbox hg; have hnb12 := NB356_357.out; have hnc12 := NB357_356.out; have hcz13_0 : w11.cell? ⟨gb356, 0, none⟩ = some (.int .i8 a0_0) := (blk_cell BK356.out 0).trans rfl; have hcz13_1 : w11.cell? ⟨gb356, 1, none⟩ = some (.int .i8 a0_1) := (blk_cell BK356.out 1).trans rfl; have hfz13_0 := blk_frozen BK356.out 0; have hfz13_1 := blk_frozen BK356.out 1; have hcz14_0 : w11.cell? ⟨gb357, 0, none⟩ = some (.int .i8 a1_0) := (blk_cell BK357.out 0).trans rfl; have hcz14_1 : w11.cell? ⟨gb357, 1, none⟩ = some (.int .i8 a1_1) := (blk_cell BK357.out 1).trans rfl; have hfz14_0 := blk_frozen BK357.out 0; have hfz14_1 := blk_frozen BK357.out 1))
   go_ret
   exact ⟨by first | rfl | (simp [errW_none, errW_some] <;> rfl) | (simp [*, errW_none, errW_some] <;> rfl), pbs HB⟩
 ·rw [if_neg c3] at H
  have c3b0 : (a0_0 == a1_0) = false := beq_eq_false_iff_ne.mpr c3; have c3b1 : (a0_0 != a1_0) = true := bne_iff_ne.mpr c3; obtain rfl := Option.some.inj H
  go_enter Try.func38, Try.ntmps38
  go_wp2_with (first | ((with_reducible refine gate_dst (N := 2) rfl ?_); refine box_event ?hg (N := 2) ?hd (cs := #[.int .i8 a0_0, .int .i8 a0_1]) (t := 39) ?hr ?_; (case hd => rfl); (case hg => rfl); (case hr => first | (go_simp; done) | (go_simp; rfl)); intro gb356 hg w15 hbox hb; have n0_ := bst HB hb; have n1_ := Aside0.mk (hbox); have n2_ := gwl HB hg; have n3_ := gwl HB hg; clear HB; have HB := n0_; have BK356 := n1_; have GW356 := n2_; have GE356 := n3_; clear n0_ n1_ n2_ n3_; clear hb hbox hg) | ((with_reducible refine gate_dst (N := 3) rfl ?_); refine box_event ?hg (N := 3) ?hd (cs := #[.int .i8 a1_0, .int .i8 a1_1]) (t := 39) ?hr ?_; (case hd => rfl); (case hg => rfl); (case hr => first | (go_simp; done) | (go_simp; rfl)); intro gb357 hg w16 hbox hb; have n0_ := bkb BK356 hb; have n1_ := bst HB hb; have n2_ := Aside0.mk (hbox); have n3_ := gwl HB hg; have n4_ := gwl HB hg; have n5_ := nbl BK356 hg; have n6_ := nbg BK356 hg; clear BK356; clear HB; have BK356 := n0_; have HB := n1_; have BK357 := n2_; have GW357 := n3_; have GE357 := n4_; have NB356_357 := n5_; have NB357_356 := n6_; clear n0_ n1_ n2_ n3_ n4_ n5_ n6_; clear hb hbox hg; have hnb17 := NB356_357.out; have hnc17 := NB357_356.out; have hcz18_0 : w16.cell? ⟨gb356, 0, none⟩ = some (.int .i8 a0_0) := (blk_cell BK356.out 0).trans rfl; have hcz18_1 : w16.cell? ⟨gb356, 1, none⟩ = some (.int .i8 a0_1) := (blk_cell BK356.out 1).trans rfl; have hfz18_0 := blk_frozen BK356.out 0; have hfz18_1 := blk_frozen BK356.out 1; have hcz19_0 : w16.cell? ⟨gb357, 0, none⟩ = some (.int .i8 a1_0) := (blk_cell BK357.out 0).trans rfl; have hcz19_1 : w16.cell? ⟨gb357, 1, none⟩ = some (.int .i8 a1_1) := (blk_cell BK357.out 1).trans rfl; have hfz19_0 := blk_frozen BK357.out 0; have hfz19_1 := blk_frozen BK357.out 1))
  go_ret
  exact ⟨by first | rfl | (simp [errW_none, errW_some] <;> rfl) | (simp [*, errW_none, errW_some] <;> rfl), pbs HB⟩
def laws_eqFile.l0 : Nat → List (S39) → List (S39) → Int → Option (Bool)
 | 0, _, _, _ => none
 | k + 1, x0, x1, x5 => if x5 < (x0.length : Int) then (if 0 ≤ x5 then (if x5 < (x1.length : Int) then ((laws_eqSpot.f ((rd_T39 x0 x5).f0) ((rd_T39 x0 x5).f1) ((rd_T39 x1 x5).f0) ((rd_T39 x1 x5).f1)).bind fun t360 => (if t360 = true then (laws_eqFile.l0 k x0 x1 (wrap64 (x5 + 1))) else (some false))) else (none)) else (none)) else (some true)
def laws_eqFile.f (k : Nat) (l0 : List (S39)) (l1 : List (S39)) : Option (Bool) := if (l0.length : Int) = (l1.length : Int) then (laws_eqFile.l0 k l0 l1 0) else (some false)
theorem laws_eqFile.mono_l : ∀ k, (∀ y0 y1 y2, LeO (laws_eqFile.l0 k y0 y1 y2) (laws_eqFile.l0 (k + 1) y0 y1 y2))
 | 0 => fun _ _ _ r h => by simp [laws_eqFile.l0] at h
 | k + 1 => by
  have ih0 := laws_eqFile.mono_l k
  ·intro y0 y1 y2
   unfold laws_eqFile.l0
   repeat' first
   | (with_reducible exact ih0 _ _ _)
   | (with_reducible exact LeO.refl _)
   | (with_reducible exact LeO.none _)
   | (with_reducible refine LeO.ite ?_ ?_)
   | (with_reducible refine LeO.bind ?_ (fun _ => ?_))
   | exact ih0 _ _ _
   | exact LeO.none _
   | refine LeO.ite ?_ ?_
   | refine LeO.bind ?_ (fun _ => ?_)
theorem laws_eqFile.mono : ∀ a0 a1 k, LeO (laws_eqFile.f k a0 a1) (laws_eqFile.f (k + 1) a0 a1) := by
 intro a0 a1 k
 have ih0 := laws_eqFile.mono_l k
 unfold laws_eqFile.f
 repeat' first
   | (with_reducible exact ih0 _ _ _)
   | (with_reducible exact LeO.refl _)
   | (with_reducible exact LeO.none _)
   | (with_reducible refine LeO.ite ?_ ?_)
   | (with_reducible refine LeO.bind ?_ (fun _ => ?_))
   | exact ih0 _ _ _
   | exact LeO.none _
   | refine LeO.ite ?_ ?_
   | refine LeO.bind ?_ (fun _ => ?_)
def laws_eqFile.T6 : Bool × List (List Nat × List Nat) := (true, [([], []), ([], []), ([0, 1], [0, 1]), ([2], [2]), ([], []), ([], []), ([4, 5], [4, 5]), ([6], [6]), ([3, 7], [3, 7]), ([8], [8])])
def laws_eqFile.B6 : List Nat := [0, 0, 3, 7, 0, 0, 48, 112, 255, 511]
theorem laws_eqFile.tab6 : rtab .any (opsOf Try.f13 6) = laws_eqFile.T6 := by kernel_rfl
theorem laws_eqFile.bits6 : waitsOk laws_eqFile.T6.2 laws_eqFile.B6 = true := by kernel_rfl
set_option maxHeartbeats 8000000 in
set_option maxRecDepth 100000 in
theorem laws_eqFile.calls (k : Nat) (A0 : Option Addr) (c0 : Nat) (l0 : List (S39)) (A1 : Option Addr) (c1 : Nat) (l1 : List (S39)) (r : Bool) (w : World) (hr0 : Kd.C k39 w A0 l0.length l0) (hc0 : l0.length ≤ c0) (hr1 : Kd.C k39 w A1 l1.length l1) (hc1 : l1.length ≤ c1) (h : laws_eqFile.f k l0 l1 = some r) :
  Calls Try.prog 13 #[.slice A0 l0.length c0, .slice A1 l1.length c1] w fun e w' => e = .returned (.bool r) ∧ Below w.heap.size w w' := by
 have hu39 := Try.underlying39
 have HR0 := Aside0.mk hr0
 have HC0 := Aside0.mk hc0
 clear hr0 hc0
 have HR1 := Aside0.mk hr1
 have HC1 := Aside0.mk hc1
 clear hr1 hc1
 have HB := Aside0.mk (Below.refl w.heap.size w)
 have H : (if (l0.length : Int) = (l1.length : Int) then (laws_eqFile.l0 k l0 l1 0) else (some false)) = some r := h
 clear h
 by_cases c3 : (l0.length : Int) = (l1.length : Int)
 ·rw [if_pos c3] at H
  have c3b0 : ((l0.length : Int) == (l1.length : Int)) = true := beq_iff_eq.mpr c3; have c3b1 : ((l0.length : Int) != (l1.length : Int)) = false := bne_eq_false_iff_eq.mpr c3
  have c3b2 : (l0.length == l1.length) = true := by first | simpa using c3 | (simp at c3 ⊢; omega)
  clear c3; have H' := Aside0.mk H; clear H
  go_enter Try.func13, Try.ntmps13
  go_wp2
  go_loopg [5] k (fun kq v5 w' => ∃ (x5_1 : Int), v5 = .int .i64 x5_1 ∧ Aside0 (laws_eqFile.l0 kq l0 l1 x5_1 = some r) ∧ Aside0 (kq ≤ k) ∧ Aside0 (Below w.heap.size w w'))
  case atStart => exact ⟨(0), (by first | rfl | (simp; done) | (simp [*]; done)), H', ⟨Nat.le_refl _⟩, ⟨pb HB⟩⟩
  case round =>
   clear H'
   try clear c1
   try clear p2
   try clear c3
   try clear c3b0
   try clear c3b1
   try clear c3b2
   obtain ⟨x5_1, rfl, HA, HK1, HB⟩ := hrel
   cases gk with
   | zero => exact absurd HA.out (by simp [laws_eqFile.l0])
   | succ k1 =>
    have H := HA.out; clear HA; simp only [laws_eqFile.l0] at H
    by_cases c4 : x5_1 < (l0.length : Int)
    ·rw [if_pos c4] at H
     have c4b0 : decide (x5_1 < (l0.length : Int)) = true := decide_eq_true c4; clear c4
     by_cases c5 : 0 ≤ x5_1
     ·rw [if_pos c5] at H
      have c5b0 : decide (0 ≤ x5_1) = true := decide_eq_true c5; clear c5
      by_cases c6 : x5_1 < (l1.length : Int)
      ·rw [if_pos c6] at H
       have c6b0 : decide (x5_1 < (l1.length : Int)) = true := decide_eq_true c6; clear c6; obtain ⟨t360, A7, H⟩ := obn H
       by_cases c8 : t360 = true
       ·subst c8
        have H1 : (laws_eqFile.l0 k1 l0 l1 (wrap64 (x5_1 + 1))) = some r := by rw [if_pos rfl] at H; exact H
        clear H; have H := H1; clear H1; have H' := Aside0.mk H; clear H
        try go_wp2
        replace HB := Aside0.mk (below_drew1 HB.out); have p358 : 0 ≤ (x5_1 : Int) := oda; have q358 : x5_1 < (l0.length : Int) := oda; obtain ⟨ad358, e358, hx358_0, hx358_1⟩ := at_T39 HR0.out x5_1 p358 q358; have hw358_1 := hx358_1; have hw358_0 := hx358_0; cases e358
        try replace hx358_0 := cb HB hx358_0
        try replace hx358_1 := cb HB hx358_1
        replace p358 := eq_true p358; replace q358 := eq_true q358; have p359 : 0 ≤ (x5_1 : Int) := oda; have q359 : x5_1 < (l1.length : Int) := oda; obtain ⟨ad359, e359, hx359_0, hx359_1⟩ := at_T39 HR1.out x5_1 p359 q359; have hw359_1 := hx359_1; have hw359_0 := hx359_0; cases e359
        try replace hx359_0 := cb HB hx359_0
        try replace hx359_1 := cb HB hx359_1
        replace p359 := eq_true p359; replace q359 := eq_true q359
        refine start_ (n := 10) (S := fun w' => w'.cell? (ad358.add ((x5_1).toNat * 2)) = some (.int .i8 ((rd_T39 l0 x5_1).f0)) ∧ w'.cell? ⟨(ad358.add ((x5_1).toNat * 2)).block, (ad358.add ((x5_1).toNat * 2)).off + 1, none⟩ = some (.int .i8 ((rd_T39 l0 x5_1).f1)) ∧ w'.cell? (ad359.add ((x5_1).toNat * 2)) = some (.int .i8 ((rd_T39 l1 x5_1).f0)) ∧ w'.cell? ⟨(ad359.add ((x5_1).toNat * 2)).block, (ad359.add ((x5_1).toNat * 2)).off + 1, none⟩ = some (.int .i8 ((rd_T39 l1 x5_1).f1))) (ds := []) (bA 10 0) (by kernel_rfl) rfl rfl ⟨(cb HB hw358_0), (cb HB hw358_1), (cb HB hw359_0), (cb HB hw359_1)⟩ (fun hHeld => ?_); refine with_tabW laws_eqFile.tab6 laws_eqFile.bits6 (fun HT_ HW_ => ?_)
        generalize wr.drew = w9 at HB hx358_0 hx358_1 hx359_0 hx359_1 hHeld ⊢; refine pu 0 17 10 1 HT_ ?_; refine pu 1 18 10 3 HT_ ?_; refine pu 2 19 10 7 HT_ ?_; refine pu 4 21 10 23 HT_ ?_; refine pu 5 22 10 55 HT_ ?_; refine pu 6 23 10 119 HT_ ?_; refine tk 3 20 10 127 HT_ HW_ hHeld ?_; refine tk 7 24 10 255 HT_ HW_ hHeld ?_; refine one_ (i := 8) (N := some 25) (bA 10 511) rfl rfl (one_of HT_.out (by kernel_rfl)) (by decide) (fun K hK => ?_); refine gs Try.func38 #[.agg #[.int .i8 ((rd_T39 l0 x5_1).f0), .int .i8 ((rd_T39 l0 x5_1).f1)], .agg #[.int .i8 ((rd_T39 l1 x5_1).f0), .int .i8 ((rd_T39 l1 x5_1).f1)]] ?_; with_reducible refine (laws_eqSpot.calls ((rd_T39 l0 x5_1).f0) ((rd_T39 l0 x5_1).f1) ((rd_T39 l1 x5_1).f0) ((rd_T39 l1 x5_1).f1) true _ A7.out).mono ?_
        rintro e w10 ⟨rfl, hb⟩
        refine ⟨_, rfl, ?_⟩; replace HB := bst HB hb; (try clear hb); (try clear hb2); (try clear hk); (try clear hi); refine hK.out _ _ ⟨(cb HB hw358_0), (cb HB hw358_1), (cb HB hw359_0), (cb HB hw359_1)⟩ (fun hHeld => ?_); clear hK K; refine nm 25 ?_; refine pu 9 26 10 1023 HT_ ?_; refine done_ (done_of HT_.out (by kernel_rfl)) ?_
        try go_wp2
        go_roundg k1
        case measure => have := HK1.out; omega
        case rel => exact ⟨(wrap64 (x5_1 + 1)), (by first | rfl | (simp; done) | (simp [*]; done)), H', ⟨by have := HK1.out; omega⟩, ⟨pb HB⟩⟩
       ·replace c8 := Bool.eq_false_iff.mpr c8
        subst c8
        have H1 : (some false) = some r := by rw [if_neg (show ¬ (false = true) by decide)] at H; exact H
        clear H; have H := H1; clear H1; obtain rfl := Option.some.inj H
        try go_wp2
        replace HB := Aside0.mk (below_drew1 HB.out); have p358 : 0 ≤ (x5_1 : Int) := oda; have q358 : x5_1 < (l0.length : Int) := oda; obtain ⟨ad358, e358, hx358_0, hx358_1⟩ := at_T39 HR0.out x5_1 p358 q358; have hw358_1 := hx358_1; have hw358_0 := hx358_0; cases e358
        try replace hx358_0 := cb HB hx358_0
        try replace hx358_1 := cb HB hx358_1
        replace p358 := eq_true p358; replace q358 := eq_true q358; have p359 : 0 ≤ (x5_1 : Int) := oda; have q359 : x5_1 < (l1.length : Int) := oda; obtain ⟨ad359, e359, hx359_0, hx359_1⟩ := at_T39 HR1.out x5_1 p359 q359; have hw359_1 := hx359_1; have hw359_0 := hx359_0; cases e359
        try replace hx359_0 := cb HB hx359_0
        try replace hx359_1 := cb HB hx359_1
        replace p359 := eq_true p359; replace q359 := eq_true q359
        refine start_ (n := 10) (S := fun w' => w'.cell? (ad358.add ((x5_1).toNat * 2)) = some (.int .i8 ((rd_T39 l0 x5_1).f0)) ∧ w'.cell? ⟨(ad358.add ((x5_1).toNat * 2)).block, (ad358.add ((x5_1).toNat * 2)).off + 1, none⟩ = some (.int .i8 ((rd_T39 l0 x5_1).f1)) ∧ w'.cell? (ad359.add ((x5_1).toNat * 2)) = some (.int .i8 ((rd_T39 l1 x5_1).f0)) ∧ w'.cell? ⟨(ad359.add ((x5_1).toNat * 2)).block, (ad359.add ((x5_1).toNat * 2)).off + 1, none⟩ = some (.int .i8 ((rd_T39 l1 x5_1).f1))) (ds := []) (bA 10 0) (by kernel_rfl) rfl rfl ⟨(cb HB hw358_0), (cb HB hw358_1), (cb HB hw359_0), (cb HB hw359_1)⟩ (fun hHeld => ?_); refine with_tabW laws_eqFile.tab6 laws_eqFile.bits6 (fun HT_ HW_ => ?_)
        generalize wr.drew = w11 at HB hx358_0 hx358_1 hx359_0 hx359_1 hHeld ⊢; refine pu 0 17 10 1 HT_ ?_; refine pu 1 18 10 3 HT_ ?_; refine pu 2 19 10 7 HT_ ?_; refine pu 4 21 10 23 HT_ ?_; refine pu 5 22 10 55 HT_ ?_; refine pu 6 23 10 119 HT_ ?_; refine tk 3 20 10 127 HT_ HW_ hHeld ?_; refine tk 7 24 10 255 HT_ HW_ hHeld ?_; refine one_ (i := 8) (N := some 25) (bA 10 511) rfl rfl (one_of HT_.out (by kernel_rfl)) (by decide) (fun K hK => ?_); refine gs Try.func38 #[.agg #[.int .i8 ((rd_T39 l0 x5_1).f0), .int .i8 ((rd_T39 l0 x5_1).f1)], .agg #[.int .i8 ((rd_T39 l1 x5_1).f0), .int .i8 ((rd_T39 l1 x5_1).f1)]] ?_; with_reducible refine (laws_eqSpot.calls ((rd_T39 l0 x5_1).f0) ((rd_T39 l0 x5_1).f1) ((rd_T39 l1 x5_1).f0) ((rd_T39 l1 x5_1).f1) false _ A7.out).mono ?_
        rintro e w12 ⟨rfl, hb⟩
        refine ⟨_, rfl, ?_⟩; replace HB := bst HB hb; (try clear hb); (try clear hb2); (try clear hk); (try clear hi); refine hK.out _ _ ⟨(cb HB hw358_0), (cb HB hw358_1), (cb HB hw359_0), (cb HB hw359_1)⟩ (fun hHeld => ?_); clear hK K; refine nm 25 ?_; refine pu 9 26 10 1023 HT_ ?_; refine done_ (done_of HT_.out (by kernel_rfl)) ?_
        try go_wp2
        go_ret
        exact ⟨by first | rfl | (simp [errW_none, errW_some] <;> rfl) | (simp [*, errW_none, errW_some] <;> rfl), pb HB⟩
      ·rw [if_neg c6] at H
       exact absurd H (by simp)
     ·rw [if_neg c5] at H
      exact absurd H (by simp)
    ·rw [if_neg c4] at H
     have c4b0 : decide (x5_1 < (l0.length : Int)) = false := decide_eq_false c4; clear c4; obtain rfl := Option.some.inj H
     go_wp2
     go_ret
     exact ⟨by first | rfl | (simp [errW_none, errW_some] <;> rfl) | (simp [*, errW_none, errW_some] <;> rfl), pb HB⟩
 ·rw [if_neg c3] at H
  have c3b0 : ((l0.length : Int) == (l1.length : Int)) = false := beq_eq_false_iff_ne.mpr c3; have c3b1 : ((l0.length : Int) != (l1.length : Int)) = true := bne_iff_ne.mpr c3
  have c3b2 : (l0.length == l1.length) = false := by first | simpa using c3 | (simp at c3 ⊢; omega)
  obtain rfl := Option.some.inj H
  go_enter Try.func13, Try.ntmps13
  go_wp2
  go_ret
  exact ⟨by first | rfl | (simp [errW_none, errW_some] <;> rfl) | (simp [*, errW_none, errW_some] <;> rfl), pb HB⟩
end Go.Proofs.Ytjpponjekcemjaa.PB
end
section
namespace Go.Proofs.Ytjpponjekcemjaa.PB
open Go.RowKit Go.Proofs.YtjpponjekcemjaaW.PrintWords Go.Proofs.YtjpponjekcemjaaW.PrintLast Go.Proofs.YtjpponjekcemjaaW.PrintMore Go.Proofs.Ytjpponjekcemjaa.La
attribute [local go_sem] max2_int min2_int max_two min_two max_three min_three max_four min_four   -- for this text's walks alone
set_option linter.unusedVariables false
set_option linter.unusedSimpArgs false
def laws_szSpotS.f (l0 : List (S29)) (a1 : Int) : Option (Int) := if (wrap64 (a1 - (l0.length : Int))) < 0 then (some (-1)) else (some (wrap64 (a1 - (l0.length : Int))))
set_option maxHeartbeats 8000000 in
set_option maxRecDepth 100000 in
theorem laws_szSpotS.calls (A0 : Option Addr) (c0 : Nat) (l0 : List (S29)) (a1 : Int) (r : Int) (w : World) (hr0 : Kd.C k29 w A0 l0.length l0) (hc0 : l0.length ≤ c0) (h : laws_szSpotS.f l0 a1 = some r) :
  Calls Try.prog 17 #[.slice A0 l0.length c0, .int .i64 a1] w fun e w' => e = .returned (.int .i64 r) ∧ Drawn0 w w' := by
 have HR0 := Aside0.mk hr0
 have HC0 := Aside0.mk hc0
 clear hr0 hc0
 have H : (if (wrap64 (a1 - (l0.length : Int))) < 0 then (some (-1)) else (some (wrap64 (a1 - (l0.length : Int))))) = some r := h
 clear h
 by_cases c3 : (wrap64 (a1 - (l0.length : Int))) < 0
 ·rw [if_pos c3] at H
  have c3b0 : decide ((wrap64 (a1 - (l0.length : Int))) < 0) = true := decide_eq_true c3; clear c3; obtain rfl := Option.some.inj H
  go_enter Try.func17, Try.ntmps17
  go_wp2
  go_ret
  exact ⟨by first | rfl | (simp; done) | (simp [*]; done), by repeat (first | exact Drawn0.refl _ | apply Drawn0.step)⟩
 ·rw [if_neg c3] at H
  have c3b0 : decide ((wrap64 (a1 - (l0.length : Int))) < 0) = false := decide_eq_false c3; clear c3; obtain rfl := Option.some.inj H
  go_enter Try.func17, Try.ntmps17
  go_wp2
  go_ret
  exact ⟨by first | rfl | (simp; done) | (simp [*]; done), by repeat (first | exact Drawn0.refl _ | apply Drawn0.step)⟩
mutual
def spec_LeadAll.l0 : Nat → List (S39) → List (S39) → Int → List Int → Int → Int → Int → LA 10 → Option (List Int × Int)
 | 0, _, _, _, _, _, _, _, _ => none
 | k + 1, x1, x2, x3, x10, x11, x421000, x421001, x421002 => if x11 < (x2.length : Int) then (if 0 ≤ x11 then ((spec_LeadTo.f k x421000 x421001 x421002 x1 ((rd_T39 x2 x11).f0) ((rd_T39 x2 x11).f1) x3).bind fun bt432 => (if bt432.2.2 = 0 then (spec_LeadAll.l1 k x1 x2 x3 x10 x11 bt432.1 0 x421000 x421001 x421002) else (some ((([] : List Int)), bt432.2.2)))) else (none)) else (some (x10, 0))
def spec_LeadAll.l1 : Nat → List (S39) → List (S39) → Int → List Int → Int → List Int → Int → Int → Int → LA 10 → Option (List Int × Int)
 | 0, _, _, _, _, _, _, _, _, _, _ => none
 | k + 1, x1, x2, x3, x10, x11, x12, x15, x421000, x421001, x421002 => if x15 < (x12.length : Int) then (if 0 ≤ x15 then ((spec_l02Made.f k x1 (rd x12 x15)).bind fun t441 => (spec_LeadAll.l1 k t441 x2 x3 x10 x11 x12 (wrap64 (x15 + 1)) x421000 x421001 x421002)) else (none)) else (if x10.length + x12.length < 17592186044416 then ((some (x10 ++ x12 : List Int)).bind fun y444 => (if (y444.length : Int) > 60 then (some ((([] : List Int)), 3)) else (spec_LeadAll.l0 k x1 x2 x3 y444 (wrap64 (x11 + 1)) x421000 x421001 x421002))) else (none))
end
def spec_LeadAll.f (k : Nat) (a0_0 : Int) (a0_1 : Int) (a0_2 : LA 10) (l1 : List (S39)) (l2 : List (S39)) (a3 : Int) : Option (List Int × Int) := (spec_l02Ok.f k a0_0 a0_1 a0_2 l1).bind fun t421 => (if t421 = true then (if (l2.length : Int) > 10 then (some ((([] : List Int)), 3)) else (spec_LeadAll.l0 k l1 l2 a3 (([] : List Int)) 0 a0_0 a0_1 a0_2)) else (some ((([] : List Int)), 1)))
theorem spec_LeadAll.mono_l : ∀ k, (∀ y0 y1 y2 y3 y4 y5 y6 y7, LeO (spec_LeadAll.l0 k y0 y1 y2 y3 y4 y5 y6 y7) (spec_LeadAll.l0 (k + 1) y0 y1 y2 y3 y4 y5 y6 y7)) ∧ (∀ y0 y1 y2 y3 y4 y5 y6 y7 y8 y9, LeO (spec_LeadAll.l1 k y0 y1 y2 y3 y4 y5 y6 y7 y8 y9) (spec_LeadAll.l1 (k + 1) y0 y1 y2 y3 y4 y5 y6 y7 y8 y9))
 | 0 => ⟨fun _ _ _ _ _ _ _ _ r h => by simp [spec_LeadAll.l0] at h, fun _ _ _ _ _ _ _ _ _ _ r h => by simp [spec_LeadAll.l1] at h⟩
 | k + 1 => by
  obtain ⟨ih0, ih1⟩ := spec_LeadAll.mono_l k; refine ⟨?_, ?_⟩
  ·intro y0 y1 y2 y3 y4 y5 y6 y7
   unfold spec_LeadAll.l0
   repeat' first
   | (with_reducible exact ih0 _ _ _ _ _ _ _ _)
   | (with_reducible exact ih1 _ _ _ _ _ _ _ _ _ _)
   | (with_reducible exact spec_LeadTo.mono _ _ _ _ _ _ _ _)
   | (with_reducible exact spec_l02Made.mono _ _ _)
   | (with_reducible exact spec_l02Ok.mono _ _ _ _ _)
   | (with_reducible exact LeO.refl _)
   | (with_reducible exact LeO.none _)
   | (with_reducible refine LeO.ite ?_ ?_)
   | (with_reducible refine LeO.bind ?_ (fun _ => ?_))
   | exact ih0 _ _ _ _ _ _ _ _
   | exact ih1 _ _ _ _ _ _ _ _ _ _
   | exact spec_LeadTo.mono _ _ _ _ _ _ _ _
   | exact spec_l02Made.mono _ _ _
   | exact spec_l02Ok.mono _ _ _ _ _
   | exact LeO.none _
   | refine LeO.ite ?_ ?_
   | refine LeO.bind ?_ (fun _ => ?_)
  ·intro y0 y1 y2 y3 y4 y5 y6 y7 y8 y9
   unfold spec_LeadAll.l1
   repeat' first
   | (with_reducible exact ih0 _ _ _ _ _ _ _ _)
   | (with_reducible exact ih1 _ _ _ _ _ _ _ _ _ _)
   | (with_reducible exact spec_LeadTo.mono _ _ _ _ _ _ _ _)
   | (with_reducible exact spec_l02Made.mono _ _ _)
   | (with_reducible exact spec_l02Ok.mono _ _ _ _ _)
   | (with_reducible exact LeO.refl _)
   | (with_reducible exact LeO.none _)
   | (with_reducible refine LeO.ite ?_ ?_)
   | (with_reducible refine LeO.bind ?_ (fun _ => ?_))
   | exact ih0 _ _ _ _ _ _ _ _
   | exact ih1 _ _ _ _ _ _ _ _ _ _
   | exact spec_LeadTo.mono _ _ _ _ _ _ _ _
   | exact spec_l02Made.mono _ _ _
   | exact spec_l02Ok.mono _ _ _ _ _
   | exact LeO.none _
   | refine LeO.ite ?_ ?_
   | refine LeO.bind ?_ (fun _ => ?_)
theorem spec_LeadAll.mono : ∀ a0 a1 a2 a3 a4 a5 k, LeO (spec_LeadAll.f k a0 a1 a2 a3 a4 a5) (spec_LeadAll.f (k + 1) a0 a1 a2 a3 a4 a5) := by
 intro a0 a1 a2 a3 a4 a5 k
 obtain ⟨ih0, ih1⟩ := spec_LeadAll.mono_l k
 unfold spec_LeadAll.f
 repeat' first
   | (with_reducible exact ih0 _ _ _ _ _ _ _ _)
   | (with_reducible exact ih1 _ _ _ _ _ _ _ _ _ _)
   | (with_reducible exact spec_LeadTo.mono _ _ _ _ _ _ _ _)
   | (with_reducible exact spec_l02Made.mono _ _ _)
   | (with_reducible exact spec_l02Ok.mono _ _ _ _ _)
   | (with_reducible exact LeO.refl _)
   | (with_reducible exact LeO.none _)
   | (with_reducible refine LeO.ite ?_ ?_)
   | (with_reducible refine LeO.bind ?_ (fun _ => ?_))
   | exact ih0 _ _ _ _ _ _ _ _
   | exact ih1 _ _ _ _ _ _ _ _ _ _
   | exact spec_LeadTo.mono _ _ _ _ _ _ _ _
   | exact spec_l02Made.mono _ _ _
   | exact spec_l02Ok.mono _ _ _ _ _
   | exact LeO.none _
   | refine LeO.ite ?_ ?_
   | refine LeO.bind ?_ (fun _ => ?_)
def spec_LeadAll.T9 : Bool × List (List Nat × List Nat) := (true, [([], []), ([], []), ([], []), ([], []), ([2, 3], [2, 3]), ([4], [4]), ([], []), ([0, 1, 5, 6], [0, 1, 5, 6]), ([7], [7]), ([8], [8]), ([8], [8]), ([8], [8]), ([9, 7, 0, 1, 2, 3, 4, 5, 6, 7, 8, 9], [9]), ([10, 12, 0, 1, 2, 3, 4, 5, 6, 7, 8, 9, 10, 12], [10]), ([11, 13, 0, 1, 2, 3, 4, 5, 6, 7, 8, 9, 10, 11, 12, 13], [11])])
def spec_LeadAll.B9 : List Nat := [0, 0, 0, 0, 12, 28, 0, 127, 255, 511, 511, 511, 1023, 6143, 16383]
theorem spec_LeadAll.tab9 : rtab .any (opsOf Try.f18 9) = spec_LeadAll.T9 := by kernel_rfl
theorem spec_LeadAll.bits9 : waitsOk spec_LeadAll.T9.2 spec_LeadAll.B9 = true := by kernel_rfl
set_option maxHeartbeats 8000000 in
set_option maxRecDepth 100000 in
theorem spec_LeadAll.calls (k : Nat) (a0_0 : Int) (a0_1 : Int) (a0_2 : LA 10) (P1_ : Nat → Prop) (A1 : Option Addr) (c1 : Nat) (l1 : List (S39)) (A2 : Option Addr) (c2 : Nat) (l2 : List (S39)) (a3 : Int) (r1 : List Int) (r2 : Int) (w : World) (hs1 : Kd.V k39 39 w w.heap.size (fun k_ => P1_ k_) (.slice A1 l1.length c1) l1) (hr2 : Kd.C k39 w A2 l2.length l2) (hc2 : l2.length ≤ c2) (h : spec_LeadAll.f k a0_0 a0_1 a0_2 l1 l2 a3 = some (r1, r2)) :
  Calls Try.prog 18 #[.agg (mixA (Value.int .u16) [.int .i8 a0_0, .int .i8 a0_1] a0_2), .slice A1 l1.length c1, .slice A2 l2.length c2, .int .i64 a3] w fun e w' => ∃ v0_ : Value, e = .returned (.tuple #[v0_, .int .i64 r2]) ∧ Kd.R (Kd.int .i64) 2 w' w.heap.size (fun k_ => (w.heap.size ≤ k_)) v0_ r1 ∧ Below w.heap.size w w' := by
 have hu34 := Try.underlying34
 have hu39 := Try.underlying39
 have HO1 := Aside0.mk (show Kd.V k39 39 w w.heap.size (fun k_ => (P1_ k_ ∨ w.heap.size ≤ k_)) (.slice A1 l1.length c1) l1 from Kd.V_mono hs1 (fun k_ hk => .inl hk))
 have HR2 := Aside0.mk hr2
 have HC2 := Aside0.mk hc2
 clear hr2 hc2
 have HB := Aside0.mk (Below.refl w.heap.size w)
 have H : ((spec_l02Ok.f k a0_0 a0_1 a0_2 l1).bind fun t421 => (if t421 = true then (if (l2.length : Int) > 10 then (some ((([] : List Int)), 3)) else (spec_LeadAll.l0 k l1 l2 a3 (([] : List Int)) 0 a0_0 a0_1 a0_2)) else (some ((([] : List Int)), 1)))) = some (r1, r2) := h
 clear h
 replace H := Option.bind_eq_some_iff.mp H
 obtain ⟨t421, A50, H⟩ := H
 replace H : (if t421 = true then (if (l2.length : Int) > 10 then (some ((([] : List Int)), 3)) else (spec_LeadAll.l0 k l1 l2 a3 (([] : List Int)) 0 a0_0 a0_1 a0_2)) else (some ((([] : List Int)), 1))) = some (r1, r2) := H
 have A5 := Aside0.mk A50
 clear A50
 by_cases c6 : t421 = true
 ·subst c6
  have H1 : (if (l2.length : Int) > 10 then (some ((([] : List Int)), 3)) else (spec_LeadAll.l0 k l1 l2 a3 (([] : List Int)) 0 a0_0 a0_1 a0_2)) = some (r1, r2) := by rw [if_pos rfl] at H; exact H
  clear H; have H := H1; clear H1
  by_cases c7 : (l2.length : Int) > 10
  ·rw [if_pos c7] at H
   have c7b0 : decide (10 < (l2.length : Int)) = true := decide_eq_true c7; have c7b1 : decide (10 < l2.length) = true := decide_eq_true (by omega); clear c7; obtain ⟨y425, hy425⟩ : ∃ y_ : List Int, y_ = (([] : List Int)) := ⟨_, rfl⟩
   replace H : (some (y425, 3)) = some (r1, r2) := by first | (rw [hy425]; with_reducible exact H) | (have H2_ := (Option.bind_some _ _).symm.trans H; rw [hy425]; with_reducible exact H2_) | (have H2_ := (Option.bind_some _ _).symm.trans H; with_reducible exact H2_) | with_reducible exact H | (rw [hy425]; exact H) | exact H
   have Ny425 := Aside0.mk hy425; clear hy425; simp only [Option.some.injEq, Prod.mk.injEq] at H; obtain ⟨rfl, rfl⟩ := H
   go_enter Try.func18, Try.ntmps18
   go_wp2_with (first | ((with_reducible refine gate_dst (N := 4) rfl ?_); refine box_event ?hg (N := 4) ?hd (cs := (mixA (Value.int .u16) [.int .i8 a0_0, .int .i8 a0_1] a0_2)) (t := 34) ?hr ?_; (case hd => rfl); (case hg => rfl); (case hr => first | (go_simp; done) | (go_simp; rfl)); intro gb420 hg w8 hbox hb; have n0_ := Aside0.mk (Kd.V_below (Kd.V_elderB (by (with_reducible repeat (first | apply Kd.V_alloc | apply Kd.V_drewN | apply Kd.V_drew)); exact HO1.out) gb420 (Nat.le_of_eq hg.symm)) hb); have n1_ := bst HB hb; have n2_ := Aside0.mk (hbox); have n3_ := gwl HB hg; have n4_ := gwl HB hg; clear HO1; clear HB; have HO1 := n0_; have HB := n1_; have BK420 := n2_; have GW420 := n3_; have GE420 := n4_; clear n0_ n1_ n2_ n3_ n4_; clear hb hbox hg) | ((with_reducible refine gate_callee (f := 29) rfl ?_); refine gl (some 17) Try.func29 #[.pointer (some ⟨gb420, 0, none⟩), .slice A1 l1.length c1] ?_; (with_reducible refine (spec_l02Ok.calls k gb420 a0_0 a0_1 a0_2 _ _ l1 true _ ?side1 ?side2 ?side3 A5.out).mono ?_); (case side1 => exact (pk BK420)); (case side2 => repeat (first | exact (Kd.V_reads' HO1.out).2.2 | (with_reducible refine Kd.C_alloc ?_ _) | (with_reducible refine Kd.C_drewN ?_ _) | (with_reducible refine Kd.C_drew ?_))); (case side3 => exact (Kd.V_reads' HO1.out).2.1); rintro e w9 ⟨rfl, hb⟩; refine ⟨_, rfl, ?_⟩; replace HO1 := Aside0.mk (Kd.V_below (by (with_reducible repeat (first | apply Kd.V_alloc | apply Kd.V_drewN | apply Kd.V_drew)); exact HO1.out) hb); replace BK420 := bkb BK420 hb; replace HB := bst HB hb; (try clear hb); (try clear hb2); (try clear hk); (try clear hi)) | ((with_reducible refine gate_dst (N := 23) rfl ?_); refine Kd.R_lit (Kd.int .i64) _ 2 ?hg (N := 23) ?hd (xs := ([] : List Int)) (inner := []) (ok := fun _ => True) (okp := fun _ => True) ?hr ?hp (fun _ hk => hk) trivial (Below.refl _ _) (Nat.le_refl _) (by simp) ?_; (case hd => rfl); (case hg => rfl); (case hr => first | (go_simp; done) | (go_simp; rfl)); (case hp => exact (Reps.none _ _)); intro v426 w10 ho11 hb hg_ hnew_; clear hg_ hnew_; (first | rw [← Ny425.out] at ho11 | (simp only [Int.reduceToNat] at ho11; rw [← Ny425.out] at ho11)); replace HO1 := Aside0.mk (Kd.V_elder' (by (with_reducible repeat (first | apply Kd.V_alloc | apply Kd.V_drewN | apply Kd.V_drew)); exact HO1.out) (Kd.R_base ho11) hb); have HO427 := Aside0.mk (Kd.R_lower (Kd.R_newM (M := fun k_ => (w.heap.size ≤ k_)) ho11 (below_size (by repeat (first | (with_reducible first | exact HB.out | apply below_alloc | apply pw_below_drewN | apply below_drew1 | refine below_set ?_ GE420.out) | exact HB.out))) (fun k_ h_ => h_)) (below_size (by repeat (first | (with_reducible first | exact HB.out | apply below_alloc | apply pw_below_drewN | apply below_drew1 | refine below_set ?_ GE420.out) | exact HB.out)))); replace BK420 := bkb BK420 hb; replace HB := bst HB hb; clear hb ho11))
   go_ret2
   exact ⟨_, by first | rfl | (simp [errW_none, errW_some] <;> rfl) | (simp [*, errW_none, errW_some] <;> rfl), by (with_reducible repeat (first | apply Kd.R_alloc | apply Kd.R_drewN | apply Kd.R_drew)); exact Kd.R_mono HO427.out (fun _ hk => hk.1), pbs HB⟩
  ·rw [if_neg c7] at H
   have c7b0 : decide (10 < (l2.length : Int)) = false := decide_eq_false c7; have c7b1 : decide (10 < l2.length) = false := decide_eq_false (by omega); clear c7; obtain ⟨y428, hy428⟩ : ∃ y_ : List Int, y_ = (([] : List Int)) := ⟨_, rfl⟩
   replace H : (spec_LeadAll.l0 k l1 l2 a3 y428 0 a0_0 a0_1 a0_2) = some (r1, r2) := by first | (rw [hy428]; with_reducible exact H) | (have H2_ := (Option.bind_some _ _).symm.trans H; rw [hy428]; with_reducible exact H2_) | (have H2_ := (Option.bind_some _ _).symm.trans H; with_reducible exact H2_) | with_reducible exact H | (rw [hy428]; exact H) | exact H
   have Ny428 := Aside0.mk hy428; clear hy428; have H' := Aside0.mk H; clear H
   go_enter Try.func18, Try.ntmps18
   go_wp2_with (first | ((with_reducible refine gate_dst (N := 4) rfl ?_); refine box_event ?hg (N := 4) ?hd (cs := (mixA (Value.int .u16) [.int .i8 a0_0, .int .i8 a0_1] a0_2)) (t := 34) ?hr ?_; (case hd => rfl); (case hg => rfl); (case hr => first | (go_simp; done) | (go_simp; rfl)); intro gb420 hg w12 hbox hb; have n0_ := Aside0.mk (Kd.V_below (Kd.V_elderB (by (with_reducible repeat (first | apply Kd.V_alloc | apply Kd.V_drewN | apply Kd.V_drew)); exact HO1.out) gb420 (Nat.le_of_eq hg.symm)) hb); have n1_ := bst HB hb; have n2_ := Aside0.mk (hbox); have n3_ := gwl HB hg; have n4_ := gwl HB hg; clear HO1; clear HB; have HO1 := n0_; have HB := n1_; have BK420 := n2_; have GW420 := n3_; have GE420 := n4_; clear n0_ n1_ n2_ n3_ n4_; clear hb hbox hg) | ((with_reducible refine gate_callee (f := 29) rfl ?_); refine gl (some 17) Try.func29 #[.pointer (some ⟨gb420, 0, none⟩), .slice A1 l1.length c1] ?_; (with_reducible refine (spec_l02Ok.calls k gb420 a0_0 a0_1 a0_2 _ _ l1 true _ ?side1 ?side2 ?side3 A5.out).mono ?_); (case side1 => exact (pk BK420)); (case side2 => repeat (first | exact (Kd.V_reads' HO1.out).2.2 | (with_reducible refine Kd.C_alloc ?_ _) | (with_reducible refine Kd.C_drewN ?_ _) | (with_reducible refine Kd.C_drew ?_))); (case side3 => exact (Kd.V_reads' HO1.out).2.1); rintro e w13 ⟨rfl, hb⟩; refine ⟨_, rfl, ?_⟩; replace HO1 := Aside0.mk (Kd.V_below (by (with_reducible repeat (first | apply Kd.V_alloc | apply Kd.V_drewN | apply Kd.V_drew)); exact HO1.out) hb); replace BK420 := bkb BK420 hb; replace HB := bst HB hb; (try clear hb); (try clear hb2); (try clear hk); (try clear hi)) | ((with_reducible refine gate_dst (N := 24) rfl ?_); refine Kd.R_lit (Kd.int .i64) _ 2 ?hg (N := 24) ?hd (xs := ([] : List Int)) (inner := []) (ok := fun _ => True) (okp := fun _ => True) ?hr ?hp (fun _ hk => hk) trivial (Below.refl _ _) (Nat.le_refl _) (by simp) ?_; (case hd => rfl); (case hg => rfl); (case hr => first | (go_simp; done) | (go_simp; rfl)); (case hp => exact (Reps.none _ _)); intro v429 w14 ho15 hb hg_ hnew_; clear hg_ hnew_; (first | rw [← Ny428.out] at ho15 | (simp only [Int.reduceToNat] at ho15; rw [← Ny428.out] at ho15)); replace HO1 := Aside0.mk (Kd.V_elder' (by (with_reducible repeat (first | apply Kd.V_alloc | apply Kd.V_drewN | apply Kd.V_drew)); exact HO1.out) (Kd.R_base ho15) hb); have HO430 := Aside0.mk (Kd.R_lower (Kd.R_newM (M := fun k_ => (w.heap.size ≤ k_)) ho15 (below_size (by repeat (first | (with_reducible first | exact HB.out | apply below_alloc | apply pw_below_drewN | apply below_drew1 | refine below_set ?_ GE420.out) | exact HB.out))) (fun k_ h_ => h_)) (below_size (by repeat (first | (with_reducible first | exact HB.out | apply below_alloc | apply pw_below_drewN | apply below_drew1 | refine below_set ?_ GE420.out) | exact HB.out)))); replace BK420 := bkb BK420 hb; replace HB := bst HB hb; clear hb ho15))
   go_loopg [1, 10, 11] k (fun kq v1 v10 v11 w' => ∃ (x1_1 : List (S39)) (x10_1 : List Int) (x11_1 : Int), v11 = .int .i64 x11_1 ∧ Aside0 (spec_LeadAll.l0 kq x1_1 l2 a3 x10_1 x11_1 a0_0 a0_1 a0_2 = some (r1, r2)) ∧ Aside0 (kq ≤ k) ∧ Aside0 (Kd.V k39 39 w' w.heap.size (fun k_ => (P1_ k_ ∨ w.heap.size ≤ k_) ∧ some k_ ≠ (v10 : Value).ownBlock ∧ k_ ≠ gb420) v1 x1_1) ∧ Aside0 (Kd.R (Kd.int .i64) 2 w' w.heap.size (fun k_ => (w.heap.size ≤ k_)) v10 x10_1) ∧ Aside0 (w'.heap[gb420]? = some (.cells (mixA (Value.int .u16) [.int .i8 a0_0, .int .i8 a0_1] a0_2) 34 (0, 0))) ∧ Aside0 (Below w.heap.size w w'))
   case atStart => exact ⟨(l1), (y428), (0), (by first | rfl | (simp; done) | (simp [*]; done)), H', ⟨Nat.le_refl _⟩, ⟨by (with_reducible repeat (first | apply Kd.V_alloc | apply Kd.V_drewN | apply Kd.V_drew)); exact Kd.V_mono HO1.out (fun _ hk => ⟨hk.1.1, ⟨hk.2, hk.1.2⟩⟩)⟩, ⟨by (with_reducible repeat (first | apply Kd.R_alloc | apply Kd.R_drewN | apply Kd.R_drew)); exact Kd.R_mono HO430.out (fun _ hk => hk.1)⟩, ⟨pk BK420⟩, ⟨pbs HB⟩⟩
   case round =>
    clear H'
    try clear c1
    try clear c2
    try clear p2
    try clear c6
    try clear c7
    try clear c7b0
    try clear c7b1
    obtain ⟨x1_1, x10_1, x11_1, rfl, HA, HK1, HO_1, HO_10, BK420, HB⟩ := hrel
    cases gk with
    | zero => exact absurd HA.out (by simp [spec_LeadAll.l0])
    | succ k1 =>
     have H := HA.out; clear HA; simp only [spec_LeadAll.l0] at H
     by_cases c16 : x11_1 < (l2.length : Int)
     ·rw [if_pos c16] at H
      have c16b0 : decide (x11_1 < (l2.length : Int)) = true := decide_eq_true c16; clear c16
      by_cases c17 : 0 ≤ x11_1
      ·rw [if_pos c17] at H
       have c17b0 : decide (0 ≤ x11_1) = true := decide_eq_true c17; clear c17; replace H := Option.bind_eq_some_iff.mp H; obtain ⟨⟨t432, t435, t436⟩, A180, H⟩ := H; replace H : (if t436 = 0 then (spec_LeadAll.l1 k1 x1_1 l2 a3 x10_1 x11_1 t432 0 a0_0 a0_1 a0_2) else (some ((([] : List Int)), t436))) = some (r1, r2) := H; have A18 := Aside0.mk A180; clear A180
       by_cases c19 : t436 = 0
       ·rw [if_pos c19] at H
        have c19b0 : (t436 == 0) = true := beq_iff_eq.mpr c19; have c19b1 : (t436 != 0) = false := bne_eq_false_iff_eq.mpr c19; clear c19; have H' := Aside0.mk H; clear H
        try go_wp2
        replace HO_1 := Aside0.mk (Kd.V_drew HO_1.out); replace HO_10 := Aside0.mk (Kd.R_drew HO_10.out); replace BK420 := Aside0.mk (blk_drew BK420.out); replace HB := Aside0.mk (below_drew1 HB.out); have p431 : 0 ≤ (x11_1 : Int) := oda; have q431 : x11_1 < (l2.length : Int) := oda; obtain ⟨ad431, e431, hx431_0, hx431_1⟩ := at_T39 HR2.out x11_1 p431 q431; have hw431_1 := hx431_1; have hw431_0 := hx431_0; cases e431
        try replace hx431_0 := cb HB hx431_0
        try replace hx431_1 := cb HB hx431_1
        replace p431 := eq_true p431; replace q431 := eq_true q431; obtain ⟨Ao21, co21, eo21⟩ := Kd.V_slice HO_1.out; (first | subst eo21 | (injection eo21 with f1_ f2_ f3_; have f4_ := f1_.symm; have f5_ := f3_.symm; clear f1_ f2_ f3_; subst f4_; subst f5_))
        refine start_ (n := 15) (S := fun w' => World.rangeAt w' gb420 0 ([.int .i8 a0_0, .int .i8 a0_1] ++ a0_2.l.map (Value.int .u16)) ∧ w'.cell? (ad431.add ((x11_1).toNat * 2)) = some (.int .i8 ((rd_T39 l2 x11_1).f0)) ∧ w'.cell? ⟨(ad431.add ((x11_1).toNat * 2)).block, (ad431.add ((x11_1).toNat * 2)).off + 1, none⟩ = some (.int .i8 ((rd_T39 l2 x11_1).f1))) (ds := []) (bA 15 0) (by kernel_rfl) rfl rfl ⟨mix_range BK420.out, (cb HB hw431_0), (cb HB hw431_1)⟩ (fun hHeld => ?_); refine with_tabW spec_LeadAll.tab9 spec_LeadAll.bits9 (fun HT_ HW_ => ?_)
        generalize wr.drew = w20 at HO_1 HO_10 BK420 HB hx431_0 hx431_1 hHeld ⊢; refine pu 1 33 15 2 HT_ ?_; refine pu 2 34 15 6 HT_ ?_; refine pu 3 35 15 14 HT_ ?_; refine pu 4 36 15 30 HT_ ?_; refine pu 6 38 15 94 HT_ ?_; refine take_ (i := 0) (N := some 32) (v := ?_) (a' := ?_) (bA 15 95) rfl rfl (take_ofW HT_.out HW_.out (by kernel_rfl)) (fun _ _ _ h => h) (Or.inl ⟨by rfl, ?_⟩) hHeld ?_ ?_; rotate_left
        ·rintro w' ⟨s0, s1, s2⟩
         refine load_mix_run (P := Try.prog) 34 (.tmp 4) ?_ gb420 ?_ s0 Try.underlying34 rfl (by kernel_rfl) rfl
         all_goals rfl
        rotate_left
        ·simp only [Act.put, List.setIfInBounds_toArray, List.set_cons_zero, List.set_cons_succ, i64_w, i32_w]
         rfl
        refine tk 5 37 15 127 HT_ HW_ hHeld ?_; refine one_ (i := 7) (N := some 39) (bA 15 255) rfl rfl (one_of HT_.out (by kernel_rfl)) (by decide) (fun K hK => ?_); refine gs Try.func7 #[.agg (mixA (Value.int .u16) [.int .i8 a0_0, .int .i8 a0_1] a0_2), .slice Ao21 x1_1.length co21, .agg #[.int .i8 ((rd_T39 l2 x11_1).f0), .int .i8 ((rd_T39 l2 x11_1).f1)], .int .i64 a3] ?_; with_reducible refine (spec_LeadTo.calls k1 a0_0 a0_1 a0_2 _ _ x1_1 ((rd_T39 l2 x11_1).f0) ((rd_T39 l2 x11_1).f1) a3 t432 t435 t436 _ ?side1 ?side2 A18.out).mono ?_; (case side1 => repeat (first | exact (Kd.V_reads' HO_1.out).2.2 | (with_reducible refine Kd.C_alloc ?_ _) | (with_reducible refine Kd.C_drewN ?_ _) | (with_reducible refine Kd.C_drew ?_))); (case side2 => exact (Kd.V_reads' HO_1.out).2.1)
        rintro e w22 ⟨v433, rfl, ho0, hb⟩
        refine ⟨_, rfl, ?_⟩; have n0_ := Aside0.mk (Kd.V_elder' (by (with_reducible repeat (first | apply Kd.V_alloc | apply Kd.V_drewN | apply Kd.V_drew)); exact HO_1.out) (Kd.R_base ho0) hb); have n1_ := Aside0.mk (Kd.R_elder' (by (with_reducible repeat (first | apply Kd.R_alloc | apply Kd.R_drewN | apply Kd.R_drew)); exact HO_10.out) (Kd.R_base ho0) hb); have n2_ := Aside0.mk (Kd.R_lower (Kd.R_new' (Kd.R_newM (M := fun k_ => (w.heap.size ≤ k_)) ho0 (below_size (by repeat (first | (with_reducible first | exact HB.out | apply below_alloc | apply pw_below_drewN | apply below_drew1 | refine below_set ?_ GE420.out) | exact HB.out))) (fun k_ h_ => h_)) (Kd.R_lt (by (with_reducible repeat (first | apply Kd.R_alloc | apply Kd.R_drewN | apply Kd.R_drew)); exact HO_10.out))) (below_size (by repeat (first | (with_reducible first | exact HB.out | apply below_alloc | apply pw_below_drewN | apply below_drew1 | refine below_set ?_ GE420.out) | exact HB.out)))); have n3_ := bkb BK420 hb; have n4_ := bst HB hb; clear HO_1; clear HO_10; clear BK420; clear HB; have HO_1 := n0_; have HO_10 := n1_; have HO434 := n2_; have BK420 := n3_; have HB := n4_; clear n0_ n1_ n2_ n3_ n4_; (try clear hb); (try clear hb2); (try clear hk); (try clear hi); (try clear ho0); refine hK.out _ _ ⟨mix_range BK420.out, (cb HB hw431_0), (cb HB hw431_1)⟩ (fun hHeld => ?_); clear hK K; refine nm 39 ?_; refine pu 8 31 15 511 HT_ ?_; refine pu 9 40 15 1023 HT_ ?_; refine pu 10 41 15 2047 HT_ ?_; refine pu 11 42 15 4095 HT_ ?_; refine pu 12 12 15 8191 HT_ ?_; refine pu 13 13 15 16383 HT_ ?_; refine pu 14 14 15 32767 HT_ ?_; refine done_ (done_of HT_.out (by kernel_rfl)) ?_
        try go_wp2
        go_loopg [1, 15] k1 (fun kq v1 v15 w' => ∃ (x1_2 : List (S39)) (x15_2 : Int), v15 = .int .i64 x15_2 ∧ Aside0 (spec_LeadAll.l1 kq x1_2 l2 a3 x10_1 x11_1 t432 x15_2 a0_0 a0_1 a0_2 = some (r1, r2)) ∧ Aside0 (kq ≤ k1) ∧ Aside0 (Kd.V k39 39 w' w.heap.size (fun k_ => (P1_ k_ ∨ w.heap.size ≤ k_) ∧ some k_ ≠ (u10 : Value).ownBlock ∧ some k_ ≠ (v433 : Value).ownBlock ∧ k_ ≠ gb420) v1 x1_2) ∧ Aside0 (Kd.R (Kd.int .i64) 2 w' w.heap.size (fun k_ => (w.heap.size ≤ k_) ∧ some k_ ≠ (v433 : Value).ownBlock) u10 x10_1) ∧ Aside0 (Kd.R (Kd.int .i64) 2 w' w.heap.size (fun k_ => (w.heap.size ≤ k_) ∧ some k_ ≠ (u10 : Value).ownBlock) v433 t432) ∧ Aside0 (w'.heap[gb420]? = some (.cells (mixA (Value.int .u16) [.int .i8 a0_0, .int .i8 a0_1] a0_2) 34 (0, 0))) ∧ Aside0 (Below w.heap.size w w'))
        case atStart => exact ⟨(x1_1), (0), (by first | rfl | (simp; done) | (simp [*]; done)), H', ⟨Nat.le_refl _⟩, ⟨by (with_reducible repeat (first | apply Kd.V_alloc | apply Kd.V_drewN | apply Kd.V_drew)); exact Kd.V_mono HO_1.out (fun _ hk => ⟨hk.1.1, ⟨hk.1.2.1, ⟨hk.2, hk.1.2.2⟩⟩⟩)⟩, ⟨by (with_reducible repeat (first | apply Kd.R_alloc | apply Kd.R_drewN | apply Kd.R_drew)); exact HO_10.out⟩, ⟨by (with_reducible repeat (first | apply Kd.R_alloc | apply Kd.R_drewN | apply Kd.R_drew)); exact Kd.R_mono HO434.out (fun _ hk => ⟨hk.1.1, hk.2⟩)⟩, ⟨pk BK420⟩, ⟨pbs HB⟩⟩
        case round =>
         clear H'
         try clear c1
         try clear c2
         try clear p2
         try clear p4
         try clear q4
         try clear hx4
         try clear c6
         try clear c7
         try clear c7b0
         try clear c7b1
         try clear c16
         try clear c16b0
         try clear c17
         try clear c17b0
         try clear c18
         try clear c19
         try clear c19b0
         try clear c19b1
         try clear hx431_0
         try clear hx431_1
         try clear p2
         try clear p431
         try clear q431
         obtain ⟨x1_2, x15_2, rfl, HA, HK2, HO_1, HO_10, HO_12, BK420, HB⟩ := hrel
         cases gk with
         | zero => exact absurd HA.out (by simp [spec_LeadAll.l1])
         | succ k2 =>
          have H := HA.out; clear HA; simp only [spec_LeadAll.l1] at H
          by_cases c24 : x15_2 < (t432.length : Int)
          ·rw [if_pos c24] at H
           have c24b0 : decide (x15_2 < (t432.length : Int)) = true := decide_eq_true c24; clear c24
           by_cases c25 : 0 ≤ x15_2
           ·rw [if_pos c25] at H
            have c25b0 : decide (0 ≤ x15_2) = true := decide_eq_true c25; clear c25; replace H := Option.bind_eq_some_iff.mp H; obtain ⟨t441, A260, H⟩ := H; replace H : (spec_LeadAll.l1 k2 t441 l2 a3 x10_1 x11_1 t432 (wrap64 (x15_2 + 1)) a0_0 a0_1 a0_2) = some (r1, r2) := H; have A26 := Aside0.mk A260; clear A260; have H' := Aside0.mk H; clear H; obtain ⟨Ao27, co27, eo27⟩ := Kd.R_slice HO_12.out; subst eo27; have p440 : 0 ≤ (x15_2 : Int) := oda; have q440 : x15_2 < (t432.length : Int) := oda; obtain ⟨ad440, e440, hx440_0⟩ := Kd.at_int (Kd.R_reads' HO_12.out).2.2 x15_2 p440 q440; cases e440; replace p440 := eq_true p440; replace q440 := eq_true q440; obtain ⟨Ao28, co28, eo28⟩ := Kd.V_slice HO_1.out; subst eo28
            go_wp2_with (first | ((with_reducible refine gate_callee (f := 39) rfl ?_); refine gl (some 58) Try.func39 #[.slice Ao28 x1_2.length co28, .int .i64 (rd t432 x15_2)] ?_; (with_reducible refine (spec_l02Made.calls k2 _ _ x1_2 (rd t432 x15_2) t441 _ ?side1 ?side2 A26.out).mono ?_); (case side1 => repeat (first | exact (Kd.V_reads' HO_1.out).2.2 | (with_reducible refine Kd.C_alloc ?_ _) | (with_reducible refine Kd.C_drewN ?_ _) | (with_reducible refine Kd.C_drew ?_))); (case side2 => exact (Kd.V_reads' HO_1.out).2.1); rintro e w29 ⟨v442, rfl, ho0, hb⟩; refine ⟨_, rfl, ?_⟩; replace HO_1 := Aside0.mk (Kd.V_elder' (by (with_reducible repeat (first | apply Kd.V_alloc | apply Kd.V_drewN | apply Kd.V_drew)); exact HO_1.out) (Kd.R_base ho0) hb); replace HO_10 := krb HO_10 hb; replace HO_12 := krb HO_12 hb; have HO443 := Aside0.mk (Kd.R_lower (Kd.R_newM (M := fun k_ => (w.heap.size ≤ k_)) ho0 (below_size (by repeat (first | (with_reducible first | exact HB.out | apply below_alloc | apply pw_below_drewN | apply below_drew1 | refine below_set ?_ GE420.out) | exact HB.out))) (fun k_ h_ => h_)) (below_size (by repeat (first | (with_reducible first | exact HB.out | apply below_alloc | apply pw_below_drewN | apply below_drew1 | refine below_set ?_ GE420.out) | exact HB.out)))); replace BK420 := bkb BK420 hb; replace HB := bst HB hb; (try clear hb); (try clear hb2); (try clear hk); (try clear hi); (try clear ho0)))
            go_roundg k2
            case measure => have := HK1.out; have := HK2.out; omega
            case rel => exact ⟨(t441), (wrap64 (x15_2 + 1)), (by first | rfl | (simp; done) | (simp [*]; done)), H', ⟨by have := HK1.out; have := HK2.out; omega⟩, ⟨by (with_reducible repeat (first | apply Kd.V_alloc | apply Kd.V_drewN | apply Kd.V_drew)); exact Kd.V_mono (Kd.R_V (Kd.R_types (Kd.R_apart' (Kd.R_apart' HO443.out (Kd.R_typed HO_10.out) (by decide)) (Kd.R_typed HO_12.out) (by decide)) BK420.out (by decide))) (fun k_ hk => ⟨.inr hk.1.1.1.1, hk.1.1.2, hk.1.2, hk.2⟩)⟩, ⟨by (with_reducible repeat (first | apply Kd.R_alloc | apply Kd.R_drewN | apply Kd.R_drew)); exact HO_10.out⟩, ⟨by (with_reducible repeat (first | apply Kd.R_alloc | apply Kd.R_drewN | apply Kd.R_drew)); exact HO_12.out⟩, ⟨pk BK420⟩, ⟨pbs HB⟩⟩
           ·rw [if_neg c25] at H
            exact absurd H (by simp)
          ·rw [if_neg c24] at H
           have c24b0 : decide (x15_2 < (t432.length : Int)) = false := decide_eq_false c24; clear c24
           by_cases c30 : x10_1.length + t432.length < 17592186044416
           ·rw [if_pos c30] at H
            have LMc30 := Aside0.mk c30; clear c30; obtain ⟨y444, hy444⟩ : ∃ y_ : List Int, y_ = (x10_1 ++ t432) := ⟨_, rfl⟩
            replace H : (if (y444.length : Int) > 60 then (some ((([] : List Int)), 3)) else (spec_LeadAll.l0 k2 x1_2 l2 a3 y444 (wrap64 (x11_1 + 1)) a0_0 a0_1 a0_2)) = some (r1, r2) := by first | (rw [hy444]; with_reducible exact H) | (have H2_ := (Option.bind_some _ _).symm.trans H; rw [hy444]; with_reducible exact H2_) | (have H2_ := (Option.bind_some _ _).symm.trans H; with_reducible exact H2_) | with_reducible exact H | (rw [hy444]; exact H) | exact H
            have Ny444 := Aside0.mk hy444; clear hy444
            by_cases c31 : (y444.length : Int) > 60
            ·rw [if_pos c31] at H
             have c31b0 : decide (60 < (y444.length : Int)) = true := decide_eq_true c31; have c31b1 : decide (60 < y444.length) = true := decide_eq_true (by omega); clear c31; obtain ⟨y447, hy447⟩ : ∃ y_ : List Int, y_ = (([] : List Int)) := ⟨_, rfl⟩
             replace H : (some (y447, 3)) = some (r1, r2) := by first | (rw [hy447]; with_reducible exact H) | (have H2_ := (Option.bind_some _ _).symm.trans H; rw [hy447]; with_reducible exact H2_) | (have H2_ := (Option.bind_some _ _).symm.trans H; with_reducible exact H2_) | with_reducible exact H | (rw [hy447]; exact H) | exact H
             have Ny447 := Aside0.mk hy447; clear hy447; simp only [Option.some.injEq, Prod.mk.injEq] at H; obtain ⟨rfl, rfl⟩ := H; obtain ⟨Ao32, co32, eo32⟩ := Kd.R_slice HO_12.out; subst eo32
             go_wp2_with (first | ((with_reducible refine gate_builtin (b := .append) (xs := #[.tmp 59, .tmp 60]) rfl ?_); at_builtin; refine Kd.R_append_rows (Kd.int .i64) (w0 := w) w.heap.size rfl (.tmp 59) (.tmp 60) 31 2 (.int .i64 0) 8 rfl Try.underlying31 info2 rfl (by decide) (by omega) u10 x10_1 t432 _ _ _ (fun k_ => (w.heap.size ≤ k_) ∧ some k_ ≠ (.slice Ao32 t432.length co32 : Value).ownBlock) (fun _ => False) rfl rfl ?aO ?aR (fun _ _ h => h) (fun _ h => h.elim) ?aF ?aB ?aS ?aL ?_; (case aR => repeat (first | exact (Kd.R_reads' HO_12.out).2.2 | (with_reducible refine Kd.C_alloc ?_ _) | (with_reducible refine Kd.C_drewN ?_ _) | (with_reducible refine Kd.C_drew ?_))); (case aB => exact (pbs HB)); (case aF => exact (fun k_ hk => ⟨(Nat.le_trans (below_size (by repeat (first | (with_reducible first | exact HB.out | apply below_alloc | apply pw_below_drewN | apply below_drew1 | refine below_set ?_ GE420.out) | exact HB.out))) hk), Kd.fresh' (Kd.R_lt (by (with_reducible repeat (first | apply Kd.R_alloc | apply Kd.R_drewN | apply Kd.R_drew)); exact HO_12.out)) k_ hk⟩)); (case aO => exact (by (with_reducible repeat (first | apply Kd.R_alloc | apply Kd.R_drewN | apply Kd.R_drew)); exact HO_10.out)); (case aS => exact (below_size (by repeat (first | (with_reducible first | exact HB.out | apply below_alloc | apply pw_below_drewN | apply below_drew1 | refine below_set ?_ GE420.out) | exact HB.out)))); (case aL => have := LMc30.out; omega); intro v445 w33 ho hb hg hat; rw [← Ny444.out] at ho; have n0_ := Aside0.mk (Kd.V_afterv (ok := (fun k_ => (P1_ k_ ∨ w.heap.size ≤ k_) ∧ some k_ ≠ (.slice Ao32 t432.length co32 : Value).ownBlock ∧ k_ ≠ gb420)) (by (with_reducible repeat (first | apply Kd.V_alloc | apply Kd.V_drewN | apply Kd.V_drew)); exact Kd.V_mono HO_1.out (fun _ hk => ⟨⟨hk.1, ⟨hk.2.2.1, hk.2.2.2⟩⟩, hk.2.1⟩)) hg hat); have n1_ := Aside0.mk (Kd.R_after (ok := (fun k_ => (w.heap.size ≤ k_))) (by (with_reducible repeat (first | apply Kd.R_alloc | apply Kd.R_drewN | apply Kd.R_drew)); exact HO_12.out) hg hat); have n2_ := Aside0.mk (blk_grown (g := gb420) (o := .cells (mixA (Value.int .u16) [.int .i8 a0_0, .int .i8 a0_1] a0_2) 34 (0, 0)) (pk BK420) hg (Kd.R_ne HO_10.out BK420.out (by decide))); have n3_ := Aside0.mk (hb); have n4_ := Aside0.mk (ho); clear HO_1; clear HO_12; clear BK420; clear HB; clear HO_10; have HO_1 := n0_; have HO_12 := n1_; have BK420 := n2_; have HB := n3_; have HO446 := n4_; clear n0_ n1_ n2_ n3_ n4_; clear ho hb hg hat; obtain ⟨Ao34, co34, eo34⟩ := Kd.R_slice HO446.out; subst eo34) | ((with_reducible refine gate_dst (N := 65) rfl ?_); refine Kd.R_lit (Kd.int .i64) _ 2 ?hg (N := 65) ?hd (xs := ([] : List Int)) (inner := []) (ok := fun _ => True) (okp := fun _ => True) ?hr ?hp (fun _ hk => hk) trivial (Below.refl _ _) (Nat.le_refl _) (by simp) ?_; (case hd => rfl); (case hg => rfl); (case hr => first | (go_simp; done) | (go_simp; rfl)); (case hp => exact (Reps.none _ _)); intro v448 w35 ho36 hb hg_ hnew_; clear hg_ hnew_; (first | rw [← Ny447.out] at ho36 | (simp only [Int.reduceToNat] at ho36; rw [← Ny447.out] at ho36)); have n0_ := Aside0.mk (Kd.V_elder' (by (with_reducible repeat (first | apply Kd.V_alloc | apply Kd.V_drewN | apply Kd.V_drew)); exact HO_1.out) (Kd.R_base ho36) hb); have n1_ := Aside0.mk (Kd.R_elder' (by (with_reducible repeat (first | apply Kd.R_alloc | apply Kd.R_drewN | apply Kd.R_drew)); exact HO_12.out) (Kd.R_base ho36) hb); have n2_ := Aside0.mk (Kd.R_elder' (by (with_reducible repeat (first | apply Kd.R_alloc | apply Kd.R_drewN | apply Kd.R_drew)); exact HO446.out) (Kd.R_base ho36) hb); have n3_ := Aside0.mk (Kd.R_lower (Kd.R_new' (Kd.R_new' (Kd.R_newM (M := fun k_ => (w.heap.size ≤ k_)) ho36 (below_size (by repeat (first | (with_reducible first | exact HB.out | apply below_alloc | apply pw_below_drewN | apply below_drew1 | refine below_set ?_ GE420.out) | exact HB.out))) (fun k_ h_ => h_)) (Kd.R_lt (by (with_reducible repeat (first | apply Kd.R_alloc | apply Kd.R_drewN | apply Kd.R_drew)); exact HO_12.out))) (Kd.R_lt (by (with_reducible repeat (first | apply Kd.R_alloc | apply Kd.R_drewN | apply Kd.R_drew)); exact HO446.out))) (below_size (by repeat (first | (with_reducible first | exact HB.out | apply below_alloc | apply pw_below_drewN | apply below_drew1 | refine below_set ?_ GE420.out) | exact HB.out)))); have n4_ := bkb BK420 hb; have n5_ := bst HB hb; clear HO_1; clear HO_12; clear HO446; clear BK420; clear HB; have HO_1 := n0_; have HO_12 := n1_; have HO446 := n2_; have HO449 := n3_; have BK420 := n4_; have HB := n5_; clear n0_ n1_ n2_ n3_ n4_ n5_; clear hb ho36))
             go_ret2
             exact ⟨_, by first | rfl | (simp [errW_none, errW_some] <;> rfl) | (simp [*, errW_none, errW_some] <;> rfl), by (with_reducible repeat (first | apply Kd.R_alloc | apply Kd.R_drewN | apply Kd.R_drew)); exact Kd.R_mono HO449.out (fun _ hk => hk.1.1.1), pbs HB⟩
            ·rw [if_neg c31] at H
             have c31b0 : decide (60 < (y444.length : Int)) = false := decide_eq_false c31; have c31b1 : decide (60 < y444.length) = false := decide_eq_false (by omega); clear c31; have H' := Aside0.mk H; clear H; obtain ⟨Ao37, co37, eo37⟩ := Kd.R_slice HO_12.out; subst eo37
             go_wp2_with (first | ((with_reducible refine gate_builtin (b := .append) (xs := #[.tmp 59, .tmp 60]) rfl ?_); at_builtin; refine Kd.R_append_rows (Kd.int .i64) (w0 := w) w.heap.size rfl (.tmp 59) (.tmp 60) 31 2 (.int .i64 0) 8 rfl Try.underlying31 info2 rfl (by decide) (by omega) u10 x10_1 t432 _ _ _ (fun k_ => (w.heap.size ≤ k_) ∧ some k_ ≠ (.slice Ao37 t432.length co37 : Value).ownBlock) (fun _ => False) rfl rfl ?aO ?aR (fun _ _ h => h) (fun _ h => h.elim) ?aF ?aB ?aS ?aL ?_; (case aR => repeat (first | exact (Kd.R_reads' HO_12.out).2.2 | (with_reducible refine Kd.C_alloc ?_ _) | (with_reducible refine Kd.C_drewN ?_ _) | (with_reducible refine Kd.C_drew ?_))); (case aB => exact (pbs HB)); (case aF => exact (fun k_ hk => ⟨(Nat.le_trans (below_size (by repeat (first | (with_reducible first | exact HB.out | apply below_alloc | apply pw_below_drewN | apply below_drew1 | refine below_set ?_ GE420.out) | exact HB.out))) hk), Kd.fresh' (Kd.R_lt (by (with_reducible repeat (first | apply Kd.R_alloc | apply Kd.R_drewN | apply Kd.R_drew)); exact HO_12.out)) k_ hk⟩)); (case aO => exact (by (with_reducible repeat (first | apply Kd.R_alloc | apply Kd.R_drewN | apply Kd.R_drew)); exact HO_10.out)); (case aS => exact (below_size (by repeat (first | (with_reducible first | exact HB.out | apply below_alloc | apply pw_below_drewN | apply below_drew1 | refine below_set ?_ GE420.out) | exact HB.out)))); (case aL => have := LMc30.out; omega); intro v445 w38 ho hb hg hat; rw [← Ny444.out] at ho; have n0_ := Aside0.mk (Kd.V_afterv (ok := (fun k_ => (P1_ k_ ∨ w.heap.size ≤ k_) ∧ some k_ ≠ (.slice Ao37 t432.length co37 : Value).ownBlock ∧ k_ ≠ gb420)) (by (with_reducible repeat (first | apply Kd.V_alloc | apply Kd.V_drewN | apply Kd.V_drew)); exact Kd.V_mono HO_1.out (fun _ hk => ⟨⟨hk.1, ⟨hk.2.2.1, hk.2.2.2⟩⟩, hk.2.1⟩)) hg hat); have n1_ := Aside0.mk (Kd.R_after (ok := (fun k_ => (w.heap.size ≤ k_))) (by (with_reducible repeat (first | apply Kd.R_alloc | apply Kd.R_drewN | apply Kd.R_drew)); exact HO_12.out) hg hat); have n2_ := Aside0.mk (blk_grown (g := gb420) (o := .cells (mixA (Value.int .u16) [.int .i8 a0_0, .int .i8 a0_1] a0_2) 34 (0, 0)) (pk BK420) hg (Kd.R_ne HO_10.out BK420.out (by decide))); have n3_ := Aside0.mk (hb); have n4_ := Aside0.mk (ho); clear HO_1; clear HO_12; clear BK420; clear HB; clear HO_10; have HO_1 := n0_; have HO_12 := n1_; have BK420 := n2_; have HB := n3_; have HO446 := n4_; clear n0_ n1_ n2_ n3_ n4_; clear ho hb hg hat; obtain ⟨Ao39, co39, eo39⟩ := Kd.R_slice HO446.out; subst eo39))
             go_roundg k2
             case measure => have := HK1.out; have := HK2.out; omega
             case rel => exact ⟨(x1_2), (y444), (wrap64 (x11_1 + 1)), (by first | rfl | (simp; done) | (simp [*]; done)), H', ⟨by have := HK1.out; have := HK2.out; omega⟩, ⟨by (with_reducible repeat (first | apply Kd.V_alloc | apply Kd.V_drewN | apply Kd.V_drew)); exact Kd.V_mono HO_1.out (fun _ hk => ⟨hk.1.1, ⟨hk.2, hk.1.2.2⟩⟩)⟩, ⟨by (with_reducible repeat (first | apply Kd.R_alloc | apply Kd.R_drewN | apply Kd.R_drew)); exact Kd.R_mono HO446.out (fun _ hk => hk.1)⟩, ⟨pk BK420⟩, ⟨pbs HB⟩⟩
           ·rw [if_neg c30] at H
            exact absurd H (by simp)
       ·rw [if_neg c19] at H
        have c19b0 : (t436 == 0) = false := beq_eq_false_iff_ne.mpr c19; have c19b1 : (t436 != 0) = true := bne_iff_ne.mpr c19; obtain ⟨y437, hy437⟩ : ∃ y_ : List Int, y_ = (([] : List Int)) := ⟨_, rfl⟩
        replace H : (some (y437, t436)) = some (r1, r2) := by first | (rw [hy437]; with_reducible exact H) | (have H2_ := (Option.bind_some _ _).symm.trans H; rw [hy437]; with_reducible exact H2_) | (have H2_ := (Option.bind_some _ _).symm.trans H; with_reducible exact H2_) | with_reducible exact H | (rw [hy437]; exact H) | exact H
        have Ny437 := Aside0.mk hy437; clear hy437; simp only [Option.some.injEq, Prod.mk.injEq] at H; obtain ⟨rfl, rfl⟩ := H
        try go_wp2
        replace HO_1 := Aside0.mk (Kd.V_drew HO_1.out); replace HO_10 := Aside0.mk (Kd.R_drew HO_10.out); replace BK420 := Aside0.mk (blk_drew BK420.out); replace HB := Aside0.mk (below_drew1 HB.out); have p431 : 0 ≤ (x11_1 : Int) := oda; have q431 : x11_1 < (l2.length : Int) := oda; obtain ⟨ad431, e431, hx431_0, hx431_1⟩ := at_T39 HR2.out x11_1 p431 q431; have hw431_1 := hx431_1; have hw431_0 := hx431_0; cases e431
        try replace hx431_0 := cb HB hx431_0
        try replace hx431_1 := cb HB hx431_1
        replace p431 := eq_true p431; replace q431 := eq_true q431; obtain ⟨Ao41, co41, eo41⟩ := Kd.V_slice HO_1.out; (first | subst eo41 | (injection eo41 with f1_ f2_ f3_; have f4_ := f1_.symm; have f5_ := f3_.symm; clear f1_ f2_ f3_; subst f4_; subst f5_))
        refine start_ (n := 15) (S := fun w' => World.rangeAt w' gb420 0 ([.int .i8 a0_0, .int .i8 a0_1] ++ a0_2.l.map (Value.int .u16)) ∧ w'.cell? (ad431.add ((x11_1).toNat * 2)) = some (.int .i8 ((rd_T39 l2 x11_1).f0)) ∧ w'.cell? ⟨(ad431.add ((x11_1).toNat * 2)).block, (ad431.add ((x11_1).toNat * 2)).off + 1, none⟩ = some (.int .i8 ((rd_T39 l2 x11_1).f1))) (ds := []) (bA 15 0) (by kernel_rfl) rfl rfl ⟨mix_range BK420.out, (cb HB hw431_0), (cb HB hw431_1)⟩ (fun hHeld => ?_); refine with_tabW spec_LeadAll.tab9 spec_LeadAll.bits9 (fun HT_ HW_ => ?_)
        generalize wr.drew = w40 at HO_1 HO_10 BK420 HB hx431_0 hx431_1 hHeld ⊢; refine pu 1 33 15 2 HT_ ?_; refine pu 2 34 15 6 HT_ ?_; refine pu 3 35 15 14 HT_ ?_; refine pu 4 36 15 30 HT_ ?_; refine pu 6 38 15 94 HT_ ?_; refine take_ (i := 0) (N := some 32) (v := ?_) (a' := ?_) (bA 15 95) rfl rfl (take_ofW HT_.out HW_.out (by kernel_rfl)) (fun _ _ _ h => h) (Or.inl ⟨by rfl, ?_⟩) hHeld ?_ ?_; rotate_left
        ·rintro w' ⟨s0, s1, s2⟩
         refine load_mix_run (P := Try.prog) 34 (.tmp 4) ?_ gb420 ?_ s0 Try.underlying34 rfl (by kernel_rfl) rfl
         all_goals rfl
        rotate_left
        ·simp only [Act.put, List.setIfInBounds_toArray, List.set_cons_zero, List.set_cons_succ, i64_w, i32_w]
         rfl
        refine tk 5 37 15 127 HT_ HW_ hHeld ?_; refine one_ (i := 7) (N := some 39) (bA 15 255) rfl rfl (one_of HT_.out (by kernel_rfl)) (by decide) (fun K hK => ?_); refine gs Try.func7 #[.agg (mixA (Value.int .u16) [.int .i8 a0_0, .int .i8 a0_1] a0_2), .slice Ao41 x1_1.length co41, .agg #[.int .i8 ((rd_T39 l2 x11_1).f0), .int .i8 ((rd_T39 l2 x11_1).f1)], .int .i64 a3] ?_; with_reducible refine (spec_LeadTo.calls k1 a0_0 a0_1 a0_2 _ _ x1_1 ((rd_T39 l2 x11_1).f0) ((rd_T39 l2 x11_1).f1) a3 t432 t435 t436 _ ?side1 ?side2 A18.out).mono ?_; (case side1 => repeat (first | exact (Kd.V_reads' HO_1.out).2.2 | (with_reducible refine Kd.C_alloc ?_ _) | (with_reducible refine Kd.C_drewN ?_ _) | (with_reducible refine Kd.C_drew ?_))); (case side2 => exact (Kd.V_reads' HO_1.out).2.1)
        rintro e w42 ⟨v433, rfl, ho0, hb⟩
        refine ⟨_, rfl, ?_⟩; have n0_ := Aside0.mk (Kd.V_elder' (by (with_reducible repeat (first | apply Kd.V_alloc | apply Kd.V_drewN | apply Kd.V_drew)); exact HO_1.out) (Kd.R_base ho0) hb); have n1_ := Aside0.mk (Kd.R_elder' (by (with_reducible repeat (first | apply Kd.R_alloc | apply Kd.R_drewN | apply Kd.R_drew)); exact HO_10.out) (Kd.R_base ho0) hb); have n2_ := Aside0.mk (Kd.R_lower (Kd.R_new' (Kd.R_newM (M := fun k_ => (w.heap.size ≤ k_)) ho0 (below_size (by repeat (first | (with_reducible first | exact HB.out | apply below_alloc | apply pw_below_drewN | apply below_drew1 | refine below_set ?_ GE420.out) | exact HB.out))) (fun k_ h_ => h_)) (Kd.R_lt (by (with_reducible repeat (first | apply Kd.R_alloc | apply Kd.R_drewN | apply Kd.R_drew)); exact HO_10.out))) (below_size (by repeat (first | (with_reducible first | exact HB.out | apply below_alloc | apply pw_below_drewN | apply below_drew1 | refine below_set ?_ GE420.out) | exact HB.out)))); have n3_ := bkb BK420 hb; have n4_ := bst HB hb; clear HO_1; clear HO_10; clear BK420; clear HB; have HO_1 := n0_; have HO_10 := n1_; have HO434 := n2_; have BK420 := n3_; have HB := n4_; clear n0_ n1_ n2_ n3_ n4_; (try clear hb); (try clear hb2); (try clear hk); (try clear hi); (try clear ho0); refine hK.out _ _ ⟨mix_range BK420.out, (cb HB hw431_0), (cb HB hw431_1)⟩ (fun hHeld => ?_); clear hK K; refine nm 39 ?_; refine pu 8 31 15 511 HT_ ?_; refine pu 9 40 15 1023 HT_ ?_; refine pu 10 41 15 2047 HT_ ?_; refine pu 11 42 15 4095 HT_ ?_; refine pu 12 12 15 8191 HT_ ?_; refine pu 13 13 15 16383 HT_ ?_; refine pu 14 14 15 32767 HT_ ?_; refine done_ (done_of HT_.out (by kernel_rfl)) ?_
        try go_wp2_with (first | ((with_reducible refine gate_dst (N := 45) rfl ?_); refine Kd.R_lit (Kd.int .i64) _ 2 ?hg (N := 45) ?hd (xs := ([] : List Int)) (inner := []) (ok := fun _ => True) (okp := fun _ => True) ?hr ?hp (fun _ hk => hk) trivial (Below.refl _ _) (Nat.le_refl _) (by simp) ?_; (case hd => rfl); (case hg => rfl); (case hr => first | (go_simp; done) | (go_simp; rfl)); (case hp => exact (Reps.none _ _)); intro v438 w44 ho45 hb hg_ hnew_; clear hg_ hnew_; (first | rw [← Ny437.out] at ho45 | (simp only [Int.reduceToNat] at ho45; rw [← Ny437.out] at ho45)); have n0_ := Aside0.mk (Kd.V_elder' (by (with_reducible repeat (first | apply Kd.V_alloc | apply Kd.V_drewN | apply Kd.V_drew)); exact HO_1.out) (Kd.R_base ho45) hb); have n1_ := Aside0.mk (Kd.R_elder' (by (with_reducible repeat (first | apply Kd.R_alloc | apply Kd.R_drewN | apply Kd.R_drew)); exact HO_10.out) (Kd.R_base ho45) hb); have n2_ := Aside0.mk (Kd.R_elder' (by (with_reducible repeat (first | apply Kd.R_alloc | apply Kd.R_drewN | apply Kd.R_drew)); exact HO434.out) (Kd.R_base ho45) hb); have n3_ := Aside0.mk (Kd.R_lower (Kd.R_new' (Kd.R_new' (Kd.R_newM (M := fun k_ => (w.heap.size ≤ k_)) ho45 (below_size (by repeat (first | (with_reducible first | exact HB.out | apply below_alloc | apply pw_below_drewN | apply below_drew1 | refine below_set ?_ GE420.out) | exact HB.out))) (fun k_ h_ => h_)) (Kd.R_lt (by (with_reducible repeat (first | apply Kd.R_alloc | apply Kd.R_drewN | apply Kd.R_drew)); exact HO_10.out))) (Kd.R_lt (by (with_reducible repeat (first | apply Kd.R_alloc | apply Kd.R_drewN | apply Kd.R_drew)); exact HO434.out))) (below_size (by repeat (first | (with_reducible first | exact HB.out | apply below_alloc | apply pw_below_drewN | apply below_drew1 | refine below_set ?_ GE420.out) | exact HB.out)))); have n4_ := bkb BK420 hb; have n5_ := bst HB hb; clear HO_1; clear HO_10; clear HO434; clear BK420; clear HB; have HO_1 := n0_; have HO_10 := n1_; have HO434 := n2_; have HO439 := n3_; have BK420 := n4_; have HB := n5_; clear n0_ n1_ n2_ n3_ n4_ n5_; clear hb ho45))
        go_ret2
        exact ⟨_, by first | rfl | (simp [errW_none, errW_some] <;> rfl) | (simp [*, errW_none, errW_some] <;> rfl), by (with_reducible repeat (first | apply Kd.R_alloc | apply Kd.R_drewN | apply Kd.R_drew)); exact Kd.R_mono HO439.out (fun _ hk => hk.1.1.1), pbs HB⟩
      ·rw [if_neg c17] at H
       exact absurd H (by simp)
     ·rw [if_neg c16] at H
      have c16b0 : decide (x11_1 < (l2.length : Int)) = false := decide_eq_false c16; clear c16; simp only [Option.some.injEq, Prod.mk.injEq] at H; obtain ⟨rfl, rfl⟩ := H
      go_wp2
      go_ret2
      exact ⟨_, by first | rfl | (simp [errW_none, errW_some] <;> rfl) | (simp [*, errW_none, errW_some] <;> rfl), by (with_reducible repeat (first | apply Kd.R_alloc | apply Kd.R_drewN | apply Kd.R_drew)); exact HO_10.out, pbs HB⟩
 ·replace c6 := Bool.eq_false_iff.mpr c6
  subst c6
  have H1 : (some ((([] : List Int)), 1)) = some (r1, r2) := by rw [if_neg (show ¬ (false = true) by decide)] at H; exact H
  clear H; have H := H1; clear H1; obtain ⟨y422, hy422⟩ : ∃ y_ : List Int, y_ = (([] : List Int)) := ⟨_, rfl⟩
  replace H : (some (y422, 1)) = some (r1, r2) := by first | (rw [hy422]; with_reducible exact H) | (have H2_ := (Option.bind_some _ _).symm.trans H; rw [hy422]; with_reducible exact H2_) | (have H2_ := (Option.bind_some _ _).symm.trans H; with_reducible exact H2_) | with_reducible exact H | (rw [hy422]; exact H) | exact H
  have Ny422 := Aside0.mk hy422; clear hy422; simp only [Option.some.injEq, Prod.mk.injEq] at H; obtain ⟨rfl, rfl⟩ := H
  go_enter Try.func18, Try.ntmps18
  go_wp2_with (first | ((with_reducible refine gate_dst (N := 4) rfl ?_); refine box_event ?hg (N := 4) ?hd (cs := (mixA (Value.int .u16) [.int .i8 a0_0, .int .i8 a0_1] a0_2)) (t := 34) ?hr ?_; (case hd => rfl); (case hg => rfl); (case hr => first | (go_simp; done) | (go_simp; rfl)); intro gb420 hg w46 hbox hb; have n0_ := Aside0.mk (Kd.V_below (Kd.V_elderB (by (with_reducible repeat (first | apply Kd.V_alloc | apply Kd.V_drewN | apply Kd.V_drew)); exact HO1.out) gb420 (Nat.le_of_eq hg.symm)) hb); have n1_ := bst HB hb; have n2_ := Aside0.mk (hbox); have n3_ := gwl HB hg; have n4_ := gwl HB hg; clear HO1; clear HB; have HO1 := n0_; have HB := n1_; have BK420 := n2_; have GW420 := n3_; have GE420 := n4_; clear n0_ n1_ n2_ n3_ n4_; clear hb hbox hg) | ((with_reducible refine gate_callee (f := 29) rfl ?_); refine gl (some 17) Try.func29 #[.pointer (some ⟨gb420, 0, none⟩), .slice A1 l1.length c1] ?_; (with_reducible refine (spec_l02Ok.calls k gb420 a0_0 a0_1 a0_2 _ _ l1 false _ ?side1 ?side2 ?side3 A5.out).mono ?_); (case side1 => exact (pk BK420)); (case side2 => repeat (first | exact (Kd.V_reads' HO1.out).2.2 | (with_reducible refine Kd.C_alloc ?_ _) | (with_reducible refine Kd.C_drewN ?_ _) | (with_reducible refine Kd.C_drew ?_))); (case side3 => exact (Kd.V_reads' HO1.out).2.1); rintro e w47 ⟨rfl, hb⟩; refine ⟨_, rfl, ?_⟩; replace HO1 := Aside0.mk (Kd.V_below (by (with_reducible repeat (first | apply Kd.V_alloc | apply Kd.V_drewN | apply Kd.V_drew)); exact HO1.out) hb); replace BK420 := bkb BK420 hb; replace HB := bst HB hb; (try clear hb); (try clear hb2); (try clear hk); (try clear hi)) | ((with_reducible refine gate_dst (N := 19) rfl ?_); refine Kd.R_lit (Kd.int .i64) _ 2 ?hg (N := 19) ?hd (xs := ([] : List Int)) (inner := []) (ok := fun _ => True) (okp := fun _ => True) ?hr ?hp (fun _ hk => hk) trivial (Below.refl _ _) (Nat.le_refl _) (by simp) ?_; (case hd => rfl); (case hg => rfl); (case hr => first | (go_simp; done) | (go_simp; rfl)); (case hp => exact (Reps.none _ _)); intro v423 w48 ho49 hb hg_ hnew_; clear hg_ hnew_; (first | rw [← Ny422.out] at ho49 | (simp only [Int.reduceToNat] at ho49; rw [← Ny422.out] at ho49)); replace HO1 := Aside0.mk (Kd.V_elder' (by (with_reducible repeat (first | apply Kd.V_alloc | apply Kd.V_drewN | apply Kd.V_drew)); exact HO1.out) (Kd.R_base ho49) hb); have HO424 := Aside0.mk (Kd.R_lower (Kd.R_newM (M := fun k_ => (w.heap.size ≤ k_)) ho49 (below_size (by repeat (first | (with_reducible first | exact HB.out | apply below_alloc | apply pw_below_drewN | apply below_drew1 | refine below_set ?_ GE420.out) | exact HB.out))) (fun k_ h_ => h_)) (below_size (by repeat (first | (with_reducible first | exact HB.out | apply below_alloc | apply pw_below_drewN | apply below_drew1 | refine below_set ?_ GE420.out) | exact HB.out)))); replace BK420 := bkb BK420 hb; replace HB := bst HB hb; clear hb ho49))
  go_ret2
  exact ⟨_, by first | rfl | (simp [errW_none, errW_some] <;> rfl) | (simp [*, errW_none, errW_some] <;> rfl), by (with_reducible repeat (first | apply Kd.R_alloc | apply Kd.R_drewN | apply Kd.R_drew)); exact Kd.R_mono HO424.out (fun _ hk => hk.1), pbs HB⟩
end Go.Proofs.Ytjpponjekcemjaa.PB
end
