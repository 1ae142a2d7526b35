/- The statement FnExactLeadAll of this program: what its proof uses, part 10 of 15. The call returns true for all arguments. No condition of its own. -/
import Derived.Test.YtjpponjekcemjaaZFnExactLeadAll8
section
namespace Go.Proofs.Ytjpponjekcemjaa.PB
open Go.RowKit Go.Proofs.YtjpponjekcemjaaW.PrintWords Go.Proofs.YtjpponjekcemjaaW.PrintLast Go.Proofs.YtjpponjekcemjaaW.PrintMore Go.Proofs.Ytjpponjekcemjaa.La
attribute [local go_sem] max2_int min2_int max_two min_two max_three min_three max_four min_four   -- for this text's walks alone
set_option linter.unusedVariables false
set_option linter.unusedSimpArgs false
attribute [local go_sem high] eqA39
def spec_l02Can.f (k : Nat) (s0_0 : Int) (s0_1 : Int) (s0_2 : LA 10) (l1 : List (S39)) (a2 : Int) : Option (Bool) := if a2 ≥ 4 then (some true) else (if 0 < (l1.length : Int) then ((spec_l01Next.f ((rd_T39 l1 0).f0) ((rd_T39 l1 0).f1) a2).bind fun bt184 => ((spec_l01Free.f s0_0 s0_1 s0_2 bt184.1 bt184.2).bind fun t187 => (if t187 = true then (if 0 ≤ (wrap64 ((l1.length : Int) - 1)) then (if (wrap64 ((l1.length : Int) - 1)) ≤ (l1.length : Int) then ((spec_l01Has.f k (l1.take ((wrap64 ((l1.length : Int) - 1)) : Int).toNat) bt184.1 bt184.2).bind fun t192 => (if t192 = true then (some false) else (if (l1.length : Int) = 2 then (if (wrap64 ((l1.length : Int) - 1)) < (l1.length : Int) then (some (!(((rd_T39 l1 (wrap64 ((l1.length : Int) - 1))).f0) == bt184.1) || (!(((rd_T39 l1 (wrap64 ((l1.length : Int) - 1))).f1) == bt184.2)))) else (none)) else (some true)))) else (none)) else (none)) else (some false)))) else (none))
theorem spec_l02Can.mono : ∀ a0 a1 a2 a3 a4 k, LeO (spec_l02Can.f k a0 a1 a2 a3 a4) (spec_l02Can.f (k + 1) a0 a1 a2 a3 a4) := by
 intro a0 a1 a2 a3 a4 k
 unfold spec_l02Can.f
 repeat' first
   | (with_reducible exact spec_l01Has.mono _ _ _ _)
   | (with_reducible exact LeO.refl _)
   | (with_reducible exact LeO.none _)
   | (with_reducible refine LeO.ite ?_ ?_)
   | (with_reducible refine LeO.bind ?_ (fun _ => ?_))
   | exact spec_l01Has.mono _ _ _ _
   | exact LeO.none _
   | refine LeO.ite ?_ ?_
   | refine LeO.bind ?_ (fun _ => ?_)
def spec_l02Can.T5 : Bool × List (List Nat × List Nat) := (true, [([], []), ([], []), ([0, 1], [0, 1]), ([2], [2]), ([3, 2], [3]), ([4], [4]), ([4], [4]), ([5, 6, 4], [4, 5, 6]), ([4], [4]), ([7, 8, 4, 4], [4, 7, 8]), ([4, 9], [4, 9])])
def spec_l02Can.B5 : List Nat := [0, 0, 3, 7, 15, 31, 31, 127, 31, 511, 1023]
theorem spec_l02Can.tab5 : rtab .any (opsOf Try.f53 5) = spec_l02Can.T5 := by kernel_rfl
theorem spec_l02Can.bits5 : waitsOk spec_l02Can.T5.2 spec_l02Can.B5 = true := by kernel_rfl
def spec_l02Can.T7 : Bool × List (List Nat × List Nat) := (true, [([], []), ([0], [0]), ([1], [1]), ([2], [2]), ([3], [3]), ([3], [3]), ([4, 5, 3], [3, 4, 5]), ([6, 3], [3, 6]), ([3], [3]), ([7, 8, 3], [3, 7, 8]), ([3, 9], [3, 9]), ([10, 3, 0, 1, 2, 3, 4, 5, 6, 7, 8, 9, 10], [10])])
def spec_l02Can.B7 : List Nat := [0, 1, 3, 7, 15, 15, 63, 127, 15, 511, 1023, 2047]
theorem spec_l02Can.tab7 : rtab .any (opsOf Try.f53 7) = spec_l02Can.T7 := by kernel_rfl
theorem spec_l02Can.bits7 : waitsOk spec_l02Can.T7.2 spec_l02Can.B7 = true := by kernel_rfl
set_option maxHeartbeats 8000000 in
set_option maxRecDepth 100000 in
theorem spec_l02Can.calls (k : Nat) (g0 : Nat) (s0_0 : Int) (s0_1 : Int) (s0_2 : LA 10) (A1 : Option Addr) (c1 : Nat) (l1 : List (S39)) (a2 : Int) (r : Bool) (w : World) (hb0 : w.heap[g0]? = some (.cells (mixA (Value.int .u16) [.int .i8 s0_0, .int .i8 s0_1] s0_2) 34 (0, 0))) (hr1 : Kd.C k39 w A1 l1.length l1) (hc1 : l1.length ≤ c1) (h : spec_l02Can.f k s0_0 s0_1 s0_2 l1 a2 = some r) :
  Calls Try.prog 53 #[.pointer (some ⟨g0, 0, none⟩), .slice A1 l1.length c1, .int .i64 a2] w fun e w' => e = .returned (.bool r) ∧ Below w.heap.size w w' := by
 have hu39 := Try.underlying39
 have HR1 := Aside0.mk hr1
 have HC1 := Aside0.mk hc1
 clear hr1 hc1
 have BK0 := Aside0.mk hb0
 clear hb0
 have HB := Aside0.mk (Below.refl w.heap.size w)
 have H : (if a2 ≥ 4 then (some true) else (if 0 < (l1.length : Int) then ((spec_l01Next.f ((rd_T39 l1 0).f0) ((rd_T39 l1 0).f1) a2).bind fun bt184 => ((spec_l01Free.f s0_0 s0_1 s0_2 bt184.1 bt184.2).bind fun t187 => (if t187 = true then (if 0 ≤ (wrap64 ((l1.length : Int) - 1)) then (if (wrap64 ((l1.length : Int) - 1)) ≤ (l1.length : Int) then ((spec_l01Has.f k (l1.take ((wrap64 ((l1.length : Int) - 1)) : Int).toNat) bt184.1 bt184.2).bind fun t192 => (if t192 = true then (some false) else (if (l1.length : Int) = 2 then (if (wrap64 ((l1.length : Int) - 1)) < (l1.length : Int) then (some (!(((rd_T39 l1 (wrap64 ((l1.length : Int) - 1))).f0) == bt184.1) || (!(((rd_T39 l1 (wrap64 ((l1.length : Int) - 1))).f1) == bt184.2)))) else (none)) else (some true)))) else (none)) else (none)) else (some false)))) else (none))) = some r := h
 clear h
 by_cases c4 : a2 ≥ 4
 ·rw [if_pos c4] at H
  have c4b0 : decide (4 ≤ a2) = true := decide_eq_true c4; clear c4; obtain rfl := Option.some.inj H
  go_enter Try.func53, Try.ntmps53
  go_wp2
  go_ret
  exact ⟨by first | rfl | (simp [errW_none, errW_some] <;> rfl) | (simp [*, errW_none, errW_some] <;> rfl), pbs HB⟩
 ·rw [if_neg c4] at H
  have c4b0 : decide (4 ≤ a2) = false := decide_eq_false c4; clear c4
  by_cases c5 : 0 < (l1.length : Int)
  ·rw [if_pos c5] at H
   have c5b0 : decide (0 < (l1.length : Int)) = true := decide_eq_true c5; have c5b1 : decide (0 < l1.length) = true := decide_eq_true (by omega); clear c5; replace H := Option.bind_eq_some_iff.mp H; obtain ⟨⟨t184, t185⟩, A60, H⟩ := H; replace H : ((spec_l01Free.f s0_0 s0_1 s0_2 t184 t185).bind fun t187 => (if t187 = true then (if 0 ≤ (wrap64 ((l1.length : Int) - 1)) then (if (wrap64 ((l1.length : Int) - 1)) ≤ (l1.length : Int) then ((spec_l01Has.f k (l1.take ((wrap64 ((l1.length : Int) - 1)) : Int).toNat) t184 t185).bind fun t192 => (if t192 = true then (some false) else (if (l1.length : Int) = 2 then (if (wrap64 ((l1.length : Int) - 1)) < (l1.length : Int) then (some (!(((rd_T39 l1 (wrap64 ((l1.length : Int) - 1))).f0) == t184) || (!(((rd_T39 l1 (wrap64 ((l1.length : Int) - 1))).f1) == t185)))) else (none)) else (some true)))) else (none)) else (none)) else (some false))) = some r := H; have A6 := Aside0.mk A60; clear A60; obtain ⟨t187, A7, H⟩ := obn H
   by_cases c8 : t187 = true
   ·subst c8
    have H1 : (if 0 ≤ (wrap64 ((l1.length : Int) - 1)) then (if (wrap64 ((l1.length : Int) - 1)) ≤ (l1.length : Int) then ((spec_l01Has.f k (l1.take ((wrap64 ((l1.length : Int) - 1)) : Int).toNat) t184 t185).bind fun t192 => (if t192 = true then (some false) else (if (l1.length : Int) = 2 then (if (wrap64 ((l1.length : Int) - 1)) < (l1.length : Int) then (some (!(((rd_T39 l1 (wrap64 ((l1.length : Int) - 1))).f0) == t184) || (!(((rd_T39 l1 (wrap64 ((l1.length : Int) - 1))).f1) == t185)))) else (none)) else (some true)))) else (none)) else (none)) = some r := by rw [if_pos rfl] at H; exact H
    clear H; have H := H1; clear H1; obtain ⟨ji9, hji9⟩ : ∃ j_ : Int, (wrap64 ((l1.length : Int) - 1)) = j_ := ⟨_, rfl⟩
    replace H : (if 0 ≤ (ji9) then (if (ji9) ≤ (l1.length : Int) then ((spec_l01Has.f k (l1.take ((ji9) : Int).toNat) t184 t185).bind fun t192 => (if t192 = true then (some false) else (if (l1.length : Int) = 2 then (if (ji9) < (l1.length : Int) then (some (!(((rd_T39 l1 (ji9)).f0) == t184) || (!(((rd_T39 l1 (ji9)).f1) == t185)))) else (none)) else (some true)))) else (none)) else (none)) = some r := by first | (rw [hji9] at H; exact H) | (simp only [hji9] at H ⊢; exact H)
    (try rw [hji9] at A6); (try rw [hji9] at A7); have hji9w : (IntKind.i64.wrap ((l1.length : Int) - 1)) = ji9 := (i64_w _).trans hji9
    by_cases c10 : 0 ≤ (ji9)
    ·rw [if_pos c10] at H
     have c10b0 := eq_true c10; have c10b1 : decide (0 ≤ (ji9)) = true := decide_eq_true c10; clear c10
     by_cases c11 : (ji9) ≤ (l1.length : Int)
     ·rw [if_pos c11] at H
      have c11b0 := eq_true c11; have c11b1 : decide ((ji9) ≤ (l1.length : Int)) = true := decide_eq_true c11; clear c11; obtain ⟨y188, hy188⟩ : ∃ y_ : List (S39), y_ = (l1.take ((ji9) : Int).toNat) := ⟨_, rfl⟩
      replace H : ((spec_l01Has.f k y188 t184 t185).bind fun t192 => (if t192 = true then (some false) else (if (l1.length : Int) = 2 then (if (ji9) < (l1.length : Int) then (some (!(((rd_T39 l1 (ji9)).f0) == t184) || (!(((rd_T39 l1 (ji9)).f1) == t185)))) else (none)) else (some true)))) = some r := by first | (rw [hy188]; with_reducible exact H) | (have H2_ := (Option.bind_some _ _).symm.trans H; rw [hy188]; with_reducible exact H2_) | (have H2_ := (Option.bind_some _ _).symm.trans H; with_reducible exact H2_) | with_reducible exact H | (rw [hy188]; exact H) | exact H
      have Ny188 := Aside0.mk hy188; clear hy188; obtain ⟨t192, A12, H⟩ := obn H
      by_cases c13 : t192 = true
      ·subst c13
       have H1 : (some false) = some r := by rw [if_pos rfl] at H; exact H
       clear H; have H := H1; clear H1; obtain rfl := Option.some.inj H; have p183 : 0 ≤ (0 : Int) := (by omega); have q183 : 0 < (l1.length : Int) := oda; obtain ⟨ad183, e183, hx183_0, hx183_1⟩ := at_T39 HR1.out 0 p183 q183; cases e183; have qi183 : (0 < l1.length) = True := eq_true (by omega); (try rw [show ((0 : Int)).toNat = 0 from rfl] at hx183_0); (try rw [show 0 * 2 = 0 from rfl] at hx183_0); (try rw [Addr.add_zero'] at hx183_0); (try rw [show ((0 : Int)).toNat = 0 from rfl] at hx183_1); (try rw [show 0 * 2 = 0 from rfl] at hx183_1); (try rw [Addr.add_zero'] at hx183_1); replace p183 := eq_true p183; replace q183 := eq_true q183
       go_enter Try.func53, Try.ntmps53
       try go_wp2_with (first | ((with_reducible refine gate_callee (f := 66) rfl ?_); refine gl (some 15) Try.func66 #[.agg #[.int .i8 ((rd_T39 l1 0).f0), .int .i8 ((rd_T39 l1 0).f1)], .int .i64 a2] ?_; (with_reducible refine (spec_l01Next.calls ((rd_T39 l1 0).f0) ((rd_T39 l1 0).f1) a2 t184 t185 _ A6.out).mono ?_); rintro e w14 ⟨rfl, hb⟩; refine ⟨_, rfl, ?_⟩; replace BK0 := bkb BK0 hb; replace HB := bst HB hb; (try clear hb); (try clear hb2); (try clear hk); (try clear hi)) | ((with_reducible refine gate_dst (N := 7) rfl ?_); refine box_event ?hg (N := 7) ?hd (cs := #[.int .i8 0, .int .i8 0]) (t := 39) ?hr ?_; (case hd => rfl); (case hg => rfl); (case hr => first | (go_simp; done) | (go_simp; rfl)); intro gb186 hg w15 hbox hb; have n0_ := bkb BK0 hb; have n1_ := bst HB hb; have n2_ := Aside0.mk (hbox); have n3_ := gwl HB hg; have n4_ := gwl HB hg; have n5_ := nbl BK0 hg; have n6_ := nbg BK0 hg; clear BK0; clear HB; have BK0 := n0_; have HB := n1_; have BK186 := n2_; have GW186 := n3_; have GE186 := n4_; have NB0_186 := n5_; have NB186_0 := n6_; clear n0_ n1_ n2_ n3_ n4_ n5_ n6_; clear hb hbox hg; have hnb16 := NB186_0.out; have hnc16 := NB0_186.out; have hcz17_0 : w15.cell? ⟨gb186, 0, none⟩ = some (.int .i8 0) := (blk_cell BK186.out 0).trans rfl; have hcz17_1 : w15.cell? ⟨gb186, 1, none⟩ = some (.int .i8 0) := (blk_cell BK186.out 1).trans rfl; have hfz17_0 := blk_frozen BK186.out 0; have hfz17_1 := blk_frozen BK186.out 1))
       have n0_ : Aside0 (((w15.setCell ⟨gb186, 0, none⟩ (.int .i8 t184)).setCell ⟨gb186, 1, none⟩ (.int .i8 t185)).heap[g0]? = some (.cells (mixA (Value.int .u16) [.int .i8 s0_0, .int .i8 s0_1] s0_2) 34 (0, 0))) := ⟨by (with_reducible repeat (first | refine blk_drewN ?_ _ | refine blk_drew ?_ | refine blk_alloc ?_ _)); refine blk_far ?_ NB0_186.out _; (with_reducible repeat (first | refine blk_drewN ?_ _ | refine blk_drew ?_ | refine blk_alloc ?_ _)); refine blk_far ?_ NB0_186.out _; (with_reducible repeat (first | refine blk_drewN ?_ _ | refine blk_drew ?_ | refine blk_alloc ?_ _)); exact BK0.out⟩; have n1_ : Aside0 (((w15.setCell ⟨gb186, 0, none⟩ (.int .i8 t184)).setCell ⟨gb186, 1, none⟩ (.int .i8 t185)).heap[gb186]? = some (.cells #[.int .i8 t184, .int .i8 t185] 39 (0, 0))) := ⟨by (with_reducible repeat (first | refine blk_drewN ?_ _ | refine blk_drew ?_ | refine blk_alloc ?_ _)); refine blk_put (cs := #[.int .i8 t184, .int .i8 0]) ?_ 1 _ rfl; (with_reducible repeat (first | refine blk_drewN ?_ _ | refine blk_drew ?_ | refine blk_alloc ?_ _)); refine blk_put (cs := #[.int .i8 0, .int .i8 0]) ?_ 0 _ rfl; (with_reducible repeat (first | refine blk_drewN ?_ _ | refine blk_drew ?_ | refine blk_alloc ?_ _)); exact BK186.out⟩; have n2_ : Aside0 (Below w.heap.size w ((w15.setCell ⟨gb186, 0, none⟩ (.int .i8 t184)).setCell ⟨gb186, 1, none⟩ (.int .i8 t185))) := ⟨pbs HB⟩; (try clear BK0); (try clear BK186); (try clear HB); generalize ((w15.setCell ⟨gb186, 0, none⟩ (.int .i8 t184)).setCell ⟨gb186, 1, none⟩ (.int .i8 t185)) = w18 at n0_ n1_ n2_ ⊢; have BK0 := n0_; have BK186 := n1_; have HB := n2_; clear n0_ n1_ n2_; replace BK0 := Aside0.mk (blk_drew BK0.out); replace BK186 := Aside0.mk (blk_drew BK186.out); replace HB := Aside0.mk (below_drew1 HB.out)
       refine start_ (n := 11) (S := fun w' => w'.cell? ⟨gb186, 0, none⟩ = some (.int .i8 t184) ∧ w'.cell? ⟨gb186, 1, none⟩ = some (.int .i8 t185)) (ds := []) (bA 11 0) (by kernel_rfl) rfl rfl ⟨(blk_cell BK186.out 0).trans rfl, (blk_cell BK186.out 1).trans rfl⟩ (fun hHeld => ?_); refine with_tabW spec_l02Can.tab5 spec_l02Can.bits5 (fun HT_ HW_ => ?_)
       generalize w18.drew = w19 at BK0 BK186 HB hHeld ⊢; refine pu 0 19 11 1 HT_ ?_; refine tk 1 20 11 3 HT_ HW_ hHeld ?_; refine one_ (i := 2) (N := some 21) (bA 11 7) rfl rfl (one_of HT_.out (by kernel_rfl)) (by decide) (fun K hK => ?_); refine gs Try.func32 #[.pointer (some ⟨g0, 0, none⟩), .agg #[.int .i8 t184, .int .i8 t185]] ?_; with_reducible refine (spec_l01Free.calls g0 s0_0 s0_1 s0_2 t184 t185 true _ ?side1 A7.out).mono ?_; (case side1 => exact (pk BK0))
       rintro e w20 ⟨rfl, hb⟩
       refine ⟨_, rfl, ?_⟩; replace BK0 := bkb BK0 hb; replace BK186 := bkb BK186 hb; replace HB := bst HB hb; (try clear hb); (try clear hb2); (try clear hk); (try clear hi); have q21 : ((ji9) : Int) ≤ ((l1.length : Int) : Int) := oda; obtain ⟨i021, hi021, _, hsz21, _⟩ := info_parts info39; have hroom21 : l1.length ≤ c1 := HC1.out; have hC21 : Kd.C k39 _ (some ad183) l1.length l1 := HR1.out; have hcut21 := cut_to (P := Try.prog) 37 39 .i64 Try.underlying37 hi021 (some ad183) l1.length c1 (ji9) (oda) q21 hroom21; have hr21 := Kd.C_take (m := ((ji9) : Int).toNat) hC21 (by omega); have hy21 : y188.length = ((ji9) : Int).toNat := (by rw [Ny188.out, List.length_take]; omega); rw [← Ny188.out] at hr21; rw [← hy21] at hcut21; have HR191 := Aside0.mk hr21; have HC191 := Aside0.mk (show y188.length ≤ c1 from by omega); clear hr21 hC21 hroom21 hi021 hsz21; have KY21 := Aside0.mk hy21; clear hy21; replace q21 := eq_true q21; refine hK.out _ _ ⟨(blk_cell BK186.out 0).trans rfl, (blk_cell BK186.out 1).trans rfl⟩ (fun hHeld => ?_); clear hK K; refine nm 21 ?_; refine pu 3 22 11 15 HT_ ?_; refine pu 4 23 11 31 HT_ ?_; refine pu 5 24 11 63 HT_ ?_; refine pu 6 25 11 127 HT_ ?_; refine pu 7 26 11 255 HT_ ?_; refine tk 8 27 11 511 HT_ HW_ hHeld ?_; refine one_ (i := 9) (N := some 28) (bA 11 1023) rfl rfl (one_of HT_.out (by kernel_rfl)) (by decide) (fun K hK => ?_); refine gs Try.func82 #[.slice (some ad183) y188.length c1, .agg #[.int .i8 t184, .int .i8 t185]] ?_; with_reducible refine (spec_l01Has.calls k _ _ y188 t184 t185 true _ ?side1 ?side2 A12.out).mono ?_; (case side1 => repeat (first | exact (Kd.C_below HR191.out HB.out) | (with_reducible refine Kd.C_alloc ?_ _) | (with_reducible refine Kd.C_drewN ?_ _) | (with_reducible refine Kd.C_drew ?_))); (case side2 => exact HC191.out)
       rintro e w22 ⟨rfl, hb⟩
       refine ⟨_, rfl, ?_⟩; replace BK0 := bkb BK0 hb; replace BK186 := bkb BK186 hb; replace HB := bst HB hb; (try clear hb); (try clear hb2); (try clear hk); (try clear hi); refine hK.out _ _ ⟨(blk_cell BK186.out 0).trans rfl, (blk_cell BK186.out 1).trans rfl⟩ (fun hHeld => ?_); clear hK K; refine nm 28 ?_; refine pu 10 29 11 2047 HT_ ?_; refine done_ (done_of HT_.out (by kernel_rfl)) ?_
       try go_wp2
       go_ret
       exact ⟨by first | rfl | (simp [errW_none, errW_some] <;> rfl) | (simp only [← hji9]; first | rfl | (simp [errW_none, errW_some] <;> rfl)) | (simp [*, errW_none, errW_some] <;> rfl), pbs HB⟩
      ·replace c13 := Bool.eq_false_iff.mpr c13
       subst c13
       have H1 : (if (l1.length : Int) = 2 then (if (ji9) < (l1.length : Int) then (some (!(((rd_T39 l1 (ji9)).f0) == t184) || (!(((rd_T39 l1 (ji9)).f1) == t185)))) else (none)) else (some true)) = some r := by rw [if_neg (show ¬ (false = true) by decide)] at H; exact H
       clear H; have H := H1; clear H1
       by_cases c23 : (l1.length : Int) = 2
       ·rw [if_pos c23] at H
        have c23b0 : ((l1.length : Int) == 2) = true := beq_iff_eq.mpr c23; have c23b1 : ((l1.length : Int) != 2) = false := bne_eq_false_iff_eq.mpr c23; clear c23
        by_cases c24 : (ji9) < (l1.length : Int)
        ·rw [if_pos c24] at H
         have c24b0 : decide ((ji9) < (l1.length : Int)) = true := decide_eq_true c24; clear c24; obtain rfl := Option.some.inj H; have p183 : 0 ≤ (0 : Int) := (by omega); have q183 : 0 < (l1.length : Int) := oda; obtain ⟨ad183, e183, hx183_0, hx183_1⟩ := at_T39 HR1.out 0 p183 q183; cases e183; have qi183 : (0 < l1.length) = True := eq_true (by omega); (try rw [show ((0 : Int)).toNat = 0 from rfl] at hx183_0); (try rw [show 0 * 2 = 0 from rfl] at hx183_0); (try rw [Addr.add_zero'] at hx183_0); (try rw [show ((0 : Int)).toNat = 0 from rfl] at hx183_1); (try rw [show 0 * 2 = 0 from rfl] at hx183_1); (try rw [Addr.add_zero'] at hx183_1); replace p183 := eq_true p183; replace q183 := eq_true q183
         go_enter Try.func53, Try.ntmps53
         try go_wp2_with (first | ((with_reducible refine gate_callee (f := 66) rfl ?_); refine gl (some 15) Try.func66 #[.agg #[.int .i8 ((rd_T39 l1 0).f0), .int .i8 ((rd_T39 l1 0).f1)], .int .i64 a2] ?_; (with_reducible refine (spec_l01Next.calls ((rd_T39 l1 0).f0) ((rd_T39 l1 0).f1) a2 t184 t185 _ A6.out).mono ?_); rintro e w25 ⟨rfl, hb⟩; refine ⟨_, rfl, ?_⟩; replace BK0 := bkb BK0 hb; replace HB := bst HB hb; (try clear hb); (try clear hb2); (try clear hk); (try clear hi)) | ((with_reducible refine gate_dst (N := 7) rfl ?_); refine box_event ?hg (N := 7) ?hd (cs := #[.int .i8 0, .int .i8 0]) (t := 39) ?hr ?_; (case hd => rfl); (case hg => rfl); (case hr => first | (go_simp; done) | (go_simp; rfl)); intro gb186 hg w26 hbox hb; have n0_ := bkb BK0 hb; have n1_ := bst HB hb; have n2_ := Aside0.mk (hbox); have n3_ := gwl HB hg; have n4_ := gwl HB hg; have n5_ := nbl BK0 hg; have n6_ := nbg BK0 hg; clear BK0; clear HB; have BK0 := n0_; have HB := n1_; have BK186 := n2_; have GW186 := n3_; have GE186 := n4_; have NB0_186 := n5_; have NB186_0 := n6_; clear n0_ n1_ n2_ n3_ n4_ n5_ n6_; clear hb hbox hg; have hnb27 := NB186_0.out; have hnc27 := NB0_186.out; have hcz28_0 : w26.cell? ⟨gb186, 0, none⟩ = some (.int .i8 0) := (blk_cell BK186.out 0).trans rfl; have hcz28_1 : w26.cell? ⟨gb186, 1, none⟩ = some (.int .i8 0) := (blk_cell BK186.out 1).trans rfl; have hfz28_0 := blk_frozen BK186.out 0; have hfz28_1 := blk_frozen BK186.out 1))
         have n0_ : Aside0 (((w26.setCell ⟨gb186, 0, none⟩ (.int .i8 t184)).setCell ⟨gb186, 1, none⟩ (.int .i8 t185)).heap[g0]? = some (.cells (mixA (Value.int .u16) [.int .i8 s0_0, .int .i8 s0_1] s0_2) 34 (0, 0))) := ⟨by (with_reducible repeat (first | refine blk_drewN ?_ _ | refine blk_drew ?_ | refine blk_alloc ?_ _)); refine blk_far ?_ NB0_186.out _; (with_reducible repeat (first | refine blk_drewN ?_ _ | refine blk_drew ?_ | refine blk_alloc ?_ _)); refine blk_far ?_ NB0_186.out _; (with_reducible repeat (first | refine blk_drewN ?_ _ | refine blk_drew ?_ | refine blk_alloc ?_ _)); exact BK0.out⟩; have n1_ : Aside0 (((w26.setCell ⟨gb186, 0, none⟩ (.int .i8 t184)).setCell ⟨gb186, 1, none⟩ (.int .i8 t185)).heap[gb186]? = some (.cells #[.int .i8 t184, .int .i8 t185] 39 (0, 0))) := ⟨by (with_reducible repeat (first | refine blk_drewN ?_ _ | refine blk_drew ?_ | refine blk_alloc ?_ _)); refine blk_put (cs := #[.int .i8 t184, .int .i8 0]) ?_ 1 _ rfl; (with_reducible repeat (first | refine blk_drewN ?_ _ | refine blk_drew ?_ | refine blk_alloc ?_ _)); refine blk_put (cs := #[.int .i8 0, .int .i8 0]) ?_ 0 _ rfl; (with_reducible repeat (first | refine blk_drewN ?_ _ | refine blk_drew ?_ | refine blk_alloc ?_ _)); exact BK186.out⟩; have n2_ : Aside0 (Below w.heap.size w ((w26.setCell ⟨gb186, 0, none⟩ (.int .i8 t184)).setCell ⟨gb186, 1, none⟩ (.int .i8 t185))) := ⟨pbs HB⟩; (try clear BK0); (try clear BK186); (try clear HB); generalize ((w26.setCell ⟨gb186, 0, none⟩ (.int .i8 t184)).setCell ⟨gb186, 1, none⟩ (.int .i8 t185)) = w29 at n0_ n1_ n2_ ⊢; have BK0 := n0_; have BK186 := n1_; have HB := n2_; clear n0_ n1_ n2_; replace BK0 := Aside0.mk (blk_drew BK0.out); replace BK186 := Aside0.mk (blk_drew BK186.out); replace HB := Aside0.mk (below_drew1 HB.out)
         refine start_ (n := 11) (S := fun w' => w'.cell? ⟨gb186, 0, none⟩ = some (.int .i8 t184) ∧ w'.cell? ⟨gb186, 1, none⟩ = some (.int .i8 t185)) (ds := []) (bA 11 0) (by kernel_rfl) rfl rfl ⟨(blk_cell BK186.out 0).trans rfl, (blk_cell BK186.out 1).trans rfl⟩ (fun hHeld => ?_); refine with_tabW spec_l02Can.tab5 spec_l02Can.bits5 (fun HT_ HW_ => ?_)
         generalize w29.drew = w30 at BK0 BK186 HB hHeld ⊢; refine pu 0 19 11 1 HT_ ?_; refine tk 1 20 11 3 HT_ HW_ hHeld ?_; refine one_ (i := 2) (N := some 21) (bA 11 7) rfl rfl (one_of HT_.out (by kernel_rfl)) (by decide) (fun K hK => ?_); refine gs Try.func32 #[.pointer (some ⟨g0, 0, none⟩), .agg #[.int .i8 t184, .int .i8 t185]] ?_; with_reducible refine (spec_l01Free.calls g0 s0_0 s0_1 s0_2 t184 t185 true _ ?side1 A7.out).mono ?_; (case side1 => exact (pk BK0))
         rintro e w31 ⟨rfl, hb⟩
         refine ⟨_, rfl, ?_⟩; replace BK0 := bkb BK0 hb; replace BK186 := bkb BK186 hb; replace HB := bst HB hb; (try clear hb); (try clear hb2); (try clear hk); (try clear hi); have q32 : ((ji9) : Int) ≤ ((l1.length : Int) : Int) := oda; obtain ⟨i032, hi032, _, hsz32, _⟩ := info_parts info39; have hroom32 : l1.length ≤ c1 := HC1.out; have hC32 : Kd.C k39 _ (some ad183) l1.length l1 := HR1.out; have hcut32 := cut_to (P := Try.prog) 37 39 .i64 Try.underlying37 hi032 (some ad183) l1.length c1 (ji9) (oda) q32 hroom32; have hr32 := Kd.C_take (m := ((ji9) : Int).toNat) hC32 (by omega); have hy32 : y188.length = ((ji9) : Int).toNat := (by rw [Ny188.out, List.length_take]; omega); rw [← Ny188.out] at hr32; rw [← hy32] at hcut32; have HR191 := Aside0.mk hr32; have HC191 := Aside0.mk (show y188.length ≤ c1 from by omega); clear hr32 hC32 hroom32 hi032 hsz32; have KY32 := Aside0.mk hy32; clear hy32; replace q32 := eq_true q32; refine hK.out _ _ ⟨(blk_cell BK186.out 0).trans rfl, (blk_cell BK186.out 1).trans rfl⟩ (fun hHeld => ?_); clear hK K; refine nm 21 ?_; refine pu 3 22 11 15 HT_ ?_; refine pu 4 23 11 31 HT_ ?_; refine pu 5 24 11 63 HT_ ?_; refine pu 6 25 11 127 HT_ ?_; refine pu 7 26 11 255 HT_ ?_; refine tk 8 27 11 511 HT_ HW_ hHeld ?_; refine one_ (i := 9) (N := some 28) (bA 11 1023) rfl rfl (one_of HT_.out (by kernel_rfl)) (by decide) (fun K hK => ?_); refine gs Try.func82 #[.slice (some ad183) y188.length c1, .agg #[.int .i8 t184, .int .i8 t185]] ?_; with_reducible refine (spec_l01Has.calls k _ _ y188 t184 t185 false _ ?side1 ?side2 A12.out).mono ?_; (case side1 => repeat (first | exact (Kd.C_below HR191.out HB.out) | (with_reducible refine Kd.C_alloc ?_ _) | (with_reducible refine Kd.C_drewN ?_ _) | (with_reducible refine Kd.C_drew ?_))); (case side2 => exact HC191.out)
         rintro e w33 ⟨rfl, hb⟩
         refine ⟨_, rfl, ?_⟩; replace BK0 := bkb BK0 hb; replace BK186 := bkb BK186 hb; replace HB := bst HB hb; (try clear hb); (try clear hb2); (try clear hk); (try clear hi); refine hK.out _ _ ⟨(blk_cell BK186.out 0).trans rfl, (blk_cell BK186.out 1).trans rfl⟩ (fun hHeld => ?_); clear hK K; refine nm 28 ?_; refine pu 10 29 11 2047 HT_ ?_; refine done_ (done_of HT_.out (by kernel_rfl)) ?_
         try go_wp2
         replace BK0 := Aside0.mk (blk_drew BK0.out); replace BK186 := Aside0.mk (blk_drew BK186.out); replace HB := Aside0.mk (below_drew1 HB.out); have p193 : 0 ≤ ((ji9) : Int) := oda; have q193 : (ji9) < (l1.length : Int) := oda; obtain ⟨ad193, e193, hx193_0, hx193_1⟩ := at_T39 HR1.out (ji9) p193 q193; have hw193_1 := hx193_1; have hw193_0 := hx193_0; obtain rfl : ad183 = ad193 := (by injection e193)
         try replace hx193_0 := cb HB hx193_0
         try replace hx193_1 := cb HB hx193_1
         replace p193 := eq_true p193; replace q193 := eq_true q193
         refine start_ (n := 12) (S := fun w' => w'.cell? ⟨gb186, 0, none⟩ = some (.int .i8 t184) ∧ w'.cell? ⟨gb186, 1, none⟩ = some (.int .i8 t185) ∧ w'.cell? (ad183.add (((ji9)).toNat * 2)) = some (.int .i8 ((rd_T39 l1 (ji9)).f0)) ∧ w'.cell? ⟨(ad183.add (((ji9)).toNat * 2)).block, (ad183.add (((ji9)).toNat * 2)).off + 1, none⟩ = some (.int .i8 ((rd_T39 l1 (ji9)).f1))) (ds := []) (bA 12 0) (by kernel_rfl) rfl rfl ⟨(blk_cell BK186.out 0).trans rfl, (blk_cell BK186.out 1).trans rfl, (cb HB hw193_0), (cb HB hw193_1)⟩ (fun hHeld => ?_); refine with_tabW spec_l02Can.tab7 spec_l02Can.bits7 (fun HT_ HW_ => ?_)
         generalize w33.drew = w34 at BK0 BK186 HB hx193_0 hx193_1 hHeld ⊢; refine pu 0 30 12 1 HT_ ?_; refine pu 1 31 12 3 HT_ ?_; refine pu 2 32 12 7 HT_ ?_; refine pu 3 33 12 15 HT_ ?_; refine pu 4 34 12 31 HT_ ?_; refine pu 5 35 12 63 HT_ ?_; refine pu 6 36 12 127 HT_ ?_; refine tk 7 37 12 255 HT_ HW_ hHeld ?_; refine tk 8 38 12 511 HT_ HW_ hHeld ?_; refine pu 9 39 12 1023 HT_ ?_; refine pu 10 40 12 2047 HT_ ?_; refine pu 11 6 12 4095 HT_ ?_; refine done_ (done_of HT_.out (by kernel_rfl)) ?_
         try go_wp2
         go_ret
         exact ⟨by first | rfl | (simp [errW_none, errW_some] <;> rfl) | (simp only [← hji9]; first | rfl | (simp [errW_none, errW_some] <;> rfl)) | (simp [*, errW_none, errW_some] <;> rfl), pbs HB⟩
        ·rw [if_neg c24] at H
         exact absurd H (by simp)
       ·rw [if_neg c23] at H
        have c23b0 : ((l1.length : Int) == 2) = false := beq_eq_false_iff_ne.mpr c23; have c23b1 : ((l1.length : Int) != 2) = true := bne_iff_ne.mpr c23; obtain rfl := Option.some.inj H; have p183 : 0 ≤ (0 : Int) := (by omega); have q183 : 0 < (l1.length : Int) := oda; obtain ⟨ad183, e183, hx183_0, hx183_1⟩ := at_T39 HR1.out 0 p183 q183; cases e183; have qi183 : (0 < l1.length) = True := eq_true (by omega); (try rw [show ((0 : Int)).toNat = 0 from rfl] at hx183_0); (try rw [show 0 * 2 = 0 from rfl] at hx183_0); (try rw [Addr.add_zero'] at hx183_0); (try rw [show ((0 : Int)).toNat = 0 from rfl] at hx183_1); (try rw [show 0 * 2 = 0 from rfl] at hx183_1); (try rw [Addr.add_zero'] at hx183_1); replace p183 := eq_true p183; replace q183 := eq_true q183
        go_enter Try.func53, Try.ntmps53
        try go_wp2_with (first | ((with_reducible refine gate_callee (f := 66) rfl ?_); refine gl (some 15) Try.func66 #[.agg #[.int .i8 ((rd_T39 l1 0).f0), .int .i8 ((rd_T39 l1 0).f1)], .int .i64 a2] ?_; (with_reducible refine (spec_l01Next.calls ((rd_T39 l1 0).f0) ((rd_T39 l1 0).f1) a2 t184 t185 _ A6.out).mono ?_); rintro e w35 ⟨rfl, hb⟩; refine ⟨_, rfl, ?_⟩; replace BK0 := bkb BK0 hb; replace HB := bst HB hb; (try clear hb); (try clear hb2); (try clear hk); (try clear hi)) | ((with_reducible refine gate_dst (N := 7) rfl ?_); refine box_event ?hg (N := 7) ?hd (cs := #[.int .i8 0, .int .i8 0]) (t := 39) ?hr ?_; (case hd => rfl); (case hg => rfl); (case hr => first | (go_simp; done) | (go_simp; rfl)); intro gb186 hg w36 hbox hb; have n0_ := bkb BK0 hb; have n1_ := bst HB hb; have n2_ := Aside0.mk (hbox); have n3_ := gwl HB hg; have n4_ := gwl HB hg; have n5_ := nbl BK0 hg; have n6_ := nbg BK0 hg; clear BK0; clear HB; have BK0 := n0_; have HB := n1_; have BK186 := n2_; have GW186 := n3_; have GE186 := n4_; have NB0_186 := n5_; have NB186_0 := n6_; clear n0_ n1_ n2_ n3_ n4_ n5_ n6_; clear hb hbox hg; have hnb37 := NB186_0.out; have hnc37 := NB0_186.out; have hcz38_0 : w36.cell? ⟨gb186, 0, none⟩ = some (.int .i8 0) := (blk_cell BK186.out 0).trans rfl; have hcz38_1 : w36.cell? ⟨gb186, 1, none⟩ = some (.int .i8 0) := (blk_cell BK186.out 1).trans rfl; have hfz38_0 := blk_frozen BK186.out 0; have hfz38_1 := blk_frozen BK186.out 1))
        have n0_ : Aside0 (((w36.setCell ⟨gb186, 0, none⟩ (.int .i8 t184)).setCell ⟨gb186, 1, none⟩ (.int .i8 t185)).heap[g0]? = some (.cells (mixA (Value.int .u16) [.int .i8 s0_0, .int .i8 s0_1] s0_2) 34 (0, 0))) := ⟨by (with_reducible repeat (first | refine blk_drewN ?_ _ | refine blk_drew ?_ | refine blk_alloc ?_ _)); refine blk_far ?_ NB0_186.out _; (with_reducible repeat (first | refine blk_drewN ?_ _ | refine blk_drew ?_ | refine blk_alloc ?_ _)); refine blk_far ?_ NB0_186.out _; (with_reducible repeat (first | refine blk_drewN ?_ _ | refine blk_drew ?_ | refine blk_alloc ?_ _)); exact BK0.out⟩; have n1_ : Aside0 (((w36.setCell ⟨gb186, 0, none⟩ (.int .i8 t184)).setCell ⟨gb186, 1, none⟩ (.int .i8 t185)).heap[gb186]? = some (.cells #[.int .i8 t184, .int .i8 t185] 39 (0, 0))) := ⟨by (with_reducible repeat (first | refine blk_drewN ?_ _ | refine blk_drew ?_ | refine blk_alloc ?_ _)); refine blk_put (cs := #[.int .i8 t184, .int .i8 0]) ?_ 1 _ rfl; (with_reducible repeat (first | refine blk_drewN ?_ _ | refine blk_drew ?_ | refine blk_alloc ?_ _)); refine blk_put (cs := #[.int .i8 0, .int .i8 0]) ?_ 0 _ rfl; (with_reducible repeat (first | refine blk_drewN ?_ _ | refine blk_drew ?_ | refine blk_alloc ?_ _)); exact BK186.out⟩; have n2_ : Aside0 (Below w.heap.size w ((w36.setCell ⟨gb186, 0, none⟩ (.int .i8 t184)).setCell ⟨gb186, 1, none⟩ (.int .i8 t185))) := ⟨pbs HB⟩; (try clear BK0); (try clear BK186); (try clear HB); generalize ((w36.setCell ⟨gb186, 0, none⟩ (.int .i8 t184)).setCell ⟨gb186, 1, none⟩ (.int .i8 t185)) = w39 at n0_ n1_ n2_ ⊢; have BK0 := n0_; have BK186 := n1_; have HB := n2_; clear n0_ n1_ n2_; replace BK0 := Aside0.mk (blk_drew BK0.out); replace BK186 := Aside0.mk (blk_drew BK186.out); replace HB := Aside0.mk (below_drew1 HB.out)
        refine start_ (n := 11) (S := fun w' => w'.cell? ⟨gb186, 0, none⟩ = some (.int .i8 t184) ∧ w'.cell? ⟨gb186, 1, none⟩ = some (.int .i8 t185)) (ds := []) (bA 11 0) (by kernel_rfl) rfl rfl ⟨(blk_cell BK186.out 0).trans rfl, (blk_cell BK186.out 1).trans rfl⟩ (fun hHeld => ?_); refine with_tabW spec_l02Can.tab5 spec_l02Can.bits5 (fun HT_ HW_ => ?_)
        generalize w39.drew = w40 at BK0 BK186 HB hHeld ⊢; refine pu 0 19 11 1 HT_ ?_; refine tk 1 20 11 3 HT_ HW_ hHeld ?_; refine one_ (i := 2) (N := some 21) (bA 11 7) rfl rfl (one_of HT_.out (by kernel_rfl)) (by decide) (fun K hK => ?_); refine gs Try.func32 #[.pointer (some ⟨g0, 0, none⟩), .agg #[.int .i8 t184, .int .i8 t185]] ?_; with_reducible refine (spec_l01Free.calls g0 s0_0 s0_1 s0_2 t184 t185 true _ ?side1 A7.out).mono ?_; (case side1 => exact (pk BK0))
        rintro e w41 ⟨rfl, hb⟩
        refine ⟨_, rfl, ?_⟩; replace BK0 := bkb BK0 hb; replace BK186 := bkb BK186 hb; replace HB := bst HB hb; (try clear hb); (try clear hb2); (try clear hk); (try clear hi); have q42 : ((ji9) : Int) ≤ ((l1.length : Int) : Int) := oda; obtain ⟨i042, hi042, _, hsz42, _⟩ := info_parts info39; have hroom42 : l1.length ≤ c1 := HC1.out; have hC42 : Kd.C k39 _ (some ad183) l1.length l1 := HR1.out; have hcut42 := cut_to (P := Try.prog) 37 39 .i64 Try.underlying37 hi042 (some ad183) l1.length c1 (ji9) (oda) q42 hroom42; have hr42 := Kd.C_take (m := ((ji9) : Int).toNat) hC42 (by omega); have hy42 : y188.length = ((ji9) : Int).toNat := (by rw [Ny188.out, List.length_take]; omega); rw [← Ny188.out] at hr42; rw [← hy42] at hcut42; have HR191 := Aside0.mk hr42; have HC191 := Aside0.mk (show y188.length ≤ c1 from by omega); clear hr42 hC42 hroom42 hi042 hsz42; have KY42 := Aside0.mk hy42; clear hy42; replace q42 := eq_true q42; refine hK.out _ _ ⟨(blk_cell BK186.out 0).trans rfl, (blk_cell BK186.out 1).trans rfl⟩ (fun hHeld => ?_); clear hK K; refine nm 21 ?_; refine pu 3 22 11 15 HT_ ?_; refine pu 4 23 11 31 HT_ ?_; refine pu 5 24 11 63 HT_ ?_; refine pu 6 25 11 127 HT_ ?_; refine pu 7 26 11 255 HT_ ?_; refine tk 8 27 11 511 HT_ HW_ hHeld ?_; refine one_ (i := 9) (N := some 28) (bA 11 1023) rfl rfl (one_of HT_.out (by kernel_rfl)) (by decide) (fun K hK => ?_); refine gs Try.func82 #[.slice (some ad183) y188.length c1, .agg #[.int .i8 t184, .int .i8 t185]] ?_; with_reducible refine (spec_l01Has.calls k _ _ y188 t184 t185 false _ ?side1 ?side2 A12.out).mono ?_; (case side1 => repeat (first | exact (Kd.C_below HR191.out HB.out) | (with_reducible refine Kd.C_alloc ?_ _) | (with_reducible refine Kd.C_drewN ?_ _) | (with_reducible refine Kd.C_drew ?_))); (case side2 => exact HC191.out)
        rintro e w43 ⟨rfl, hb⟩
        refine ⟨_, rfl, ?_⟩; replace BK0 := bkb BK0 hb; replace BK186 := bkb BK186 hb; replace HB := bst HB hb; (try clear hb); (try clear hb2); (try clear hk); (try clear hi); refine hK.out _ _ ⟨(blk_cell BK186.out 0).trans rfl, (blk_cell BK186.out 1).trans rfl⟩ (fun hHeld => ?_); clear hK K; refine nm 28 ?_; refine pu 10 29 11 2047 HT_ ?_; refine done_ (done_of HT_.out (by kernel_rfl)) ?_
        try go_wp2
        replace BK0 := Aside0.mk (blk_drew BK0.out); replace BK186 := Aside0.mk (blk_drew BK186.out); replace HB := Aside0.mk (below_drew1 HB.out)
        refine start_ (n := 12) (S := fun w' => True) (ds := []) (bA 12 0) (by kernel_rfl) rfl rfl trivial (fun hHeld => ?_); refine with_tabW spec_l02Can.tab7 spec_l02Can.bits7 (fun HT_ HW_ => ?_)
        generalize w43.drew = w44 at BK0 BK186 HB hHeld ⊢; refine pu 0 30 12 1 HT_ ?_; refine pu 1 31 12 3 HT_ ?_; refine pu 2 32 12 7 HT_ ?_; refine pu 3 33 12 15 HT_ ?_; refine pn 4 34 12 31 HT_ ?_; refine pn 5 35 12 63 HT_ ?_; refine pn 6 36 12 127 HT_ ?_; refine pn 7 37 12 255 HT_ ?_; refine pn 8 38 12 511 HT_ ?_; refine pn 9 39 12 1023 HT_ ?_; refine pu 10 40 12 2047 HT_ ?_; refine pu 11 6 12 4095 HT_ ?_; refine done_ (done_of HT_.out (by kernel_rfl)) ?_
        try go_wp2
        go_ret
        exact ⟨by first | rfl | (simp [errW_none, errW_some] <;> rfl) | (simp only [← hji9]; first | rfl | (simp [errW_none, errW_some] <;> rfl)) | (simp [*, errW_none, errW_some] <;> rfl), pbs HB⟩
     ·rw [if_neg c11] at H
      exact absurd H (by simp)
    ·rw [if_neg c10] at H
     exact absurd H (by simp)
   ·replace c8 := Bool.eq_false_iff.mpr c8
    subst c8
    have H1 : (some false) = some r := by rw [if_neg (show ¬ (false = true) by decide)] at H; exact H
    clear H; have H := H1; clear H1; obtain rfl := Option.some.inj H; have p183 : 0 ≤ (0 : Int) := (by omega); have q183 : 0 < (l1.length : Int) := oda; obtain ⟨ad183, e183, hx183_0, hx183_1⟩ := at_T39 HR1.out 0 p183 q183; cases e183; have qi183 : (0 < l1.length) = True := eq_true (by omega); (try rw [show ((0 : Int)).toNat = 0 from rfl] at hx183_0); (try rw [show 0 * 2 = 0 from rfl] at hx183_0); (try rw [Addr.add_zero'] at hx183_0); (try rw [show ((0 : Int)).toNat = 0 from rfl] at hx183_1); (try rw [show 0 * 2 = 0 from rfl] at hx183_1); (try rw [Addr.add_zero'] at hx183_1); replace p183 := eq_true p183; replace q183 := eq_true q183
    go_enter Try.func53, Try.ntmps53
    try go_wp2_with (first | ((with_reducible refine gate_callee (f := 66) rfl ?_); refine gl (some 15) Try.func66 #[.agg #[.int .i8 ((rd_T39 l1 0).f0), .int .i8 ((rd_T39 l1 0).f1)], .int .i64 a2] ?_; (with_reducible refine (spec_l01Next.calls ((rd_T39 l1 0).f0) ((rd_T39 l1 0).f1) a2 t184 t185 _ A6.out).mono ?_); rintro e w45 ⟨rfl, hb⟩; refine ⟨_, rfl, ?_⟩; replace BK0 := bkb BK0 hb; replace HB := bst HB hb; (try clear hb); (try clear hb2); (try clear hk); (try clear hi)) | ((with_reducible refine gate_dst (N := 7) rfl ?_); refine box_event ?hg (N := 7) ?hd (cs := #[.int .i8 0, .int .i8 0]) (t := 39) ?hr ?_; (case hd => rfl); (case hg => rfl); (case hr => first | (go_simp; done) | (go_simp; rfl)); intro gb186 hg w46 hbox hb; have n0_ := bkb BK0 hb; have n1_ := bst HB hb; have n2_ := Aside0.mk (hbox); have n3_ := gwl HB hg; have n4_ := gwl HB hg; have n5_ := nbl BK0 hg; have n6_ := nbg BK0 hg; clear BK0; clear HB; have BK0 := n0_; have HB := n1_; have BK186 := n2_; have GW186 := n3_; have GE186 := n4_; have NB0_186 := n5_; have NB186_0 := n6_; clear n0_ n1_ n2_ n3_ n4_ n5_ n6_; clear hb hbox hg; have hnb47 := NB186_0.out; have hnc47 := NB0_186.out; have hcz48_0 : w46.cell? ⟨gb186, 0, none⟩ = some (.int .i8 0) := (blk_cell BK186.out 0).trans rfl; have hcz48_1 : w46.cell? ⟨gb186, 1, none⟩ = some (.int .i8 0) := (blk_cell BK186.out 1).trans rfl; have hfz48_0 := blk_frozen BK186.out 0; have hfz48_1 := blk_frozen BK186.out 1))
    have n0_ : Aside0 (((w46.setCell ⟨gb186, 0, none⟩ (.int .i8 t184)).setCell ⟨gb186, 1, none⟩ (.int .i8 t185)).heap[g0]? = some (.cells (mixA (Value.int .u16) [.int .i8 s0_0, .int .i8 s0_1] s0_2) 34 (0, 0))) := ⟨by (with_reducible repeat (first | refine blk_drewN ?_ _ | refine blk_drew ?_ | refine blk_alloc ?_ _)); refine blk_far ?_ NB0_186.out _; (with_reducible repeat (first | refine blk_drewN ?_ _ | refine blk_drew ?_ | refine blk_alloc ?_ _)); refine blk_far ?_ NB0_186.out _; (with_reducible repeat (first | refine blk_drewN ?_ _ | refine blk_drew ?_ | refine blk_alloc ?_ _)); exact BK0.out⟩; have n1_ : Aside0 (((w46.setCell ⟨gb186, 0, none⟩ (.int .i8 t184)).setCell ⟨gb186, 1, none⟩ (.int .i8 t185)).heap[gb186]? = some (.cells #[.int .i8 t184, .int .i8 t185] 39 (0, 0))) := ⟨by (with_reducible repeat (first | refine blk_drewN ?_ _ | refine blk_drew ?_ | refine blk_alloc ?_ _)); refine blk_put (cs := #[.int .i8 t184, .int .i8 0]) ?_ 1 _ rfl; (with_reducible repeat (first | refine blk_drewN ?_ _ | refine blk_drew ?_ | refine blk_alloc ?_ _)); refine blk_put (cs := #[.int .i8 0, .int .i8 0]) ?_ 0 _ rfl; (with_reducible repeat (first | refine blk_drewN ?_ _ | refine blk_drew ?_ | refine blk_alloc ?_ _)); exact BK186.out⟩; have n2_ : Aside0 (Below w.heap.size w ((w46.setCell ⟨gb186, 0, none⟩ (.int .i8 t184)).setCell ⟨gb186, 1, none⟩ (.int .i8 t185))) := ⟨pbs HB⟩; (try clear BK0); (try clear BK186); (try clear HB); generalize ((w46.setCell ⟨gb186, 0, none⟩ (.int .i8 t184)).setCell ⟨gb186, 1, none⟩ (.int .i8 t185)) = w49 at n0_ n1_ n2_ ⊢; have BK0 := n0_; have BK186 := n1_; have HB := n2_; clear n0_ n1_ n2_; replace BK0 := Aside0.mk (blk_drew BK0.out); replace BK186 := Aside0.mk (blk_drew BK186.out); replace HB := Aside0.mk (below_drew1 HB.out)
    refine start_ (n := 11) (S := fun w' => w'.cell? ⟨gb186, 0, none⟩ = some (.int .i8 t184) ∧ w'.cell? ⟨gb186, 1, none⟩ = some (.int .i8 t185)) (ds := []) (bA 11 0) (by kernel_rfl) rfl rfl ⟨(blk_cell BK186.out 0).trans rfl, (blk_cell BK186.out 1).trans rfl⟩ (fun hHeld => ?_); refine with_tabW spec_l02Can.tab5 spec_l02Can.bits5 (fun HT_ HW_ => ?_)
    generalize w49.drew = w50 at BK0 BK186 HB hHeld ⊢; refine pu 0 19 11 1 HT_ ?_; refine tk 1 20 11 3 HT_ HW_ hHeld ?_; refine one_ (i := 2) (N := some 21) (bA 11 7) rfl rfl (one_of HT_.out (by kernel_rfl)) (by decide) (fun K hK => ?_); refine gs Try.func32 #[.pointer (some ⟨g0, 0, none⟩), .agg #[.int .i8 t184, .int .i8 t185]] ?_; with_reducible refine (spec_l01Free.calls g0 s0_0 s0_1 s0_2 t184 t185 false _ ?side1 A7.out).mono ?_; (case side1 => exact (pk BK0))
    rintro e w51 ⟨rfl, hb⟩
    refine ⟨_, rfl, ?_⟩; replace BK0 := bkb BK0 hb; replace BK186 := bkb BK186 hb; replace HB := bst HB hb; (try clear hb); (try clear hb2); (try clear hk); (try clear hi); refine hK.out _ _ ⟨(blk_cell BK186.out 0).trans rfl, (blk_cell BK186.out 1).trans rfl⟩ (fun hHeld => ?_); clear hK K; refine nm 21 ?_; refine pu 3 22 11 15 HT_ ?_; refine pu 4 23 11 31 HT_ ?_; refine pn 5 24 11 63 HT_ ?_; refine pn 6 25 11 127 HT_ ?_; refine pn 7 26 11 255 HT_ ?_; refine pn 8 27 11 511 HT_ ?_; refine pn 9 28 11 1023 HT_ ?_; refine pu 10 29 11 2047 HT_ ?_; refine done_ (done_of HT_.out (by kernel_rfl)) ?_
    try go_wp2
    go_ret
    exact ⟨by first | rfl | (simp [errW_none, errW_some] <;> rfl) | (simp [*, errW_none, errW_some] <;> rfl), pbs HB⟩
  ·rw [if_neg c5] at H
   exact absurd H (by simp)
end Go.Proofs.Ytjpponjekcemjaa.PB
end
section
namespace Go.Proofs.Ytjpponjekcemjaa.PB
open Go.RowKit Go.Proofs.YtjpponjekcemjaaW.PrintWords Go.Proofs.YtjpponjekcemjaaW.PrintLast Go.Proofs.YtjpponjekcemjaaW.PrintMore Go.Proofs.Ytjpponjekcemjaa.La
attribute [local go_sem] max2_int min2_int max_two min_two max_three min_three max_four min_four   -- for this text's walks alone
set_option linter.unusedVariables false
set_option linter.unusedSimpArgs false
def spec_l02Seen.l0 : Nat → List ByteArray → ByteArray → Int → Option (Bool)
 | 0, _, _, _ => none
 | k + 1, x0, x1, x5 => if x5 ≥ 0 then (if 0 ≤ x5 then (if x5 < (x0.length : Int) then (if (rdOf ByteArray.empty x0 x5).toList = x1.toList then (some true) else (spec_l02Seen.l0 k x0 x1 (wrap64 (x5 - 1)))) else (none)) else (none)) else (some false)
def spec_l02Seen.f (k : Nat) (l0 : List ByteArray) (a1 : ByteArray) : Option (Bool) := spec_l02Seen.l0 k l0 a1 (wrap64 ((l0.length : Int) - 1))
theorem spec_l02Seen.mono_l : ∀ k, (∀ y0 y1 y2, LeO (spec_l02Seen.l0 k y0 y1 y2) (spec_l02Seen.l0 (k + 1) y0 y1 y2))
 | 0 => fun _ _ _ r h => by simp [spec_l02Seen.l0] at h
 | k + 1 => by
  have ih0 := spec_l02Seen.mono_l k
  ·intro y0 y1 y2
   unfold spec_l02Seen.l0
   repeat' first
   | (with_reducible exact ih0 _ _ _)
   | (with_reducible exact LeO.refl _)
   | (with_reducible exact LeO.none _)
   | (with_reducible refine LeO.ite ?_ ?_)
   | (with_reducible refine LeO.bind ?_ (fun _ => ?_))
   | exact ih0 _ _ _
   | exact LeO.none _
   | refine LeO.ite ?_ ?_
   | refine LeO.bind ?_ (fun _ => ?_)
theorem spec_l02Seen.mono : ∀ a0 a1 k, LeO (spec_l02Seen.f k a0 a1) (spec_l02Seen.f (k + 1) a0 a1) := by
 intro a0 a1 k
 have ih0 := spec_l02Seen.mono_l k
 unfold spec_l02Seen.f
 repeat' first
   | (with_reducible exact ih0 _ _ _)
   | (with_reducible exact LeO.refl _)
   | (with_reducible exact LeO.none _)
   | (with_reducible refine LeO.ite ?_ ?_)
   | (with_reducible refine LeO.bind ?_ (fun _ => ?_))
   | exact ih0 _ _ _
   | exact LeO.none _
   | refine LeO.ite ?_ ?_
   | refine LeO.bind ?_ (fun _ => ?_)
set_option maxHeartbeats 8000000 in
set_option maxRecDepth 100000 in
theorem spec_l02Seen.calls (k : Nat) (A0 : Option Addr) (c0 : Nat) (l0 : List ByteArray) (a1 : ByteArray) (r : Bool) (w : World) (hr0 : Kd.C Kd.string w A0 l0.length l0) (hc0 : l0.length ≤ c0) (h : spec_l02Seen.f k l0 a1 = some r) :
  Calls Try.prog 54 #[.slice A0 l0.length c0, .string a1] w fun e w' => e = .returned (.bool r) ∧ Drawn0 w w' := by
 have HR0 := Aside0.mk hr0
 have HC0 := Aside0.mk hc0
 clear hr0 hc0
 have H : (spec_l02Seen.l0 k l0 a1 (wrap64 ((l0.length : Int) - 1))) = some r := h
 clear h
 have H' := Aside0.mk H
 clear H
 go_enter Try.func54, Try.ntmps54
 go_wp2
 go_loopg [5] k (fun kq v5 w' => ∃ (x5_1 : Int), v5 = .int .i64 x5_1 ∧ Aside0 (spec_l02Seen.l0 kq l0 a1 x5_1 = some r) ∧ Aside0 (kq ≤ k) ∧ Drawn0 w w')
 case atStart => exact ⟨(wrap64 ((l0.length : Int) - 1)), (by first | rfl | (simp; done) | (simp [*]; done)), H', ⟨Nat.le_refl _⟩, by repeat (first | exact Drawn0.refl _ | apply Drawn0.step)⟩
 case round =>
  clear H'
  try clear p2
  obtain ⟨x5_1, rfl, HA, HK1, ⟨m1, rfl⟩⟩ := hrel
  cases gk with
  | zero => exact absurd HA.out (by simp [spec_l02Seen.l0])
  | succ k1 =>
   have H := HA.out; clear HA; simp only [spec_l02Seen.l0] at H
   by_cases c3 : x5_1 ≥ 0
   ·rw [if_pos c3] at H
    have c3b0 : decide (0 ≤ x5_1) = true := decide_eq_true c3; clear c3
    by_cases c4 : 0 ≤ x5_1
    ·rw [if_pos c4] at H
     have c4b0 : decide (0 ≤ x5_1) = true := decide_eq_true c4; clear c4
     by_cases c5 : x5_1 < (l0.length : Int)
     ·rw [if_pos c5] at H
      have c5b0 : decide (x5_1 < (l0.length : Int)) = true := decide_eq_true c5; clear c5
      by_cases c6 : (rdOf ByteArray.empty l0 x5_1).toList = a1.toList
      ·rw [if_pos c6] at H
       have c6b0 : ((rdOf ByteArray.empty l0 x5_1).toList == a1.toList) = true := beq_iff_eq.mpr c6; have c6b1 : ((rdOf ByteArray.empty l0 x5_1).toList != a1.toList) = false := bne_eq_false_iff_eq.mpr c6; clear c6; obtain rfl := Option.some.inj H; have p194 : 0 ≤ (x5_1 : Int) := oda; have q194 : x5_1 < (l0.length : Int) := oda; obtain ⟨ad194, e194, hx194_0⟩ := Kd.at_string HR0.out x5_1 p194 q194; cases e194; replace p194 := eq_true p194; replace q194 := eq_true q194
       go_wp2
       go_ret
       exact ⟨by first | rfl | (simp; done) | (simp [*]; done), by repeat (first | exact Drawn0.refl _ | apply Drawn0.step)⟩
      ·rw [if_neg c6] at H
       have c6b0 : ((rdOf ByteArray.empty l0 x5_1).toList == a1.toList) = false := beq_eq_false_iff_ne.mpr c6; have c6b1 : ((rdOf ByteArray.empty l0 x5_1).toList != a1.toList) = true := bne_iff_ne.mpr c6; have H' := Aside0.mk H; clear H; have p194 : 0 ≤ (x5_1 : Int) := oda; have q194 : x5_1 < (l0.length : Int) := oda; obtain ⟨ad194, e194, hx194_0⟩ := Kd.at_string HR0.out x5_1 p194 q194; cases e194; replace p194 := eq_true p194; replace q194 := eq_true q194
       go_wp2
       go_roundg k1
       case measure => have := HK1.out; omega
       case rel => exact ⟨(wrap64 (x5_1 - 1)), (by first | rfl | (simp; done) | (simp [*]; done)), H', ⟨by have := HK1.out; omega⟩, by repeat (first | exact Drawn0.refl _ | apply Drawn0.step)⟩
     ·rw [if_neg c5] at H
      exact absurd H (by simp)
    ·rw [if_neg c4] at H
     exact absurd H (by simp)
   ·rw [if_neg c3] at H
    have c3b0 : decide (0 ≤ x5_1) = false := decide_eq_false c3; clear c3; obtain rfl := Option.some.inj H
    go_wp2
    go_ret
    exact ⟨by first | rfl | (simp; done) | (simp [*]; done), by repeat (first | exact Drawn0.refl _ | apply Drawn0.step)⟩
def spec_l00Own.f (l0 : List Int) : Option (List Int) := (some (([] : List Int) : List Int)).bind fun y195 => (if y195.length + l0.length < 17592186044416 then (some (y195 ++ l0)) else (none))
set_option maxHeartbeats 8000000 in
set_option maxRecDepth 100000 in
theorem spec_l00Own.calls (A0 : Option Addr) (c0 : Nat) (l0 : List Int) (r : List Int) (w : World) (hr0 : Kd.C (Kd.int .i64) w A0 l0.length l0) (hc0 : l0.length ≤ c0) (h : spec_l00Own.f l0 = some r) :
  Calls Try.prog 55 #[.slice A0 l0.length c0] w fun e w' => ∃ v0_ : Value, e = .returned (v0_) ∧ Kd.R (Kd.int .i64) 2 w' w.heap.size (fun _ => True) v0_ r ∧ Below w.heap.size w w' := by
 have HR0 := Aside0.mk hr0
 have HC0 := Aside0.mk hc0
 clear hr0 hc0
 have HB := Aside0.mk (Below.refl w.heap.size w)
 have H : ((some (([] : List Int) : List Int)).bind fun y195 => (if y195.length + l0.length < 17592186044416 then (some (y195 ++ l0)) else (none))) = some r := h
 clear h
 obtain ⟨y195, hy195⟩ : ∃ y_ : List Int, y_ = (([] : List Int)) := ⟨_, rfl⟩
 replace H : (if y195.length + l0.length < 17592186044416 then (some (y195 ++ l0)) else (none)) = some r := by first | (rw [hy195]; with_reducible exact H) | (have H2_ := (Option.bind_some _ _).symm.trans H; rw [hy195]; with_reducible exact H2_) | (have H2_ := (Option.bind_some _ _).symm.trans H; with_reducible exact H2_) | with_reducible exact H | (rw [hy195]; exact H) | exact H
 have Ny195 := Aside0.mk hy195
 clear hy195
 by_cases c2 : y195.length + l0.length < 17592186044416
 ·rw [if_pos c2] at H
  have LMc2 := Aside0.mk c2; clear c2; obtain ⟨y198, hy198⟩ : ∃ y_ : List Int, y_ = (y195 ++ l0) := ⟨_, rfl⟩
  replace H : (some y198) = some r := by first | (rw [hy198]; with_reducible exact H) | (have H2_ := (Option.bind_some _ _).symm.trans H; rw [hy198]; with_reducible exact H2_) | (have H2_ := (Option.bind_some _ _).symm.trans H; with_reducible exact H2_) | with_reducible exact H | (rw [hy198]; exact H) | exact H
  have Ny198 := Aside0.mk hy198; clear hy198; obtain rfl := Option.some.inj H
  go_enter Try.func55, Try.ntmps55
  go_wp2_with (first | ((with_reducible refine gate_dst (N := 3) rfl ?_); refine Kd.R_lit (Kd.int .i64) _ 2 ?hg (N := 3) ?hd (xs := ([] : List Int)) (inner := []) (ok := fun _ => True) (okp := fun _ => True) ?hr ?hp (fun _ hk => hk) trivial (Below.refl _ _) (Nat.le_refl _) (by simp) ?_; (case hd => rfl); (case hg => rfl); (case hr => first | (go_simp; done) | (go_simp; rfl)); (case hp => exact (Reps.none _ _)); intro v196 w3 ho4 hb hg_ hnew_; clear hg_ hnew_; (first | rw [← Ny195.out] at ho4 | (simp only [Int.reduceToNat] at ho4; rw [← Ny195.out] at ho4)); have HO197 := Aside0.mk (Kd.R_lower ho4 (below_size (by repeat (first | (with_reducible first | exact HB.out | apply below_alloc | apply pw_below_drewN | apply below_drew1) | exact HB.out)))); replace HB := bst HB hb; clear hb ho4) | ((with_reducible refine gate_builtin (b := .append) (xs := #[.tmp 3, .tmp 4]) rfl ?_); at_builtin; refine Kd.R_append_rows (Kd.int .i64) (w0 := w) w.heap.size rfl (.tmp 3) (.tmp 4) 31 2 (.int .i64 0) 8 rfl Try.underlying31 info2 rfl (by decide) (by omega) v196 y195 l0 _ _ _ (fun _ => True) (fun _ => False) rfl rfl ?aO ?aR (fun _ _ h => h) (fun _ h => h.elim) ?aF ?aB ?aS ?aL ?_; (case aR => repeat (first | exact (Kd.C_below HR0.out HB.out) | (with_reducible refine Kd.C_alloc ?_ _) | (with_reducible refine Kd.C_drewN ?_ _) | (with_reducible refine Kd.C_drew ?_))); (case aB => exact (pb HB)); (case aF => exact (fun _ _ => trivial)); (case aO => exact (by (with_reducible repeat (first | apply Kd.R_alloc | apply Kd.R_drewN | apply Kd.R_drew)); exact HO197.out)); (case aS => exact (below_size (by repeat (first | (with_reducible first | exact HB.out | apply below_alloc | apply pw_below_drewN | apply below_drew1) | exact HB.out)))); (case aL => have := LMc2.out; omega); intro v199 w5 ho hb hg hat; rw [← Ny198.out] at ho; have n0_ := Aside0.mk (hb); have n1_ := Aside0.mk (ho); clear HB; clear HO197; have HB := n0_; have HO200 := n1_; clear n0_ n1_; clear ho hb hg hat))
  go_ret
  exact ⟨_, by first | rfl | (simp [errW_none, errW_some] <;> rfl) | (simp [*, errW_none, errW_some] <;> rfl), by (with_reducible repeat (first | apply Kd.R_alloc | apply Kd.R_drewN | apply Kd.R_drew)); exact HO200.out, pb HB⟩
 ·rw [if_neg c2] at H
  exact absurd H (by simp)
structure spec_l02Lead.Nd where
  f0 : List S39
  f1 : List Int
def spec_l02Lead.zN : spec_l02Lead.Nd := ⟨[], []⟩
def spec_l02Lead.rd (xs : List spec_l02Lead.Nd) (i : Int) : spec_l02Lead.Nd := xs.getD i.toNat spec_l02Lead.zN
def spec_l02Lead.kM (w : World) : Kd spec_l02Lead.Nd := Kd.iso (Kd.pair (Kd.mix 39 k39 k39 w) (Kd.slice 2 (Kd.int .i64))) (fun x : spec_l02Lead.Nd => (x.f0, x.f1))
theorem spec_l02Lead.openM {w W : World} (hb : Below w.heap.size w W) {base : Nat} {ok : Nat → Prop} {x : spec_l02Lead.Nd} {cs : List Value} (h : (spec_l02Lead.kM w).M W base ok x cs) :
    ∃ A c A1 c1, cs = [.slice A x.f0.length c, .slice A1 x.f1.length c1] ∧ x.f0.length ≤ c ∧ x.f1.length ≤ c1 ∧ Kd.F k39 W (fun k => k < w.heap.size ∨ ok k) A x.f0.length x.f0 ∧ Kd.R (Kd.int .i64) 2 W base ok (.slice A1 x.f1.length c1) x.f1 := by
  obtain ⟨c0, c1, rfl, h0, ⟨v1, rfl, h1⟩⟩ := h; obtain ⟨A1, k1, rfl⟩ := Kd.R_slice h1; have l1 := (Kd.R_reads' h1).2.1
  rcases h0 with ⟨A, c, rfl, hl, hr⟩ | ⟨v, rfl, hr⟩
  · exact ⟨A, c, A1, k1, rfl, hl, l1, Kd.F_mono (Kd.F_below (Kd.C_F (Kd.heap_iso _ (Kd.heap_pair (Kd.heap_int _) (Kd.heap_int _))) hr) hb) (fun k hk => Or.inl hk), h1⟩
  · obtain ⟨A, k0, rfl⟩ := Kd.R_slice hr
    exact ⟨A, k0, A1, k1, rfl, (Kd.R_reads' hr).2.1, l1, Kd.F_mono (Kd.R_F hr) (fun k hk => Or.inr hk), h1⟩
theorem spec_l02Lead.came {w W : World} {base : Nat} {ok : Nat → Prop} {A : Option Addr} {c : Nat} {f : List S39} {v : Value} {m : List Int} (hl : f.length ≤ c) (h : Kd.C k39 w A f.length f) (h1 : Kd.R (Kd.int .i64) 2 W base ok v m) : (spec_l02Lead.kM w).M W base ok ⟨f, m⟩ [.slice A f.length c, v] :=
  ⟨[.slice A f.length c], [v], rfl, Kd.mix_came hl h, ⟨v, rfl, h1⟩⟩
theorem spec_l02Lead.made {w W : World} {base : Nat} {ok : Nat → Prop} {u : Value} {f : List S39} {v : Value} {m : List Int} (h : Kd.R k39 39 W base ok u f) (h1 : Kd.R (Kd.int .i64) 2 W base ok v m) : (spec_l02Lead.kM w).M W base ok ⟨f, m⟩ [u, v] :=
  ⟨[u], [v], rfl, Kd.mix_made h, ⟨v, rfl, h1⟩⟩
structure spec_l02Lead.LI (w : World) (gb : Nat) (x y : Int) (vq : Value) (q : List spec_l02Lead.Nd) (vs : Value) (seen : List ByteArray) (W : World) : Prop where
  hb : Below w.heap.size w W
  hq : Kd.R (spec_l02Lead.kM w) 88 W w.heap.size (fun _ => True) vq q
  hs : Kd.R Kd.string 9 W w.heap.size (fun _ => True) vs seen
  bx : W.heap[gb]? = some (.cells #[.int .i8 x, .int .i8 y] 39 (0, 0))
theorem spec_l02Lead.LI.below {w W W1 : World} {gb : Nat} {x y : Int} {vq : Value} {q : List spec_l02Lead.Nd} {vs : Value} {seen : List ByteArray} (h : spec_l02Lead.LI w gb x y vq q vs seen W) (hb : Below W.heap.size W W1) : spec_l02Lead.LI w gb x y vq q vs seen W1 :=
  ⟨below_step h.hb hb, Kd.R_below h.hq hb, Kd.R_below h.hs hb, (hb.block gb (blk_lt h.bx)).trans h.bx⟩
structure spec_l02Lead.LN (w : World) (gb : Nat) (x y : Int) (vq : Value) (q : List spec_l02Lead.Nd) (vs : Value) (seen : List ByteArray) (g : Nat) (A : Option Addr) (c : Nat) (f : List S39) (A1 : Option Addr) (c1 : Nat) (m : List Int) (W : World) : Prop where
  li : spec_l02Lead.LI w gb x y vq q vs seen W
  bg : W.heap[g]? = some (.cells #[.slice A f.length c, .slice A1 m.length c1] 88 (0, 0))
  ng : some g ≠ vq.ownBlock
  hf : Kd.F k39 W (fun k => some k ≠ vq.ownBlock ∧ some k ≠ vs.ownBlock) A f.length f
  hm : Kd.F (Kd.int .i64) W (fun k => some k ≠ vq.ownBlock ∧ some k ≠ vs.ownBlock) A1 m.length m
  hc : f.length ≤ c
  hc1 : m.length ≤ c1
theorem spec_l02Lead.kE (w : World) : ∀ q, q ∈ 88 :: (spec_l02Lead.kM w).E → q ≠ 9 := by
  show ∀ q, q ∈ [88, 39, 2] → q ≠ 9
  decide
section
variable {w W W1 : World} {gb : Nat} {x y : Int} {vq : Value} {q : List spec_l02Lead.Nd} {vs : Value} {seen : List ByteArray} {g : Nat} {A : Option Addr} {c : Nat} {f : List S39} {A1 : Option Addr} {c1 : Nat} {m : List Int}
theorem spec_l02Lead.LN.below (h : spec_l02Lead.LN w gb x y vq q vs seen g A c f A1 c1 m W) (hb : Below W.heap.size W W1) : spec_l02Lead.LN w gb x y vq q vs seen g A c f A1 c1 m W1 :=
  ⟨h.li.below hb, (hb.block g (blk_lt h.bg)).trans h.bg, h.ng, Kd.F_below h.hf hb, Kd.F_below h.hm hb, h.hc, h.hc1⟩
theorem spec_l02Lead.LI.alloc (h : spec_l02Lead.LI w gb x y vq q vs seen W) (o : Obj) : spec_l02Lead.LI w gb x y vq q vs seen (W.alloc o) := h.below (below_alloc (Below.refl _ _) o)
theorem spec_l02Lead.LI.drew (h : spec_l02Lead.LI w gb x y vq q vs seen W) : spec_l02Lead.LI w gb x y vq q vs seen W.drew := h.below (below_drew (Below.refl _ _))
theorem spec_l02Lead.LI.drewN (h : spec_l02Lead.LI w gb x y vq q vs seen W) (n_ : Nat) : spec_l02Lead.LI w gb x y vq q vs seen (W.drewN n_) := h.below (pw_below_drewN (Below.refl _ _) n_)
theorem spec_l02Lead.LN.alloc (h : spec_l02Lead.LN w gb x y vq q vs seen g A c f A1 c1 m W) (o : Obj) : spec_l02Lead.LN w gb x y vq q vs seen g A c f A1 c1 m (W.alloc o) := h.below (below_alloc (Below.refl _ _) o)
theorem spec_l02Lead.LN.drew (h : spec_l02Lead.LN w gb x y vq q vs seen g A c f A1 c1 m W) : spec_l02Lead.LN w gb x y vq q vs seen g A c f A1 c1 m W.drew := h.below (below_drew (Below.refl _ _))
theorem spec_l02Lead.LN.drewN (h : spec_l02Lead.LN w gb x y vq q vs seen g A c f A1 c1 m W) (n_ : Nat) : spec_l02Lead.LN w gb x y vq q vs seen g A c f A1 c1 m (W.drewN n_) := h.below (pw_below_drewN (Below.refl _ _) n_)
theorem spec_l02Lead.LN.more (h : spec_l02Lead.LN w gb x y vq q vs seen g A c f A1 c1 m W) {vs1 : Value} {seen1 : List ByteArray} (hs : Kd.R Kd.string 9 W1 w.heap.size (fun _ => True) vs1 seen1) (hb : Below w.heap.size w W1) (hg : W.grownBy W1 vs.ownBlock) (hat : vs1.ownBlock = vs.ownBlock ∨ ∃ b, vs1.ownBlock = some b ∧ W.heap.size ≤ b) :
    spec_l02Lead.LN w gb x y vq q vs1 seen1 g A c f A1 c1 m W1 :=
  ⟨⟨hb, Kd.R_over' h.li.hq (Kd.R_typed h.li.hs) (spec_l02Lead.kE w) hg, hs, blk_grown h.li.bx hg (Kd.R_ne h.li.hs h.li.bx (by decide))⟩, blk_grown h.bg hg (Kd.R_ne h.li.hs h.bg (by decide)), h.ng, Kd.F_after h.hf hg hat, Kd.F_after h.hm hg hat, h.hc, h.hc1⟩
theorem spec_l02Lead.LN.queue (h : spec_l02Lead.LN w gb x y vq q vs seen g A c f A1 c1 m W) {vq1 : Value} {q1 : List spec_l02Lead.Nd} (hq : Kd.R (spec_l02Lead.kM w) 88 W1 w.heap.size (fun _ => True) vq1 q1) (hb : Below w.heap.size w W1) (hg : W.grownBy W1 vq.ownBlock) (hat : vq1.ownBlock = vq.ownBlock ∨ ∃ b, vq1.ownBlock = some b ∧ W.heap.size ≤ b) :
    spec_l02Lead.LN w gb x y vq1 q1 vs seen g A c f A1 c1 m W1 :=
  ⟨⟨hb, hq, Kd.R_over' h.li.hs (Kd.R_typed h.li.hq) (by decide) hg, blk_grown h.li.bx hg (Kd.R_ne h.li.hq h.li.bx (by decide))⟩, blk_grown h.bg hg h.ng, (by
    rcases hat with hat | ⟨b, hb, hle⟩
    · rw [hat]; exact h.ng
    · rw [hb]; intro e; injection e with e; have := blk_lt h.bg; omega), Kd.F_mono (Kd.F_after (Kd.F_mono h.hf (fun k hk => ⟨hk.2, hk.1⟩)) hg hat) (fun k hk => ⟨hk.2, hk.1⟩), Kd.F_mono (Kd.F_after (Kd.F_mono h.hm (fun k hk => ⟨hk.2, hk.1⟩)) hg hat) (fun k hk => ⟨hk.2, hk.1⟩), h.hc, h.hc1⟩
theorem spec_l02Lead.LI.node (h : spec_l02Lead.LI w gb x y (.slice (some ⟨g, 0, none⟩) q.length c) q vs seen W) (i : Int) (h0 : 0 ≤ i) (h1 : i < (q.length : Int)) :
    ∃ A k A1 k1, W.cell? ⟨g, i.toNat * 2, none⟩ = some (.slice A (spec_l02Lead.rd q i).f0.length k) ∧ W.cell? ⟨g, i.toNat * 2 + 1, none⟩ = some (.slice A1 (spec_l02Lead.rd q i).f1.length k1) ∧ (spec_l02Lead.rd q i).f0.length ≤ k ∧ (spec_l02Lead.rd q i).f1.length ≤ k1 ∧
      Kd.F k39 W (fun k => some k ≠ (Value.slice (some ⟨g, 0, none⟩) q.length c).ownBlock ∧ some k ≠ vs.ownBlock) A (spec_l02Lead.rd q i).f0.length (spec_l02Lead.rd q i).f0 ∧ Kd.F (Kd.int .i64) W (fun k => some k ≠ (Value.slice (some ⟨g, 0, none⟩) q.length c).ownBlock ∧ some k ≠ vs.ownBlock) A1 (spec_l02Lead.rd q i).f1.length (spec_l02Lead.rd q i).f1 ∧
      Kd.R (Kd.int .i64) 2 W w.heap.size (fun _ => True) (.slice A1 (spec_l02Lead.rd q i).f1.length k1) (spec_l02Lead.rd q i).f1 := by
  have hq := Kd.R_bound h.hq; obtain ⟨cs, hcl, hM, hcc⟩ := Kd.R_get hq spec_l02Lead.zN i h0 h1; obtain ⟨A, k, A1, k1, rfl, l0, l1, hF, hR⟩ := spec_l02Lead.openM h.hb hM
  have ty : ∀ k, (∃ q_, q_ ∈ 88 :: (spec_l02Lead.kM w).E ∧ ∃ cells, W.heap[k]? = some (.cells cells q_ (0, 0))) → some k ≠ vs.ownBlock := by
    rintro k ⟨q_, hq_, cells, hc⟩ he
    obtain ⟨cells', hc'⟩ := Kd.R_typed h.hs k he.symm; rw [hc] at hc'
    injection hc' with hc'
    injection hc' with _ e
    subst e; have hE : (spec_l02Lead.kM w).E = [39, 2] := rfl; rw [hE] at hq_; exact absurd hq_ (by decide)
  have gB : w.heap.size ≤ g := Kd.R_base h.hq g rfl
  have vB : ∀ k, k < w.heap.size → some k ≠ vs.ownBlock := fun k hk he => by have := Kd.R_base h.hs k he.symm; omega
  have e0 := hcc 0 _ rfl; have e1 := hcc 1 _ rfl; have sz : (spec_l02Lead.kM w).sz = 2 := rfl; rw [sz, add_plain] at e0 e1; refine ⟨A, k, A1, k1, e0, e1, l0, l1, Kd.F_mono hF (fun k hk => ?_), Kd.F_mono (Kd.R_F hR) (fun k hk => ?_), Kd.R_mono hR (fun _ _ => trivial)⟩
  · rcases hk with hk | hk
    · refine ⟨fun he => ?_, vB k hk⟩
      have : k = g := by simpa [Value.ownBlock] using he
      omega
    · exact ⟨hk.2, ty k hk.1.2.2.2⟩
  · exact ⟨hk.2, ty k hk.1.2.2.2⟩
end
mutual
def spec_l02Lead.l0 : Nat → List spec_l02Lead.Nd → List ByteArray → Int → Int → Int → LA 10 → Int → Int → Int → Option (List Int × Int × Int)
  | 0, _, _, _, _, _, _, _, _, _ => none
  | k + 1, q, seen, i, s0, s1, W, x, y, bud => if i < (q.length : Int) then (if i = bud then some ([], 0, 7) else (if 0 ≤ i then (if 0 < ((spec_l02Lead.rd q i).f0.length : Int) then (if ((rd_T39 (spec_l02Lead.rd q i).f0 0).f0 == x && (rd_T39 (spec_l02Lead.rd q i).f0 0).f1 == y) = true then (if ((spec_l02Lead.rd q i).f1.length : Int) > 60 then some ([], 0, 3) else some ((spec_l02Lead.rd q i).f1, wrap64 (i + 1), 0)) else spec_l02Lead.l1 k q seen i (spec_l02Lead.rd q i) 0 s0 s1 W x y bud) else none) else none)) else some ([], 0, 6)
def spec_l02Lead.l1 : Nat → List spec_l02Lead.Nd → List ByteArray → Int → spec_l02Lead.Nd → Int → Int → Int → LA 10 → Int → Int → Int → Option (List Int × Int × Int)
  | 0, _, _, _, _, _, _, _, _, _, _, _ => none
  | k + 1, q, seen, i, n, mv, s0, s1, W, x, y, bud => if mv ≤ 4 then ((spec_l02Can.f k s0 s1 W n.f0 mv).bind fun b => (if b = true then ((spec_l02Made.f k n.f0 mv).bind fun nx => ((spec_l02Text.f k nx).bind fun key => ((spec_l02Seen.f k seen key).bind fun b2 => (if b2 = true then (spec_l02Lead.l1 k q seen i n (wrap64 (mv + 1)) s0 s1 W x y bud) else (if seen.length < 8796093022207 then ((spec_l00Own.f n.f1).bind fun ow => (if ow.length < 17592186044415 then (if q.length < 2932031007402 then (spec_l02Lead.l1 k (q ++ [⟨nx, ow ++ [mv]⟩]) (seen ++ [key]) i n (wrap64 (mv + 1)) s0 s1 W x y bud) else none) else none)) else none))))) else (spec_l02Lead.l1 k q seen i n (wrap64 (mv + 1)) s0 s1 W x y bud))) else (spec_l02Lead.l0 k q seen (wrap64 (i + 1)) s0 s1 W x y bud)
end
def spec_l02Lead.f (k : Nat) (s0 : Int) (s1 : Int) (W : LA 10) (l1 : List S39) (x : Int) (y : Int) (bud : Int) : Option (List Int × Int × Int) := (spec_l02Text.f k l1).bind fun key => spec_l02Lead.l0 k [⟨l1, []⟩] [key] 0 s0 s1 W x y bud
mutual
theorem spec_l02Lead.mono_l0 : ∀ k, ∀ y0 y1 y2 y3 y4 y5 y6 y7 y8, LeO (spec_l02Lead.l0 k y0 y1 y2 y3 y4 y5 y6 y7 y8) (spec_l02Lead.l0 (k + 1) y0 y1 y2 y3 y4 y5 y6 y7 y8)
  | 0 => fun _ _ _ _ _ _ _ _ _ r h => by simp [spec_l02Lead.l0] at h
  | k + 1 => by
    have ih := spec_l02Lead.mono_l1 k; intro y0 y1 y2 y3 y4 y5 y6 y7 y8; unfold spec_l02Lead.l0; exact LeO.ite (LeO.ite (LeO.refl _) (LeO.ite (LeO.ite (LeO.ite (LeO.refl _) (ih _ _ _ _ _ _ _ _ _ _ _)) (LeO.refl _)) (LeO.refl _))) (LeO.refl _)
theorem spec_l02Lead.mono_l1 : ∀ k, ∀ y0 y1 y2 y3 y4 y5 y6 y7 y8 y9 y10, LeO (spec_l02Lead.l1 k y0 y1 y2 y3 y4 y5 y6 y7 y8 y9 y10) (spec_l02Lead.l1 (k + 1) y0 y1 y2 y3 y4 y5 y6 y7 y8 y9 y10)
  | 0 => fun _ _ _ _ _ _ _ _ _ _ _ r h => by simp [spec_l02Lead.l1] at h
  | k + 1 => by
    have ih0 := spec_l02Lead.mono_l0 k; have ih := spec_l02Lead.mono_l1 k; intro y0 y1 y2 y3 y4 y5 y6 y7 y8 y9 y10; unfold spec_l02Lead.l1; exact LeO.ite (LeO.bind (spec_l02Can.mono _ _ _ _ _ _) (fun _ => LeO.ite (LeO.bind (spec_l02Made.mono _ _ _) (fun _ => LeO.bind (spec_l02Text.mono _ _) (fun _ => LeO.bind (spec_l02Seen.mono _ _ _) (fun _ => LeO.ite (ih _ _ _ _ _ _ _ _ _ _ _) (LeO.ite (LeO.bind (LeO.refl _) (fun _ => LeO.ite (LeO.ite (ih _ _ _ _ _ _ _ _ _ _ _) (LeO.refl _)) (LeO.refl _))) (LeO.refl _)))))) (ih _ _ _ _ _ _ _ _ _ _ _))) (ih0 _ _ _ _ _ _ _ _ _)
end
theorem spec_l02Lead.mono : ∀ a0 a1 a2 a3 a4 a5 a6 k, LeO (spec_l02Lead.f k a0 a1 a2 a3 a4 a5 a6) (spec_l02Lead.f (k + 1) a0 a1 a2 a3 a4 a5 a6) := by
  intro a0 a1 a2 a3 a4 a5 a6 k; unfold spec_l02Lead.f; exact LeO.bind (spec_l02Text.mono _ _) (fun _ => spec_l02Lead.mono_l0 k _ _ _ _ _ _ _ _ _)
set_option maxHeartbeats 8000000 in
set_option maxRecDepth 100000 in
theorem spec_l02Lead.calls (k : Nat) (g0 : Nat) (s0 : Int) (s1 : Int) (W : LA 10) (A1 : Option Addr) (c1 : Nat) (l1 : List S39) (x : Int) (y : Int) (bud : Int) (r1 : List Int) (r2 : Int) (r3 : Int) (w : World) (hb0 : w.heap[g0]? = some (.cells (mixA (Value.int .u16) [.int .i8 s0, .int .i8 s1] W) 34 (0, 0))) (hr1 : Kd.C k39 w A1 l1.length l1) (hc1 : l1.length ≤ c1) (h : spec_l02Lead.f k s0 s1 W l1 x y bud = some (r1, r2, r3)) :
    Calls Try.prog 33 #[.pointer (some ⟨g0, 0, none⟩), .slice A1 l1.length c1, .agg #[.int .i8 x, .int .i8 y], .int .i64 bud] w fun e w' => ∃ v0_ : Value, e = .returned (.tuple #[v0_, .int .i64 r2, .int .i64 r3]) ∧ Kd.R (Kd.int .i64) 2 w' w.heap.size (fun _ => True) v0_ r1 ∧ Below w.heap.size w w' := by
  obtain ⟨key, hkey, h⟩ := Option.bind_eq_some_iff.1 h; have AK := Aside0.mk hkey; have H' := Aside0.mk h; have HR := Aside0.mk hr1; have HC := Aside0.mk hc1; have BK := Aside0.mk hb0; have HB := Aside0.mk (Below.refl w.heap.size w); clear hkey h hr1 hc1 hb0
  go_enter Try.func33, Try.ntmps33
  go_wp2_with (first | ((with_reducible refine gate_dst (N := 6) rfl ?_); refine box_event ?hg (N := 6) ?hd (cs := #[.int .i8 x, .int .i8 y]) (t := 39) ?hr ?_; (case hd => rfl); (case hg => rfl); (case hr => first | (go_simp; done) | (go_simp; rfl)); intro gb hgb wb hbox hb; have n0_ := bst HB hb; have BX := Aside0.mk hbox; clear HB; have HB := n0_; clear n0_ hb hbox hgb) | ((with_reducible refine gate_dst (N := 19) rfl ?_); refine Kd.R_lit (Kd.int .i64) (w0 := w) w.heap.size 2 ?hg (N := 19) ?hd (xs := ([] : List Int)) (inner := []) (ok := fun _ => True) (okp := fun _ => True) ?hr ?hp (fun _ hk => hk) trivial ?hB ?hS (by simp) ?_; (case hd => rfl); (case hg => rfl); (case hr => first | (go_simp; done) | (go_simp; rfl)); (case hp => exact (Reps.none _ _)); (case hB => exact pbs HB); (case hS => exact below_size (pbs HB)); intro vl wl ho hb hg_ hnew_; have HM := Aside0.mk ho; have n0_ := Aside0.mk hb; have n1_ := Aside0.mk ((hg_.block gb (blk_lt (pk BX)) (by simp)).trans (pk BX)); clear HB BX ho hb hg_ hnew_; have HB := n0_; have BX := n1_; clear n0_ n1_; obtain ⟨Am, cm, em⟩ := Kd.R_slice HM.out; subst em) | ((with_reducible refine gate_dst (N := 21) rfl ?_); refine Kd.R_lit (spec_l02Lead.kM w) (w0 := w) w.heap.size 88 ?hg (N := 21) ?hd (xs := [⟨l1, []⟩]) (inner := [.slice A1 l1.length c1, .slice Am ([] : List Int).length cm]) (ok := fun _ => True) (okp := fun _ => True) ?hr ?hp (fun _ hk => hk) trivial ?hB ?hS (by simp) ?_; (case hd => rfl); (case hg => rfl); (case hr => first | (go_simp; done) | (go_simp; rfl)); (case hp => exact Reps.snoc (Reps.none _ _) (spec_l02Lead.came HC.out HR.out (by (with_reducible repeat (first | apply Kd.R_alloc | apply Kd.R_drewN | apply Kd.R_drew)); exact HM.out)) rfl); (case hB => exact pbs HB); (case hS => exact below_size (pbs HB)); intro vl wl ho hb hg_ hnew_; have HQ := Aside0.mk ho; have n0_ := Aside0.mk hb; have n1_ := Aside0.mk ((hg_.block gb (blk_lt (pk BX)) (by simp)).trans (pk BX)); clear HB BX ho hb hg_ hnew_; have HB := n0_; have BX := n1_; clear n0_ n1_; obtain ⟨Aq, cq, eq_⟩ := Kd.R_slice HQ.out; subst eq_) | ((with_reducible refine gate_callee (f := 52) rfl ?_); refine goesL_ (some 23) rfl rfl Try.func52 (by kernel_rfl) rfl #[.slice A1 l1.length c1] rfl (by (try simp only [List.map_toArray, List.map_cons, List.map_nil]); first | done | rfl) ?_; (with_reducible refine (spec_l02Text.calls k A1 c1 l1 key _ ?sC ?sL AK.out).mono ?_); (case sC => exact Kd.C_below HR.out (pbs HB)); (case sL => exact HC.out); rintro e w1 ⟨rfl, hb⟩; refine ⟨_, rfl, ?_⟩; have n0_ := bst HB hb; have n1_ := bkb BX hb; have n2_ := krb HQ hb; clear HB BX HQ hb; have HB := n0_; have BX := n1_; have HQ := n2_; clear n0_ n1_ n2_) | ((with_reducible refine gate_dst (N := 24) rfl ?_); refine Kd.R_lit (Kd.string) (w0 := w) w.heap.size 9 ?hg (N := 24) ?hd (xs := [key]) (inner := [.string key]) (ok := fun _ => True) (okp := fun _ => True) ?hr ?hp (fun _ hk => hk) trivial ?hB ?hS (by simp) ?_; (case hd => rfl); (case hg => rfl); (case hr => first | (go_simp; done) | (go_simp; rfl)); (case hp => exact Reps.snoc (Reps.none _ _) rfl rfl); (case hB => exact pbs HB); (case hS => exact below_size (pbs HB)); intro vl wl ho hb hg_ hnew_; have HL := Aside0.mk (show spec_l02Lead.LI w gb x y _ _ _ _ wl from ⟨hb, Kd.R_grown (by (with_reducible repeat (first | apply Kd.R_alloc | apply Kd.R_drewN | apply Kd.R_drew)); exact HQ.out) hg_ (by simp), ho, (hg_.block gb (blk_lt (pk BX)) (by simp)).trans (pk BX)⟩); clear HB BX HQ HM ho hb hg_ hnew_))
  go_loopg [11, 12, 13] k (fun kq v11 v12 v13 w' => ∃ (q : List spec_l02Lead.Nd) (seen : List ByteArray) (i : Int), v13 = .int .i64 i ∧ Aside0 (spec_l02Lead.l0 kq q seen i s0 s1 W x y bud = some (r1, r2, r3)) ∧ Aside0 (kq ≤ k) ∧ Aside0 (spec_l02Lead.LI w gb x y v11 q v12 seen w'))
  case atStart => exact ⟨[⟨l1, []⟩], [key], 0, (by first | rfl | (simp; done) | (simp [*]; done)), H', ⟨Nat.le_refl _⟩, ⟨by (with_reducible repeat (first | apply spec_l02Lead.LI.alloc | apply spec_l02Lead.LI.drewN | apply spec_l02Lead.LI.drew)); exact HL.out⟩⟩
  case round =>
    clear H'; obtain ⟨q, seen, i, rfl, HA, HK1, HL⟩ := hrel; obtain ⟨Aq, cq, eq_⟩ := Kd.R_slice HL.out.hq; subst eq_
    cases gk with
    | zero => exact absurd HA.out (by simp [spec_l02Lead.l0])
    | succ k1 =>
      have H := HA.out; clear HA; simp only [spec_l02Lead.l0] at H
      by_cases c2_ : i < (q.length : Int)
      · rw [if_pos c2_] at H
        have c2b0 : decide (i < (q.length : Int)) = true := decide_eq_true c2_
        by_cases c3_ : i = bud
        · rw [if_pos c3_] at H
          have c3b0 : (i == bud) = true := beq_iff_eq.mpr c3_; have c3b1 : (i != bud) = false := bne_eq_false_iff_eq.mpr c3_; simp only [Option.some.injEq, Prod.mk.injEq] at H; obtain ⟨rfl, rfl, rfl⟩ := H; have HB := Aside0.mk HL.out.hb
          go_wp2_with (first | ((with_reducible refine gate_dst (N := 34) rfl ?_); refine Kd.R_lit (Kd.int .i64) (w0 := w) w.heap.size 2 ?hg (N := 34) ?hd (xs := ([] : List Int)) (inner := []) (ok := fun _ => True) (okp := fun _ => True) ?hr ?hp (fun _ hk => hk) trivial ?hB ?hS (by simp) ?_; (case hd => rfl); (case hg => rfl); (case hr => first | (go_simp; done) | (go_simp; rfl)); (case hp => exact (Reps.none _ _)); (case hB => exact pbs HB); (case hS => exact below_size (pbs HB)); intro vl wl ho hb hg_ hnew_; have HO := Aside0.mk ho; have n0_ := Aside0.mk hb; clear HB ho hb hg_ hnew_; have HB := n0_; clear n0_))
          (try simp only [Exit.inBlock, Exit.then]); refine bodyPost_ret (results_tmp3 rfl _ _ _) rfl ?_; exact ⟨_, (by first | rfl | (simp; done) | (simp [*]; done)), (by (with_reducible repeat (first | apply Kd.R_alloc | apply Kd.R_drewN | apply Kd.R_drew)); exact HO.out), pbs HB⟩
        · rw [if_neg c3_] at H
          have c3b0 : (i == bud) = false := beq_eq_false_iff_ne.mpr c3_; have c3b1 : (i != bud) = true := bne_iff_ne.mpr c3_
          by_cases c4_ : 0 ≤ i
          case neg => rw [if_neg c4_] at H; exact absurd H (by simp)
          rw [if_pos c4_] at H
          by_cases c5_ : 0 < ((spec_l02Lead.rd q i).f0.length : Int)
          case neg => rw [if_neg c5_] at H; exact absurd H (by simp)
          rw [if_pos c5_] at H
          have hpos : 0 < q.length := by omega
          obtain ⟨gq, cq2, eq2, _, _, _⟩ := Kd.R_form HL.out.hq hpos
          injection eq2 with eqa _ eqc
          subst eqa; subst eqc; obtain ⟨A, c, A2, c2, e0, e1, lc, lc1, hF, hM, hR⟩ := HL.out.node i c4_ c2_; obtain ⟨nd, hnd⟩ : ∃ nd, nd = spec_l02Lead.rd q i := ⟨_, rfl⟩; rw [← hnd] at H c5_ e0 e1 lc lc1 hF hM hR; have E0 := Aside0.mk e0; have E1 := Aside0.mk e1; have LC := Aside0.mk lc; have LC1 := Aside0.mk lc1; have HF := Aside0.mk hF; have HMV := Aside0.mk hM; have HRM := Aside0.mk hR; have H2 := Aside0.mk H; have C5 := Aside0.mk c5_; clear hF hM hR lc lc1 H c5_; have p_ := eq_true c4_; have q_ := eq_true c2_; clear c2_ c4_ hnd
          go_wp2_with fail
          have ng_ : some wr.heap.size ≠ (Value.slice (some ⟨gq, 0, none⟩) q.length cq).ownBlock := by
            intro he
            have he2 : wr.heap.size = gq := by simpa [Value.ownBlock] using he
            have := Kd.R_lt HL.out.hq gq rfl
            omega
          have HLN := Aside0.mk (show spec_l02Lead.LN w gb x y (.slice (some ⟨gq, 0, none⟩) q.length cq) q u12 seen wr.heap.size A c nd.f0 A2 c2 nd.f1 (wr.alloc (.cells #[.slice A nd.f0.length c, .slice A2 nd.f1.length c2] 88)) from ⟨spec_l02Lead.LI.alloc HL.out _, blk_new wr _, ng_, Kd.F_alloc HF.out _, Kd.F_alloc HMV.out _, LC.out, LC1.out⟩); have HRN := Aside0.mk (Kd.R_alloc HRM.out (.cells #[.slice A nd.f0.length c, .slice A2 nd.f1.length c2] 88)); clear HL HRM HF HMV E0 E1 e0 e1 ng_; generalize wr.alloc (Obj.cells #[Value.slice A nd.f0.length c, Value.slice A2 nd.f1.length c2] 88) = w1 at HLN HRN ⊢; generalize wr.heap.size = g at HLN HRN ⊢; have b0 := (blk_cell HLN.out.bg 0).trans rfl; have b1 := (blk_cell HLN.out.bg 1).trans rfl; have x0 := (blk_cell HLN.out.li.bx 0).trans rfl; have x1 := (blk_cell HLN.out.li.bx 1).trans rfl; obtain ⟨ad, e_, h0, h1⟩ := at_T39 (Kd.F_now HLN.out.hf) 0 (by decide) C5.out; subst e_; rw [show ((0 : Int)).toNat = 0 from rfl, show 0 * 2 = 0 from rfl, Addr.add_zero'] at h0 h1; have qi : (0 < nd.f0.length) = True := eq_true (by have := C5.out; omega)
          by_cases hat : ((rd_T39 nd.f0 0).f0 = x ∧ (rd_T39 nd.f0 0).f1 = y)
          · have H := H2.out
            clear H2; rw [if_pos (show ((rd_T39 nd.f0 0).f0 == x && (rd_T39 nd.f0 0).f1 == y) = true by rw [hat.1, hat.2]; simp)] at H; have ha1 := hat.1; have ha2 := hat.2; clear hat; rw [ha1] at h0; rw [ha2] at h1; clear ha1 ha2
            go_region
            have HB := Aside0.mk HLN.out.li.hb
            by_cases c6_ : (nd.f1.length : Int) > 60
            · rw [if_pos c6_] at H
              have c6b0 : decide ((nd.f1.length : Int) > 60) = true := decide_eq_true c6_; simp only [Option.some.injEq, Prod.mk.injEq] at H; obtain ⟨rfl, rfl, rfl⟩ := H
              go_wp2_with (first | ((with_reducible refine gate_dst (N := 49) rfl ?_); refine Kd.R_lit (Kd.int .i64) (w0 := w) w.heap.size 2 ?hg (N := 49) ?hd (xs := ([] : List Int)) (inner := []) (ok := fun _ => True) (okp := fun _ => True) ?hr ?hp (fun _ hk => hk) trivial ?hB ?hS (by simp) ?_; (case hd => rfl); (case hg => rfl); (case hr => first | (go_simp; done) | (go_simp; rfl)); (case hp => exact (Reps.none _ _)); (case hB => exact pbs HB); (case hS => exact below_size (pbs HB)); intro vl wl ho hb hg_ hnew_; have HO := Aside0.mk ho; have n0_ := Aside0.mk hb; clear HB ho hb hg_ hnew_; have HB := n0_; clear n0_))
              (try simp only [Exit.inBlock, Exit.then]); refine bodyPost_ret (results_tmp3 rfl _ _ _) rfl ?_; exact ⟨_, (by first | rfl | (simp; done) | (simp [*]; done)), (by (with_reducible repeat (first | apply Kd.R_alloc | apply Kd.R_drewN | apply Kd.R_drew)); exact HO.out), pbs HB⟩
            · rw [if_neg c6_] at H
              have c6b0 : decide ((nd.f1.length : Int) > 60) = false := decide_eq_false c6_; simp only [Option.some.injEq, Prod.mk.injEq] at H; obtain ⟨rfl, rfl, rfl⟩ := H
              go_wp2_with fail
              (try simp only [Exit.inBlock, Exit.then]); refine bodyPost_ret (results_tmp3 rfl _ _ _) rfl ?_; exact ⟨_, (by first | rfl | (simp; done) | (simp [*]; done)), (by (with_reducible repeat (first | apply Kd.R_alloc | apply Kd.R_drewN | apply Kd.R_drew)); exact HRN.out), pbs HB⟩
          · have H := H2.out
            clear H2; rw [if_neg (show ¬ ((rd_T39 nd.f0 0).f0 == x && (rd_T39 nd.f0 0).f1 == y) = true by simpa using hat)] at H; have H' := Aside0.mk H; clear H; have hne : (rd_T39 nd.f0 0).f0 = x → (rd_T39 nd.f0 0).f1 = y → False := fun a b => hat ⟨a, b⟩; clear hat; clear HRN; generalize (rd_T39 nd.f0 0).f0 = a1 at h0 hne; generalize (rd_T39 nd.f0 0).f1 = a2 at h1 hne; have NE := Aside0.mk hne; clear hne; have post : ∀ P_ : Prop, (a1 = x → a2 = y → P_) := fun P_ e1 e2 => (NE.out e1 e2).elim
            by_cases hx1 : a1 = x
            · have hx2 : ¬ a2 = y := fun e => NE.out hx1 e
              rw [hx1] at h0; clear post hx1
              go_region
              go_wp2_with fail
              have HL := HLN; clear HLN h0 h1 b0 b1 x0 x1 qi
              go_loopg [11, 12, 15] k1 (fun kq v11 v12 v15 w' => ∃ (q2 : List spec_l02Lead.Nd) (seen2 : List ByteArray) (mv : Int), v15 = .int .i64 mv ∧ Aside0 (spec_l02Lead.l1 kq q2 seen2 i nd mv s0 s1 W x y bud = some (r1, r2, r3)) ∧ Aside0 (kq ≤ k1) ∧ Aside0 (spec_l02Lead.LN w gb x y v11 q2 v12 seen2 g (some ad) c nd.f0 A2 c2 nd.f1 w'))
              case atStart => exact ⟨q, seen, 0, (by first | rfl | (simp; done) | (simp [*]; done)), H', ⟨Nat.le_refl _⟩, ⟨by (with_reducible repeat (first | apply spec_l02Lead.LN.alloc | apply spec_l02Lead.LN.drewN | apply spec_l02Lead.LN.drew)); exact HL.out⟩⟩
              case round =>
                clear H'; clear p_ q_; obtain ⟨q2, seen2, mv, rfl, HA, HK2, HL⟩ := hrel; obtain ⟨Aq, cq, eq_⟩ := Kd.R_slice HL.out.li.hq; subst eq_; obtain ⟨As, cs, es_⟩ := Kd.R_slice HL.out.li.hs; subst es_
                cases gk with
                | zero => exact absurd HA.out (by simp [spec_l02Lead.l1])
                | succ k2 =>
                  have H := HA.out; clear HA; simp only [spec_l02Lead.l1] at H; have HB := Aside0.mk HL.out.li.hb; have b0 := (blk_cell HL.out.bg 0).trans rfl
                  by_cases d1_ : mv ≤ 4
                  · rw [if_pos d1_] at H
                    have d1b0 : decide (mv ≤ 4) = true := decide_eq_true d1_; clear d1_; obtain ⟨b, A4, H⟩ := Option.bind_eq_some_iff.mp H; have A5 := Aside0.mk A4; clear A4
                    cases b with
                    | true =>
                      rw [if_pos rfl] at H; obtain ⟨nx, A6, H⟩ := Option.bind_eq_some_iff.mp H; have A7 := Aside0.mk A6; clear A6; obtain ⟨key2, A8, H⟩ := Option.bind_eq_some_iff.mp H; have A9 := Aside0.mk A8; clear A8; obtain ⟨b2, A10, H⟩ := Option.bind_eq_some_iff.mp H; have A11 := Aside0.mk A10; clear A10
                      cases b2 with
                      | true =>
                        rw [if_pos rfl] at H; have H' := Aside0.mk H; clear H
                        go_wp2_with (first | ((with_reducible refine gate_callee (f := 53) rfl ?_); refine goesL_ (some 62) rfl rfl Try.func53 (by kernel_rfl) rfl #[.pointer (some ⟨g0, 0, none⟩), .slice (some ad) nd.f0.length c, .int .i64 mv] rfl (by (try simp only [List.map_toArray, List.map_cons, List.map_nil]); first | done | rfl) ?_; (with_reducible refine (spec_l02Can.calls k2 g0 s0 s1 W (some ad) c nd.f0 mv true _ ?sB ?sC ?sL A5.out).mono ?_); (case sB => exact ((pbs HB : Below w.heap.size w _).block g0 (blk_lt BK.out)).trans BK.out); (case sC => exact Kd.F_now (spec_l02Lead.LN.hf (by (with_reducible repeat (first | apply spec_l02Lead.LN.alloc | apply spec_l02Lead.LN.drewN | apply spec_l02Lead.LN.drew)); exact HL.out))); (case sL => exact HL.out.hc); rintro e w1 ⟨rfl, hb⟩; refine ⟨_, rfl, ?_⟩; have n0_ := Aside0.mk (spec_l02Lead.LN.below (by (with_reducible repeat (first | apply spec_l02Lead.LN.alloc | apply spec_l02Lead.LN.drewN | apply spec_l02Lead.LN.drew)); exact HL.out) hb); clear HL HB b0; have HL := n0_; clear n0_; have HB := Aside0.mk HL.out.li.hb; have b0 := (blk_cell HL.out.bg 0).trans rfl; (try clear b1); have b1 := (blk_cell HL.out.bg 1).trans rfl; clear hb) | ((with_reducible refine gate_callee (f := 39) rfl ?_); refine goesL_ (some 67) rfl rfl Try.func39 (by kernel_rfl) rfl #[.slice (some ad) nd.f0.length c, .int .i64 mv] rfl (by (try simp only [List.map_toArray, List.map_cons, List.map_nil]); first | done | rfl) ?_; (with_reducible refine (spec_l02Made.calls k2 (some ad) c nd.f0 mv nx _ ?sC ?sL A7.out).mono ?_); (case sC => exact Kd.F_now (spec_l02Lead.LN.hf (by (with_reducible repeat (first | apply spec_l02Lead.LN.alloc | apply spec_l02Lead.LN.drewN | apply spec_l02Lead.LN.drew)); exact HL.out))); (case sL => exact HL.out.hc); rintro e w1 ⟨vn, rfl, hn, hb⟩; refine ⟨_, rfl, ?_⟩; have HN := Aside0.mk (Kd.R_lower hn (below_size (pbs HB))); have n0_ := Aside0.mk (spec_l02Lead.LN.below (by (with_reducible repeat (first | apply spec_l02Lead.LN.alloc | apply spec_l02Lead.LN.drewN | apply spec_l02Lead.LN.drew)); exact HL.out) hb); clear HL HB b0; have HL := n0_; clear n0_; have HB := Aside0.mk HL.out.li.hb; have b0 := (blk_cell HL.out.bg 0).trans rfl; (try clear b1); have b1 := (blk_cell HL.out.bg 1).trans rfl; clear hb hn; obtain ⟨An, cn, en⟩ := Kd.R_slice HN.out; subst en; have HCn := Aside0.mk (Kd.R_reads' HN.out).2.1) | ((with_reducible refine gate_callee (f := 52) rfl ?_); refine goesL_ (some 69) rfl rfl Try.func52 (by kernel_rfl) rfl #[.slice An nx.length cn] rfl (by (try simp only [List.map_toArray, List.map_cons, List.map_nil]); first | done | rfl) ?_; (with_reducible refine (spec_l02Text.calls k2 An cn nx key2 _ ?sC ?sL A9.out).mono ?_); (case sC => exact (Kd.R_reads' (by (with_reducible repeat (first | apply Kd.R_alloc | apply Kd.R_drewN | apply Kd.R_drew)); exact HN.out)).2.2); (case sL => exact HCn.out); rintro e w1 ⟨rfl, hb⟩; refine ⟨_, rfl, ?_⟩; have n5_ := krb HN hb; have n0_ := Aside0.mk (spec_l02Lead.LN.below (by (with_reducible repeat (first | apply spec_l02Lead.LN.alloc | apply spec_l02Lead.LN.drewN | apply spec_l02Lead.LN.drew)); exact HL.out) hb); clear HL HB b0; have HL := n0_; clear n0_; have HB := Aside0.mk HL.out.li.hb; have b0 := (blk_cell HL.out.bg 0).trans rfl; (try clear b1); have b1 := (blk_cell HL.out.bg 1).trans rfl; clear HN; have HN := n5_; clear n5_ hb) | ((with_reducible refine gate_callee (f := 54) rfl ?_); refine goesL_ (some 72) rfl rfl Try.func54 (by kernel_rfl) rfl #[.slice As seen2.length cs, .string key2] rfl (by (try simp only [List.map_toArray, List.map_cons, List.map_nil]); first | done | rfl) ?_; (with_reducible refine (spec_l02Seen.calls k2 As cs seen2 key2 true _ ?sC ?sL A11.out).mono ?_); (case sC => exact (Kd.R_reads' (spec_l02Lead.LI.hs (spec_l02Lead.LN.li (by (with_reducible repeat (first | apply spec_l02Lead.LN.alloc | apply spec_l02Lead.LN.drewN | apply spec_l02Lead.LN.drew)); exact HL.out)))).2.2); (case sL => exact (Kd.R_reads' HL.out.li.hs).2.1); rintro e w1 ⟨rfl, hd⟩; have hb := hd.below; clear hd; refine ⟨_, rfl, ?_⟩; have n5_ := krb HN hb; have n0_ := Aside0.mk (spec_l02Lead.LN.below (by (with_reducible repeat (first | apply spec_l02Lead.LN.alloc | apply spec_l02Lead.LN.drewN | apply spec_l02Lead.LN.drew)); exact HL.out) hb); clear HL HB b0; have HL := n0_; clear n0_; have HB := Aside0.mk HL.out.li.hb; have b0 := (blk_cell HL.out.bg 0).trans rfl; (try clear b1); have b1 := (blk_cell HL.out.bg 1).trans rfl; clear HN; have HN := n5_; clear n5_ hb))
                        go_roundg k2
                        case measure => have := HK1.out; have := HK2.out; omega
                        case rel => exact ⟨q2, seen2, wrap64 (mv + 1), (by first | rfl | (simp; done) | (simp [*]; done)), H', ⟨by have := HK1.out; have := HK2.out; omega⟩, ⟨by (with_reducible repeat (first | apply spec_l02Lead.LN.alloc | apply spec_l02Lead.LN.drewN | apply spec_l02Lead.LN.drew)); exact HL.out⟩⟩
                      | false =>
                        rw [if_neg Bool.false_ne_true] at H
                        by_cases d2_ : seen2.length < 8796093022207
                        case neg => rw [if_neg d2_] at H; exact absurd H (by simp)
                        rw [if_pos d2_] at H; obtain ⟨ow, A12, H⟩ := Option.bind_eq_some_iff.mp H; have A13 := Aside0.mk A12; clear A12
                        by_cases d3_ : ow.length < 17592186044415
                        case neg => rw [if_neg d3_] at H; exact absurd H (by simp)
                        rw [if_pos d3_] at H
                        by_cases d4_ : q2.length < 2932031007402
                        case neg => rw [if_neg d4_] at H; exact absurd H (by simp)
                        rw [if_pos d4_] at H; obtain ⟨yw, hyw⟩ : ∃ y_ : List Int, y_ = ow ++ [mv] := ⟨_, rfl⟩; rw [← hyw] at H; have NW := Aside0.mk hyw; clear hyw; have H' := Aside0.mk H; have L2 := Aside0.mk d2_; have L3 := Aside0.mk d3_; have L4 := Aside0.mk d4_; clear H d2_ d3_ d4_; have b1 := (blk_cell HL.out.bg 1).trans rfl
                        go_wp2_with (first | ((with_reducible refine gate_callee (f := 53) rfl ?_); refine goesL_ (some 62) rfl rfl Try.func53 (by kernel_rfl) rfl #[.pointer (some ⟨g0, 0, none⟩), .slice (some ad) nd.f0.length c, .int .i64 mv] rfl (by (try simp only [List.map_toArray, List.map_cons, List.map_nil]); first | done | rfl) ?_; (with_reducible refine (spec_l02Can.calls k2 g0 s0 s1 W (some ad) c nd.f0 mv true _ ?sB ?sC ?sL A5.out).mono ?_); (case sB => exact ((pbs HB : Below w.heap.size w _).block g0 (blk_lt BK.out)).trans BK.out); (case sC => exact Kd.F_now (spec_l02Lead.LN.hf (by (with_reducible repeat (first | apply spec_l02Lead.LN.alloc | apply spec_l02Lead.LN.drewN | apply spec_l02Lead.LN.drew)); exact HL.out))); (case sL => exact HL.out.hc); rintro e w1 ⟨rfl, hb⟩; refine ⟨_, rfl, ?_⟩; have n0_ := Aside0.mk (spec_l02Lead.LN.below (by (with_reducible repeat (first | apply spec_l02Lead.LN.alloc | apply spec_l02Lead.LN.drewN | apply spec_l02Lead.LN.drew)); exact HL.out) hb); clear HL HB b0; have HL := n0_; clear n0_; have HB := Aside0.mk HL.out.li.hb; have b0 := (blk_cell HL.out.bg 0).trans rfl; (try clear b1); have b1 := (blk_cell HL.out.bg 1).trans rfl; clear hb) | ((with_reducible refine gate_callee (f := 39) rfl ?_); refine goesL_ (some 67) rfl rfl Try.func39 (by kernel_rfl) rfl #[.slice (some ad) nd.f0.length c, .int .i64 mv] rfl (by (try simp only [List.map_toArray, List.map_cons, List.map_nil]); first | done | rfl) ?_; (with_reducible refine (spec_l02Made.calls k2 (some ad) c nd.f0 mv nx _ ?sC ?sL A7.out).mono ?_); (case sC => exact Kd.F_now (spec_l02Lead.LN.hf (by (with_reducible repeat (first | apply spec_l02Lead.LN.alloc | apply spec_l02Lead.LN.drewN | apply spec_l02Lead.LN.drew)); exact HL.out))); (case sL => exact HL.out.hc); rintro e w1 ⟨vn, rfl, hn, hb⟩; refine ⟨_, rfl, ?_⟩; have HN := Aside0.mk (Kd.R_lower hn (below_size (pbs HB))); have n0_ := Aside0.mk (spec_l02Lead.LN.below (by (with_reducible repeat (first | apply spec_l02Lead.LN.alloc | apply spec_l02Lead.LN.drewN | apply spec_l02Lead.LN.drew)); exact HL.out) hb); clear HL HB b0; have HL := n0_; clear n0_; have HB := Aside0.mk HL.out.li.hb; have b0 := (blk_cell HL.out.bg 0).trans rfl; (try clear b1); have b1 := (blk_cell HL.out.bg 1).trans rfl; clear hb hn; obtain ⟨An, cn, en⟩ := Kd.R_slice HN.out; subst en; have HCn := Aside0.mk (Kd.R_reads' HN.out).2.1) | ((with_reducible refine gate_callee (f := 52) rfl ?_); refine goesL_ (some 69) rfl rfl Try.func52 (by kernel_rfl) rfl #[.slice An nx.length cn] rfl (by (try simp only [List.map_toArray, List.map_cons, List.map_nil]); first | done | rfl) ?_; (with_reducible refine (spec_l02Text.calls k2 An cn nx key2 _ ?sC ?sL A9.out).mono ?_); (case sC => exact (Kd.R_reads' (by (with_reducible repeat (first | apply Kd.R_alloc | apply Kd.R_drewN | apply Kd.R_drew)); exact HN.out)).2.2); (case sL => exact HCn.out); rintro e w1 ⟨rfl, hb⟩; refine ⟨_, rfl, ?_⟩; have n5_ := krb HN hb; have n0_ := Aside0.mk (spec_l02Lead.LN.below (by (with_reducible repeat (first | apply spec_l02Lead.LN.alloc | apply spec_l02Lead.LN.drewN | apply spec_l02Lead.LN.drew)); exact HL.out) hb); clear HL HB b0; have HL := n0_; clear n0_; have HB := Aside0.mk HL.out.li.hb; have b0 := (blk_cell HL.out.bg 0).trans rfl; (try clear b1); have b1 := (blk_cell HL.out.bg 1).trans rfl; clear HN; have HN := n5_; clear n5_ hb) | ((with_reducible refine gate_callee (f := 54) rfl ?_); refine goesL_ (some 72) rfl rfl Try.func54 (by kernel_rfl) rfl #[.slice As seen2.length cs, .string key2] rfl (by (try simp only [List.map_toArray, List.map_cons, List.map_nil]); first | done | rfl) ?_; (with_reducible refine (spec_l02Seen.calls k2 As cs seen2 key2 false _ ?sC ?sL A11.out).mono ?_); (case sC => exact (Kd.R_reads' (spec_l02Lead.LI.hs (spec_l02Lead.LN.li (by (with_reducible repeat (first | apply spec_l02Lead.LN.alloc | apply spec_l02Lead.LN.drewN | apply spec_l02Lead.LN.drew)); exact HL.out)))).2.2); (case sL => exact (Kd.R_reads' HL.out.li.hs).2.1); rintro e w1 ⟨rfl, hd⟩; have hb := hd.below; clear hd; refine ⟨_, rfl, ?_⟩; have n5_ := krb HN hb; have n0_ := Aside0.mk (spec_l02Lead.LN.below (by (with_reducible repeat (first | apply spec_l02Lead.LN.alloc | apply spec_l02Lead.LN.drewN | apply spec_l02Lead.LN.drew)); exact HL.out) hb); clear HL HB b0; have HL := n0_; clear n0_; have HB := Aside0.mk HL.out.li.hb; have b0 := (blk_cell HL.out.bg 0).trans rfl; (try clear b1); have b1 := (blk_cell HL.out.bg 1).trans rfl; clear HN; have HN := n5_; clear n5_ hb) | ((with_reducible refine gate_builtin (b := .append) (xs := #[.tmp 73, .tmp 75]) rfl ?_); at_builtin; refine Kd.R_append (Kd.string) (w0 := w) w.heap.size rfl (.tmp 73) (.tmp 75) 91 9 (.string ⟨#[]⟩) 16 rfl Try.underlying91 (by kernel_rfl) rfl (by first | decide | (show 0 < 2; decide) | (show 0 < 3; decide)) (by omega) (.slice As seen2.length cs) seen2 key2 [.string key2] (fun _ => True) (fun _ => False) rfl rfl ?aP (fun _ hk => hk.elim) ?aF ?aO ?aB ?aS ?aL ?_; (case aB => exact pbs HB); (case aO => exact spec_l02Lead.LI.hs (spec_l02Lead.LN.li (by (with_reducible repeat (first | apply spec_l02Lead.LN.alloc | apply spec_l02Lead.LN.drewN | apply spec_l02Lead.LN.drew)); exact HL.out))); (case aP => exact rfl); (case aF => exact (fun _ _ => trivial)); (case aS => exact below_size (pbs HB)); (case aL => have := L2.out; (try simp only [List.length_append, List.length_cons, List.length_nil]); omega); intro v3 w3 ho hb hg hat; have n5_ := Aside0.mk (Kd.R_over' (by (with_reducible repeat (first | apply Kd.R_alloc | apply Kd.R_drewN | apply Kd.R_drew)); exact HN.out) (Kd.R_typed (spec_l02Lead.LI.hs (spec_l02Lead.LN.li (by (with_reducible repeat (first | apply spec_l02Lead.LN.alloc | apply spec_l02Lead.LN.drewN | apply spec_l02Lead.LN.drew)); exact HL.out)))) (by decide) hg); have n0_ := Aside0.mk (spec_l02Lead.LN.more (by (with_reducible repeat (first | apply spec_l02Lead.LN.alloc | apply spec_l02Lead.LN.drewN | apply spec_l02Lead.LN.drew)); exact HL.out) ho hb hg hat); clear HL HB HN b0; have HL := n0_; have HN := n5_; clear n0_ n5_; have HB := Aside0.mk HL.out.li.hb; have b0 := (blk_cell HL.out.bg 0).trans rfl; (try clear b1); have b1 := (blk_cell HL.out.bg 1).trans rfl; clear ho hb hg hat) | ((with_reducible refine gate_callee (f := 55) rfl ?_); refine goesL_ (some 81) rfl rfl Try.func55 (by kernel_rfl) rfl #[.slice A2 nd.f1.length c2] rfl (by (try simp only [List.map_toArray, List.map_cons, List.map_nil]); first | done | rfl) ?_; (with_reducible refine (spec_l00Own.calls A2 c2 nd.f1 ow _ ?sC ?sL A13.out).mono ?_); (case sC => exact Kd.F_now (spec_l02Lead.LN.hm (by (with_reducible repeat (first | apply spec_l02Lead.LN.alloc | apply spec_l02Lead.LN.drewN | apply spec_l02Lead.LN.drew)); exact HL.out))); (case sL => exact HL.out.hc1); rintro e w1 ⟨vo, rfl, ho, hb⟩; refine ⟨_, rfl, ?_⟩; obtain ⟨Ao, co, eo⟩ := Kd.R_slice ho; subst eo; have HO := Aside0.mk ho; have HBO := Aside0.mk hb; clear ho hb b0 b1) | ((with_reducible refine gate_builtin (b := .append) (xs := #[.tmp 81, .tmp 83]) rfl ?_); at_builtin; refine Kd.R_append (Kd.int .i64) (w0 := ?wZ9) ?bZ9 rfl (.tmp 81) (.tmp 83) 31 2 (.int .i64 0) 8 rfl Try.underlying31 (by kernel_rfl) rfl (by first | decide | (show 0 < 2; decide) | (show 0 < 3; decide)) (by omega) (.slice Ao ow.length co) ow mv [.int .i64 mv] (fun _ => True) (fun _ => False) rfl rfl ?aP (fun _ hk => hk.elim) ?aF ?aO ?aB ?aS ?aL ?_; (case aB => exact (by first | exact HBO.out | exact below_drew HBO.out | exact pw_below_drewN HBO.out _)); (case aO => exact (by (with_reducible repeat (first | apply Kd.R_alloc | apply Kd.R_drewN | apply Kd.R_drew)); exact HO.out)); (case aP => exact rfl); (case aF => exact (fun _ _ => trivial)); (case aS => exact below_size (pbs HBO)); (case aL => have := L3.out; (try simp only [List.length_append, List.length_cons, List.length_nil]); omega); intro v3 w3 ho hb hg hat; have n5_ := Aside0.mk (Kd.R_below (by (with_reducible repeat (first | apply Kd.R_alloc | apply Kd.R_drewN | apply Kd.R_drew)); exact HN.out) hb); rw [← NW.out] at ho; have n6_ := Aside0.mk (Kd.R_lower ho (below_size (pbs HB))); have n0_ := Aside0.mk (spec_l02Lead.LN.below (by (with_reducible repeat (first | apply spec_l02Lead.LN.alloc | apply spec_l02Lead.LN.drewN | apply spec_l02Lead.LN.drew)); exact HL.out) hb); clear HL HB HN HO HBO; have HL := n0_; have HN := n5_; have HW := n6_; clear n0_ n5_ n6_; have HB := Aside0.mk HL.out.li.hb; clear ho hb hg hat; obtain ⟨Aw, cw, ew⟩ := Kd.R_slice HW.out; subst ew) | ((with_reducible refine gate_builtin (b := .append) (xs := #[.tmp 77, .tmp 86]) rfl ?_); at_builtin; refine Kd.R_append (spec_l02Lead.kM w) (w0 := w) w.heap.size rfl (.tmp 77) (.tmp 86) 89 88 (.agg #[.slice none 0 0, .slice none 0 0]) 48 rfl Try.underlying89 (by kernel_rfl) rfl (by first | decide | (show 0 < 2; decide) | (show 0 < 3; decide)) (by omega) (.slice Aq q2.length cq) q2 ⟨nx, yw⟩ [.slice An nx.length cn, .slice Aw yw.length cw] (fun _ => True) (fun k_ => True ∧ some k_ ≠ (Value.slice Aq q2.length cq).ownBlock) rfl rfl ?aP (fun _ hk => hk) ?aF ?aO ?aB ?aS ?aL ?_; (case aB => exact pbs HB); (case aO => exact spec_l02Lead.LI.hq (spec_l02Lead.LN.li (by (with_reducible repeat (first | apply spec_l02Lead.LN.alloc | apply spec_l02Lead.LN.drewN | apply spec_l02Lead.LN.drew)); exact HL.out))); (case aP => exact spec_l02Lead.made (Kd.R_apart' (by (with_reducible repeat (first | apply Kd.R_alloc | apply Kd.R_drewN | apply Kd.R_drew)); exact HN.out) (Kd.R_typed (spec_l02Lead.LI.hq (spec_l02Lead.LN.li (by (with_reducible repeat (first | apply spec_l02Lead.LN.alloc | apply spec_l02Lead.LN.drewN | apply spec_l02Lead.LN.drew)); exact HL.out)))) (by decide)) (Kd.R_apart' (by (with_reducible repeat (first | apply Kd.R_alloc | apply Kd.R_drewN | apply Kd.R_drew)); exact HW.out) (Kd.R_typed (spec_l02Lead.LI.hq (spec_l02Lead.LN.li (by (with_reducible repeat (first | apply spec_l02Lead.LN.alloc | apply spec_l02Lead.LN.drewN | apply spec_l02Lead.LN.drew)); exact HL.out)))) (by decide))); (case aF => exact (fun _ _ => trivial)); (case aS => exact below_size (pbs HB)); (case aL => have := L4.out; (try simp only [List.length_append, List.length_cons, List.length_nil]); omega); intro v3 w3 ho hb hg hat; have n0_ := Aside0.mk (spec_l02Lead.LN.queue (by (with_reducible repeat (first | apply spec_l02Lead.LN.alloc | apply spec_l02Lead.LN.drewN | apply spec_l02Lead.LN.drew)); exact HL.out) ho hb hg hat); clear HL HB HN HW; have HL := n0_; clear n0_ ho hb hg hat))
                        go_roundg k2
                        case measure => have := HK1.out; have := HK2.out; omega
                        case rel => exact ⟨_, _, wrap64 (mv + 1), (by first | rfl | (simp; done) | (simp [*]; done)), H', ⟨by have := HK1.out; have := HK2.out; omega⟩, ⟨by (with_reducible repeat (first | apply spec_l02Lead.LN.alloc | apply spec_l02Lead.LN.drewN | apply spec_l02Lead.LN.drew)); exact HL.out⟩⟩
                    | false =>
                      rw [if_neg Bool.false_ne_true] at H; have H' := Aside0.mk H; clear H
                      go_wp2_with (first | ((with_reducible refine gate_callee (f := 53) rfl ?_); refine goesL_ (some 62) rfl rfl Try.func53 (by kernel_rfl) rfl #[.pointer (some ⟨g0, 0, none⟩), .slice (some ad) nd.f0.length c, .int .i64 mv] rfl (by (try simp only [List.map_toArray, List.map_cons, List.map_nil]); first | done | rfl) ?_; (with_reducible refine (spec_l02Can.calls k2 g0 s0 s1 W (some ad) c nd.f0 mv false _ ?sB ?sC ?sL A5.out).mono ?_); (case sB => exact ((pbs HB : Below w.heap.size w _).block g0 (blk_lt BK.out)).trans BK.out); (case sC => exact Kd.F_now (spec_l02Lead.LN.hf (by (with_reducible repeat (first | apply spec_l02Lead.LN.alloc | apply spec_l02Lead.LN.drewN | apply spec_l02Lead.LN.drew)); exact HL.out))); (case sL => exact HL.out.hc); rintro e w1 ⟨rfl, hb⟩; refine ⟨_, rfl, ?_⟩; have n0_ := Aside0.mk (spec_l02Lead.LN.below (by (with_reducible repeat (first | apply spec_l02Lead.LN.alloc | apply spec_l02Lead.LN.drewN | apply spec_l02Lead.LN.drew)); exact HL.out) hb); clear HL HB b0; have HL := n0_; clear n0_; have HB := Aside0.mk HL.out.li.hb; have b0 := (blk_cell HL.out.bg 0).trans rfl; (try clear b1); have b1 := (blk_cell HL.out.bg 1).trans rfl; clear hb))
                      go_roundg k2
                      case measure => have := HK1.out; have := HK2.out; omega
                      case rel => exact ⟨q2, seen2, wrap64 (mv + 1), (by first | rfl | (simp; done) | (simp [*]; done)), H', ⟨by have := HK1.out; have := HK2.out; omega⟩, ⟨by (with_reducible repeat (first | apply spec_l02Lead.LN.alloc | apply spec_l02Lead.LN.drewN | apply spec_l02Lead.LN.drew)); exact HL.out⟩⟩
                  · rw [if_neg d1_] at H
                    have d1b0 : decide (mv ≤ 4) = false := decide_eq_false d1_; have H' := Aside0.mk H; clear H
                    go_wp2
                    go_roundg k2
                    case measure => have := HK1.out; have := HK2.out; omega
                    case rel => exact ⟨q2, seen2, wrap64 (i + 1), (by first | rfl | (simp; done) | (simp [*]; done)), H', ⟨by have := HK1.out; have := HK2.out; omega⟩, ⟨by (with_reducible repeat (first | apply spec_l02Lead.LI.alloc | apply spec_l02Lead.LI.drewN | apply spec_l02Lead.LI.drew)); exact HL.out.li⟩⟩
            · clear post
              go_region
              go_wp2_with fail
              have HL := HLN; clear HLN h0 h1 b0 b1 x0 x1 qi
              go_loopg [11, 12, 15] k1 (fun kq v11 v12 v15 w' => ∃ (q2 : List spec_l02Lead.Nd) (seen2 : List ByteArray) (mv : Int), v15 = .int .i64 mv ∧ Aside0 (spec_l02Lead.l1 kq q2 seen2 i nd mv s0 s1 W x y bud = some (r1, r2, r3)) ∧ Aside0 (kq ≤ k1) ∧ Aside0 (spec_l02Lead.LN w gb x y v11 q2 v12 seen2 g (some ad) c nd.f0 A2 c2 nd.f1 w'))
              case atStart => exact ⟨q, seen, 0, (by first | rfl | (simp; done) | (simp [*]; done)), H', ⟨Nat.le_refl _⟩, ⟨by (with_reducible repeat (first | apply spec_l02Lead.LN.alloc | apply spec_l02Lead.LN.drewN | apply spec_l02Lead.LN.drew)); exact HL.out⟩⟩
              case round =>
                clear H'; clear p_ q_; obtain ⟨q2, seen2, mv, rfl, HA, HK2, HL⟩ := hrel; obtain ⟨Aq, cq, eq_⟩ := Kd.R_slice HL.out.li.hq; subst eq_; obtain ⟨As, cs, es_⟩ := Kd.R_slice HL.out.li.hs; subst es_
                cases gk with
                | zero => exact absurd HA.out (by simp [spec_l02Lead.l1])
                | succ k2 =>
                  have H := HA.out; clear HA; simp only [spec_l02Lead.l1] at H; have HB := Aside0.mk HL.out.li.hb; have b0 := (blk_cell HL.out.bg 0).trans rfl
                  by_cases d1_ : mv ≤ 4
                  · rw [if_pos d1_] at H
                    have d1b0 : decide (mv ≤ 4) = true := decide_eq_true d1_; clear d1_; obtain ⟨b, A4, H⟩ := Option.bind_eq_some_iff.mp H; have A5 := Aside0.mk A4; clear A4
                    cases b with
                    | true =>
                      rw [if_pos rfl] at H; obtain ⟨nx, A6, H⟩ := Option.bind_eq_some_iff.mp H; have A7 := Aside0.mk A6; clear A6; obtain ⟨key2, A8, H⟩ := Option.bind_eq_some_iff.mp H; have A9 := Aside0.mk A8; clear A8; obtain ⟨b2, A10, H⟩ := Option.bind_eq_some_iff.mp H; have A11 := Aside0.mk A10; clear A10
                      cases b2 with
                      | true =>
                        rw [if_pos rfl] at H; have H' := Aside0.mk H; clear H
                        go_wp2_with (first | ((with_reducible refine gate_callee (f := 53) rfl ?_); refine goesL_ (some 62) rfl rfl Try.func53 (by kernel_rfl) rfl #[.pointer (some ⟨g0, 0, none⟩), .slice (some ad) nd.f0.length c, .int .i64 mv] rfl (by (try simp only [List.map_toArray, List.map_cons, List.map_nil]); first | done | rfl) ?_; (with_reducible refine (spec_l02Can.calls k2 g0 s0 s1 W (some ad) c nd.f0 mv true _ ?sB ?sC ?sL A5.out).mono ?_); (case sB => exact ((pbs HB : Below w.heap.size w _).block g0 (blk_lt BK.out)).trans BK.out); (case sC => exact Kd.F_now (spec_l02Lead.LN.hf (by (with_reducible repeat (first | apply spec_l02Lead.LN.alloc | apply spec_l02Lead.LN.drewN | apply spec_l02Lead.LN.drew)); exact HL.out))); (case sL => exact HL.out.hc); rintro e w1 ⟨rfl, hb⟩; refine ⟨_, rfl, ?_⟩; have n0_ := Aside0.mk (spec_l02Lead.LN.below (by (with_reducible repeat (first | apply spec_l02Lead.LN.alloc | apply spec_l02Lead.LN.drewN | apply spec_l02Lead.LN.drew)); exact HL.out) hb); clear HL HB b0; have HL := n0_; clear n0_; have HB := Aside0.mk HL.out.li.hb; have b0 := (blk_cell HL.out.bg 0).trans rfl; (try clear b1); have b1 := (blk_cell HL.out.bg 1).trans rfl; clear hb) | ((with_reducible refine gate_callee (f := 39) rfl ?_); refine goesL_ (some 67) rfl rfl Try.func39 (by kernel_rfl) rfl #[.slice (some ad) nd.f0.length c, .int .i64 mv] rfl (by (try simp only [List.map_toArray, List.map_cons, List.map_nil]); first | done | rfl) ?_; (with_reducible refine (spec_l02Made.calls k2 (some ad) c nd.f0 mv nx _ ?sC ?sL A7.out).mono ?_); (case sC => exact Kd.F_now (spec_l02Lead.LN.hf (by (with_reducible repeat (first | apply spec_l02Lead.LN.alloc | apply spec_l02Lead.LN.drewN | apply spec_l02Lead.LN.drew)); exact HL.out))); (case sL => exact HL.out.hc); rintro e w1 ⟨vn, rfl, hn, hb⟩; refine ⟨_, rfl, ?_⟩; have HN := Aside0.mk (Kd.R_lower hn (below_size (pbs HB))); have n0_ := Aside0.mk (spec_l02Lead.LN.below (by (with_reducible repeat (first | apply spec_l02Lead.LN.alloc | apply spec_l02Lead.LN.drewN | apply spec_l02Lead.LN.drew)); exact HL.out) hb); clear HL HB b0; have HL := n0_; clear n0_; have HB := Aside0.mk HL.out.li.hb; have b0 := (blk_cell HL.out.bg 0).trans rfl; (try clear b1); have b1 := (blk_cell HL.out.bg 1).trans rfl; clear hb hn; obtain ⟨An, cn, en⟩ := Kd.R_slice HN.out; subst en; have HCn := Aside0.mk (Kd.R_reads' HN.out).2.1) | ((with_reducible refine gate_callee (f := 52) rfl ?_); refine goesL_ (some 69) rfl rfl Try.func52 (by kernel_rfl) rfl #[.slice An nx.length cn] rfl (by (try simp only [List.map_toArray, List.map_cons, List.map_nil]); first | done | rfl) ?_; (with_reducible refine (spec_l02Text.calls k2 An cn nx key2 _ ?sC ?sL A9.out).mono ?_); (case sC => exact (Kd.R_reads' (by (with_reducible repeat (first | apply Kd.R_alloc | apply Kd.R_drewN | apply Kd.R_drew)); exact HN.out)).2.2); (case sL => exact HCn.out); rintro e w1 ⟨rfl, hb⟩; refine ⟨_, rfl, ?_⟩; have n5_ := krb HN hb; have n0_ := Aside0.mk (spec_l02Lead.LN.below (by (with_reducible repeat (first | apply spec_l02Lead.LN.alloc | apply spec_l02Lead.LN.drewN | apply spec_l02Lead.LN.drew)); exact HL.out) hb); clear HL HB b0; have HL := n0_; clear n0_; have HB := Aside0.mk HL.out.li.hb; have b0 := (blk_cell HL.out.bg 0).trans rfl; (try clear b1); have b1 := (blk_cell HL.out.bg 1).trans rfl; clear HN; have HN := n5_; clear n5_ hb) | ((with_reducible refine gate_callee (f := 54) rfl ?_); refine goesL_ (some 72) rfl rfl Try.func54 (by kernel_rfl) rfl #[.slice As seen2.length cs, .string key2] rfl (by (try simp only [List.map_toArray, List.map_cons, List.map_nil]); first | done | rfl) ?_; (with_reducible refine (spec_l02Seen.calls k2 As cs seen2 key2 true _ ?sC ?sL A11.out).mono ?_); (case sC => exact (Kd.R_reads' (spec_l02Lead.LI.hs (spec_l02Lead.LN.li (by (with_reducible repeat (first | apply spec_l02Lead.LN.alloc | apply spec_l02Lead.LN.drewN | apply spec_l02Lead.LN.drew)); exact HL.out)))).2.2); (case sL => exact (Kd.R_reads' HL.out.li.hs).2.1); rintro e w1 ⟨rfl, hd⟩; have hb := hd.below; clear hd; refine ⟨_, rfl, ?_⟩; have n5_ := krb HN hb; have n0_ := Aside0.mk (spec_l02Lead.LN.below (by (with_reducible repeat (first | apply spec_l02Lead.LN.alloc | apply spec_l02Lead.LN.drewN | apply spec_l02Lead.LN.drew)); exact HL.out) hb); clear HL HB b0; have HL := n0_; clear n0_; have HB := Aside0.mk HL.out.li.hb; have b0 := (blk_cell HL.out.bg 0).trans rfl; (try clear b1); have b1 := (blk_cell HL.out.bg 1).trans rfl; clear HN; have HN := n5_; clear n5_ hb))
                        go_roundg k2
                        case measure => have := HK1.out; have := HK2.out; omega
                        case rel => exact ⟨q2, seen2, wrap64 (mv + 1), (by first | rfl | (simp; done) | (simp [*]; done)), H', ⟨by have := HK1.out; have := HK2.out; omega⟩, ⟨by (with_reducible repeat (first | apply spec_l02Lead.LN.alloc | apply spec_l02Lead.LN.drewN | apply spec_l02Lead.LN.drew)); exact HL.out⟩⟩
                      | false =>
                        rw [if_neg Bool.false_ne_true] at H
                        by_cases d2_ : seen2.length < 8796093022207
                        case neg => rw [if_neg d2_] at H; exact absurd H (by simp)
                        rw [if_pos d2_] at H; obtain ⟨ow, A12, H⟩ := Option.bind_eq_some_iff.mp H; have A13 := Aside0.mk A12; clear A12
                        by_cases d3_ : ow.length < 17592186044415
                        case neg => rw [if_neg d3_] at H; exact absurd H (by simp)
                        rw [if_pos d3_] at H
                        by_cases d4_ : q2.length < 2932031007402
                        case neg => rw [if_neg d4_] at H; exact absurd H (by simp)
                        rw [if_pos d4_] at H; obtain ⟨yw, hyw⟩ : ∃ y_ : List Int, y_ = ow ++ [mv] := ⟨_, rfl⟩; rw [← hyw] at H; have NW := Aside0.mk hyw; clear hyw; have H' := Aside0.mk H; have L2 := Aside0.mk d2_; have L3 := Aside0.mk d3_; have L4 := Aside0.mk d4_; clear H d2_ d3_ d4_; have b1 := (blk_cell HL.out.bg 1).trans rfl
                        go_wp2_with (first | ((with_reducible refine gate_callee (f := 53) rfl ?_); refine goesL_ (some 62) rfl rfl Try.func53 (by kernel_rfl) rfl #[.pointer (some ⟨g0, 0, none⟩), .slice (some ad) nd.f0.length c, .int .i64 mv] rfl (by (try simp only [List.map_toArray, List.map_cons, List.map_nil]); first | done | rfl) ?_; (with_reducible refine (spec_l02Can.calls k2 g0 s0 s1 W (some ad) c nd.f0 mv true _ ?sB ?sC ?sL A5.out).mono ?_); (case sB => exact ((pbs HB : Below w.heap.size w _).block g0 (blk_lt BK.out)).trans BK.out); (case sC => exact Kd.F_now (spec_l02Lead.LN.hf (by (with_reducible repeat (first | apply spec_l02Lead.LN.alloc | apply spec_l02Lead.LN.drewN | apply spec_l02Lead.LN.drew)); exact HL.out))); (case sL => exact HL.out.hc); rintro e w1 ⟨rfl, hb⟩; refine ⟨_, rfl, ?_⟩; have n0_ := Aside0.mk (spec_l02Lead.LN.below (by (with_reducible repeat (first | apply spec_l02Lead.LN.alloc | apply spec_l02Lead.LN.drewN | apply spec_l02Lead.LN.drew)); exact HL.out) hb); clear HL HB b0; have HL := n0_; clear n0_; have HB := Aside0.mk HL.out.li.hb; have b0 := (blk_cell HL.out.bg 0).trans rfl; (try clear b1); have b1 := (blk_cell HL.out.bg 1).trans rfl; clear hb) | ((with_reducible refine gate_callee (f := 39) rfl ?_); refine goesL_ (some 67) rfl rfl Try.func39 (by kernel_rfl) rfl #[.slice (some ad) nd.f0.length c, .int .i64 mv] rfl (by (try simp only [List.map_toArray, List.map_cons, List.map_nil]); first | done | rfl) ?_; (with_reducible refine (spec_l02Made.calls k2 (some ad) c nd.f0 mv nx _ ?sC ?sL A7.out).mono ?_); (case sC => exact Kd.F_now (spec_l02Lead.LN.hf (by (with_reducible repeat (first | apply spec_l02Lead.LN.alloc | apply spec_l02Lead.LN.drewN | apply spec_l02Lead.LN.drew)); exact HL.out))); (case sL => exact HL.out.hc); rintro e w1 ⟨vn, rfl, hn, hb⟩; refine ⟨_, rfl, ?_⟩; have HN := Aside0.mk (Kd.R_lower hn (below_size (pbs HB))); have n0_ := Aside0.mk (spec_l02Lead.LN.below (by (with_reducible repeat (first | apply spec_l02Lead.LN.alloc | apply spec_l02Lead.LN.drewN | apply spec_l02Lead.LN.drew)); exact HL.out) hb); clear HL HB b0; have HL := n0_; clear n0_; have HB := Aside0.mk HL.out.li.hb; have b0 := (blk_cell HL.out.bg 0).trans rfl; (try clear b1); have b1 := (blk_cell HL.out.bg 1).trans rfl; clear hb hn; obtain ⟨An, cn, en⟩ := Kd.R_slice HN.out; subst en; have HCn := Aside0.mk (Kd.R_reads' HN.out).2.1) | ((with_reducible refine gate_callee (f := 52) rfl ?_); refine goesL_ (some 69) rfl rfl Try.func52 (by kernel_rfl) rfl #[.slice An nx.length cn] rfl (by (try simp only [List.map_toArray, List.map_cons, List.map_nil]); first | done | rfl) ?_; (with_reducible refine (spec_l02Text.calls k2 An cn nx key2 _ ?sC ?sL A9.out).mono ?_); (case sC => exact (Kd.R_reads' (by (with_reducible repeat (first | apply Kd.R_alloc | apply Kd.R_drewN | apply Kd.R_drew)); exact HN.out)).2.2); (case sL => exact HCn.out); rintro e w1 ⟨rfl, hb⟩; refine ⟨_, rfl, ?_⟩; have n5_ := krb HN hb; have n0_ := Aside0.mk (spec_l02Lead.LN.below (by (with_reducible repeat (first | apply spec_l02Lead.LN.alloc | apply spec_l02Lead.LN.drewN | apply spec_l02Lead.LN.drew)); exact HL.out) hb); clear HL HB b0; have HL := n0_; clear n0_; have HB := Aside0.mk HL.out.li.hb; have b0 := (blk_cell HL.out.bg 0).trans rfl; (try clear b1); have b1 := (blk_cell HL.out.bg 1).trans rfl; clear HN; have HN := n5_; clear n5_ hb) | ((with_reducible refine gate_callee (f := 54) rfl ?_); refine goesL_ (some 72) rfl rfl Try.func54 (by kernel_rfl) rfl #[.slice As seen2.length cs, .string key2] rfl (by (try simp only [List.map_toArray, List.map_cons, List.map_nil]); first | done | rfl) ?_; (with_reducible refine (spec_l02Seen.calls k2 As cs seen2 key2 false _ ?sC ?sL A11.out).mono ?_); (case sC => exact (Kd.R_reads' (spec_l02Lead.LI.hs (spec_l02Lead.LN.li (by (with_reducible repeat (first | apply spec_l02Lead.LN.alloc | apply spec_l02Lead.LN.drewN | apply spec_l02Lead.LN.drew)); exact HL.out)))).2.2); (case sL => exact (Kd.R_reads' HL.out.li.hs).2.1); rintro e w1 ⟨rfl, hd⟩; have hb := hd.below; clear hd; refine ⟨_, rfl, ?_⟩; have n5_ := krb HN hb; have n0_ := Aside0.mk (spec_l02Lead.LN.below (by (with_reducible repeat (first | apply spec_l02Lead.LN.alloc | apply spec_l02Lead.LN.drewN | apply spec_l02Lead.LN.drew)); exact HL.out) hb); clear HL HB b0; have HL := n0_; clear n0_; have HB := Aside0.mk HL.out.li.hb; have b0 := (blk_cell HL.out.bg 0).trans rfl; (try clear b1); have b1 := (blk_cell HL.out.bg 1).trans rfl; clear HN; have HN := n5_; clear n5_ hb) | ((with_reducible refine gate_builtin (b := .append) (xs := #[.tmp 73, .tmp 75]) rfl ?_); at_builtin; refine Kd.R_append (Kd.string) (w0 := w) w.heap.size rfl (.tmp 73) (.tmp 75) 91 9 (.string ⟨#[]⟩) 16 rfl Try.underlying91 (by kernel_rfl) rfl (by first | decide | (show 0 < 2; decide) | (show 0 < 3; decide)) (by omega) (.slice As seen2.length cs) seen2 key2 [.string key2] (fun _ => True) (fun _ => False) rfl rfl ?aP (fun _ hk => hk.elim) ?aF ?aO ?aB ?aS ?aL ?_; (case aB => exact pbs HB); (case aO => exact spec_l02Lead.LI.hs (spec_l02Lead.LN.li (by (with_reducible repeat (first | apply spec_l02Lead.LN.alloc | apply spec_l02Lead.LN.drewN | apply spec_l02Lead.LN.drew)); exact HL.out))); (case aP => exact rfl); (case aF => exact (fun _ _ => trivial)); (case aS => exact below_size (pbs HB)); (case aL => have := L2.out; (try simp only [List.length_append, List.length_cons, List.length_nil]); omega); intro v3 w3 ho hb hg hat; have n5_ := Aside0.mk (Kd.R_over' (by (with_reducible repeat (first | apply Kd.R_alloc | apply Kd.R_drewN | apply Kd.R_drew)); exact HN.out) (Kd.R_typed (spec_l02Lead.LI.hs (spec_l02Lead.LN.li (by (with_reducible repeat (first | apply spec_l02Lead.LN.alloc | apply spec_l02Lead.LN.drewN | apply spec_l02Lead.LN.drew)); exact HL.out)))) (by decide) hg); have n0_ := Aside0.mk (spec_l02Lead.LN.more (by (with_reducible repeat (first | apply spec_l02Lead.LN.alloc | apply spec_l02Lead.LN.drewN | apply spec_l02Lead.LN.drew)); exact HL.out) ho hb hg hat); clear HL HB HN b0; have HL := n0_; have HN := n5_; clear n0_ n5_; have HB := Aside0.mk HL.out.li.hb; have b0 := (blk_cell HL.out.bg 0).trans rfl; (try clear b1); have b1 := (blk_cell HL.out.bg 1).trans rfl; clear ho hb hg hat) | ((with_reducible refine gate_callee (f := 55) rfl ?_); refine goesL_ (some 81) rfl rfl Try.func55 (by kernel_rfl) rfl #[.slice A2 nd.f1.length c2] rfl (by (try simp only [List.map_toArray, List.map_cons, List.map_nil]); first | done | rfl) ?_; (with_reducible refine (spec_l00Own.calls A2 c2 nd.f1 ow _ ?sC ?sL A13.out).mono ?_); (case sC => exact Kd.F_now (spec_l02Lead.LN.hm (by (with_reducible repeat (first | apply spec_l02Lead.LN.alloc | apply spec_l02Lead.LN.drewN | apply spec_l02Lead.LN.drew)); exact HL.out))); (case sL => exact HL.out.hc1); rintro e w1 ⟨vo, rfl, ho, hb⟩; refine ⟨_, rfl, ?_⟩; obtain ⟨Ao, co, eo⟩ := Kd.R_slice ho; subst eo; have HO := Aside0.mk ho; have HBO := Aside0.mk hb; clear ho hb b0 b1) | ((with_reducible refine gate_builtin (b := .append) (xs := #[.tmp 81, .tmp 83]) rfl ?_); at_builtin; refine Kd.R_append (Kd.int .i64) (w0 := ?wY9) ?bY9 rfl (.tmp 81) (.tmp 83) 31 2 (.int .i64 0) 8 rfl Try.underlying31 (by kernel_rfl) rfl (by first | decide | (show 0 < 2; decide) | (show 0 < 3; decide)) (by omega) (.slice Ao ow.length co) ow mv [.int .i64 mv] (fun _ => True) (fun _ => False) rfl rfl ?aP (fun _ hk => hk.elim) ?aF ?aO ?aB ?aS ?aL ?_; (case aB => exact (by first | exact HBO.out | exact below_drew HBO.out | exact pw_below_drewN HBO.out _)); (case aO => exact (by (with_reducible repeat (first | apply Kd.R_alloc | apply Kd.R_drewN | apply Kd.R_drew)); exact HO.out)); (case aP => exact rfl); (case aF => exact (fun _ _ => trivial)); (case aS => exact below_size (pbs HBO)); (case aL => have := L3.out; (try simp only [List.length_append, List.length_cons, List.length_nil]); omega); intro v3 w3 ho hb hg hat; have n5_ := Aside0.mk (Kd.R_below (by (with_reducible repeat (first | apply Kd.R_alloc | apply Kd.R_drewN | apply Kd.R_drew)); exact HN.out) hb); rw [← NW.out] at ho; have n6_ := Aside0.mk (Kd.R_lower ho (below_size (pbs HB))); have n0_ := Aside0.mk (spec_l02Lead.LN.below (by (with_reducible repeat (first | apply spec_l02Lead.LN.alloc | apply spec_l02Lead.LN.drewN | apply spec_l02Lead.LN.drew)); exact HL.out) hb); clear HL HB HN HO HBO; have HL := n0_; have HN := n5_; have HW := n6_; clear n0_ n5_ n6_; have HB := Aside0.mk HL.out.li.hb; clear ho hb hg hat; obtain ⟨Aw, cw, ew⟩ := Kd.R_slice HW.out; subst ew) | ((with_reducible refine gate_builtin (b := .append) (xs := #[.tmp 77, .tmp 86]) rfl ?_); at_builtin; refine Kd.R_append (spec_l02Lead.kM w) (w0 := w) w.heap.size rfl (.tmp 77) (.tmp 86) 89 88 (.agg #[.slice none 0 0, .slice none 0 0]) 48 rfl Try.underlying89 (by kernel_rfl) rfl (by first | decide | (show 0 < 2; decide) | (show 0 < 3; decide)) (by omega) (.slice Aq q2.length cq) q2 ⟨nx, yw⟩ [.slice An nx.length cn, .slice Aw yw.length cw] (fun _ => True) (fun k_ => True ∧ some k_ ≠ (Value.slice Aq q2.length cq).ownBlock) rfl rfl ?aP (fun _ hk => hk) ?aF ?aO ?aB ?aS ?aL ?_; (case aB => exact pbs HB); (case aO => exact spec_l02Lead.LI.hq (spec_l02Lead.LN.li (by (with_reducible repeat (first | apply spec_l02Lead.LN.alloc | apply spec_l02Lead.LN.drewN | apply spec_l02Lead.LN.drew)); exact HL.out))); (case aP => exact spec_l02Lead.made (Kd.R_apart' (by (with_reducible repeat (first | apply Kd.R_alloc | apply Kd.R_drewN | apply Kd.R_drew)); exact HN.out) (Kd.R_typed (spec_l02Lead.LI.hq (spec_l02Lead.LN.li (by (with_reducible repeat (first | apply spec_l02Lead.LN.alloc | apply spec_l02Lead.LN.drewN | apply spec_l02Lead.LN.drew)); exact HL.out)))) (by decide)) (Kd.R_apart' (by (with_reducible repeat (first | apply Kd.R_alloc | apply Kd.R_drewN | apply Kd.R_drew)); exact HW.out) (Kd.R_typed (spec_l02Lead.LI.hq (spec_l02Lead.LN.li (by (with_reducible repeat (first | apply spec_l02Lead.LN.alloc | apply spec_l02Lead.LN.drewN | apply spec_l02Lead.LN.drew)); exact HL.out)))) (by decide))); (case aF => exact (fun _ _ => trivial)); (case aS => exact below_size (pbs HB)); (case aL => have := L4.out; (try simp only [List.length_append, List.length_cons, List.length_nil]); omega); intro v3 w3 ho hb hg hat; have n0_ := Aside0.mk (spec_l02Lead.LN.queue (by (with_reducible repeat (first | apply spec_l02Lead.LN.alloc | apply spec_l02Lead.LN.drewN | apply spec_l02Lead.LN.drew)); exact HL.out) ho hb hg hat); clear HL HB HN HW; have HL := n0_; clear n0_ ho hb hg hat))
                        go_roundg k2
                        case measure => have := HK1.out; have := HK2.out; omega
                        case rel => exact ⟨_, _, wrap64 (mv + 1), (by first | rfl | (simp; done) | (simp [*]; done)), H', ⟨by have := HK1.out; have := HK2.out; omega⟩, ⟨by (with_reducible repeat (first | apply spec_l02Lead.LN.alloc | apply spec_l02Lead.LN.drewN | apply spec_l02Lead.LN.drew)); exact HL.out⟩⟩
                    | false =>
                      rw [if_neg Bool.false_ne_true] at H; have H' := Aside0.mk H; clear H
                      go_wp2_with (first | ((with_reducible refine gate_callee (f := 53) rfl ?_); refine goesL_ (some 62) rfl rfl Try.func53 (by kernel_rfl) rfl #[.pointer (some ⟨g0, 0, none⟩), .slice (some ad) nd.f0.length c, .int .i64 mv] rfl (by (try simp only [List.map_toArray, List.map_cons, List.map_nil]); first | done | rfl) ?_; (with_reducible refine (spec_l02Can.calls k2 g0 s0 s1 W (some ad) c nd.f0 mv false _ ?sB ?sC ?sL A5.out).mono ?_); (case sB => exact ((pbs HB : Below w.heap.size w _).block g0 (blk_lt BK.out)).trans BK.out); (case sC => exact Kd.F_now (spec_l02Lead.LN.hf (by (with_reducible repeat (first | apply spec_l02Lead.LN.alloc | apply spec_l02Lead.LN.drewN | apply spec_l02Lead.LN.drew)); exact HL.out))); (case sL => exact HL.out.hc); rintro e w1 ⟨rfl, hb⟩; refine ⟨_, rfl, ?_⟩; have n0_ := Aside0.mk (spec_l02Lead.LN.below (by (with_reducible repeat (first | apply spec_l02Lead.LN.alloc | apply spec_l02Lead.LN.drewN | apply spec_l02Lead.LN.drew)); exact HL.out) hb); clear HL HB b0; have HL := n0_; clear n0_; have HB := Aside0.mk HL.out.li.hb; have b0 := (blk_cell HL.out.bg 0).trans rfl; (try clear b1); have b1 := (blk_cell HL.out.bg 1).trans rfl; clear hb))
                      go_roundg k2
                      case measure => have := HK1.out; have := HK2.out; omega
                      case rel => exact ⟨q2, seen2, wrap64 (mv + 1), (by first | rfl | (simp; done) | (simp [*]; done)), H', ⟨by have := HK1.out; have := HK2.out; omega⟩, ⟨by (with_reducible repeat (first | apply spec_l02Lead.LN.alloc | apply spec_l02Lead.LN.drewN | apply spec_l02Lead.LN.drew)); exact HL.out⟩⟩
                  · rw [if_neg d1_] at H
                    have d1b0 : decide (mv ≤ 4) = false := decide_eq_false d1_; have H' := Aside0.mk H; clear H
                    go_wp2
                    go_roundg k2
                    case measure => have := HK1.out; have := HK2.out; omega
                    case rel => exact ⟨q2, seen2, wrap64 (i + 1), (by first | rfl | (simp; done) | (simp [*]; done)), H', ⟨by have := HK1.out; have := HK2.out; omega⟩, ⟨by (with_reducible repeat (first | apply spec_l02Lead.LI.alloc | apply spec_l02Lead.LI.drewN | apply spec_l02Lead.LI.drew)); exact HL.out.li⟩⟩
      · rw [if_neg c2_] at H
        have c2b0 : decide (i < (q.length : Int)) = false := decide_eq_false c2_; simp only [Option.some.injEq, Prod.mk.injEq] at H; obtain ⟨rfl, rfl, rfl⟩ := H; have HB := Aside0.mk HL.out.hb
        go_wp2_with (first | ((with_reducible refine gate_dst (N := 88) rfl ?_); refine Kd.R_lit (Kd.int .i64) (w0 := w) w.heap.size 2 ?hg (N := 88) ?hd (xs := ([] : List Int)) (inner := []) (ok := fun _ => True) (okp := fun _ => True) ?hr ?hp (fun _ hk => hk) trivial ?hB ?hS (by simp) ?_; (case hd => rfl); (case hg => rfl); (case hr => first | (go_simp; done) | (go_simp; rfl)); (case hp => exact (Reps.none _ _)); (case hB => exact pbs HB); (case hS => exact below_size (pbs HB)); intro vl wl ho hb hg_ hnew_; have HO := Aside0.mk ho; have n0_ := Aside0.mk hb; clear HB ho hb hg_ hnew_; have HB := n0_; clear n0_))
        (try simp only [Exit.inBlock, Exit.then]); refine bodyPost_ret (results_tmp3 rfl _ _ _) rfl ?_; exact ⟨_, (by first | rfl | (simp; done) | (simp [*]; done)), (by (with_reducible repeat (first | apply Kd.R_alloc | apply Kd.R_drewN | apply Kd.R_drew)); exact HO.out), pbs HB⟩
end Go.Proofs.Ytjpponjekcemjaa.PB
end
section
namespace Go.Proofs.Ytjpponjekcemjaa.PB
open Go.RowKit Go.Proofs.YtjpponjekcemjaaW.PrintWords Go.Proofs.YtjpponjekcemjaaW.PrintLast Go.Proofs.YtjpponjekcemjaaW.PrintMore Go.Proofs.Ytjpponjekcemjaa.La
attribute [local go_sem] max2_int min2_int max_two min_two max_three min_three max_four min_four   -- for this text's walks alone
set_option linter.unusedVariables false
set_option linter.unusedSimpArgs false
def spec_LeadTo.j0 : Nat → List (S39) → Int → Bool → Int → Int → LA 10 → Int → Int → Option (List Int × Int × Int)
 | 0, _, _, _, _, _, _, _, _ => none
 | k + 1, x1, x3, x16, x202000, x202001, x202002, x203000, x203001 => if x16 = true then (some ((([] : List Int)), 0, 2)) else ((spec_l01Free.f x202000 x202001 x202002 x203000 x203001).bind fun t209 => (if t209 = true then ((spec_l02Lead.f k x202000 x202001 x202002 x1 x203000 x203001 x3).bind fun bt210 => (some (bt210.1, bt210.2.1, bt210.2.2))) else (some ((([] : List Int)), 0, 4))))
def spec_LeadTo.f (k : Nat) (a0_0 : Int) (a0_1 : Int) (a0_2 : LA 10) (l1 : List (S39)) (a2_0 : Int) (a2_1 : Int) (a3 : Int) : Option (List Int × Int × Int) := (spec_l02Ok.f k a0_0 a0_1 a0_2 l1).bind fun t203 => (if t203 = true then ((spec_l01Is.f a0_0 a0_1 a0_2 a2_0 a2_1).bind fun t204 => (if t204 = true then ((spec_l00In.f a3 0 20000).bind fun t205 => (spec_LeadTo.j0 k l1 a3 (!t205) a0_0 a0_1 a0_2 a2_0 a2_1)) else (spec_LeadTo.j0 k l1 a3 true a0_0 a0_1 a0_2 a2_0 a2_1))) else (some ((([] : List Int)), 0, 1)))
theorem spec_LeadTo.mono_l : ∀ k, (∀ y0 y1 y2 y3 y4 y5 y6 y7, LeO (spec_LeadTo.j0 k y0 y1 y2 y3 y4 y5 y6 y7) (spec_LeadTo.j0 (k + 1) y0 y1 y2 y3 y4 y5 y6 y7))
 | 0 => fun _ _ _ _ _ _ _ _ r h => by simp [spec_LeadTo.j0] at h
 | k + 1 => by
  have ih0 := spec_LeadTo.mono_l k
  ·intro y0 y1 y2 y3 y4 y5 y6 y7
   unfold spec_LeadTo.j0
   repeat' first
   | (with_reducible exact ih0 _ _ _ _ _ _ _ _)
   | (with_reducible exact spec_l02Lead.mono _ _ _ _ _ _ _ _)
   | (with_reducible exact spec_l02Ok.mono _ _ _ _ _)
   | (with_reducible exact LeO.refl _)
   | (with_reducible exact LeO.none _)
   | (with_reducible refine LeO.ite ?_ ?_)
   | (with_reducible refine LeO.bind ?_ (fun _ => ?_))
   | exact ih0 _ _ _ _ _ _ _ _
   | exact spec_l02Lead.mono _ _ _ _ _ _ _ _
   | exact spec_l02Ok.mono _ _ _ _ _
   | exact LeO.none _
   | refine LeO.ite ?_ ?_
   | refine LeO.bind ?_ (fun _ => ?_)
theorem spec_LeadTo.mono : ∀ a0 a1 a2 a3 a4 a5 a6 k, LeO (spec_LeadTo.f k a0 a1 a2 a3 a4 a5 a6) (spec_LeadTo.f (k + 1) a0 a1 a2 a3 a4 a5 a6) := by
 intro a0 a1 a2 a3 a4 a5 a6 k
 have ih0 := spec_LeadTo.mono_l k
 unfold spec_LeadTo.f
 repeat' first
   | (with_reducible exact ih0 _ _ _ _ _ _ _ _)
   | (with_reducible exact spec_l02Lead.mono _ _ _ _ _ _ _ _)
   | (with_reducible exact spec_l02Ok.mono _ _ _ _ _)
   | (with_reducible exact LeO.refl _)
   | (with_reducible exact LeO.none _)
   | (with_reducible refine LeO.ite ?_ ?_)
   | (with_reducible refine LeO.bind ?_ (fun _ => ?_))
   | exact ih0 _ _ _ _ _ _ _ _
   | exact spec_l02Lead.mono _ _ _ _ _ _ _ _
   | exact spec_l02Ok.mono _ _ _ _ _
   | exact LeO.none _
   | refine LeO.ite ?_ ?_
   | refine LeO.bind ?_ (fun _ => ?_)
set_option maxHeartbeats 8000000 in
set_option maxRecDepth 100000 in
theorem spec_LeadTo.calls (k : Nat) (a0_0 : Int) (a0_1 : Int) (a0_2 : LA 10) (A1 : Option Addr) (c1 : Nat) (l1 : List (S39)) (a2_0 : Int) (a2_1 : Int) (a3 : Int) (r1 : List Int) (r2 : Int) (r3 : Int) (w : World) (hr1 : Kd.C k39 w A1 l1.length l1) (hc1 : l1.length ≤ c1) (h : spec_LeadTo.f k a0_0 a0_1 a0_2 l1 a2_0 a2_1 a3 = some (r1, r2, r3)) :
  Calls Try.prog 7 #[.agg (mixA (Value.int .u16) [.int .i8 a0_0, .int .i8 a0_1] a0_2), .slice A1 l1.length c1, .agg #[.int .i8 a2_0, .int .i8 a2_1], .int .i64 a3] w fun e w' => ∃ v0_ : Value, e = .returned (.tuple #[v0_, .int .i64 r2, .int .i64 r3]) ∧ Kd.R (Kd.int .i64) 2 w' w.heap.size (fun _ => True) v0_ r1 ∧ Below w.heap.size w w' := by
 have hu34 := Try.underlying34
 have hu39 := Try.underlying39
 have HR1 := Aside0.mk hr1
 have HC1 := Aside0.mk hc1
 clear hr1 hc1
 have HB := Aside0.mk (Below.refl w.heap.size w)
 have H : ((spec_l02Ok.f k a0_0 a0_1 a0_2 l1).bind fun t203 => (if t203 = true then ((spec_l01Is.f a0_0 a0_1 a0_2 a2_0 a2_1).bind fun t204 => (if t204 = true then ((spec_l00In.f a3 0 20000).bind fun t205 => (spec_LeadTo.j0 k l1 a3 (!t205) a0_0 a0_1 a0_2 a2_0 a2_1)) else (spec_LeadTo.j0 k l1 a3 true a0_0 a0_1 a0_2 a2_0 a2_1))) else (some ((([] : List Int)), 0, 1)))) = some (r1, r2, r3) := h
 clear h
 replace H := Option.bind_eq_some_iff.mp H
 obtain ⟨t203, A50, H⟩ := H
 replace H : (if t203 = true then ((spec_l01Is.f a0_0 a0_1 a0_2 a2_0 a2_1).bind fun t204 => (if t204 = true then ((spec_l00In.f a3 0 20000).bind fun t205 => (spec_LeadTo.j0 k l1 a3 (!t205) a0_0 a0_1 a0_2 a2_0 a2_1)) else (spec_LeadTo.j0 k l1 a3 true a0_0 a0_1 a0_2 a2_0 a2_1))) else (some ((([] : List Int)), 0, 1))) = some (r1, r2, r3) := H
 have A5 := Aside0.mk A50
 clear A50
 by_cases c6 : t203 = true
 ·subst c6
  have H1 : ((spec_l01Is.f a0_0 a0_1 a0_2 a2_0 a2_1).bind fun t204 => (if t204 = true then ((spec_l00In.f a3 0 20000).bind fun t205 => (spec_LeadTo.j0 k l1 a3 (!t205) a0_0 a0_1 a0_2 a2_0 a2_1)) else (spec_LeadTo.j0 k l1 a3 true a0_0 a0_1 a0_2 a2_0 a2_1))) = some (r1, r2, r3) := by rw [if_pos rfl] at H; exact H
  clear H; have H := H1; clear H1; have HC7 := Aside0.mk H; clear H
  go_enter Try.func7, Try.ntmps7
  go_upto_region 3 with (first | ((with_reducible refine gate_dst (N := 4) rfl ?_); refine box_event ?hg (N := 4) ?hd (cs := (mixA (Value.int .u16) [.int .i8 a0_0, .int .i8 a0_1] a0_2)) (t := 34) ?hr ?_; (case hd => rfl); (case hg => rfl); (case hr => first | (go_simp; done) | (go_simp; rfl)); intro gb201 hg w8 hbox hb; have n0_ := bst HB hb; have n1_ := Aside0.mk (hbox); have n2_ := gwl HB hg; have n3_ := gwl HB hg; clear HB; have HB := n0_; have BK201 := n1_; have GW201 := n2_; have GE201 := n3_; clear n0_ n1_ n2_ n3_; clear hb hbox hg) | ((with_reducible refine gate_dst (N := 6) rfl ?_); refine box_event ?hg (N := 6) ?hd (cs := #[.int .i8 a2_0, .int .i8 a2_1]) (t := 39) ?hr ?_; (case hd => rfl); (case hg => rfl); (case hr => first | (go_simp; done) | (go_simp; rfl)); intro gb202 hg w9 hbox hb; have n0_ := bkb BK201 hb; have n1_ := bst HB hb; have n2_ := Aside0.mk (hbox); have n3_ := gwl HB hg; have n4_ := gwl HB hg; have n5_ := nbl BK201 hg; have n6_ := nbg BK201 hg; clear BK201; clear HB; have BK201 := n0_; have HB := n1_; have BK202 := n2_; have GW202 := n3_; have GE202 := n4_; have NB201_202 := n5_; have NB202_201 := n6_; clear n0_ n1_ n2_ n3_ n4_ n5_ n6_; clear hb hbox hg) | ((with_reducible refine gate_callee (f := 29) rfl ?_); refine gl (some 13) Try.func29 #[.pointer (some ⟨gb201, 0, none⟩), .slice A1 l1.length c1] ?_; (with_reducible refine (spec_l02Ok.calls k gb201 a0_0 a0_1 a0_2 _ _ l1 true _ ?side1 ?side2 ?side3 A5.out).mono ?_); (case side1 => exact (pk BK201)); (case side2 => repeat (first | exact (Kd.C_below HR1.out HB.out) | (with_reducible refine Kd.C_alloc ?_ _) | (with_reducible refine Kd.C_drewN ?_ _) | (with_reducible refine Kd.C_drew ?_))); (case side3 => exact HC1.out); rintro e w10 ⟨rfl, hb⟩; refine ⟨_, rfl, ?_⟩; replace BK201 := bkb BK201 hb; replace BK202 := bkb BK202 hb; replace HB := bst HB hb; (try clear hb); (try clear hb2); (try clear hk); (try clear hi)))
  (try simp only [Act.put, List.setIfInBounds_toArray, List.set_cons_zero, List.set_cons_succ])
  go_cut [16] (fun v16 wc => ∃ (kq : Nat) (x16_6 : Bool), v16 = .bool x16_6 ∧ Aside0 (spec_LeadTo.j0 kq l1 a3 x16_6 a0_0 a0_1 a0_2 a2_0 a2_1 = some (r1, r2, r3)) ∧ Aside0 (kq ≤ k) ∧ Aside0 (wc.heap[gb201]? = some (.cells (mixA (Value.int .u16) [.int .i8 a0_0, .int .i8 a0_1] a0_2) 34 (0, 0))) ∧ Aside0 (wc.heap[gb202]? = some (.cells #[.int .i8 a2_0, .int .i8 a2_1] 39 (0, 0))) ∧ Aside0 (Below w.heap.size w wc))
  case first =>
   have H := HC7.out; clear HC7; replace H := Option.bind_eq_some_iff.mp H; obtain ⟨t204, A110, H⟩ := H; replace H : (if t204 = true then ((spec_l00In.f a3 0 20000).bind fun t205 => (spec_LeadTo.j0 k l1 a3 (!t205) a0_0 a0_1 a0_2 a2_0 a2_1)) else (spec_LeadTo.j0 k l1 a3 true a0_0 a0_1 a0_2 a2_0 a2_1)) = some (r1, r2, r3) := H; have A11 := Aside0.mk A110; clear A110
   by_cases c12 : t204 = true
   ·subst c12
    have H1 : ((spec_l00In.f a3 0 20000).bind fun t205 => (spec_LeadTo.j0 k l1 a3 (!t205) a0_0 a0_1 a0_2 a2_0 a2_1)) = some (r1, r2, r3) := by rw [if_pos rfl] at H; exact H
    clear H; have H := H1; clear H1; replace H := Option.bind_eq_some_iff.mp H; obtain ⟨t205, A130, H⟩ := H; replace H : (spec_LeadTo.j0 k l1 a3 (!t205) a0_0 a0_1 a0_2 a2_0 a2_1) = some (r1, r2, r3) := H; have A13 := Aside0.mk A130; clear A130; have H' := Aside0.mk H; clear H; have hnb14 := NB202_201.out; have hnc14 := NB201_202.out; have hcz15_0 : w10.cell? ⟨gb202, 0, none⟩ = some (.int .i8 a2_0) := bc_ BK202.out 0; have hcz15_1 : w10.cell? ⟨gb202, 1, none⟩ = some (.int .i8 a2_1) := bc_ BK202.out 1; have hfz15_0 := blk_frozen BK202.out 0; have hfz15_1 := blk_frozen BK202.out 1
    go_wp2_with (first | ((with_reducible refine gate_callee (f := 30) rfl ?_); refine gl (some 18) Try.func30 #[.pointer (some ⟨gb201, 0, none⟩), .agg #[.int .i8 a2_0, .int .i8 a2_1]] ?_; (with_reducible refine (spec_l01Is.calls gb201 a0_0 a0_1 a0_2 a2_0 a2_1 true _ ?side1 A11.out).mono ?_); (case side1 => exact (pk BK201)); rintro e w16 ⟨rfl, hb⟩; refine ⟨_, rfl, ?_⟩; replace BK201 := bkb BK201 hb; replace BK202 := bkb BK202 hb; replace HB := bst HB hb; (try clear hb); (try clear hb2); (try clear hk); (try clear hi)) | (go_at_call 31; (with_reducible refine (spec_l00In.calls a3 0 20000 t205 _ A13.out).mono ?_); rintro e w' ⟨rfl, ⟨nd, rfl⟩⟩))
    go_meet
    case rel => exact ⟨_, (!t205), (by first | rfl | (simp; done) | (simp [*]; done)), H', ⟨by first | omega | exact Nat.le_refl _⟩, ⟨pk BK201⟩, ⟨pk BK202⟩, ⟨pbs HB⟩⟩
   ·replace c12 := Bool.eq_false_iff.mpr c12
    subst c12
    have H1 : (spec_LeadTo.j0 k l1 a3 true a0_0 a0_1 a0_2 a2_0 a2_1) = some (r1, r2, r3) := by rw [if_neg (show ¬ (false = true) by decide)] at H; exact H
    clear H; have H := H1; clear H1; have H' := Aside0.mk H; clear H; have hnb17 := NB202_201.out; have hnc17 := NB201_202.out; have hcz18_0 : w10.cell? ⟨gb202, 0, none⟩ = some (.int .i8 a2_0) := bc_ BK202.out 0; have hcz18_1 : w10.cell? ⟨gb202, 1, none⟩ = some (.int .i8 a2_1) := bc_ BK202.out 1; have hfz18_0 := blk_frozen BK202.out 0; have hfz18_1 := blk_frozen BK202.out 1
    go_wp2_with (first | ((with_reducible refine gate_callee (f := 30) rfl ?_); refine gl (some 18) Try.func30 #[.pointer (some ⟨gb201, 0, none⟩), .agg #[.int .i8 a2_0, .int .i8 a2_1]] ?_; (with_reducible refine (spec_l01Is.calls gb201 a0_0 a0_1 a0_2 a2_0 a2_1 false _ ?side1 A11.out).mono ?_); (case side1 => exact (pk BK201)); rintro e w19 ⟨rfl, hb⟩; refine ⟨_, rfl, ?_⟩; replace BK201 := bkb BK201 hb; replace BK202 := bkb BK202 hb; replace HB := bst HB hb; (try clear hb); (try clear hb2); (try clear hk); (try clear hi)))
    go_meet
    case rel => exact ⟨_, (true), (by first | rfl | (simp; done) | (simp [*]; done)), H', ⟨by first | omega | exact Nat.le_refl _⟩, ⟨pk BK201⟩, ⟨pk BK202⟩, ⟨pbs HB⟩⟩
  case rest =>
   clear HC7
   try clear c1
   try clear c2
   try clear p2
   try clear c3
   try clear c6
   try clear c7
   try clear c12
   try clear c14
   try clear c17
   try clear hcz15_0
   try clear hcz15_1
   try clear hcz18_0
   try clear hcz18_1
   try clear hfz15_0
   try clear hfz15_1
   try clear hfz18_0
   try clear hfz18_1
   obtain ⟨kq, x16_6, rfl, HA, HJ6, BK201, BK202, HB⟩ := hcut
   cases kq with
   | zero => exact absurd HA.out (by simp [spec_LeadTo.j0])
   | succ kj6 =>
    have H := HA.out; clear HA; simp only [spec_LeadTo.j0] at H
    by_cases c20 : x16_6 = true
    ·subst c20
     have H1 : (some ((([] : List Int)), 0, 2)) = some (r1, r2, r3) := by rw [if_pos rfl] at H; exact H
     clear H; have H := H1; clear H1; obtain ⟨y206, hy206⟩ : ∃ y_ : List Int, y_ = (([] : List Int)) := ⟨_, rfl⟩
     replace H : (some (y206, 0, 2)) = some (r1, r2, r3) := by first | (rw [hy206]; with_reducible exact H) | (have H2_ := (Option.bind_some _ _).symm.trans H; rw [hy206]; with_reducible exact H2_) | (have H2_ := (Option.bind_some _ _).symm.trans H; with_reducible exact H2_) | with_reducible exact H | (rw [hy206]; exact H) | exact H
     have Ny206 := Aside0.mk hy206; clear hy206; simp only [Option.some.injEq, Prod.mk.injEq] at H; obtain ⟨rfl, rfl, rfl⟩ := H
     go_wp2_with (first | ((with_reducible refine gate_dst (N := 25) rfl ?_); refine Kd.R_lit (Kd.int .i64) _ 2 ?hg (N := 25) ?hd (xs := ([] : List Int)) (inner := []) (ok := fun _ => True) (okp := fun _ => True) ?hr ?hp (fun _ hk => hk) trivial (Below.refl _ _) (Nat.le_refl _) (by simp) ?_; (case hd => rfl); (case hg => rfl); (case hr => first | (go_simp; done) | (go_simp; rfl)); (case hp => exact (Reps.none _ _)); intro v207 w21 ho22 hb hg_ hnew_; clear hg_ hnew_; (first | rw [← Ny206.out] at ho22 | (simp only [Int.reduceToNat] at ho22; rw [← Ny206.out] at ho22)); have HO208 := Aside0.mk (Kd.R_lower ho22 (below_size (by repeat (first | (with_reducible first | exact HB.out | apply below_alloc | apply pw_below_drewN | apply below_drew1 | refine below_set ?_ GE201.out | refine below_set ?_ GE202.out) | exact HB.out)))); replace BK201 := bkb BK201 hb; replace BK202 := bkb BK202 hb; replace HB := bst HB hb; clear hb ho22))
     go_ret3
     exact ⟨_, by first | rfl | (simp [errW_none, errW_some] <;> rfl) | (simp [*, errW_none, errW_some] <;> rfl), by (with_reducible repeat (first | apply Kd.R_alloc | apply Kd.R_drewN | apply Kd.R_drew)); exact HO208.out, pbs HB⟩
    ·replace c20 := Bool.eq_false_iff.mpr c20
     subst c20
     have H1 : ((spec_l01Free.f a0_0 a0_1 a0_2 a2_0 a2_1).bind fun t209 => (if t209 = true then ((spec_l02Lead.f kj6 a0_0 a0_1 a0_2 l1 a2_0 a2_1 a3).bind fun bt210 => (some (bt210.1, bt210.2.1, bt210.2.2))) else (some ((([] : List Int)), 0, 4)))) = some (r1, r2, r3) := by rw [if_neg (show ¬ (false = true) by decide)] at H; exact H
     clear H; have H := H1; clear H1; replace H := Option.bind_eq_some_iff.mp H; obtain ⟨t209, A230, H⟩ := H; replace H : (if t209 = true then ((spec_l02Lead.f kj6 a0_0 a0_1 a0_2 l1 a2_0 a2_1 a3).bind fun bt210 => (some (bt210.1, bt210.2.1, bt210.2.2))) else (some ((([] : List Int)), 0, 4))) = some (r1, r2, r3) := H; have A23 := Aside0.mk A230; clear A230
     by_cases c24 : t209 = true
     ·subst c24
      have H1 : ((spec_l02Lead.f kj6 a0_0 a0_1 a0_2 l1 a2_0 a2_1 a3).bind fun bt210 => (some (bt210.1, bt210.2.1, bt210.2.2))) = some (r1, r2, r3) := by rw [if_pos rfl] at H; exact H
      clear H; have H := H1; clear H1; replace H := Option.bind_eq_some_iff.mp H; obtain ⟨⟨t210, t213, t214⟩, A250, H⟩ := H; replace H : (some (t210, t213, t214)) = some (r1, r2, r3) := H; have A25 := Aside0.mk A250; clear A250; simp only [Option.some.injEq, Prod.mk.injEq] at H; obtain ⟨rfl, rfl, rfl⟩ := H; have hnb26 := NB202_201.out; have hnc26 := NB201_202.out; have hcz27_0 : wc.cell? ⟨gb202, 0, none⟩ = some (.int .i8 a2_0) := bc_ BK202.out 0; have hcz27_1 : wc.cell? ⟨gb202, 1, none⟩ = some (.int .i8 a2_1) := bc_ BK202.out 1; have hfz27_0 := blk_frozen BK202.out 0; have hfz27_1 := blk_frozen BK202.out 1
      go_wp2_with (first | ((with_reducible refine gate_callee (f := 32) rfl ?_); refine gl (some 28) Try.func32 #[.pointer (some ⟨gb201, 0, none⟩), .agg #[.int .i8 a2_0, .int .i8 a2_1]] ?_; (with_reducible refine (spec_l01Free.calls gb201 a0_0 a0_1 a0_2 a2_0 a2_1 true _ ?side1 A23.out).mono ?_); (case side1 => exact (pk BK201)); rintro e w28 ⟨rfl, hb⟩; refine ⟨_, rfl, ?_⟩; replace BK201 := bkb BK201 hb; replace BK202 := bkb BK202 hb; replace HB := bst HB hb; (try clear hb); (try clear hb2); (try clear hk); (try clear hi); have hcz29_0 : w28.cell? ⟨gb202, 0, none⟩ = some (.int .i8 a2_0) := (blk_cell BK202.out 0).trans rfl; have hcz29_1 : w28.cell? ⟨gb202, 1, none⟩ = some (.int .i8 a2_1) := (blk_cell BK202.out 1).trans rfl; have hfz29_0 := blk_frozen BK202.out 0; have hfz29_1 := blk_frozen BK202.out 1) | ((with_reducible refine gate_callee (f := 33) rfl ?_); refine gl (some 34) Try.func33 #[.pointer (some ⟨gb201, 0, none⟩), .slice A1 l1.length c1, .agg #[.int .i8 a2_0, .int .i8 a2_1], .int .i64 a3] ?_; (with_reducible refine (spec_l02Lead.calls kj6 gb201 a0_0 a0_1 a0_2 _ _ l1 a2_0 a2_1 a3 t210 t213 t214 _ ?side1 ?side2 ?side3 A25.out).mono ?_); (case side1 => exact (pk BK201)); (case side2 => repeat (first | exact (Kd.C_below HR1.out HB.out) | (with_reducible refine Kd.C_alloc ?_ _) | (with_reducible refine Kd.C_drewN ?_ _) | (with_reducible refine Kd.C_drew ?_))); (case side3 => exact HC1.out); rintro e w30 ⟨v211, rfl, ho0, hb⟩; refine ⟨_, rfl, ?_⟩; have HO212 := Aside0.mk (Kd.R_lower ho0 (below_size (by repeat (first | (with_reducible first | exact HB.out | apply below_alloc | apply pw_below_drewN | apply below_drew1 | refine below_set ?_ GE201.out | refine below_set ?_ GE202.out) | exact HB.out)))); replace BK201 := bkb BK201 hb; replace BK202 := bkb BK202 hb; replace HB := bst HB hb; (try clear hb); (try clear hb2); (try clear hk); (try clear hi); (try clear ho0)))
      go_ret3
      exact ⟨_, by first | rfl | (simp [errW_none, errW_some] <;> rfl) | (simp [*, errW_none, errW_some] <;> rfl), by (with_reducible repeat (first | apply Kd.R_alloc | apply Kd.R_drewN | apply Kd.R_drew)); exact HO212.out, pbs HB⟩
     ·replace c24 := Bool.eq_false_iff.mpr c24
      subst c24
      have H1 : (some ((([] : List Int)), 0, 4)) = some (r1, r2, r3) := by rw [if_neg (show ¬ (false = true) by decide)] at H; exact H
      clear H; have H := H1; clear H1; obtain ⟨y215, hy215⟩ : ∃ y_ : List Int, y_ = (([] : List Int)) := ⟨_, rfl⟩
      replace H : (some (y215, 0, 4)) = some (r1, r2, r3) := by first | (rw [hy215]; with_reducible exact H) | (have H2_ := (Option.bind_some _ _).symm.trans H; rw [hy215]; with_reducible exact H2_) | (have H2_ := (Option.bind_some _ _).symm.trans H; with_reducible exact H2_) | with_reducible exact H | (rw [hy215]; exact H) | exact H
      have Ny215 := Aside0.mk hy215; clear hy215; simp only [Option.some.injEq, Prod.mk.injEq] at H; obtain ⟨rfl, rfl, rfl⟩ := H; have hnb31 := NB202_201.out; have hnc31 := NB201_202.out; have hcz32_0 : wc.cell? ⟨gb202, 0, none⟩ = some (.int .i8 a2_0) := bc_ BK202.out 0; have hcz32_1 : wc.cell? ⟨gb202, 1, none⟩ = some (.int .i8 a2_1) := bc_ BK202.out 1; have hfz32_0 := blk_frozen BK202.out 0; have hfz32_1 := blk_frozen BK202.out 1
      go_wp2_with (first | ((with_reducible refine gate_callee (f := 32) rfl ?_); refine gl (some 28) Try.func32 #[.pointer (some ⟨gb201, 0, none⟩), .agg #[.int .i8 a2_0, .int .i8 a2_1]] ?_; (with_reducible refine (spec_l01Free.calls gb201 a0_0 a0_1 a0_2 a2_0 a2_1 false _ ?side1 A23.out).mono ?_); (case side1 => exact (pk BK201)); rintro e w33 ⟨rfl, hb⟩; refine ⟨_, rfl, ?_⟩; replace BK201 := bkb BK201 hb; replace BK202 := bkb BK202 hb; replace HB := bst HB hb; (try clear hb); (try clear hb2); (try clear hk); (try clear hi)) | ((with_reducible refine gate_dst (N := 30) rfl ?_); refine Kd.R_lit (Kd.int .i64) _ 2 ?hg (N := 30) ?hd (xs := ([] : List Int)) (inner := []) (ok := fun _ => True) (okp := fun _ => True) ?hr ?hp (fun _ hk => hk) trivial (Below.refl _ _) (Nat.le_refl _) (by simp) ?_; (case hd => rfl); (case hg => rfl); (case hr => first | (go_simp; done) | (go_simp; rfl)); (case hp => exact (Reps.none _ _)); intro v216 w34 ho35 hb hg_ hnew_; clear hg_ hnew_; (first | rw [← Ny215.out] at ho35 | (simp only [Int.reduceToNat] at ho35; rw [← Ny215.out] at ho35)); have HO217 := Aside0.mk (Kd.R_lower ho35 (below_size (by repeat (first | (with_reducible first | exact HB.out | apply below_alloc | apply pw_below_drewN | apply below_drew1 | refine below_set ?_ GE201.out | refine below_set ?_ GE202.out) | exact HB.out)))); replace BK201 := bkb BK201 hb; replace BK202 := bkb BK202 hb; replace HB := bst HB hb; clear hb ho35))
      go_ret3
      exact ⟨_, by first | rfl | (simp [errW_none, errW_some] <;> rfl) | (simp [*, errW_none, errW_some] <;> rfl), by (with_reducible repeat (first | apply Kd.R_alloc | apply Kd.R_drewN | apply Kd.R_drew)); exact HO217.out, pbs HB⟩
 ·replace c6 := Bool.eq_false_iff.mpr c6
  subst c6
  have H1 : (some ((([] : List Int)), 0, 1)) = some (r1, r2, r3) := by rw [if_neg (show ¬ (false = true) by decide)] at H; exact H
  clear H; have H := H1; clear H1; obtain ⟨y218, hy218⟩ : ∃ y_ : List Int, y_ = (([] : List Int)) := ⟨_, rfl⟩
  replace H : (some (y218, 0, 1)) = some (r1, r2, r3) := by first | (rw [hy218]; with_reducible exact H) | (have H2_ := (Option.bind_some _ _).symm.trans H; rw [hy218]; with_reducible exact H2_) | (have H2_ := (Option.bind_some _ _).symm.trans H; with_reducible exact H2_) | with_reducible exact H | (rw [hy218]; exact H) | exact H
  have Ny218 := Aside0.mk hy218; clear hy218; simp only [Option.some.injEq, Prod.mk.injEq] at H; obtain ⟨rfl, rfl, rfl⟩ := H
  go_enter Try.func7, Try.ntmps7
  go_wp2_with (first | ((with_reducible refine gate_dst (N := 4) rfl ?_); refine box_event ?hg (N := 4) ?hd (cs := (mixA (Value.int .u16) [.int .i8 a0_0, .int .i8 a0_1] a0_2)) (t := 34) ?hr ?_; (case hd => rfl); (case hg => rfl); (case hr => first | (go_simp; done) | (go_simp; rfl)); intro gb201 hg w36 hbox hb; have n0_ := bst HB hb; have n1_ := Aside0.mk (hbox); have n2_ := gwl HB hg; have n3_ := gwl HB hg; clear HB; have HB := n0_; have BK201 := n1_; have GW201 := n2_; have GE201 := n3_; clear n0_ n1_ n2_ n3_; clear hb hbox hg) | ((with_reducible refine gate_dst (N := 6) rfl ?_); refine box_event ?hg (N := 6) ?hd (cs := #[.int .i8 a2_0, .int .i8 a2_1]) (t := 39) ?hr ?_; (case hd => rfl); (case hg => rfl); (case hr => first | (go_simp; done) | (go_simp; rfl)); intro gb202 hg w37 hbox hb; have n0_ := bkb BK201 hb; have n1_ := bst HB hb; have n2_ := Aside0.mk (hbox); have n3_ := gwl HB hg; have n4_ := gwl HB hg; have n5_ := nbl BK201 hg; have n6_ := nbg BK201 hg; clear BK201; clear HB; have BK201 := n0_; have HB := n1_; have BK202 := n2_; have GW202 := n3_; have GE202 := n4_; have NB201_202 := n5_; have NB202_201 := n6_; clear n0_ n1_ n2_ n3_ n4_ n5_ n6_; clear hb hbox hg) | ((with_reducible refine gate_callee (f := 29) rfl ?_); refine gl (some 13) Try.func29 #[.pointer (some ⟨gb201, 0, none⟩), .slice A1 l1.length c1] ?_; (with_reducible refine (spec_l02Ok.calls k gb201 a0_0 a0_1 a0_2 _ _ l1 false _ ?side1 ?side2 ?side3 A5.out).mono ?_); (case side1 => exact (pk BK201)); (case side2 => repeat (first | exact (Kd.C_below HR1.out HB.out) | (with_reducible refine Kd.C_alloc ?_ _) | (with_reducible refine Kd.C_drewN ?_ _) | (with_reducible refine Kd.C_drew ?_))); (case side3 => exact HC1.out); rintro e w38 ⟨rfl, hb⟩; refine ⟨_, rfl, ?_⟩; replace BK201 := bkb BK201 hb; replace BK202 := bkb BK202 hb; replace HB := bst HB hb; (try clear hb); (try clear hb2); (try clear hk); (try clear hi)) | ((with_reducible refine gate_dst (N := 15) rfl ?_); refine Kd.R_lit (Kd.int .i64) _ 2 ?hg (N := 15) ?hd (xs := ([] : List Int)) (inner := []) (ok := fun _ => True) (okp := fun _ => True) ?hr ?hp (fun _ hk => hk) trivial (Below.refl _ _) (Nat.le_refl _) (by simp) ?_; (case hd => rfl); (case hg => rfl); (case hr => first | (go_simp; done) | (go_simp; rfl)); (case hp => exact (Reps.none _ _)); intro v219 w39 ho40 hb hg_ hnew_; clear hg_ hnew_; (first | rw [← Ny218.out] at ho40 | (simp only [Int.reduceToNat] at ho40; rw [← Ny218.out] at ho40)); have HO220 := Aside0.mk (Kd.R_lower ho40 (below_size (by repeat (first | (with_reducible first | exact HB.out | apply below_alloc | apply pw_below_drewN | apply below_drew1 | refine below_set ?_ GE201.out | refine below_set ?_ GE202.out) | exact HB.out)))); replace BK201 := bkb BK201 hb; replace BK202 := bkb BK202 hb; replace HB := bst HB hb; clear hb ho40))
  go_ret3
  exact ⟨_, by first | rfl | (simp [errW_none, errW_some] <;> rfl) | (simp [*, errW_none, errW_some] <;> rfl), by (with_reducible repeat (first | apply Kd.R_alloc | apply Kd.R_drewN | apply Kd.R_drew)); exact HO220.out, pbs HB⟩
def laws_toUint16A10.l0 : Nat → Int → LA 10 → LA 10 → Option (LA 10)
 | 0, _, _, _ => none
 | k + 1, x4, x222000, x224000 => if x4 < 10 then (if 0 ≤ x4 then (laws_toUint16A10.l0 k (wrap64 (x4 + 1)) x222000 (LA.set x224000 x4 (rd x222000.l x4))) else (none)) else (some x224000)
def laws_toUint16A10.f (k : Nat) (a0 : LA 10) : Option (LA 10) := laws_toUint16A10.l0 k 0 a0 (LA.zero 10)
theorem laws_toUint16A10.mono_l : ∀ k, (∀ y0 y1 y2, LeO (laws_toUint16A10.l0 k y0 y1 y2) (laws_toUint16A10.l0 (k + 1) y0 y1 y2))
 | 0 => fun _ _ _ r h => by simp [laws_toUint16A10.l0] at h
 | k + 1 => by
  have ih0 := laws_toUint16A10.mono_l k
  ·intro y0 y1 y2
   unfold laws_toUint16A10.l0
   repeat' first
   | (with_reducible exact ih0 _ _ _)
   | (with_reducible exact LeO.refl _)
   | (with_reducible exact LeO.none _)
   | (with_reducible refine LeO.ite ?_ ?_)
   | (with_reducible refine LeO.bind ?_ (fun _ => ?_))
   | exact ih0 _ _ _
   | exact LeO.none _
   | refine LeO.ite ?_ ?_
   | refine LeO.bind ?_ (fun _ => ?_)
theorem laws_toUint16A10.mono : ∀ a0 k, LeO (laws_toUint16A10.f k a0) (laws_toUint16A10.f (k + 1) a0) := by
 intro a0 k
 have ih0 := laws_toUint16A10.mono_l k
 unfold laws_toUint16A10.f
 repeat' first
   | (with_reducible exact ih0 _ _ _)
   | (with_reducible exact LeO.refl _)
   | (with_reducible exact LeO.none _)
   | (with_reducible refine LeO.ite ?_ ?_)
   | (with_reducible refine LeO.bind ?_ (fun _ => ?_))
   | exact ih0 _ _ _
   | exact LeO.none _
   | refine LeO.ite ?_ ?_
   | refine LeO.bind ?_ (fun _ => ?_)
set_option maxHeartbeats 8000000 in
set_option maxRecDepth 100000 in
theorem laws_toUint16A10.calls (k : Nat) (a0 : LA 10) (r : LA 10) (w : World) (h : laws_toUint16A10.f k a0 = some r) :
  Calls Try.prog 34 #[.agg (mixA (Value.int .u16) [] a0)] w fun e w' => e = .returned (.agg (mixA (Value.int .u16) [] r)) ∧ Below w.heap.size w w' := by
 have HB := Aside0.mk (Below.refl w.heap.size w)
 have H : (laws_toUint16A10.l0 k 0 a0 (LA.zero 10)) = some r := h
 clear h
 have H' := Aside0.mk H
 clear H
 go_enter Try.func34, Try.ntmps34
 go_wp2_with (first | ((with_reducible refine gate_dst (N := 1) rfl ?_); refine box_event ?hg (N := 1) ?hd (cs := (mixA (Value.int .u16) [] a0)) (t := 24) ?hr ?_; (case hd => rfl); (case hg => rfl); (case hr => first | (go_simp; done) | (go_simp; rfl)); intro gb221 hg w2 hbox hb; have n0_ := bst HB hb; have n1_ := Aside0.mk (hbox); have n2_ := gwl HB hg; have n3_ := gwl HB hg; clear HB; have HB := n0_; have BK221 := n1_; have GW221 := n2_; have GE221 := n3_; clear n0_ n1_ n2_ n3_; clear hb hbox hg) | ((with_reducible refine gate_dst (N := 2) rfl ?_); refine box_event ?hg (N := 2) ?hd (cs := (mixA (Value.int .u16) [] (LA.zero 10))) (t := 24) ?hr ?_; (case hd => rfl); (case hg => rfl); (case hr => first | (go_simp; done) | (go_simp; rfl)); intro gb222 hg w3 hbox hb; have n0_ := bkb BK221 hb; have n1_ := bst HB hb; have n2_ := Aside0.mk (hbox); have n3_ := gwl HB hg; have n4_ := gwl HB hg; have n5_ := nbl BK221 hg; have n6_ := nbg BK221 hg; clear BK221; clear HB; have BK221 := n0_; have HB := n1_; have BK222 := n2_; have GW222 := n3_; have GE222 := n4_; have NB221_222 := n5_; have NB222_221 := n6_; clear n0_ n1_ n2_ n3_ n4_ n5_ n6_; clear hb hbox hg) | ((with_reducible refine gate_dst (N := 3) rfl ?_); refine box_event ?hg (N := 3) ?hd (cs := (mixA (Value.int .u16) [] (LA.zero 10))) (t := 24) ?hr ?_; (case hd => rfl); (case hg => rfl); (case hr => first | (go_simp; done) | (go_simp; rfl)); intro gb223 hg w4 hbox hb; have n0_ := bkb BK221 hb; have n1_ := bkb BK222 hb; have n2_ := bst HB hb; have n3_ := Aside0.mk (hbox); have n4_ := gwl HB hg; have n5_ := gwl HB hg; have n6_ := nbl BK221 hg; have n7_ := nbg BK221 hg; have n8_ := nbl BK222 hg; have n9_ := nbg BK222 hg; clear BK221; clear BK222; clear HB; have BK221 := n0_; have BK222 := n1_; have HB := n2_; have BK223 := n3_; have GW223 := n4_; have GE223 := n5_; have NB221_223 := n6_; have NB223_221 := n7_; have NB222_223 := n8_; have NB223_222 := n9_; clear n0_ n1_ n2_ n3_ n4_ n5_ n6_ n7_ n8_ n9_; clear hb hbox hg))
 go_loopg [4] k (fun kq v4 w' => ∃ (x4_1 : Int) (x224000_1 : LA 10), v4 = .int .i64 x4_1 ∧ Aside0 (laws_toUint16A10.l0 kq x4_1 a0 x224000_1 = some r) ∧ Aside0 (kq ≤ k) ∧ Aside0 (w'.heap[gb221]? = some (.cells (mixA (Value.int .u16) [] a0) 24 (0, 0))) ∧ Aside0 (w'.heap[gb222]? = some (.cells (mixA (Value.int .u16) [] (LA.zero 10)) 24 (0, 0))) ∧ Aside0 (w'.heap[gb223]? = some (.cells (mixA (Value.int .u16) [] x224000_1) 24 (0, 0))) ∧ Aside0 (Below w.heap.size w w'))
 case atStart => exact ⟨(0), ((LA.zero 10)), (by first | rfl | (simp; done) | (simp [*]; done)), H', ⟨Nat.le_refl _⟩, ⟨pk BK221⟩, ⟨pk BK222⟩, ⟨pk BK223⟩, ⟨pbs HB⟩⟩
 case round =>
  clear H'
  try clear p2
  try clear c3
  obtain ⟨x4_1, x224000_1, rfl, HA, HK1, BK221, BK222, BK223, HB⟩ := hrel
  cases gk with
  | zero => exact absurd HA.out (by simp [laws_toUint16A10.l0])
  | succ k1 =>
   have H := HA.out; clear HA; simp only [laws_toUint16A10.l0] at H
   by_cases c5 : x4_1 < 10
   ·rw [if_pos c5] at H
    have c5b0 : decide (x4_1 < 10) = true := decide_eq_true c5; clear c5
    by_cases c6 : 0 ≤ x4_1
    ·rw [if_pos c6] at H
     have c6b0 : decide (0 ≤ x4_1) = true := decide_eq_true c6; clear c6; have H' := Aside0.mk H; clear H; have hnb7 := NB221_222.out; have hnc7 := NB222_221.out; have hnb8 := NB221_223.out; have hnc8 := NB223_221.out; have hpd10 : (0 ≤ x4_1) = True := eq_true (by first | omega | exact oda); have hqd10 : (x4_1 < 10) = True := eq_true (by first | omega | exact oda); have hrd10 : (x4_1 < ((10 : Nat) : Int)) = True := eq_true (by first | omega | exact oda); have hdd10 : wr.cell? ⟨gb221, x4_1.toNat, none⟩ = some (.int .u16 (rd a0.l x4_1)) := mix_atz BK221.out x4_1 (of_eq_true hpd10) (of_eq_true hqd10); have hfdd10 := blk_frozen BK221.out (x4_1.toNat); have hpd11 : (0 ≤ x4_1) = True := eq_true (by first | omega | exact oda); have hqd11 : (x4_1 < 10) = True := eq_true (by first | omega | exact oda); have hrd11 : (x4_1 < ((10 : Nat) : Int)) = True := eq_true (by first | omega | exact oda); have hdd11 : wr.cell? ⟨gb223, x4_1.toNat, none⟩ = some (.int .u16 (rd x224000_1.l x4_1)) := mix_atz BK223.out x4_1 (of_eq_true hpd11) (of_eq_true hqd11); have hfdd11 := blk_frozen BK223.out (x4_1.toNat)
     go_wp2_with (first | ((with_reducible refine gate_store (t := 23) (p := 13) rfl ?_); refine store_event (t := 23) (p := 13) (v := ?vo_w12) (w1 := (wr.setCell ⟨gb223, x4_1.toNat, none⟩ (.int .u16 (rd a0.l x4_1)))) ?hg ?ho ?hn ?hr ?_; (case ho => rfl); (case hg => rfl); (case hn => rfl); (case hr => first | (go_simp; done) | (go_simp; rfl)); intro w12 hw; have hi : w12.heap[gb223]? = some (.cells (mixA (Value.int .u16) [] (LA.set x224000_1 x4_1 (rd a0.l x4_1))) 24 (0, 0)) := (by rw [hw]; exact mix_setz BK223.out x4_1 (rd a0.l x4_1) (of_eq_true hpd11) (of_eq_true hqd11)); have hk : KeepBut wr w12 gb223 none := (by rw [hw]; exact setcell_keep _ _ _ _); have hbl : ∀ B_ a_, Below B_ a_ wr → B_ ≤ gb223 → Below B_ a_ w12 := (by rw [hw]; exact setcell_below _ _ _ _); clear hw; replace BK221 := Aside0.mk (KeepBut.blk hk (g' := gb221) (o := .cells (mixA (Value.int .u16) [] a0) 24 (0, 0)) (pk BK221) NB221_223.out (by simp)); replace BK222 := Aside0.mk (KeepBut.blk hk (g' := gb222) (o := .cells (mixA (Value.int .u16) [] (LA.zero 10)) 24 (0, 0)) (pk BK222) NB222_223.out (by simp)); replace HB := Aside0.mk (hbl _ _ (pbs HB) GE223.out); replace BK223 := Aside0.mk (hi); clear hi hk hbl))
     go_roundg k1
     case measure => have := HK1.out; omega
     case rel => exact ⟨(wrap64 (x4_1 + 1)), ((LA.set x224000_1 x4_1 (rd a0.l x4_1))), (by first | rfl | (simp; done) | (simp [*]; done)), H', ⟨by have := HK1.out; omega⟩, ⟨pk BK221⟩, ⟨pk BK222⟩, ⟨pk BK223⟩, ⟨pbs HB⟩⟩
    ·rw [if_neg c6] at H
     exact absurd H (by simp)
   ·rw [if_neg c5] at H
    have c5b0 : decide (x4_1 < 10) = false := decide_eq_false c5; clear c5; obtain rfl := Option.some.inj H
    go_wp2_with (first | ((with_reducible refine gate_dst (N := 14) rfl ?_); refine wpList_run0 (v := .agg (mixA (Value.int .u16) [] x224000_1)) rfl (load_mix_run (P := Try.prog) 24 (.tmp 3) rfl gb223 rfl (show World.rangeAt _ gb223 0 ([] ++ x224000_1.l.map (Value.int .u16)) from mix_range (show (World.heap _)[gb223]? = some (.cells (mixA (Value.int .u16) [] x224000_1) 24 (0, 0)) from by (with_reducible repeat (first | refine blk_drewN ?_ _ | refine blk_drew ?_ | refine blk_alloc ?_ _)); exact BK223.out)) Try.underlying24 rfl (by kernel_rfl) rfl) ?_) | ((with_reducible refine gate_store (p := 2) rfl ?_); refine wpList_store_lmix rfl 24 _ _ rfl gb222 (e := (Value.int .u16)) (cs' := []) (W' := x224000_1) (cs := []) (W := (LA.zero 10)) (T := 24) rfl rfl (pk BK222) rfl (by kernel_rfl) rfl (fun _ => rfl) rfl ?_; intro w14 hi hk hbl; replace BK221 := Aside0.mk (KeepBut.blk hk (g' := gb221) (o := .cells (mixA (Value.int .u16) [] a0) 24 (0, 0)) (pk BK221) NB221_222.out (by simp)); replace BK223 := Aside0.mk (KeepBut.blk hk (g' := gb223) (o := .cells (mixA (Value.int .u16) [] x224000_1) 24 (0, 0)) (pk BK223) NB223_222.out (by simp)); replace HB := Aside0.mk (hbl _ _ (pbs HB) GE222.out); replace BK222 := Aside0.mk (hi); clear hi hk hbl))
    refine bodyPost_ret (results_cell_row rfl _ _ gb222 24 (mixA (Value.int .u16) [] x224000_1) (0, 0) _ rfl (pk BK222) Try.underlying24 rfl (by rw [mix_size]; kernel_rfl)) rfl ?_; exact ⟨by first | rfl | (simp [errW_none, errW_some] <;> rfl) | (simp [*, errW_none, errW_some] <;> rfl), pbs HB⟩
def laws_toRoom.f (k : Nat) (a0_0 : Int) (a0_1 : Int) (a0_2 : LA 10) : Option (Int × Int × LA 10) := (laws_toUint16A10.f k a0_2).bind fun t227 => (some (a0_0, a0_1, t227))
theorem laws_toRoom.mono : ∀ a0 a1 a2 k, LeO (laws_toRoom.f k a0 a1 a2) (laws_toRoom.f (k + 1) a0 a1 a2) := by
 intro a0 a1 a2 k
 unfold laws_toRoom.f
 repeat' first
   | (with_reducible exact laws_toUint16A10.mono _ _)
   | (with_reducible exact LeO.refl _)
   | (with_reducible exact LeO.none _)
   | (with_reducible refine LeO.ite ?_ ?_)
   | (with_reducible refine LeO.bind ?_ (fun _ => ?_))
   | exact laws_toUint16A10.mono _ _
   | exact LeO.none _
   | refine LeO.ite ?_ ?_
   | refine LeO.bind ?_ (fun _ => ?_)
set_option maxHeartbeats 8000000 in
set_option maxRecDepth 100000 in
theorem laws_toRoom.calls (k : Nat) (a0_0 : Int) (a0_1 : Int) (a0_2 : LA 10) (r1 : Int) (r2 : Int) (r3 : LA 10) (w : World) (h : laws_toRoom.f k a0_0 a0_1 a0_2 = some (r1, r2, r3)) :
  Calls Try.prog 8 #[.agg (mixA (Value.int .u16) [.int .i8 a0_0, .int .i8 a0_1] a0_2)] w fun e w' => e = .returned (.agg (mixA (Value.int .u16) [.int .i8 r1, .int .i8 r2] r3)) ∧ Below w.heap.size w w' := by
 have hu26 := Try.underlying26
 have hu34 := Try.underlying34
 have HB := Aside0.mk (Below.refl w.heap.size w)
 have H : ((laws_toUint16A10.f k a0_2).bind fun t227 => (some (a0_0, a0_1, t227))) = some (r1, r2, r3) := h
 clear h
 replace H := Option.bind_eq_some_iff.mp H
 obtain ⟨t227, A20, H⟩ := H
 replace H : (some (a0_0, a0_1, t227)) = some (r1, r2, r3) := H
 have A2 := Aside0.mk A20
 clear A20
 simp only [Option.some.injEq, Prod.mk.injEq] at H
 obtain ⟨rfl, rfl, rfl⟩ := H
 go_enter Try.func8, Try.ntmps8
 go_wp2_with (first | ((with_reducible refine gate_dst (N := 1) rfl ?_); refine box_event ?hg (N := 1) ?hd (cs := (mixA (Value.int .u16) [.int .i8 a0_0, .int .i8 a0_1] a0_2)) (t := 26) ?hr ?_; (case hd => rfl); (case hg => rfl); (case hr => first | (go_simp; done) | (go_simp; rfl)); intro gb224 hg w3 hbox hb; have n0_ := bst HB hb; have n1_ := Aside0.mk (hbox); have n2_ := gwl HB hg; have n3_ := gwl HB hg; clear HB; have HB := n0_; have BK224 := n1_; have GW224 := n2_; have GE224 := n3_; clear n0_ n1_ n2_ n3_; clear hb hbox hg) | ((with_reducible refine gate_dst (N := 2) rfl ?_); refine box_event ?hg (N := 2) ?hd (cs := (mixA (Value.int .u16) [.int .i8 0, .int .i8 0] (LA.zero 10))) (t := 34) ?hr ?_; (case hd => rfl); (case hg => rfl); (case hr => first | (go_simp; done) | (go_simp; rfl)); intro gb225 hg w4 hbox hb; have n0_ := bkb BK224 hb; have n1_ := bst HB hb; have n2_ := Aside0.mk (hbox); have n3_ := gwl HB hg; have n4_ := gwl HB hg; have n5_ := nbl BK224 hg; have n6_ := nbg BK224 hg; clear BK224; clear HB; have BK224 := n0_; have HB := n1_; have BK225 := n2_; have GW225 := n3_; have GE225 := n4_; have NB224_225 := n5_; have NB225_224 := n6_; clear n0_ n1_ n2_ n3_ n4_ n5_ n6_; clear hb hbox hg) | ((with_reducible refine gate_dst (N := 3) rfl ?_); refine box_event ?hg (N := 3) ?hd (cs := (mixA (Value.int .u16) [.int .i8 0, .int .i8 0] (LA.zero 10))) (t := 34) ?hr ?_; (case hd => rfl); (case hg => rfl); (case hr => first | (go_simp; done) | (go_simp; rfl)); intro gb226 hg w5 hbox hb; have n0_ := bkb BK224 hb; have n1_ := bkb BK225 hb; have n2_ := bst HB hb; have n3_ := Aside0.mk (hbox); have n4_ := gwl HB hg; have n5_ := gwl HB hg; have n6_ := nbl BK224 hg; have n7_ := nbg BK224 hg; have n8_ := nbl BK225 hg; have n9_ := nbg BK225 hg; clear BK224; clear BK225; clear HB; have BK224 := n0_; have BK225 := n1_; have HB := n2_; have BK226 := n3_; have GW226 := n4_; have GE226 := n5_; have NB224_226 := n6_; have NB226_224 := n7_; have NB225_226 := n8_; have NB226_225 := n9_; clear n0_ n1_ n2_ n3_ n4_ n5_ n6_ n7_ n8_ n9_; clear hb hbox hg; have hnb6 := NB224_225.out; have hnc6 := NB225_224.out; have hnb7 := NB224_226.out; have hnc7 := NB226_224.out; have hcz8_0 : w5.cell? ⟨gb224, 0, none⟩ = some (.int .i8 a0_0) := mix_cell0 BK224.out 0; have hcz8_1 : w5.cell? ⟨gb224, 1, none⟩ = some (.int .i8 a0_1) := mix_cell0 BK224.out 1; have hfz8_0 := blk_frozen BK224.out 0; have hfz8_1 := blk_frozen BK224.out 1; have hnb9 := NB226_225.out; have hnc9 := NB225_226.out; have hcz10_0 : w5.cell? ⟨gb226, 0, none⟩ = some (.int .i8 0) := mix_cell0 BK226.out 0; have hcz10_1 : w5.cell? ⟨gb226, 1, none⟩ = some (.int .i8 0) := mix_cell0 BK226.out 1; have hfz10_0 := blk_frozen BK226.out 0; have hfz10_1 := blk_frozen BK226.out 1) | ((with_reducible refine gate_dst (N := 11) rfl ?_); refine wpList_run0 (v := .agg (mixA (Value.int .u16) [] a0_2)) rfl (load_arr_run (P := Try.prog) 24 (.tmp 10) rfl gb224 2 rfl (show World.rangeAt _ gb224 2 (a0_2.l.map (Value.int .u16)) from mix_range_arr (show (World.heap _)[gb224]? = some (.cells (mixA (Value.int .u16) [.int .i8 a0_0, .int .i8 a0_1] a0_2) 26 (0, 0)) from by (with_reducible repeat (first | refine blk_drewN ?_ _ | refine blk_drew ?_ | refine blk_alloc ?_ _)); refine blk_far ?_ NB224_226.out _; (with_reducible repeat (first | refine blk_drewN ?_ _ | refine blk_drew ?_ | refine blk_alloc ?_ _)); refine blk_far ?_ NB224_226.out _; (with_reducible repeat (first | refine blk_drewN ?_ _ | refine blk_drew ?_ | refine blk_alloc ?_ _)); exact BK224.out) 2 rfl) Try.underlying24 rfl (by kernel_rfl)) ?_) | ((with_reducible refine gate_callee (f := 34) rfl ?_); refine gl (some 12) Try.func34 #[.agg (mixA (Value.int .u16) [] a0_2)] ?_; (with_reducible refine (laws_toUint16A10.calls k a0_2 t227 _ A2.out).mono ?_); rintro e w12 ⟨rfl, hb⟩; refine ⟨_, rfl, ?_⟩; replace BK224 := Aside0.mk (blk_below (g := gb224) (o := .cells (mixA (Value.int .u16) [.int .i8 a0_0, .int .i8 a0_1] a0_2) 26 (0, 0)) (by (with_reducible repeat (first | refine blk_drewN ?_ _ | refine blk_drew ?_ | refine blk_alloc ?_ _)); refine blk_far ?_ NB224_226.out _; (with_reducible repeat (first | refine blk_drewN ?_ _ | refine blk_drew ?_ | refine blk_alloc ?_ _)); refine blk_far ?_ NB224_226.out _; (with_reducible repeat (first | refine blk_drewN ?_ _ | refine blk_drew ?_ | refine blk_alloc ?_ _)); exact BK224.out) hb); replace BK225 := Aside0.mk (blk_below (g := gb225) (o := .cells (mixA (Value.int .u16) [.int .i8 0, .int .i8 0] (LA.zero 10)) 34 (0, 0)) (by (with_reducible repeat (first | refine blk_drewN ?_ _ | refine blk_drew ?_ | refine blk_alloc ?_ _)); refine blk_far ?_ NB225_226.out _; (with_reducible repeat (first | refine blk_drewN ?_ _ | refine blk_drew ?_ | refine blk_alloc ?_ _)); refine blk_far ?_ NB225_226.out _; (with_reducible repeat (first | refine blk_drewN ?_ _ | refine blk_drew ?_ | refine blk_alloc ?_ _)); exact BK225.out) hb); replace BK226 := Aside0.mk (blk_below (g := gb226) (o := .cells (mixA (Value.int .u16) [.int .i8 a0_0, .int .i8 a0_1] (LA.zero 10)) 34 (0, 0)) (by (with_reducible repeat (first | refine blk_drewN ?_ _ | refine blk_drew ?_ | refine blk_alloc ?_ _)); refine mix_put0 (cs := [.int .i8 a0_0, .int .i8 0]) ?_ 1 _ (by simp); (with_reducible repeat (first | refine blk_drewN ?_ _ | refine blk_drew ?_ | refine blk_alloc ?_ _)); refine mix_put0 (cs := [.int .i8 0, .int .i8 0]) ?_ 0 _ (by simp); (with_reducible repeat (first | refine blk_drewN ?_ _ | refine blk_drew ?_ | refine blk_alloc ?_ _)); exact BK226.out) hb); replace HB := bst HB hb; (try clear hb); (try clear hb2); (try clear hk); (try clear hi)) | ((with_reducible refine gate_store (p := 13) rfl ?_); refine wpList_store_larr rfl 24 _ _ rfl gb226 2 (e := (Value.int .u16)) (W' := t227) (cs := [.int .i8 a0_0, .int .i8 a0_1]) (W := (LA.zero 10)) (T := 34) rfl rfl (pk BK226) rfl (by kernel_rfl) (fun _ => rfl) ?_; intro w13 hi hk hbl; replace BK224 := Aside0.mk (KeepBut.blk hk (g' := gb224) (o := .cells (mixA (Value.int .u16) [.int .i8 a0_0, .int .i8 a0_1] a0_2) 26 (0, 0)) (pk BK224) NB224_226.out (by simp)); replace BK225 := Aside0.mk (KeepBut.blk hk (g' := gb225) (o := .cells (mixA (Value.int .u16) [.int .i8 0, .int .i8 0] (LA.zero 10)) 34 (0, 0)) (pk BK225) NB225_226.out (by simp)); replace HB := Aside0.mk (hbl _ _ (pbs HB) GE226.out); replace BK226 := Aside0.mk (hi); clear hi hk hbl) | ((with_reducible refine gate_dst (N := 14) rfl ?_); refine wpList_run0 (v := .agg (mixA (Value.int .u16) [.int .i8 a0_0, .int .i8 a0_1] t227)) rfl (load_mix_run (P := Try.prog) 34 (.tmp 3) rfl gb226 rfl (show World.rangeAt _ gb226 0 ([.int .i8 a0_0, .int .i8 a0_1] ++ t227.l.map (Value.int .u16)) from mix_range (show (World.heap _)[gb226]? = some (.cells (mixA (Value.int .u16) [.int .i8 a0_0, .int .i8 a0_1] t227) 34 (0, 0)) from by (with_reducible repeat (first | refine blk_drewN ?_ _ | refine blk_drew ?_ | refine blk_alloc ?_ _)); exact BK226.out)) Try.underlying34 rfl (by kernel_rfl) rfl) ?_) | ((with_reducible refine gate_store (p := 2) rfl ?_); refine wpList_store_lmix rfl 34 _ _ rfl gb225 (e := (Value.int .u16)) (cs' := [.int .i8 a0_0, .int .i8 a0_1]) (W' := t227) (cs := [.int .i8 0, .int .i8 0]) (W := (LA.zero 10)) (T := 34) rfl rfl (pk BK225) rfl (by kernel_rfl) rfl (fun _ => rfl) rfl ?_; intro w15 hi hk hbl; replace BK224 := Aside0.mk (KeepBut.blk hk (g' := gb224) (o := .cells (mixA (Value.int .u16) [.int .i8 a0_0, .int .i8 a0_1] a0_2) 26 (0, 0)) (pk BK224) NB224_225.out (by simp)); replace BK226 := Aside0.mk (KeepBut.blk hk (g' := gb226) (o := .cells (mixA (Value.int .u16) [.int .i8 a0_0, .int .i8 a0_1] t227) 34 (0, 0)) (pk BK226) NB226_225.out (by simp)); replace HB := Aside0.mk (hbl _ _ (pbs HB) GE225.out); replace BK225 := Aside0.mk (hi); clear hi hk hbl))
 refine bodyPost_ret (results_cell_row rfl _ _ gb225 34 (mixA (Value.int .u16) [.int .i8 a0_0, .int .i8 a0_1] t227) (0, 0) _ rfl (pk BK225) Try.underlying34 rfl (by rw [mix_size]; kernel_rfl)) rfl ?_
 exact ⟨by first | rfl | (simp [errW_none, errW_some] <;> rfl) | (simp [*, errW_none, errW_some] <;> rfl), pbs HB⟩
def laws_toSpot.f (a0_0 : Int) (a0_1 : Int) : Option (Int × Int) := some (a0_0, a0_1)
set_option maxHeartbeats 8000000 in
set_option maxRecDepth 100000 in
theorem laws_toSpot.calls (a0_0 : Int) (a0_1 : Int) (r1 : Int) (r2 : Int) (w : World) (h : laws_toSpot.f a0_0 a0_1 = some (r1, r2)) :
  Calls Try.prog 10 #[.agg #[.int .i8 a0_0, .int .i8 a0_1]] w fun e w' => e = .returned (.agg #[.int .i8 r1, .int .i8 r2]) ∧ Below w.heap.size w w' := by
 have hu29 := Try.underlying29
 have hu39 := Try.underlying39
 have HB := Aside0.mk (Below.refl w.heap.size w)
 have H : (some (a0_0, a0_1)) = some (r1, r2) := h
 clear h
 simp only [Option.some.injEq, Prod.mk.injEq] at H
 obtain ⟨rfl, rfl⟩ := H
 go_enter Try.func10, Try.ntmps10
 go_wp2_with (first | ((with_reducible refine gate_dst (N := 1) rfl ?_); refine box_event ?hg (N := 1) ?hd (cs := #[.int .i8 a0_0, .int .i8 a0_1]) (t := 29) ?hr ?_; (case hd => rfl); (case hg => rfl); (case hr => first | (go_simp; done) | (go_simp; rfl)); intro gb228 hg w2 hbox hb; have n0_ := bst HB hb; have n1_ := Aside0.mk (hbox); have n2_ := gwl HB hg; have n3_ := gwl HB hg; clear HB; have HB := n0_; have BK228 := n1_; have GW228 := n2_; have GE228 := n3_; clear n0_ n1_ n2_ n3_; clear hb hbox hg) | ((with_reducible refine gate_dst (N := 2) rfl ?_); refine box_event ?hg (N := 2) ?hd (cs := #[.int .i8 0, .int .i8 0]) (t := 39) ?hr ?_; (case hd => rfl); (case hg => rfl); (case hr => first | (go_simp; done) | (go_simp; rfl)); intro gb229 hg w3 hbox hb; have n0_ := bkb BK228 hb; have n1_ := bst HB hb; have n2_ := Aside0.mk (hbox); have n3_ := gwl HB hg; have n4_ := gwl HB hg; have n5_ := nbl BK228 hg; have n6_ := nbg BK228 hg; clear BK228; clear HB; have BK228 := n0_; have HB := n1_; have BK229 := n2_; have GW229 := n3_; have GE229 := n4_; have NB228_229 := n5_; have NB229_228 := n6_; clear n0_ n1_ n2_ n3_ n4_ n5_ n6_; clear hb hbox hg) | ((with_reducible refine gate_dst (N := 3) rfl ?_); refine box_event ?hg (N := 3) ?hd (cs := #[.int .i8 0, .int .i8 0]) (t := 39) ?hr ?_; (case hd => rfl); (case hg => rfl); (case hr => first | (go_simp; done) | (go_simp; rfl)); intro gb230 hg w4 hbox hb; have n0_ := bkb BK228 hb; have n1_ := bkb BK229 hb; have n2_ := bst HB hb; have n3_ := Aside0.mk (hbox); have n4_ := gwl HB hg; have n5_ := gwl HB hg; have n6_ := nbl BK228 hg; have n7_ := nbg BK228 hg; have n8_ := nbl BK229 hg; have n9_ := nbg BK229 hg; clear BK228; clear BK229; clear HB; have BK228 := n0_; have BK229 := n1_; have HB := n2_; have BK230 := n3_; have GW230 := n4_; have GE230 := n5_; have NB228_230 := n6_; have NB230_228 := n7_; have NB229_230 := n8_; have NB230_229 := n9_; clear n0_ n1_ n2_ n3_ n4_ n5_ n6_ n7_ n8_ n9_; clear hb hbox hg; have hnb5 := NB228_229.out; have hnc5 := NB229_228.out; have hnb6 := NB228_230.out; have hnc6 := NB230_228.out; have hcz7_0 : w4.cell? ⟨gb228, 0, none⟩ = some (.int .i8 a0_0) := (blk_cell BK228.out 0).trans rfl; have hcz7_1 : w4.cell? ⟨gb228, 1, none⟩ = some (.int .i8 a0_1) := (blk_cell BK228.out 1).trans rfl; have hfz7_0 := blk_frozen BK228.out 0; have hfz7_1 := blk_frozen BK228.out 1; have hnb8 := NB230_229.out; have hnc8 := NB229_230.out; have hcz9_0 : w4.cell? ⟨gb230, 0, none⟩ = some (.int .i8 0) := (blk_cell BK230.out 0).trans rfl; have hcz9_1 : w4.cell? ⟨gb230, 1, none⟩ = some (.int .i8 0) := (blk_cell BK230.out 1).trans rfl; have hfz9_0 := blk_frozen BK230.out 0; have hfz9_1 := blk_frozen BK230.out 1; have hcz10_0 : w4.cell? ⟨gb229, 0, none⟩ = some (.int .i8 0) := (blk_cell BK229.out 0).trans rfl; have hcz10_1 : w4.cell? ⟨gb229, 1, none⟩ = some (.int .i8 0) := (blk_cell BK229.out 1).trans rfl; have hfz10_0 := blk_frozen BK229.out 0; have hfz10_1 := blk_frozen BK229.out 1))
 refine bodyPost_ret (results_cell_row rfl _ _ gb229 39 #[.int .i8 a0_0, .int .i8 a0_1] (0, 0) _ rfl (by (with_reducible repeat (first | refine blk_drewN ?_ _ | refine blk_drew ?_ | refine blk_alloc ?_ _)); refine blk_put (cs := #[.int .i8 a0_0, .int .i8 0]) ?_ 1 _ rfl; (with_reducible repeat (first | refine blk_drewN ?_ _ | refine blk_drew ?_ | refine blk_alloc ?_ _)); refine blk_put (cs := #[.int .i8 0, .int .i8 0]) ?_ 0 _ rfl; (with_reducible repeat (first | refine blk_drewN ?_ _ | refine blk_drew ?_ | refine blk_alloc ?_ _)); refine blk_far ?_ NB229_230.out _; (with_reducible repeat (first | refine blk_drewN ?_ _ | refine blk_drew ?_ | refine blk_alloc ?_ _)); refine blk_far ?_ NB229_230.out _; (with_reducible repeat (first | refine blk_drewN ?_ _ | refine blk_drew ?_ | refine blk_alloc ?_ _)); exact BK229.out) Try.underlying39 rfl (by kernel_rfl)) rfl ?_
 exact ⟨by first | rfl | (simp [errW_none, errW_some] <;> rfl) | (simp [*, errW_none, errW_some] <;> rfl), pbs HB⟩
def laws_toFile.l0 : Nat → List (S29) → List (S39) → Int → Option ((List (S39)))
 | 0, _, _, _ => none
 | k + 1, x0, x3, x4 => if x4 < (x0.length : Int) then (if 0 ≤ x4 then ((laws_toSpot.f ((rd_T29 x0 x4).f0) ((rd_T29 x0 x4).f1)).bind fun bt235 => (if x4 < (x3.length : Int) then (laws_toFile.l0 k x0 (x3.set (x4 : Int).toNat (⟨bt235.1, bt235.2⟩ : S39)) (wrap64 (x4 + 1))) else (none))) else (none)) else (some x3)
def laws_toFile.f (k : Nat) (l0 : List (S29)) : Option ((List (S39))) := if 0 ≤ (l0.length : Int) then (if ((l0.length : Int) : Int).toNat ≤ 140737488355328 then (laws_toFile.l0 k l0 (List.replicate ((l0.length : Int) : Int).toNat z39) 0) else (none)) else (none)
theorem laws_toFile.mono_l : ∀ k, (∀ y0 y1 y2, LeO (laws_toFile.l0 k y0 y1 y2) (laws_toFile.l0 (k + 1) y0 y1 y2))
 | 0 => fun _ _ _ r h => by simp [laws_toFile.l0] at h
 | k + 1 => by
  have ih0 := laws_toFile.mono_l k
  ·intro y0 y1 y2
   unfold laws_toFile.l0
   repeat' first
   | (with_reducible exact ih0 _ _ _)
   | (with_reducible exact LeO.refl _)
   | (with_reducible exact LeO.none _)
   | (with_reducible refine LeO.ite ?_ ?_)
   | (with_reducible refine LeO.bind ?_ (fun _ => ?_))
   | exact ih0 _ _ _
   | exact LeO.none _
   | refine LeO.ite ?_ ?_
   | refine LeO.bind ?_ (fun _ => ?_)
theorem laws_toFile.mono : ∀ a0 k, LeO (laws_toFile.f k a0) (laws_toFile.f (k + 1) a0) := by
 intro a0 k
 have ih0 := laws_toFile.mono_l k
 unfold laws_toFile.f
 repeat' first
   | (with_reducible exact ih0 _ _ _)
   | (with_reducible exact LeO.refl _)
   | (with_reducible exact LeO.none _)
   | (with_reducible refine LeO.ite ?_ ?_)
   | (with_reducible refine LeO.bind ?_ (fun _ => ?_))
   | exact ih0 _ _ _
   | exact LeO.none _
   | refine LeO.ite ?_ ?_
   | refine LeO.bind ?_ (fun _ => ?_)
set_option maxHeartbeats 8000000 in
set_option maxRecDepth 100000 in
theorem laws_toFile.calls (k : Nat) (A0 : Option Addr) (c0 : Nat) (l0 : List (S29)) (r : List (S39)) (w : World) (hr0 : Kd.C k29 w A0 l0.length l0) (hc0 : l0.length ≤ c0) (h : laws_toFile.f k l0 = some r) :
  Calls Try.prog 9 #[.slice A0 l0.length c0] w fun e w' => ∃ v0_ : Value, e = .returned (v0_) ∧ Kd.R k39 39 w' w.heap.size (fun _ => True) v0_ r ∧ Below w.heap.size w w' := by
 have hu29 := Try.underlying29
 have hu39 := Try.underlying39
 have HR0 := Aside0.mk hr0
 have HC0 := Aside0.mk hc0
 clear hr0 hc0
 have HB := Aside0.mk (Below.refl w.heap.size w)
 have H : (if 0 ≤ (l0.length : Int) then (if ((l0.length : Int) : Int).toNat ≤ 140737488355328 then (laws_toFile.l0 k l0 (List.replicate ((l0.length : Int) : Int).toNat z39) 0) else (none)) else (none)) = some r := h
 clear h
 by_cases c2 : 0 ≤ (l0.length : Int)
 ·rw [if_pos c2] at H
  have c2b0 := eq_true c2; have c2b1 : decide (0 ≤ (l0.length : Int)) = true := decide_eq_true c2; clear c2
  by_cases c3 : ((l0.length : Int) : Int).toNat ≤ 140737488355328
  ·rw [if_pos c3] at H
   have c3b0 := eq_true c3; have c3b1 : decide (((l0.length : Int) : Int).toNat ≤ 140737488355328) = true := decide_eq_true c3; clear c3; obtain ⟨y231, hy231⟩ : ∃ y_ : List (S39), y_ = (List.replicate ((l0.length : Int) : Int).toNat z39) := ⟨_, rfl⟩
   replace H : (laws_toFile.l0 k l0 y231 0) = some r := by first | (rw [hy231]; with_reducible exact H) | (have H2_ := (Option.bind_some _ _).symm.trans H; rw [hy231]; with_reducible exact H2_) | (have H2_ := (Option.bind_some _ _).symm.trans H; with_reducible exact H2_) | with_reducible exact H | (rw [hy231]; exact H) | exact H
   have Ny231 := Aside0.mk hy231; clear hy231; have H' := Aside0.mk H; clear H
   go_enter Try.func9, Try.ntmps9
   go_wp2_with (first | ((with_reducible refine gate_dst (N := 7) rfl ?_); refine Kd.R_make k39 _ 39 rfl (N := 7) rfl 37 _ _ rfl (l0.length : Int) rfl rfl Try.underlying37 (.agg #[(.int .i8 0), (.int .i8 0)]) 2 info39 rfl (by decide) (by omega) z39 (ok := fun _ => True) (okp := fun _ => True) (k39_mkM _ _ _ z39 ) (fun _ hk => hk) trivial (oda) (Nat.le_trans (Nat.mul_le_mul_right _ (oda : (l0.length : Int).toNat ≤ 140737488355328)) (by omega)) (Below.refl _ _) (Nat.le_refl _) ?_; intro v232 w4 ho5 hb hg_ hnew_; clear hg_ hnew_; (first | rw [← Ny231.out] at ho5 | (simp only [Int.reduceToNat] at ho5; rw [← Ny231.out] at ho5)); have HO233 := Aside0.mk (Kd.R_lower ho5 (below_size (by repeat (first | (with_reducible first | exact HB.out | apply below_alloc | apply pw_below_drewN | apply below_drew1) | exact HB.out)))); replace HB := bst HB hb; clear hb ho5))
   go_loopg [4] k (fun kq v4 w' => ∃ (x3_1 : List (S39)) (x4_1 : Int), v4 = .int .i64 x4_1 ∧ Aside0 (laws_toFile.l0 kq l0 x3_1 x4_1 = some r) ∧ Aside0 (kq ≤ k) ∧ Aside0 (Kd.R k39 39 w' w.heap.size (fun _ => True) v232 x3_1) ∧ Aside0 (Below w.heap.size w w'))
   case atStart => exact ⟨(y231), (0), (by first | rfl | (simp; done) | (simp [*]; done)), H', ⟨Nat.le_refl _⟩, ⟨by (with_reducible repeat (first | apply Kd.R_alloc | apply Kd.R_drewN | apply Kd.R_drew)); exact HO233.out⟩, ⟨pb HB⟩⟩
   case round =>
    clear H'
    try clear c2
    try clear c2b0
    try clear c2b1
    try clear p2
    try clear c3
    try clear c3b0
    try clear c3b1
    obtain ⟨x3_1, x4_1, rfl, HA, HK1, HO_3, HB⟩ := hrel
    cases gk with
    | zero => exact absurd HA.out (by simp [laws_toFile.l0])
    | succ k1 =>
     have H := HA.out; clear HA; simp only [laws_toFile.l0] at H
     by_cases c6 : x4_1 < (l0.length : Int)
     ·rw [if_pos c6] at H
      have c6b0 : decide (x4_1 < (l0.length : Int)) = true := decide_eq_true c6; clear c6
      by_cases c7 : 0 ≤ x4_1
      ·rw [if_pos c7] at H
       have c7b0 : decide (0 ≤ x4_1) = true := decide_eq_true c7; clear c7; replace H := Option.bind_eq_some_iff.mp H; obtain ⟨⟨t235, t236⟩, A80, H⟩ := H; replace H : (if x4_1 < (x3_1.length : Int) then (laws_toFile.l0 k1 l0 (x3_1.set (x4_1 : Int).toNat (⟨t235, t236⟩ : S39)) (wrap64 (x4_1 + 1))) else (none)) = some r := H; have A8 := Aside0.mk A80; clear A80
       by_cases c9 : x4_1 < (x3_1.length : Int)
       ·rw [if_pos c9] at H
        have c9b0 : decide (x4_1 < (x3_1.length : Int)) = true := decide_eq_true c9; clear c9; obtain ⟨y237, hy237⟩ : ∃ y_ : List (S39), y_ = (x3_1.set (x4_1 : Int).toNat (⟨t235, t236⟩ : S39)) := ⟨_, rfl⟩
        replace H : (laws_toFile.l0 k1 l0 y237 (wrap64 (x4_1 + 1))) = some r := by first | (rw [hy237]; with_reducible exact H) | (have H2_ := (Option.bind_some _ _).symm.trans H; rw [hy237]; with_reducible exact H2_) | (have H2_ := (Option.bind_some _ _).symm.trans H; with_reducible exact H2_) | with_reducible exact H | (rw [hy237]; exact H) | exact H
        have Ny237 := Aside0.mk hy237; clear hy237; have H' := Aside0.mk H; clear H; have p234 : 0 ≤ (x4_1 : Int) := oda; have q234 : x4_1 < (l0.length : Int) := oda; obtain ⟨ad234, e234, hx234_0, hx234_1⟩ := at_T29 HR0.out x4_1 p234 q234; cases e234
        try replace hx234_0 := cb HB hx234_0
        try replace hx234_1 := cb HB hx234_1
        replace p234 := eq_true p234; replace q234 := eq_true q234
        go_wp2_with (first | ((with_reducible refine gate_callee (f := 10) rfl ?_); refine gl (some 20) Try.func10 #[.agg #[.int .i8 ((rd_T29 l0 x4_1).f0), .int .i8 ((rd_T29 l0 x4_1).f1)]] ?_; (with_reducible refine (laws_toSpot.calls ((rd_T29 l0 x4_1).f0) ((rd_T29 l0 x4_1).f1) t235 t236 _ A8.out).mono ?_); rintro e w11 ⟨rfl, hb⟩; refine ⟨_, rfl, ?_⟩; replace HO_3 := krb HO_3 hb; replace HB := bst HB hb; (try clear hb); (try clear hb2); (try clear hk); (try clear hi); have p10 : 0 ≤ (x4_1 : Int) := oda; have q10 : (x4_1 : Int) < ((x3_1.length : Int) : Int) := oda; obtain ⟨go10, co10, eo10, gb10, gl10, cl10, HG10⟩ := Kd.R_form HO_3.out (by omega); (first | cases eo10 | (injection eo10 with ea_ en_ ec_; (first | subst ea_ | (injection ea_ with ea_; subst ea_)); subst ec_; clear en_)); have GB10 := Aside0.mk gb10; have GG10 := Aside0.mk HG10; clear gb10 gl10 HG10; obtain ⟨ce10, hcl10, hM10, hcc10, hfr10⟩ := Kd.R_elem HO_3.out z39 (x4_1 : Int) p10 q10; obtain rfl := k39_openM hM10; have hx10_0 : w11.cell? ⟨go10, (x4_1 : Int).toNat * 2, none⟩ = some (.int .i8 ((rd_T39 x3_1 x4_1).f0)) := hcc10 0 _ rfl; have hx10_1 : w11.cell? ⟨go10, (x4_1 : Int).toNat * 2 + 1, none⟩ = some (.int .i8 ((rd_T39 x3_1 x4_1).f1)) := hcc10 1 _ rfl; have hf10_0 : w11.frozen? ⟨go10, (x4_1 : Int).toNat * 2, none⟩ = false := hfr10 0; have hf10_1 : w11.frozen? ⟨go10, (x4_1 : Int).toNat * 2 + 1, none⟩ = false := hfr10 1; clear hcl10 hcc10 hfr10 hM10; replace p10 := eq_true p10; replace q10 := eq_true q10; have HX12 := Aside0.mk (show Kd.R k39 39 w11 w.heap.size (fun _ => True) (.slice (some ⟨go10, 0, none⟩) x3_1.length co10) x3_1 from (by (with_reducible repeat (first | apply Kd.R_alloc | apply Kd.R_drewN | apply Kd.R_drew)); exact HO_3.out)); obtain ⟨ce12, hcl12, hM12, hcc12, hfr12⟩ := Kd.R_elem HX12.out z39 (x4_1 : Int) (oda) (by have h_ : (x4_1 : Int) < ((x3_1.length : Int) : Int) := oda; first | exact h_ | (have e_ := (Kd.R_reads' HO_3.out).1; omega) | simpa using h_); obtain rfl := k39_openM hM12; have HP12 := Kd.R_seg HX12.out (x4_1 : Int) (oda) (by have h_ : (x4_1 : Int) < ((x3_1.length : Int) : Int) := oda; first | exact h_ | (have e_ := (Kd.R_reads' HO_3.out).1; omega) | simpa using h_) (seg := [.int .i8 t235, .int .i8 t236]) (j := 0) hcl12 hcc12 (show 2 ≤ 2 from by decide) (x' := (⟨t235, t236⟩ : S39)) (k39_mkM _ _ _ (⟨t235, t236⟩ : S39) ) (fun _ hk => hk); have hx12_0 := hcc12 0 _ rfl; (try simp only [show (k39).sz = 2 from rfl, Nat.mul_one, Nat.add_zero] at hx12_0); have hf12_0 := hfr12 0; (try simp only [show (k39).sz = 2 from rfl, Nat.mul_one, Nat.add_zero] at hf12_0); have hx12_1 := hcc12 1 _ rfl; (try simp only [show (k39).sz = 2 from rfl, Nat.mul_one, Nat.add_zero] at hx12_1); have hf12_1 := hfr12 1; (try simp only [show (k39).sz = 2 from rfl, Nat.mul_one, Nat.add_zero] at hf12_1); clear hcl12 hcc12 hfr12 hM12) | ((with_reducible refine gate_store (t := 39) (p := 21) rfl ?_); refine store_event (t := 39) (p := 21) (v := ?vo_w13) (w1 := ((w11.setCell ⟨go10, (x4_1 : Int).toNat * 2, none⟩ (.int .i8 t235)).setCell ⟨go10, (x4_1 : Int).toNat * 2 + 1, none⟩ (.int .i8 t236))) ?hg ?ho ?hn ?hr ?_; (case ho => rfl); (case hg => rfl); (case hn => rfl); (case hr => first | (go_simp; done) | (go_simp; rfl)); intro w13 hw; have hg : w11.grownBy w13 (some go10) := (by rw [hw]; exact HP12.2); have hp_ : Kd.R k39 39 w13 w.heap.size (fun _ => True) (.slice (some ⟨go10, 0, none⟩) x3_1.length co10) y237 := (by rw [hw, Ny237.out]; exact HP12.1); clear HP12; replace HO_3 := Aside0.mk (hp_); replace HB := Aside0.mk ((by rw [hw]; exact below_set (below_set (HB.out) GB10.out) GB10.out : Below w.heap.size w w13)); clear hg hw hp_))
        go_roundg k1
        case measure => have := HK1.out; omega
        case rel => exact ⟨(y237), (wrap64 (x4_1 + 1)), (by first | rfl | (simp; done) | (simp [*]; done)), H', ⟨by have := HK1.out; omega⟩, ⟨by (with_reducible repeat (first | apply Kd.R_alloc | apply Kd.R_drewN | apply Kd.R_drew)); exact HO_3.out⟩, ⟨pb HB⟩⟩
       ·rw [if_neg c9] at H
        exact absurd H (by simp)
      ·rw [if_neg c7] at H
       exact absurd H (by simp)
     ·rw [if_neg c6] at H
      have c6b0 : decide (x4_1 < (l0.length : Int)) = false := decide_eq_false c6; clear c6; obtain rfl := Option.some.inj H
      go_wp2
      go_ret
      exact ⟨_, by first | rfl | (simp [errW_none, errW_some] <;> rfl) | (simp [*, errW_none, errW_some] <;> rfl), by (with_reducible repeat (first | apply Kd.R_alloc | apply Kd.R_drewN | apply Kd.R_drew)); exact HO_3.out, pb HB⟩
  ·rw [if_neg c3] at H
   exact absurd H (by simp)
 ·rw [if_neg c2] at H
  exact absurd H (by simp)
def impl_within.f (a0 : Int) (a1 : Int) (a2 : Int) : Option (Bool) := if a1 ≤ a0 then (some (decide (a0 ≤ a2))) else (some false)
set_option maxHeartbeats 8000000 in
set_option maxRecDepth 100000 in
theorem impl_within.calls (a0 : Int) (a1 : Int) (a2 : Int) (r : Bool) (w : World) (h : impl_within.f a0 a1 a2 = some r) :
  Calls Try.prog 61 #[.int .i64 a0, .int .i64 a1, .int .i64 a2] w fun e w' => e = .returned (.bool r) ∧ Drawn0 w w' := by
 have H : (if a1 ≤ a0 then (some (decide (a0 ≤ a2))) else (some false)) = some r := h
 clear h
 by_cases c4 : a1 ≤ a0
 ·rw [if_pos c4] at H
  have c4b0 : decide (a1 ≤ a0) = true := decide_eq_true c4; clear c4; obtain rfl := Option.some.inj H
  go_enter Try.func61, Try.ntmps61
  go_wp2
  go_ret
  exact ⟨by first | rfl | (simp; done) | (simp [*]; done), by repeat (first | exact Drawn0.refl _ | apply Drawn0.step)⟩
 ·rw [if_neg c4] at H
  have c4b0 : decide (a1 ≤ a0) = false := decide_eq_false c4; clear c4; obtain rfl := Option.some.inj H
  go_enter Try.func61, Try.ntmps61
  go_wp2
  go_ret
  exact ⟨by first | rfl | (simp; done) | (simp [*]; done), by repeat (first | exact Drawn0.refl _ | apply Drawn0.step)⟩
end Go.Proofs.Ytjpponjekcemjaa.PB
end
section
namespace Go.Proofs.Ytjpponjekcemjaa.PB
open Go.RowKit Go.Proofs.YtjpponjekcemjaaW.PrintWords Go.Proofs.YtjpponjekcemjaaW.PrintLast Go.Proofs.YtjpponjekcemjaaW.PrintMore Go.Proofs.Ytjpponjekcemjaa.La
attribute [local go_sem] max2_int min2_int max_two min_two max_three min_three max_four min_four   -- for this text's walks alone
set_option linter.unusedVariables false
set_option linter.unusedSimpArgs false
attribute [local go_sem high] eqA39
mutual
def impl_ValidRoom.j0 : Nat → Bool → Int → Int → LA 10 → Option (Bool)
 | 0, _, _, _, _ => none
 | k + 1, x16, x239000, x239001, x239002 => if x16 = true then (some false) else (impl_ValidRoom.l0 k x239002 0 x239000 x239001 x239002)
def impl_ValidRoom.l0 : Nat → LA 10 → Int → Int → Int → LA 10 → Option (Bool)
 | 0, _, _, _, _, _ => none
 | k + 1, x18, x19, x239000, x239001, x239002 => if x19 < 10 then (if 0 ≤ x19 then (if 0 ≤ x239000 then (if (shr .u16 (rd x18.l x19) x239000) = 0 then (if x19 ≥ (wrap64 (x239001)) then (if (rd x18.l x19) = 0 then (impl_ValidRoom.l0 k x18 (wrap64 (x19 + 1)) x239000 x239001 x239002) else (some false)) else (impl_ValidRoom.l0 k x18 (wrap64 (x19 + 1)) x239000 x239001 x239002)) else (some false)) else (none)) else (none)) else (some true)
end
def impl_ValidRoom.f (k : Nat) (a0_0 : Int) (a0_1 : Int) (a0_2 : LA 10) : Option (Bool) := (impl_within.f (wrap64 (a0_0)) 1 10).bind fun t239 => (if t239 = true then ((impl_within.f (wrap64 (a0_1)) 1 10).bind fun t240 => (impl_ValidRoom.j0 k (!t240) a0_0 a0_1 a0_2)) else (impl_ValidRoom.j0 k true a0_0 a0_1 a0_2))
theorem impl_ValidRoom.mono_l : ∀ k, (∀ y0 y1 y2 y3, LeO (impl_ValidRoom.j0 k y0 y1 y2 y3) (impl_ValidRoom.j0 (k + 1) y0 y1 y2 y3)) ∧ (∀ y0 y1 y2 y3 y4, LeO (impl_ValidRoom.l0 k y0 y1 y2 y3 y4) (impl_ValidRoom.l0 (k + 1) y0 y1 y2 y3 y4))
 | 0 => ⟨fun _ _ _ _ r h => by simp [impl_ValidRoom.j0] at h, fun _ _ _ _ _ r h => by simp [impl_ValidRoom.l0] at h⟩
 | k + 1 => by
  obtain ⟨ih0, ih1⟩ := impl_ValidRoom.mono_l k; refine ⟨?_, ?_⟩
  ·intro y0 y1 y2 y3
   unfold impl_ValidRoom.j0
   repeat' first
   | (with_reducible exact ih0 _ _ _ _)
   | (with_reducible exact ih1 _ _ _ _ _)
   | (with_reducible exact LeO.refl _)
   | (with_reducible exact LeO.none _)
   | (with_reducible refine LeO.ite ?_ ?_)
   | (with_reducible refine LeO.bind ?_ (fun _ => ?_))
   | exact ih0 _ _ _ _
   | exact ih1 _ _ _ _ _
   | exact LeO.none _
   | refine LeO.ite ?_ ?_
   | refine LeO.bind ?_ (fun _ => ?_)
  ·intro y0 y1 y2 y3 y4
   unfold impl_ValidRoom.l0
   repeat' first
   | (with_reducible exact ih0 _ _ _ _)
   | (with_reducible exact ih1 _ _ _ _ _)
   | (with_reducible exact LeO.refl _)
   | (with_reducible exact LeO.none _)
   | (with_reducible refine LeO.ite ?_ ?_)
   | (with_reducible refine LeO.bind ?_ (fun _ => ?_))
   | exact ih0 _ _ _ _
   | exact ih1 _ _ _ _ _
   | exact LeO.none _
   | refine LeO.ite ?_ ?_
   | refine LeO.bind ?_ (fun _ => ?_)
theorem impl_ValidRoom.mono : ∀ a0 a1 a2 k, LeO (impl_ValidRoom.f k a0 a1 a2) (impl_ValidRoom.f (k + 1) a0 a1 a2) := by
 intro a0 a1 a2 k
 obtain ⟨ih0, ih1⟩ := impl_ValidRoom.mono_l k
 unfold impl_ValidRoom.f
 repeat' first
   | (with_reducible exact ih0 _ _ _ _)
   | (with_reducible exact ih1 _ _ _ _ _)
   | (with_reducible exact LeO.refl _)
   | (with_reducible exact LeO.none _)
   | (with_reducible refine LeO.ite ?_ ?_)
   | (with_reducible refine LeO.bind ?_ (fun _ => ?_))
   | exact ih0 _ _ _ _
   | exact ih1 _ _ _ _ _
   | exact LeO.none _
   | refine LeO.ite ?_ ?_
   | refine LeO.bind ?_ (fun _ => ?_)
set_option maxHeartbeats 8000000 in
set_option maxRecDepth 100000 in
theorem impl_ValidRoom.calls (k : Nat) (a0_0 : Int) (a0_1 : Int) (a0_2 : LA 10) (r : Bool) (w : World) (h : impl_ValidRoom.f k a0_0 a0_1 a0_2 = some r) :
  Calls Try.prog 56 #[.agg (mixA (Value.int .u16) [.int .i8 a0_0, .int .i8 a0_1] a0_2)] w fun e w' => e = .returned (.bool r) ∧ Below w.heap.size w w' := by
 have hu34 := Try.underlying34
 have HB := Aside0.mk (Below.refl w.heap.size w)
 have H : ((impl_within.f (wrap64 (a0_0)) 1 10).bind fun t239 => (if t239 = true then ((impl_within.f (wrap64 (a0_1)) 1 10).bind fun t240 => (impl_ValidRoom.j0 k (!t240) a0_0 a0_1 a0_2)) else (impl_ValidRoom.j0 k true a0_0 a0_1 a0_2))) = some r := h
 clear h
 have HC2 := Aside0.mk H
 clear H
 go_enter Try.func56, Try.ntmps56
 go_upto_region 1 with (first | ((with_reducible refine gate_dst (N := 1) rfl ?_); refine box_event ?hg (N := 1) ?hd (cs := (mixA (Value.int .u16) [.int .i8 a0_0, .int .i8 a0_1] a0_2)) (t := 34) ?hr ?_; (case hd => rfl); (case hg => rfl); (case hr => first | (go_simp; done) | (go_simp; rfl)); intro gb238 hg w3 hbox hb; have n0_ := bst HB hb; have n1_ := Aside0.mk (hbox); have n2_ := gwl HB hg; have n3_ := gwl HB hg; clear HB; have HB := n0_; have BK238 := n1_; have GW238 := n2_; have GE238 := n3_; clear n0_ n1_ n2_ n3_; clear hb hbox hg))
 (try simp only [Act.put, List.setIfInBounds_toArray, List.set_cons_zero, List.set_cons_succ])
 go_cut [16] (fun v16 wc => ∃ (kq : Nat) (x16_1 : Bool), v16 = .bool x16_1 ∧ Aside0 (impl_ValidRoom.j0 kq x16_1 a0_0 a0_1 a0_2 = some r) ∧ Aside0 (kq ≤ k) ∧ Aside0 (wc.heap[gb238]? = some (.cells (mixA (Value.int .u16) [.int .i8 a0_0, .int .i8 a0_1] a0_2) 34 (0, 0))) ∧ Aside0 (Below w.heap.size w wc))
 case first =>
  have H := HC2.out; clear HC2; obtain ⟨t239, A4, H⟩ := obn H
  by_cases c5 : t239 = true
  ·subst c5
   have H1 : ((impl_within.f (wrap64 (a0_1)) 1 10).bind fun t240 => (impl_ValidRoom.j0 k (!t240) a0_0 a0_1 a0_2)) = some r := by rw [if_pos rfl] at H; exact H
   clear H; have H := H1; clear H1; obtain ⟨t240, A6, H⟩ := obn H; have H' := Aside0.mk H; clear H; have hcz7_0 : w3.cell? ⟨gb238, 0, none⟩ = some (.int .i8 a0_0) := mix_cell0 BK238.out 0; have hcz7_1 : w3.cell? ⟨gb238, 1, none⟩ = some (.int .i8 a0_1) := mix_cell0 BK238.out 1; have hfz7_0 := blk_frozen BK238.out 0; have hfz7_1 := blk_frozen BK238.out 1
   go_wp2_with (first | ((with_reducible refine gate_callee (f := 61) rfl ?_); refine gl (some 8) Try.func61 #[.int .i64 (wrap64 (a0_0)), .int .i64 1, .int .i64 10] ?_; (with_reducible refine (impl_within.calls (wrap64 (a0_0)) 1 10 true _ A4.out).mono ?_); rintro e w' ⟨rfl, ⟨nd, rfl⟩⟩; refine ⟨_, rfl, ?_⟩) | (go_at_call 61; (with_reducible refine (impl_within.calls (wrap64 (a0_1)) 1 10 t240 _ A6.out).mono ?_); rintro e w' ⟨rfl, ⟨nd, rfl⟩⟩))
   go_meet
   case rel => exact ⟨_, (!t240), (by first | rfl | (simp; done) | (simp [*]; done)), H', ⟨by first | omega | exact Nat.le_refl _⟩, ⟨pk BK238⟩, ⟨pbs HB⟩⟩
  ·replace c5 := Bool.eq_false_iff.mpr c5
   subst c5
   have H1 : (impl_ValidRoom.j0 k true a0_0 a0_1 a0_2) = some r := by rw [if_neg (show ¬ (false = true) by decide)] at H; exact H
   clear H; have H := H1; clear H1; have H' := Aside0.mk H; clear H; have hcz8_0 : w3.cell? ⟨gb238, 0, none⟩ = some (.int .i8 a0_0) := mix_cell0 BK238.out 0; have hcz8_1 : w3.cell? ⟨gb238, 1, none⟩ = some (.int .i8 a0_1) := mix_cell0 BK238.out 1; have hfz8_0 := blk_frozen BK238.out 0; have hfz8_1 := blk_frozen BK238.out 1
   go_wp2_with (first | ((with_reducible refine gate_callee (f := 61) rfl ?_); refine gl (some 8) Try.func61 #[.int .i64 (wrap64 (a0_0)), .int .i64 1, .int .i64 10] ?_; (with_reducible refine (impl_within.calls (wrap64 (a0_0)) 1 10 false _ A4.out).mono ?_); rintro e w' ⟨rfl, ⟨nd, rfl⟩⟩; refine ⟨_, rfl, ?_⟩))
   go_meet
   case rel => exact ⟨_, (true), (by first | rfl | (simp; done) | (simp [*]; done)), H', ⟨by first | omega | exact Nat.le_refl _⟩, ⟨pk BK238⟩, ⟨pbs HB⟩⟩
 case rest =>
  clear HC2
  try clear p2
  try clear c5
  try clear c6
  try clear p6
  try clear hcz7_0
  try clear hcz7_1
  try clear hcz8_0
  try clear hcz8_1
  try clear hfz7_0
  try clear hfz7_1
  try clear hfz8_0
  try clear hfz8_1
  obtain ⟨kq, x16_1, rfl, HA, HJ1, BK238, HB⟩ := hcut
  cases kq with
  | zero => exact absurd HA.out (by simp [impl_ValidRoom.j0])
  | succ kj1 =>
   have H := HA.out; clear HA; simp only [impl_ValidRoom.j0] at H
   by_cases c9 : x16_1 = true
   ·subst c9
    have H1 : (some false) = some r := by rw [if_pos rfl] at H; exact H
    clear H; have H := H1; clear H1; obtain rfl := Option.some.inj H
    go_wp2
    go_ret
    exact ⟨by first | rfl | (simp [errW_none, errW_some] <;> rfl) | (simp [*, errW_none, errW_some] <;> rfl), pbs HB⟩
   ·replace c9 := Bool.eq_false_iff.mpr c9
    subst c9
    have H1 : (impl_ValidRoom.l0 kj1 a0_2 0 a0_0 a0_1 a0_2) = some r := by rw [if_neg (show ¬ (false = true) by decide)] at H; exact H
    clear H; have H := H1; clear H1; have H' := Aside0.mk H; clear H
    go_wp2_with (first | ((with_reducible refine gate_dst (N := 18) rfl ?_); refine wpList_run0 (v := .agg (mixA (Value.int .u16) [] a0_2)) rfl (load_arr_run (P := Try.prog) 24 (.tmp 17) rfl gb238 2 rfl (show World.rangeAt _ gb238 2 (a0_2.l.map (Value.int .u16)) from mix_range_arr (show (World.heap _)[gb238]? = some (.cells (mixA (Value.int .u16) [.int .i8 a0_0, .int .i8 a0_1] a0_2) 34 (0, 0)) from by (with_reducible repeat (first | refine blk_drewN ?_ _ | refine blk_drew ?_ | refine blk_alloc ?_ _)); exact BK238.out) 2 rfl) Try.underlying24 rfl (by kernel_rfl)) ?_))
    go_loopg [19] kj1 (fun kq v19 w' => ∃ (x19_2 : Int), v19 = .int .i64 x19_2 ∧ Aside0 (impl_ValidRoom.l0 kq a0_2 x19_2 a0_0 a0_1 a0_2 = some r) ∧ Aside0 (kq ≤ kj1) ∧ Aside0 (w'.heap[gb238]? = some (.cells (mixA (Value.int .u16) [.int .i8 a0_0, .int .i8 a0_1] a0_2) 34 (0, 0))) ∧ Aside0 (Below w.heap.size w w'))
    case atStart => exact ⟨(0), (by first | rfl | (simp; done) | (simp [*]; done)), H', ⟨Nat.le_refl _⟩, ⟨pk BK238⟩, ⟨pbs HB⟩⟩
    case round =>
     clear H'
     try clear p2
     try clear c5
     try clear c6
     try clear p6
     try clear c9
     try clear hcz7_0
     try clear hcz7_1
     try clear hcz8_0
     try clear hcz8_1
     try clear hfz7_0
     try clear hfz7_1
     try clear hfz8_0
     try clear hfz8_1
     try clear p2
     try clear p6
     obtain ⟨x19_2, rfl, HA, HK2, BK238, HB⟩ := hrel
     cases gk with
     | zero => exact absurd HA.out (by simp [impl_ValidRoom.l0])
     | succ k2 =>
      have H := HA.out; clear HA; simp only [impl_ValidRoom.l0] at H
      by_cases c11 : x19_2 < 10
      ·rw [if_pos c11] at H
       have c11b0 : decide (x19_2 < 10) = true := decide_eq_true c11; clear c11
       by_cases c12 : 0 ≤ x19_2
       ·rw [if_pos c12] at H
        have c12b0 : decide (0 ≤ x19_2) = true := decide_eq_true c12; clear c12
        by_cases c13 : 0 ≤ a0_0
        ·rw [if_pos c13] at H
         have c13b0 := eq_true c13; have c13b1 : decide (0 ≤ a0_0) = true := decide_eq_true c13; clear c13; obtain ⟨ji14, hji14⟩ : ∃ j_ : Int, (shr .u16 (rd a0_2.l x19_2) a0_0) = j_ := ⟨_, rfl⟩
         replace H : (if (ji14) = 0 then (if x19_2 ≥ (wrap64 (a0_1)) then (if (rd a0_2.l x19_2) = 0 then (impl_ValidRoom.l0 k2 a0_2 (wrap64 (x19_2 + 1)) a0_0 a0_1 a0_2) else (some false)) else (impl_ValidRoom.l0 k2 a0_2 (wrap64 (x19_2 + 1)) a0_0 a0_1 a0_2)) else (some false)) = some r := by first | (rw [hji14] at H; exact H) | (simp only [hji14] at H ⊢; exact H)
         have hji14_ : ((rd a0_2.l x19_2) / 2 ^ min a0_0.toNat 16) = ji14 := hji14; have hji14z : a0_0 ≤ 16 → ((rd a0_2.l x19_2) / 2 ^ a0_0.toNat) = ji14 := shr_small hji14
         by_cases c15 : (ji14) = 0
         ·rw [if_pos c15] at H
          have c15b0 : ((ji14) == 0) = true := beq_iff_eq.mpr c15; have c15b1 : ((ji14) != 0) = false := bne_eq_false_iff_eq.mpr c15; clear c15
          by_cases c16 : x19_2 ≥ (wrap64 (a0_1))
          ·rw [if_pos c16] at H
           have c16b0 : decide ((wrap64 (a0_1)) ≤ x19_2) = true := decide_eq_true c16; clear c16
           by_cases c17 : (rd a0_2.l x19_2) = 0
           ·rw [if_pos c17] at H
            have c17b0 : ((rd a0_2.l x19_2) == 0) = true := beq_iff_eq.mpr c17; have c17b1 : ((rd a0_2.l x19_2) != 0) = false := bne_eq_false_iff_eq.mpr c17; clear c17; have H' := Aside0.mk H; clear H; have hixd18 : ∀ W_ : World, (Instr.index 24 (.agg (mixA (Value.int .u16) [] a0_2)) (.int .i64 x19_2)).run Try.prog W_ = .ok (.int .u16 (rd a0_2.l x19_2)) W_ := fun W_ => idx_la (e := (Value.int .u16)) Try.underlying24 (fun _ => by kernel_rfl) (fun _ => by kernel_rfl) x19_2 (by first | omega | exact oda) (by first | omega | exact oda) W_; have hcz19_0 : wr.cell? ⟨gb238, 0, none⟩ = some (.int .i8 a0_0) := mix_cell0 BK238.out 0; have hcz19_1 : wr.cell? ⟨gb238, 1, none⟩ = some (.int .i8 a0_1) := mix_cell0 BK238.out 1; have hfz19_0 := blk_frozen BK238.out 0; have hfz19_1 := blk_frozen BK238.out 1
            go_wp2
            go_roundg k2
            case measure => have := HJ1.out; have := HK2.out; omega
            case rel => exact ⟨(wrap64 (x19_2 + 1)), (by first | rfl | (simp; done) | (simp [*]; done)), H', ⟨by have := HJ1.out; have := HK2.out; omega⟩, ⟨pk BK238⟩, ⟨pbs HB⟩⟩
           ·rw [if_neg c17] at H
            have c17b0 : ((rd a0_2.l x19_2) == 0) = false := beq_eq_false_iff_ne.mpr c17; have c17b1 : ((rd a0_2.l x19_2) != 0) = true := bne_iff_ne.mpr c17; obtain rfl := Option.some.inj H; have hixd20 : ∀ W_ : World, (Instr.index 24 (.agg (mixA (Value.int .u16) [] a0_2)) (.int .i64 x19_2)).run Try.prog W_ = .ok (.int .u16 (rd a0_2.l x19_2)) W_ := fun W_ => idx_la (e := (Value.int .u16)) Try.underlying24 (fun _ => by kernel_rfl) (fun _ => by kernel_rfl) x19_2 (by first | omega | exact oda) (by first | omega | exact oda) W_; have hcz21_0 : wr.cell? ⟨gb238, 0, none⟩ = some (.int .i8 a0_0) := mix_cell0 BK238.out 0; have hcz21_1 : wr.cell? ⟨gb238, 1, none⟩ = some (.int .i8 a0_1) := mix_cell0 BK238.out 1; have hfz21_0 := blk_frozen BK238.out 0; have hfz21_1 := blk_frozen BK238.out 1
            go_wp2
            go_ret
            exact ⟨by first | rfl | (simp [errW_none, errW_some] <;> rfl) | (simp only [← hji14]; first | rfl | (simp [errW_none, errW_some] <;> rfl)) | (simp [*, errW_none, errW_some] <;> rfl), pbs HB⟩
          ·rw [if_neg c16] at H
           have c16b0 : decide ((wrap64 (a0_1)) ≤ x19_2) = false := decide_eq_false c16; clear c16; have H' := Aside0.mk H; clear H; have hixd22 : ∀ W_ : World, (Instr.index 24 (.agg (mixA (Value.int .u16) [] a0_2)) (.int .i64 x19_2)).run Try.prog W_ = .ok (.int .u16 (rd a0_2.l x19_2)) W_ := fun W_ => idx_la (e := (Value.int .u16)) Try.underlying24 (fun _ => by kernel_rfl) (fun _ => by kernel_rfl) x19_2 (by first | omega | exact oda) (by first | omega | exact oda) W_; have hcz23_0 : wr.cell? ⟨gb238, 0, none⟩ = some (.int .i8 a0_0) := mix_cell0 BK238.out 0; have hcz23_1 : wr.cell? ⟨gb238, 1, none⟩ = some (.int .i8 a0_1) := mix_cell0 BK238.out 1; have hfz23_0 := blk_frozen BK238.out 0; have hfz23_1 := blk_frozen BK238.out 1
           go_wp2
           go_roundg k2
           case measure => have := HJ1.out; have := HK2.out; omega
           case rel => exact ⟨(wrap64 (x19_2 + 1)), (by first | rfl | (simp; done) | (simp [*]; done)), H', ⟨by have := HJ1.out; have := HK2.out; omega⟩, ⟨pk BK238⟩, ⟨pbs HB⟩⟩
         ·rw [if_neg c15] at H
          have c15b0 : ((ji14) == 0) = false := beq_eq_false_iff_ne.mpr c15; have c15b1 : ((ji14) != 0) = true := bne_iff_ne.mpr c15; obtain rfl := Option.some.inj H; have hixd24 : ∀ W_ : World, (Instr.index 24 (.agg (mixA (Value.int .u16) [] a0_2)) (.int .i64 x19_2)).run Try.prog W_ = .ok (.int .u16 (rd a0_2.l x19_2)) W_ := fun W_ => idx_la (e := (Value.int .u16)) Try.underlying24 (fun _ => by kernel_rfl) (fun _ => by kernel_rfl) x19_2 (by first | omega | exact oda) (by first | omega | exact oda) W_; have hcz25_0 : wr.cell? ⟨gb238, 0, none⟩ = some (.int .i8 a0_0) := mix_cell0 BK238.out 0; have hcz25_1 : wr.cell? ⟨gb238, 1, none⟩ = some (.int .i8 a0_1) := mix_cell0 BK238.out 1; have hfz25_0 := blk_frozen BK238.out 0; have hfz25_1 := blk_frozen BK238.out 1
          go_wp2
          go_ret
          exact ⟨by first | rfl | (simp [errW_none, errW_some] <;> rfl) | (simp only [← hji14]; first | rfl | (simp [errW_none, errW_some] <;> rfl)) | (simp [*, errW_none, errW_some] <;> rfl), pbs HB⟩
        ·rw [if_neg c13] at H
         exact absurd H (by simp)
       ·rw [if_neg c12] at H
        exact absurd H (by simp)
      ·rw [if_neg c11] at H
       have c11b0 : decide (x19_2 < 10) = false := decide_eq_false c11; clear c11; obtain rfl := Option.some.inj H
       go_wp2
       go_ret
       exact ⟨by first | rfl | (simp [errW_none, errW_some] <;> rfl) | (simp [*, errW_none, errW_some] <;> rfl), pbs HB⟩
def impl_Spot_98.l0 : Nat → List (S39) → Int → Int → Int → Int → Option (Int)
 | 0, _, _, _, _, _ => none
 | k + 1, x0, x7, x8, x242000, x242001 => if x8 < x7 then (if 0 ≤ x8 then (if x8 < (x0.length : Int) then (if (x242000 == ((rd_T39 x0 x8).f0) && (x242001 == ((rd_T39 x0 x8).f1))) = true then (some x8) else (impl_Spot_98.l0 k x0 x7 (wrap64 (x8 + 1)) x242000 x242001)) else (none)) else (none)) else (some (-1))
def impl_Spot_98.f (k : Nat) (l0 : List (S39)) (a1_0 : Int) (a1_1 : Int) : Option (Int) := impl_Spot_98.l0 k l0 (l0.length : Int) 0 a1_0 a1_1
theorem impl_Spot_98.mono_l : ∀ k, (∀ y0 y1 y2 y3 y4, LeO (impl_Spot_98.l0 k y0 y1 y2 y3 y4) (impl_Spot_98.l0 (k + 1) y0 y1 y2 y3 y4))
 | 0 => fun _ _ _ _ _ r h => by simp [impl_Spot_98.l0] at h
 | k + 1 => by
  have ih0 := impl_Spot_98.mono_l k
  ·intro y0 y1 y2 y3 y4
   unfold impl_Spot_98.l0
   repeat' first
   | (with_reducible exact ih0 _ _ _ _ _)
   | (with_reducible exact LeO.refl _)
   | (with_reducible exact LeO.none _)
   | (with_reducible refine LeO.ite ?_ ?_)
   | (with_reducible refine LeO.bind ?_ (fun _ => ?_))
   | exact ih0 _ _ _ _ _
   | exact LeO.none _
   | refine LeO.ite ?_ ?_
   | refine LeO.bind ?_ (fun _ => ?_)
theorem impl_Spot_98.mono : ∀ a0 a1 a2 k, LeO (impl_Spot_98.f k a0 a1 a2) (impl_Spot_98.f (k + 1) a0 a1 a2) := by
 intro a0 a1 a2 k
 have ih0 := impl_Spot_98.mono_l k
 unfold impl_Spot_98.f
 repeat' first
   | (with_reducible exact ih0 _ _ _ _ _)
   | (with_reducible exact LeO.refl _)
   | (with_reducible exact LeO.none _)
   | (with_reducible refine LeO.ite ?_ ?_)
   | (with_reducible refine LeO.bind ?_ (fun _ => ?_))
   | exact ih0 _ _ _ _ _
   | exact LeO.none _
   | refine LeO.ite ?_ ?_
   | refine LeO.bind ?_ (fun _ => ?_)
set_option maxHeartbeats 8000000 in
set_option maxRecDepth 100000 in
theorem impl_Spot_98.calls (k : Nat) (A0 : Option Addr) (c0 : Nat) (l0 : List (S39)) (a1_0 : Int) (a1_1 : Int) (r : Int) (w : World) (hr0 : Kd.C k39 w A0 l0.length l0) (hc0 : l0.length ≤ c0) (h : impl_Spot_98.f k l0 a1_0 a1_1 = some r) :
  Calls Try.prog 98 #[.slice A0 l0.length c0, .agg #[.int .i8 a1_0, .int .i8 a1_1]] w fun e w' => e = .returned (.int .i64 r) ∧ Below w.heap.size w w' := by
 have hu39 := Try.underlying39
 have HR0 := Aside0.mk hr0
 have HC0 := Aside0.mk hc0
 clear hr0 hc0
 have HB := Aside0.mk (Below.refl w.heap.size w)
 have H : (impl_Spot_98.l0 k l0 (l0.length : Int) 0 a1_0 a1_1) = some r := h
 clear h
 have H' := Aside0.mk H
 clear H
 go_enter Try.func98, Try.ntmps98
 go_wp2_with (first | ((with_reducible refine gate_dst (N := 3) rfl ?_); refine box_event ?hg (N := 3) ?hd (cs := #[.int .i8 a1_0, .int .i8 a1_1]) (t := 39) ?hr ?_; (case hd => rfl); (case hg => rfl); (case hr => first | (go_simp; done) | (go_simp; rfl)); intro gb241 hg w3 hbox hb; have n0_ := bst HB hb; have n1_ := Aside0.mk (hbox); have n2_ := gwl HB hg; have n3_ := gwl HB hg; clear HB; have HB := n0_; have BK241 := n1_; have GW241 := n2_; have GE241 := n3_; clear n0_ n1_ n2_ n3_; clear hb hbox hg))
 repeat (go_quiet (first | ((with_reducible refine gate_dst (N := 3) rfl ?_); refine box_event ?hg (N := 3) ?hd (cs := #[.int .i8 a1_0, .int .i8 a1_1]) (t := 39) ?hr ?_; (case hd => rfl); (case hg => rfl); (case hr => first | (go_simp; done) | (go_simp; rfl)); intro gb241 hg w3 hbox hb; have n0_ := bst HB hb; have n1_ := Aside0.mk (hbox); have n2_ := gwl HB hg; have n3_ := gwl HB hg; clear HB; have HB := n0_; have BK241 := n1_; have GW241 := n2_; have GE241 := n3_; clear n0_ n1_ n2_ n3_; clear hb hbox hg)); try go_wp2_with (first | ((with_reducible refine gate_dst (N := 3) rfl ?_); refine box_event ?hg (N := 3) ?hd (cs := #[.int .i8 a1_0, .int .i8 a1_1]) (t := 39) ?hr ?_; (case hd => rfl); (case hg => rfl); (case hr => first | (go_simp; done) | (go_simp; rfl)); intro gb241 hg w3 hbox hb; have n0_ := bst HB hb; have n1_ := Aside0.mk (hbox); have n2_ := gwl HB hg; have n3_ := gwl HB hg; clear HB; have HB := n0_; have BK241 := n1_; have GW241 := n2_; have GE241 := n3_; clear n0_ n1_ n2_ n3_; clear hb hbox hg)))
 go_loopg [8] k (fun kq v8 w' => ∃ (x8_1 : Int), v8 = .int .i64 x8_1 ∧ Aside0 (impl_Spot_98.l0 kq l0 (l0.length : Int) x8_1 a1_0 a1_1 = some r) ∧ Aside0 (kq ≤ k) ∧ Aside0 (w'.heap[gb241]? = some (.cells #[.int .i8 a1_0, .int .i8 a1_1] 39 (0, 0))) ∧ Aside0 (Below w.heap.size w w'))
 case atStart => exact ⟨(0), (by first | rfl | (simp; done) | (simp [*]; done)), H', ⟨Nat.le_refl _⟩, ⟨pk BK241⟩, ⟨pbs HB⟩⟩
 case round =>
  clear H'
  try clear p2
  obtain ⟨x8_1, rfl, HA, HK1, BK241, HB⟩ := hrel
  cases gk with
  | zero => exact absurd HA.out (by simp [impl_Spot_98.l0])
  | succ k1 =>
   have H := HA.out; clear HA; simp only [impl_Spot_98.l0] at H
   by_cases c4 : x8_1 < (l0.length : Int)
   ·rw [if_pos c4] at H
    have c4b0 : decide (x8_1 < (l0.length : Int)) = true := decide_eq_true c4; clear c4
    by_cases c5 : 0 ≤ x8_1
    ·rw [if_pos c5] at H
     have c5b0 : decide (0 ≤ x8_1) = true := decide_eq_true c5; clear c5
     by_cases c6 : x8_1 < (l0.length : Int)
     ·rw [if_pos c6] at H
      have c6b0 : decide (x8_1 < (l0.length : Int)) = true := decide_eq_true c6; clear c6
      by_cases c7 : (a1_0 == ((rd_T39 l0 x8_1).f0) && (a1_1 == ((rd_T39 l0 x8_1).f1))) = true
      ·rw [if_pos c7] at H
       have c7b0 : (a1_0 == ((rd_T39 l0 x8_1).f0) && (a1_1 == ((rd_T39 l0 x8_1).f1))) = true := c7; (try (have c7b1 : decide (a1_0 = ((rd_T39 l0 x8_1).f0) && (a1_1 == ((rd_T39 l0 x8_1).f1))) = true := by simpa using c7)); (try (have c7b2 : (a1_0 == ((rd_T39 l0 x8_1).f0) && (a1_1 == ((rd_T39 l0 x8_1).f1))) = true := by simpa using c7)); clear c7; obtain rfl := Option.some.inj H; have hcz8_0 : wr.cell? ⟨gb241, 0, none⟩ = some (.int .i8 a1_0) := (blk_cell BK241.out 0).trans rfl; have hcz8_1 : wr.cell? ⟨gb241, 1, none⟩ = some (.int .i8 a1_1) := (blk_cell BK241.out 1).trans rfl; have hfz8_0 := blk_frozen BK241.out 0; have hfz8_1 := blk_frozen BK241.out 1; have p242 : 0 ≤ (x8_1 : Int) := oda; have q242 : x8_1 < (l0.length : Int) := oda; obtain ⟨ad242, e242, hx242_0, hx242_1⟩ := at_T39 HR0.out x8_1 p242 q242; cases e242
       try replace hx242_0 := cb HB hx242_0
       try replace hx242_1 := cb HB hx242_1
       replace p242 := eq_true p242; replace q242 := eq_true q242
       go_wp2
       repeat (go_quiet (fail); try go_wp2)
       go_ret
       exact ⟨by first | rfl | (simp [errW_none, errW_some] <;> rfl) | (simp [*, errW_none, errW_some] <;> rfl), pbs HB⟩
      ·rw [if_neg c7] at H
       have c7b0 : (a1_0 == ((rd_T39 l0 x8_1).f0) && (a1_1 == ((rd_T39 l0 x8_1).f1))) = false := by simpa using c7
       (try (have c7b1 : decide (a1_0 = ((rd_T39 l0 x8_1).f0) && (a1_1 == ((rd_T39 l0 x8_1).f1))) = false := by simpa using c7)); (try (have c7b2 : (a1_0 == ((rd_T39 l0 x8_1).f0) && (a1_1 == ((rd_T39 l0 x8_1).f1))) = false := by simpa using c7)); (try (have c7b3 : ¬ (a1_0 = ((rd_T39 l0 x8_1).f0) && (a1_1 == ((rd_T39 l0 x8_1).f1))) := by simpa using c7)); clear c7; have H' := Aside0.mk H; clear H; have hcz9_0 : wr.cell? ⟨gb241, 0, none⟩ = some (.int .i8 a1_0) := (blk_cell BK241.out 0).trans rfl; have hcz9_1 : wr.cell? ⟨gb241, 1, none⟩ = some (.int .i8 a1_1) := (blk_cell BK241.out 1).trans rfl; have hfz9_0 := blk_frozen BK241.out 0; have hfz9_1 := blk_frozen BK241.out 1; have p242 : 0 ≤ (x8_1 : Int) := oda; have q242 : x8_1 < (l0.length : Int) := oda; obtain ⟨ad242, e242, hx242_0, hx242_1⟩ := at_T39 HR0.out x8_1 p242 q242; cases e242
       try replace hx242_0 := cb HB hx242_0
       try replace hx242_1 := cb HB hx242_1
       replace p242 := eq_true p242; replace q242 := eq_true q242
       go_wp2
       repeat (go_quiet (fail); try go_wp2)
       go_roundg k1
       case measure => have := HK1.out; omega
       case rel => exact ⟨(wrap64 (x8_1 + 1)), (by first | rfl | (simp; done) | (simp [*]; done)), H', ⟨by have := HK1.out; omega⟩, ⟨pk BK241⟩, ⟨pbs HB⟩⟩
     ·rw [if_neg c6] at H
      exact absurd H (by simp)
    ·rw [if_neg c5] at H
     exact absurd H (by simp)
   ·rw [if_neg c4] at H
    have c4b0 : decide (x8_1 < (l0.length : Int)) = false := decide_eq_false c4; clear c4; obtain rfl := Option.some.inj H
    go_wp2
    repeat (go_quiet (fail); try go_wp2)
    go_ret
    exact ⟨by first | rfl | (simp [errW_none, errW_some] <;> rfl) | (simp [*, errW_none, errW_some] <;> rfl), pbs HB⟩
def impl_Spot_91.f (k : Nat) (l0 : List (S39)) (a1_0 : Int) (a1_1 : Int) : Option (Bool) := (impl_Spot_98.f k l0 a1_0 a1_1).bind fun t244 => (some (decide (t244 ≥ 0)))
theorem impl_Spot_91.mono : ∀ a0 a1 a2 k, LeO (impl_Spot_91.f k a0 a1 a2) (impl_Spot_91.f (k + 1) a0 a1 a2) := by
 intro a0 a1 a2 k
 unfold impl_Spot_91.f
 repeat' first
   | (with_reducible exact impl_Spot_98.mono _ _ _ _)
   | (with_reducible exact LeO.refl _)
   | (with_reducible exact LeO.none _)
   | (with_reducible refine LeO.ite ?_ ?_)
   | (with_reducible refine LeO.bind ?_ (fun _ => ?_))
   | exact impl_Spot_98.mono _ _ _ _
   | exact LeO.none _
   | refine LeO.ite ?_ ?_
   | refine LeO.bind ?_ (fun _ => ?_)
set_option maxHeartbeats 8000000 in
set_option maxRecDepth 100000 in
theorem impl_Spot_91.calls (k : Nat) (A0 : Option Addr) (c0 : Nat) (l0 : List (S39)) (a1_0 : Int) (a1_1 : Int) (r : Bool) (w : World) (hr0 : Kd.C k39 w A0 l0.length l0) (hc0 : l0.length ≤ c0) (h : impl_Spot_91.f k l0 a1_0 a1_1 = some r) :
  Calls Try.prog 91 #[.slice A0 l0.length c0, .agg #[.int .i8 a1_0, .int .i8 a1_1]] w fun e w' => e = .returned (.bool r) ∧ Below w.heap.size w w' := by
 have hu39 := Try.underlying39
 have HR0 := Aside0.mk hr0
 have HC0 := Aside0.mk hc0
 clear hr0 hc0
 have HB := Aside0.mk (Below.refl w.heap.size w)
 have H : ((impl_Spot_98.f k l0 a1_0 a1_1).bind fun t244 => (some (decide (t244 ≥ 0)))) = some r := h
 clear h
 obtain ⟨t244, A3, H⟩ := obn H
 obtain rfl := Option.some.inj H
 go_enter Try.func91, Try.ntmps91
 go_wp2_with (first | ((with_reducible refine gate_dst (N := 3) rfl ?_); refine box_event ?hg (N := 3) ?hd (cs := #[.int .i8 a1_0, .int .i8 a1_1]) (t := 39) ?hr ?_; (case hd => rfl); (case hg => rfl); (case hr => first | (go_simp; done) | (go_simp; rfl)); intro gb243 hg w4 hbox hb; have n0_ := bst HB hb; have n1_ := Aside0.mk (hbox); have n2_ := gwl HB hg; have n3_ := gwl HB hg; clear HB; have HB := n0_; have BK243 := n1_; have GW243 := n2_; have GE243 := n3_; clear n0_ n1_ n2_ n3_; clear hb hbox hg; have hcz5_0 : w4.cell? ⟨gb243, 0, none⟩ = some (.int .i8 a1_0) := (blk_cell BK243.out 0).trans rfl; have hcz5_1 : w4.cell? ⟨gb243, 1, none⟩ = some (.int .i8 a1_1) := (blk_cell BK243.out 1).trans rfl; have hfz5_0 := blk_frozen BK243.out 0; have hfz5_1 := blk_frozen BK243.out 1) | ((with_reducible refine gate_callee (f := 98) rfl ?_); refine gl (some 7) Try.func98 #[.slice A0 l0.length c0, .agg #[.int .i8 a1_0, .int .i8 a1_1]] ?_; (with_reducible refine (impl_Spot_98.calls k _ _ l0 a1_0 a1_1 t244 _ ?side1 ?side2 A3.out).mono ?_); (case side1 => repeat (first | exact (Kd.C_below HR0.out HB.out) | (with_reducible refine Kd.C_alloc ?_ _) | (with_reducible refine Kd.C_drewN ?_ _) | (with_reducible refine Kd.C_drew ?_))); (case side2 => exact HC0.out); rintro e w6 ⟨rfl, hb⟩; refine ⟨_, rfl, ?_⟩; replace BK243 := bkb BK243 hb; replace HB := bst HB hb; (try clear hb); (try clear hb2); (try clear hk); (try clear hi)))
 go_ret
 exact ⟨by first | rfl | (simp [errW_none, errW_some] <;> rfl) | (simp [*, errW_none, errW_some] <;> rfl), pbs HB⟩
def impl_NextSpot.f (a0_0 : Int) (a0_1 : Int) (a1 : Int) : Option (Int × Int) := if a1 = 0 then (some (a0_0, IntKind.i8.wrap (a0_1 - 1))) else (if a1 = 1 then (some (IntKind.i8.wrap (a0_0 + 1), a0_1)) else (if a1 = 2 then (some (a0_0, IntKind.i8.wrap (a0_1 + 1))) else (if a1 = 3 then (some (IntKind.i8.wrap (a0_0 - 1), a0_1)) else (some (a0_0, a0_1)))))
set_option maxHeartbeats 8000000 in
set_option maxRecDepth 100000 in
theorem impl_NextSpot.calls (a0_0 : Int) (a0_1 : Int) (a1 : Int) (r1 : Int) (r2 : Int) (w : World) (h : impl_NextSpot.f a0_0 a0_1 a1 = some (r1, r2)) :
  Calls Try.prog 69 #[.agg #[.int .i8 a0_0, .int .i8 a0_1], .int .i64 a1] w fun e w' => e = .returned (.agg #[.int .i8 r1, .int .i8 r2]) ∧ Below w.heap.size w w' := by
 have hu39 := Try.underlying39
 have HB := Aside0.mk (Below.refl w.heap.size w)
 have H : (if a1 = 0 then (some (a0_0, IntKind.i8.wrap (a0_1 - 1))) else (if a1 = 1 then (some (IntKind.i8.wrap (a0_0 + 1), a0_1)) else (if a1 = 2 then (some (a0_0, IntKind.i8.wrap (a0_1 + 1))) else (if a1 = 3 then (some (IntKind.i8.wrap (a0_0 - 1), a0_1)) else (some (a0_0, a0_1)))))) = some (r1, r2) := h
 clear h
 by_cases c3 : a1 = 0
 ·rw [if_pos c3] at H
  have c3b0 : (a1 == 0) = true := beq_iff_eq.mpr c3; have c3b1 : (a1 != 0) = false := bne_eq_false_iff_eq.mpr c3; clear c3; simp only [Option.some.injEq, Prod.mk.injEq] at H; obtain ⟨rfl, rfl⟩ := H
  go_enter Try.func69, Try.ntmps69
  go_wp2_with (first | ((with_reducible refine gate_dst (N := 2) rfl ?_); refine box_event ?hg (N := 2) ?hd (cs := #[.int .i8 a0_0, .int .i8 a0_1]) (t := 39) ?hr ?_; (case hd => rfl); (case hg => rfl); (case hr => first | (go_simp; done) | (go_simp; rfl)); intro gb245 hg w4 hbox hb; have n0_ := bst HB hb; have n1_ := Aside0.mk (hbox); have n2_ := gwl HB hg; have n3_ := gwl HB hg; clear HB; have HB := n0_; have BK245 := n1_; have GW245 := n2_; have GE245 := n3_; clear n0_ n1_ n2_ n3_; clear hb hbox hg) | ((with_reducible refine gate_dst (N := 4) rfl ?_); refine box_event ?hg (N := 4) ?hd (cs := #[.int .i8 0, .int .i8 0]) (t := 39) ?hr ?_; (case hd => rfl); (case hg => rfl); (case hr => first | (go_simp; done) | (go_simp; rfl)); intro gb246 hg w5 hbox hb; have n0_ := bkb BK245 hb; have n1_ := bst HB hb; have n2_ := Aside0.mk (hbox); have n3_ := gwl HB hg; have n4_ := gwl HB hg; have n5_ := nbl BK245 hg; have n6_ := nbg BK245 hg; clear BK245; clear HB; have BK245 := n0_; have HB := n1_; have BK246 := n2_; have GW246 := n3_; have GE246 := n4_; have NB245_246 := n5_; have NB246_245 := n6_; clear n0_ n1_ n2_ n3_ n4_ n5_ n6_; clear hb hbox hg; have hnb6 := NB245_246.out; have hnc6 := NB246_245.out; have hcz7_0 : w5.cell? ⟨gb245, 0, none⟩ = some (.int .i8 a0_0) := (blk_cell BK245.out 0).trans rfl; have hcz7_1 : w5.cell? ⟨gb245, 1, none⟩ = some (.int .i8 a0_1) := (blk_cell BK245.out 1).trans rfl; have hfz7_0 := blk_frozen BK245.out 0; have hfz7_1 := blk_frozen BK245.out 1; have hcz8_0 : w5.cell? ⟨gb246, 0, none⟩ = some (.int .i8 0) := (blk_cell BK246.out 0).trans rfl; have hcz8_1 : w5.cell? ⟨gb246, 1, none⟩ = some (.int .i8 0) := (blk_cell BK246.out 1).trans rfl; have hfz8_0 := blk_frozen BK246.out 0; have hfz8_1 := blk_frozen BK246.out 1))
  refine bodyPost_ret (results_cell_row rfl _ _ gb246 39 #[.int .i8 a0_0, .int .i8 (IntKind.i8.wrap (a0_1 - 1))] (0, 0) _ rfl (by (with_reducible repeat (first | refine blk_drewN ?_ _ | refine blk_drew ?_ | refine blk_alloc ?_ _)); refine blk_put (cs := #[.int .i8 a0_0, .int .i8 0]) ?_ 1 _ rfl; (with_reducible repeat (first | refine blk_drewN ?_ _ | refine blk_drew ?_ | refine blk_alloc ?_ _)); refine blk_put (cs := #[.int .i8 0, .int .i8 0]) ?_ 0 _ rfl; (with_reducible repeat (first | refine blk_drewN ?_ _ | refine blk_drew ?_ | refine blk_alloc ?_ _)); refine blk_far ?_ NB246_245.out _; (with_reducible repeat (first | refine blk_drewN ?_ _ | refine blk_drew ?_ | refine blk_alloc ?_ _)); exact BK246.out) Try.underlying39 rfl (by kernel_rfl)) rfl ?_; exact ⟨by first | rfl | (simp [errW_none, errW_some] <;> rfl) | (simp [*, errW_none, errW_some] <;> rfl), pbs HB⟩
 ·rw [if_neg c3] at H
  have c3b0 : (a1 == 0) = false := beq_eq_false_iff_ne.mpr c3; have c3b1 : (a1 != 0) = true := bne_iff_ne.mpr c3
  by_cases c9 : a1 = 1
  ·rw [if_pos c9] at H
   have c9b0 : (a1 == 1) = true := beq_iff_eq.mpr c9; have c9b1 : (a1 != 1) = false := bne_eq_false_iff_eq.mpr c9; clear c9; simp only [Option.some.injEq, Prod.mk.injEq] at H; obtain ⟨rfl, rfl⟩ := H
   go_enter Try.func69, Try.ntmps69
   go_wp2_with (first | ((with_reducible refine gate_dst (N := 2) rfl ?_); refine box_event ?hg (N := 2) ?hd (cs := #[.int .i8 a0_0, .int .i8 a0_1]) (t := 39) ?hr ?_; (case hd => rfl); (case hg => rfl); (case hr => first | (go_simp; done) | (go_simp; rfl)); intro gb245 hg w10 hbox hb; have n0_ := bst HB hb; have n1_ := Aside0.mk (hbox); have n2_ := gwl HB hg; have n3_ := gwl HB hg; clear HB; have HB := n0_; have BK245 := n1_; have GW245 := n2_; have GE245 := n3_; clear n0_ n1_ n2_ n3_; clear hb hbox hg) | ((with_reducible refine gate_dst (N := 4) rfl ?_); refine box_event ?hg (N := 4) ?hd (cs := #[.int .i8 0, .int .i8 0]) (t := 39) ?hr ?_; (case hd => rfl); (case hg => rfl); (case hr => first | (go_simp; done) | (go_simp; rfl)); intro gb246 hg w11 hbox hb; have n0_ := bkb BK245 hb; have n1_ := bst HB hb; have n2_ := Aside0.mk (hbox); have n3_ := gwl HB hg; have n4_ := gwl HB hg; have n5_ := nbl BK245 hg; have n6_ := nbg BK245 hg; clear BK245; clear HB; have BK245 := n0_; have HB := n1_; have BK246 := n2_; have GW246 := n3_; have GE246 := n4_; have NB245_246 := n5_; have NB246_245 := n6_; clear n0_ n1_ n2_ n3_ n4_ n5_ n6_; clear hb hbox hg; have hnb12 := NB245_246.out; have hnc12 := NB246_245.out; have hcz13_0 : w11.cell? ⟨gb245, 0, none⟩ = some (.int .i8 a0_0) := (blk_cell BK245.out 0).trans rfl; have hcz13_1 : w11.cell? ⟨gb245, 1, none⟩ = some (.int .i8 a0_1) := (blk_cell BK245.out 1).trans rfl; have hfz13_0 := blk_frozen BK245.out 0; have hfz13_1 := blk_frozen BK245.out 1; have hcz14_0 : w11.cell? ⟨gb246, 0, none⟩ = some (.int .i8 0) := (blk_cell BK246.out 0).trans rfl; have hcz14_1 : w11.cell? ⟨gb246, 1, none⟩ = some (.int .i8 0) := (blk_cell BK246.out 1).trans rfl; have hfz14_0 := blk_frozen BK246.out 0; have hfz14_1 := blk_frozen BK246.out 1))
   refine bodyPost_ret (results_cell_row rfl _ _ gb246 39 #[.int .i8 (IntKind.i8.wrap (a0_0 + 1)), .int .i8 a0_1] (0, 0) _ rfl (by (with_reducible repeat (first | refine blk_drewN ?_ _ | refine blk_drew ?_ | refine blk_alloc ?_ _)); refine blk_put (cs := #[.int .i8 (IntKind.i8.wrap (a0_0 + 1)), .int .i8 0]) ?_ 1 _ rfl; (with_reducible repeat (first | refine blk_drewN ?_ _ | refine blk_drew ?_ | refine blk_alloc ?_ _)); refine blk_put (cs := #[.int .i8 0, .int .i8 0]) ?_ 0 _ rfl; (with_reducible repeat (first | refine blk_drewN ?_ _ | refine blk_drew ?_ | refine blk_alloc ?_ _)); refine blk_far ?_ NB246_245.out _; (with_reducible repeat (first | refine blk_drewN ?_ _ | refine blk_drew ?_ | refine blk_alloc ?_ _)); exact BK246.out) Try.underlying39 rfl (by kernel_rfl)) rfl ?_; exact ⟨by first | rfl | (simp [errW_none, errW_some] <;> rfl) | (simp [*, errW_none, errW_some] <;> rfl), pbs HB⟩
  ·rw [if_neg c9] at H
   have c9b0 : (a1 == 1) = false := beq_eq_false_iff_ne.mpr c9; have c9b1 : (a1 != 1) = true := bne_iff_ne.mpr c9
   by_cases c15 : a1 = 2
   ·rw [if_pos c15] at H
    have c15b0 : (a1 == 2) = true := beq_iff_eq.mpr c15; have c15b1 : (a1 != 2) = false := bne_eq_false_iff_eq.mpr c15; clear c15; simp only [Option.some.injEq, Prod.mk.injEq] at H; obtain ⟨rfl, rfl⟩ := H
    go_enter Try.func69, Try.ntmps69
    go_wp2_with (first | ((with_reducible refine gate_dst (N := 2) rfl ?_); refine box_event ?hg (N := 2) ?hd (cs := #[.int .i8 a0_0, .int .i8 a0_1]) (t := 39) ?hr ?_; (case hd => rfl); (case hg => rfl); (case hr => first | (go_simp; done) | (go_simp; rfl)); intro gb245 hg w16 hbox hb; have n0_ := bst HB hb; have n1_ := Aside0.mk (hbox); have n2_ := gwl HB hg; have n3_ := gwl HB hg; clear HB; have HB := n0_; have BK245 := n1_; have GW245 := n2_; have GE245 := n3_; clear n0_ n1_ n2_ n3_; clear hb hbox hg) | ((with_reducible refine gate_dst (N := 4) rfl ?_); refine box_event ?hg (N := 4) ?hd (cs := #[.int .i8 0, .int .i8 0]) (t := 39) ?hr ?_; (case hd => rfl); (case hg => rfl); (case hr => first | (go_simp; done) | (go_simp; rfl)); intro gb246 hg w17 hbox hb; have n0_ := bkb BK245 hb; have n1_ := bst HB hb; have n2_ := Aside0.mk (hbox); have n3_ := gwl HB hg; have n4_ := gwl HB hg; have n5_ := nbl BK245 hg; have n6_ := nbg BK245 hg; clear BK245; clear HB; have BK245 := n0_; have HB := n1_; have BK246 := n2_; have GW246 := n3_; have GE246 := n4_; have NB245_246 := n5_; have NB246_245 := n6_; clear n0_ n1_ n2_ n3_ n4_ n5_ n6_; clear hb hbox hg; have hnb18 := NB245_246.out; have hnc18 := NB246_245.out; have hcz19_0 : w17.cell? ⟨gb245, 0, none⟩ = some (.int .i8 a0_0) := (blk_cell BK245.out 0).trans rfl; have hcz19_1 : w17.cell? ⟨gb245, 1, none⟩ = some (.int .i8 a0_1) := (blk_cell BK245.out 1).trans rfl; have hfz19_0 := blk_frozen BK245.out 0; have hfz19_1 := blk_frozen BK245.out 1; have hcz20_0 : w17.cell? ⟨gb246, 0, none⟩ = some (.int .i8 0) := (blk_cell BK246.out 0).trans rfl; have hcz20_1 : w17.cell? ⟨gb246, 1, none⟩ = some (.int .i8 0) := (blk_cell BK246.out 1).trans rfl; have hfz20_0 := blk_frozen BK246.out 0; have hfz20_1 := blk_frozen BK246.out 1))
    refine bodyPost_ret (results_cell_row rfl _ _ gb246 39 #[.int .i8 a0_0, .int .i8 (IntKind.i8.wrap (a0_1 + 1))] (0, 0) _ rfl (by (with_reducible repeat (first | refine blk_drewN ?_ _ | refine blk_drew ?_ | refine blk_alloc ?_ _)); refine blk_put (cs := #[.int .i8 a0_0, .int .i8 0]) ?_ 1 _ rfl; (with_reducible repeat (first | refine blk_drewN ?_ _ | refine blk_drew ?_ | refine blk_alloc ?_ _)); refine blk_put (cs := #[.int .i8 0, .int .i8 0]) ?_ 0 _ rfl; (with_reducible repeat (first | refine blk_drewN ?_ _ | refine blk_drew ?_ | refine blk_alloc ?_ _)); refine blk_far ?_ NB246_245.out _; (with_reducible repeat (first | refine blk_drewN ?_ _ | refine blk_drew ?_ | refine blk_alloc ?_ _)); exact BK246.out) Try.underlying39 rfl (by kernel_rfl)) rfl ?_; exact ⟨by first | rfl | (simp [errW_none, errW_some] <;> rfl) | (simp [*, errW_none, errW_some] <;> rfl), pbs HB⟩
   ·rw [if_neg c15] at H
    have c15b0 : (a1 == 2) = false := beq_eq_false_iff_ne.mpr c15; have c15b1 : (a1 != 2) = true := bne_iff_ne.mpr c15
    by_cases c21 : a1 = 3
    ·rw [if_pos c21] at H
     have c21b0 : (a1 == 3) = true := beq_iff_eq.mpr c21; have c21b1 : (a1 != 3) = false := bne_eq_false_iff_eq.mpr c21; clear c21; simp only [Option.some.injEq, Prod.mk.injEq] at H; obtain ⟨rfl, rfl⟩ := H
     go_enter Try.func69, Try.ntmps69
     go_wp2_with (first | ((with_reducible refine gate_dst (N := 2) rfl ?_); refine box_event ?hg (N := 2) ?hd (cs := #[.int .i8 a0_0, .int .i8 a0_1]) (t := 39) ?hr ?_; (case hd => rfl); (case hg => rfl); (case hr => first | (go_simp; done) | (go_simp; rfl)); intro gb245 hg w22 hbox hb; have n0_ := bst HB hb; have n1_ := Aside0.mk (hbox); have n2_ := gwl HB hg; have n3_ := gwl HB hg; clear HB; have HB := n0_; have BK245 := n1_; have GW245 := n2_; have GE245 := n3_; clear n0_ n1_ n2_ n3_; clear hb hbox hg) | ((with_reducible refine gate_dst (N := 4) rfl ?_); refine box_event ?hg (N := 4) ?hd (cs := #[.int .i8 0, .int .i8 0]) (t := 39) ?hr ?_; (case hd => rfl); (case hg => rfl); (case hr => first | (go_simp; done) | (go_simp; rfl)); intro gb246 hg w23 hbox hb; have n0_ := bkb BK245 hb; have n1_ := bst HB hb; have n2_ := Aside0.mk (hbox); have n3_ := gwl HB hg; have n4_ := gwl HB hg; have n5_ := nbl BK245 hg; have n6_ := nbg BK245 hg; clear BK245; clear HB; have BK245 := n0_; have HB := n1_; have BK246 := n2_; have GW246 := n3_; have GE246 := n4_; have NB245_246 := n5_; have NB246_245 := n6_; clear n0_ n1_ n2_ n3_ n4_ n5_ n6_; clear hb hbox hg; have hnb24 := NB245_246.out; have hnc24 := NB246_245.out; have hcz25_0 : w23.cell? ⟨gb245, 0, none⟩ = some (.int .i8 a0_0) := (blk_cell BK245.out 0).trans rfl; have hcz25_1 : w23.cell? ⟨gb245, 1, none⟩ = some (.int .i8 a0_1) := (blk_cell BK245.out 1).trans rfl; have hfz25_0 := blk_frozen BK245.out 0; have hfz25_1 := blk_frozen BK245.out 1; have hcz26_0 : w23.cell? ⟨gb246, 0, none⟩ = some (.int .i8 0) := (blk_cell BK246.out 0).trans rfl; have hcz26_1 : w23.cell? ⟨gb246, 1, none⟩ = some (.int .i8 0) := (blk_cell BK246.out 1).trans rfl; have hfz26_0 := blk_frozen BK246.out 0; have hfz26_1 := blk_frozen BK246.out 1))
     refine bodyPost_ret (results_cell_row rfl _ _ gb246 39 #[.int .i8 (IntKind.i8.wrap (a0_0 - 1)), .int .i8 a0_1] (0, 0) _ rfl (by (with_reducible repeat (first | refine blk_drewN ?_ _ | refine blk_drew ?_ | refine blk_alloc ?_ _)); refine blk_put (cs := #[.int .i8 (IntKind.i8.wrap (a0_0 - 1)), .int .i8 0]) ?_ 1 _ rfl; (with_reducible repeat (first | refine blk_drewN ?_ _ | refine blk_drew ?_ | refine blk_alloc ?_ _)); refine blk_put (cs := #[.int .i8 0, .int .i8 0]) ?_ 0 _ rfl; (with_reducible repeat (first | refine blk_drewN ?_ _ | refine blk_drew ?_ | refine blk_alloc ?_ _)); refine blk_far ?_ NB246_245.out _; (with_reducible repeat (first | refine blk_drewN ?_ _ | refine blk_drew ?_ | refine blk_alloc ?_ _)); exact BK246.out) Try.underlying39 rfl (by kernel_rfl)) rfl ?_; exact ⟨by first | rfl | (simp [errW_none, errW_some] <;> rfl) | (simp [*, errW_none, errW_some] <;> rfl), pbs HB⟩
    ·rw [if_neg c21] at H
     have c21b0 : (a1 == 3) = false := beq_eq_false_iff_ne.mpr c21; have c21b1 : (a1 != 3) = true := bne_iff_ne.mpr c21; simp only [Option.some.injEq, Prod.mk.injEq] at H; obtain ⟨rfl, rfl⟩ := H
     go_enter Try.func69, Try.ntmps69
     go_wp2_with (first | ((with_reducible refine gate_dst (N := 2) rfl ?_); refine box_event ?hg (N := 2) ?hd (cs := #[.int .i8 a0_0, .int .i8 a0_1]) (t := 39) ?hr ?_; (case hd => rfl); (case hg => rfl); (case hr => first | (go_simp; done) | (go_simp; rfl)); intro gb245 hg w27 hbox hb; have n0_ := bst HB hb; have n1_ := Aside0.mk (hbox); have n2_ := gwl HB hg; have n3_ := gwl HB hg; clear HB; have HB := n0_; have BK245 := n1_; have GW245 := n2_; have GE245 := n3_; clear n0_ n1_ n2_ n3_; clear hb hbox hg) | ((with_reducible refine gate_dst (N := 4) rfl ?_); refine box_event ?hg (N := 4) ?hd (cs := #[.int .i8 0, .int .i8 0]) (t := 39) ?hr ?_; (case hd => rfl); (case hg => rfl); (case hr => first | (go_simp; done) | (go_simp; rfl)); intro gb246 hg w28 hbox hb; have n0_ := bkb BK245 hb; have n1_ := bst HB hb; have n2_ := Aside0.mk (hbox); have n3_ := gwl HB hg; have n4_ := gwl HB hg; have n5_ := nbl BK245 hg; have n6_ := nbg BK245 hg; clear BK245; clear HB; have BK245 := n0_; have HB := n1_; have BK246 := n2_; have GW246 := n3_; have GE246 := n4_; have NB245_246 := n5_; have NB246_245 := n6_; clear n0_ n1_ n2_ n3_ n4_ n5_ n6_; clear hb hbox hg; have hnb29 := NB245_246.out; have hnc29 := NB246_245.out; have hcz30_0 : w28.cell? ⟨gb245, 0, none⟩ = some (.int .i8 a0_0) := (blk_cell BK245.out 0).trans rfl; have hcz30_1 : w28.cell? ⟨gb245, 1, none⟩ = some (.int .i8 a0_1) := (blk_cell BK245.out 1).trans rfl; have hfz30_0 := blk_frozen BK245.out 0; have hfz30_1 := blk_frozen BK245.out 1; have hcz31_0 : w28.cell? ⟨gb246, 0, none⟩ = some (.int .i8 0) := (blk_cell BK246.out 0).trans rfl; have hcz31_1 : w28.cell? ⟨gb246, 1, none⟩ = some (.int .i8 0) := (blk_cell BK246.out 1).trans rfl; have hfz31_0 := blk_frozen BK246.out 0; have hfz31_1 := blk_frozen BK246.out 1))
     refine bodyPost_ret (results_cell_row rfl _ _ gb246 39 #[.int .i8 a0_0, .int .i8 a0_1] (0, 0) _ rfl (by (with_reducible repeat (first | refine blk_drewN ?_ _ | refine blk_drew ?_ | refine blk_alloc ?_ _)); refine blk_put (cs := #[.int .i8 a0_0, .int .i8 0]) ?_ 1 _ rfl; (with_reducible repeat (first | refine blk_drewN ?_ _ | refine blk_drew ?_ | refine blk_alloc ?_ _)); refine blk_put (cs := #[.int .i8 0, .int .i8 0]) ?_ 0 _ rfl; (with_reducible repeat (first | refine blk_drewN ?_ _ | refine blk_drew ?_ | refine blk_alloc ?_ _)); exact BK246.out) Try.underlying39 rfl (by kernel_rfl)) rfl ?_; exact ⟨by first | rfl | (simp [errW_none, errW_some] <;> rfl) | (simp [*, errW_none, errW_some] <;> rfl), pbs HB⟩
end Go.Proofs.Ytjpponjekcemjaa.PB
end
section
namespace Go.Proofs.Ytjpponjekcemjaa.PB
open Go.RowKit Go.Proofs.YtjpponjekcemjaaW.PrintWords Go.Proofs.YtjpponjekcemjaaW.PrintLast Go.Proofs.YtjpponjekcemjaaW.PrintMore Go.Proofs.Ytjpponjekcemjaa.La
attribute [local go_sem] max2_int min2_int max_two min_two max_three min_three max_four min_four   -- for this text's walks alone
set_option linter.unusedVariables false
set_option linter.unusedSimpArgs false
attribute [local go_sem high] eqA39
def impl_SideTo.l0 : Nat → Int → Int → Int → Int → Int → Option (Int)
 | 0, _, _, _, _, _ => none
 | k + 1, x6, x248000, x248001, x249000, x249001 => if x6 < 4 then ((impl_NextSpot.f x248000 x248001 x6).bind fun bt249 => (if (bt249.1 == x249000 && (bt249.2 == x249001)) = true then (some x6) else (impl_SideTo.l0 k (wrap64 (x6 + 1)) x248000 x248001 x249000 x249001))) else (some (-1))
def impl_SideTo.f (k : Nat) (a0_0 : Int) (a0_1 : Int) (a1_0 : Int) (a1_1 : Int) : Option (Int) := impl_SideTo.l0 k 0 a0_0 a0_1 a1_0 a1_1
theorem impl_SideTo.mono_l : ∀ k, (∀ y0 y1 y2 y3 y4, LeO (impl_SideTo.l0 k y0 y1 y2 y3 y4) (impl_SideTo.l0 (k + 1) y0 y1 y2 y3 y4))
 | 0 => fun _ _ _ _ _ r h => by simp [impl_SideTo.l0] at h
 | k + 1 => by
  have ih0 := impl_SideTo.mono_l k
  ·intro y0 y1 y2 y3 y4
   unfold impl_SideTo.l0
   repeat' first
   | (with_reducible exact ih0 _ _ _ _ _)
   | (with_reducible exact LeO.refl _)
   | (with_reducible exact LeO.none _)
   | (with_reducible refine LeO.ite ?_ ?_)
   | (with_reducible refine LeO.bind ?_ (fun _ => ?_))
   | exact ih0 _ _ _ _ _
   | exact LeO.none _
   | refine LeO.ite ?_ ?_
   | refine LeO.bind ?_ (fun _ => ?_)
theorem impl_SideTo.mono : ∀ a0 a1 a2 a3 k, LeO (impl_SideTo.f k a0 a1 a2 a3) (impl_SideTo.f (k + 1) a0 a1 a2 a3) := by
 intro a0 a1 a2 a3 k
 have ih0 := impl_SideTo.mono_l k
 unfold impl_SideTo.f
 repeat' first
   | (with_reducible exact ih0 _ _ _ _ _)
   | (with_reducible exact LeO.refl _)
   | (with_reducible exact LeO.none _)
   | (with_reducible refine LeO.ite ?_ ?_)
   | (with_reducible refine LeO.bind ?_ (fun _ => ?_))
   | exact ih0 _ _ _ _ _
   | exact LeO.none _
   | refine LeO.ite ?_ ?_
   | refine LeO.bind ?_ (fun _ => ?_)
set_option maxHeartbeats 8000000 in
set_option maxRecDepth 100000 in
theorem impl_SideTo.calls (k : Nat) (a0_0 : Int) (a0_1 : Int) (a1_0 : Int) (a1_1 : Int) (r : Int) (w : World) (h : impl_SideTo.f k a0_0 a0_1 a1_0 a1_1 = some r) :
  Calls Try.prog 94 #[.agg #[.int .i8 a0_0, .int .i8 a0_1], .agg #[.int .i8 a1_0, .int .i8 a1_1]] w fun e w' => e = .returned (.int .i64 r) ∧ Below w.heap.size w w' := by
 have hu39 := Try.underlying39
 have HB := Aside0.mk (Below.refl w.heap.size w)
 have H : (impl_SideTo.l0 k 0 a0_0 a0_1 a1_0 a1_1) = some r := h
 clear h
 have H' := Aside0.mk H
 clear H
 go_enter Try.func94, Try.ntmps94
 go_wp2_with (first | ((with_reducible refine gate_dst (N := 2) rfl ?_); refine box_event ?hg (N := 2) ?hd (cs := #[.int .i8 a0_0, .int .i8 a0_1]) (t := 39) ?hr ?_; (case hd => rfl); (case hg => rfl); (case hr => first | (go_simp; done) | (go_simp; rfl)); intro gb247 hg w3 hbox hb; have n0_ := bst HB hb; have n1_ := Aside0.mk (hbox); have n2_ := gwl HB hg; have n3_ := gwl HB hg; clear HB; have HB := n0_; have BK247 := n1_; have GW247 := n2_; have GE247 := n3_; clear n0_ n1_ n2_ n3_; clear hb hbox hg) | ((with_reducible refine gate_dst (N := 3) rfl ?_); refine box_event ?hg (N := 3) ?hd (cs := #[.int .i8 a1_0, .int .i8 a1_1]) (t := 39) ?hr ?_; (case hd => rfl); (case hg => rfl); (case hr => first | (go_simp; done) | (go_simp; rfl)); intro gb248 hg w4 hbox hb; have n0_ := bkb BK247 hb; have n1_ := bst HB hb; have n2_ := Aside0.mk (hbox); have n3_ := gwl HB hg; have n4_ := gwl HB hg; have n5_ := nbl BK247 hg; have n6_ := nbg BK247 hg; clear BK247; clear HB; have BK247 := n0_; have HB := n1_; have BK248 := n2_; have GW248 := n3_; have GE248 := n4_; have NB247_248 := n5_; have NB248_247 := n6_; clear n0_ n1_ n2_ n3_ n4_ n5_ n6_; clear hb hbox hg))
 go_loopg [6] k (fun kq v6 w' => ∃ (x6_1 : Int), v6 = .int .i64 x6_1 ∧ Aside0 (impl_SideTo.l0 kq x6_1 a0_0 a0_1 a1_0 a1_1 = some r) ∧ Aside0 (kq ≤ k) ∧ Aside0 (w'.heap[gb247]? = some (.cells #[.int .i8 a0_0, .int .i8 a0_1] 39 (0, 0))) ∧ Aside0 (w'.heap[gb248]? = some (.cells #[.int .i8 a1_0, .int .i8 a1_1] 39 (0, 0))) ∧ Aside0 (Below w.heap.size w w'))
 case atStart => exact ⟨(0), (by first | rfl | (simp; done) | (simp [*]; done)), H', ⟨Nat.le_refl _⟩, ⟨pk BK247⟩, ⟨pk BK248⟩, ⟨pbs HB⟩⟩
 case round =>
  clear H'
  try clear p2
  obtain ⟨x6_1, rfl, HA, HK1, BK247, BK248, HB⟩ := hrel
  cases gk with
  | zero => exact absurd HA.out (by simp [impl_SideTo.l0])
  | succ k1 =>
   have H := HA.out; clear HA; simp only [impl_SideTo.l0] at H
   by_cases c5 : x6_1 < 4
   ·rw [if_pos c5] at H
    have c5b0 : decide (x6_1 < 4) = true := decide_eq_true c5; clear c5; replace H := Option.bind_eq_some_iff.mp H; obtain ⟨⟨t249, t250⟩, A60, H⟩ := H; replace H : (if (t249 == a1_0 && (t250 == a1_1)) = true then (some x6_1) else (impl_SideTo.l0 k1 (wrap64 (x6_1 + 1)) a0_0 a0_1 a1_0 a1_1)) = some r := H; have A6 := Aside0.mk A60; clear A60
    by_cases c7 : (t249 == a1_0 && (t250 == a1_1)) = true
    ·rw [if_pos c7] at H
     have c7b0 : (t249 == a1_0 && (t250 == a1_1)) = true := c7; (try (have c7b1 : decide (t249 = a1_0 && (t250 == a1_1)) = true := by simpa using c7)); (try (have c7b2 : (t249 == a1_0 && (t250 == a1_1)) = true := by simpa using c7)); clear c7; obtain rfl := Option.some.inj H
     try go_wp2
     replace BK247 := Aside0.mk (blk_drew BK247.out); replace BK248 := Aside0.mk (blk_drew BK248.out); replace HB := Aside0.mk (below_drew1 HB.out); refine start_ (n := 5) (S := fun w' => w'.cell? ⟨gb247, 0, none⟩ = some (.int .i8 a0_0) ∧ w'.cell? ⟨gb247, 1, none⟩ = some (.int .i8 a0_1) ∧ w'.cell? ⟨gb248, 0, none⟩ = some (.int .i8 a1_0) ∧ w'.cell? ⟨gb248, 1, none⟩ = some (.int .i8 a1_1)) (ds := []) (bA 5 0) (by kernel_rfl) rfl rfl ⟨(blk_cell BK247.out 0).trans rfl, (blk_cell BK247.out 1).trans rfl, (blk_cell BK248.out 0).trans rfl, (blk_cell BK248.out 1).trans rfl⟩ (fun hHeld => ?_); generalize wr.drew = w8 at BK247 BK248 HB hHeld ⊢; refine pure_ (i := 1) (N := some 10) (v := ?_) (a' := ?_) (bA 5 2) rfl rfl (by kernel_rfl) (fun _ _ _ h => h) (Or.inl ⟨by rfl, ?_⟩) ?_ ?_; rotate_left
     ·intro w'
      go_simp; with_reducible rfl
     rotate_left
     ·simp only [Act.put, List.setIfInBounds_toArray, List.set_cons_zero, List.set_cons_succ, i64_w, i32_w]
      rfl
     refine take_ (i := 0) (N := some 9) (v := ?_) (a' := ?_) (bA 5 3) rfl rfl (by kernel_rfl) (fun _ _ _ h => h) (Or.inl ⟨by rfl, ?_⟩) hHeld ?_ ?_; rotate_left
     ·rintro w' ⟨s0, s1, s2, s3⟩
      go_simp; with_reducible rfl
     rotate_left
     ·simp only [Act.put, List.setIfInBounds_toArray, List.set_cons_zero, List.set_cons_succ, i64_w, i32_w]
      rfl
     refine take_ (i := 3) (N := some 12) (v := ?_) (a' := ?_) (bA 5 11) rfl rfl (by kernel_rfl) (fun _ _ _ h => h) (Or.inl ⟨by rfl, ?_⟩) hHeld ?_ ?_; rotate_left
     ·rintro w' ⟨s0, s1, s2, s3⟩
      go_simp; with_reducible rfl
     rotate_left
     ·simp only [Act.put, List.setIfInBounds_toArray, List.set_cons_zero, List.set_cons_succ, i64_w, i32_w]
      rfl
     refine one_ (i := 2) (N := some 11) (bA 5 15) rfl rfl (by kernel_rfl) (by decide) (fun K hK => ?_); refine gs Try.func69 #[.agg #[.int .i8 a0_0, .int .i8 a0_1], .int .i64 x6_1] ?_; with_reducible refine (impl_NextSpot.calls a0_0 a0_1 x6_1 t249 t250 _ A6.out).mono ?_
     rintro e w9 ⟨rfl, hb⟩
     refine ⟨_, rfl, ?_⟩; replace BK247 := bkb BK247 hb; replace BK248 := bkb BK248 hb; replace HB := bst HB hb; (try clear hb); (try clear hb2); (try clear hk); (try clear hi); refine hK.out _ _ ⟨(blk_cell BK247.out 0).trans rfl, (blk_cell BK247.out 1).trans rfl, (blk_cell BK248.out 0).trans rfl, (blk_cell BK248.out 1).trans rfl⟩ (fun hHeld => ?_); clear hK K; refine nm 11 ?_; refine pure_ (i := 4) (N := some 13) (v := ?_) (a' := ?_) (bA 5 31) rfl rfl (by kernel_rfl) (fun _ _ _ h => h) (Or.inl ⟨by rfl, ?_⟩) ?_ ?_; rotate_left
     ·intro w'
      go_simp; with_reducible rfl
     rotate_left
     ·simp only [Act.put, List.setIfInBounds_toArray, List.set_cons_zero, List.set_cons_succ, i64_w, i32_w]
      rfl
     refine done_ (by kernel_rfl) ?_
     try go_wp2
     go_ret
     exact ⟨by first | rfl | (simp [errW_none, errW_some] <;> rfl) | (simp [*, errW_none, errW_some] <;> rfl), pbs HB⟩
    ·rw [if_neg c7] at H
     have c7b0 : (t249 == a1_0 && (t250 == a1_1)) = false := by simpa using c7
     (try (have c7b1 : decide (t249 = a1_0 && (t250 == a1_1)) = false := by simpa using c7)); (try (have c7b2 : (t249 == a1_0 && (t250 == a1_1)) = false := by simpa using c7)); (try (have c7b3 : ¬ (t249 = a1_0 && (t250 == a1_1)) := by simpa using c7)); clear c7; have H' := Aside0.mk H; clear H
     try go_wp2
     replace BK247 := Aside0.mk (blk_drew BK247.out); replace BK248 := Aside0.mk (blk_drew BK248.out); replace HB := Aside0.mk (below_drew1 HB.out); refine start_ (n := 5) (S := fun w' => w'.cell? ⟨gb247, 0, none⟩ = some (.int .i8 a0_0) ∧ w'.cell? ⟨gb247, 1, none⟩ = some (.int .i8 a0_1) ∧ w'.cell? ⟨gb248, 0, none⟩ = some (.int .i8 a1_0) ∧ w'.cell? ⟨gb248, 1, none⟩ = some (.int .i8 a1_1)) (ds := []) (bA 5 0) (by kernel_rfl) rfl rfl ⟨(blk_cell BK247.out 0).trans rfl, (blk_cell BK247.out 1).trans rfl, (blk_cell BK248.out 0).trans rfl, (blk_cell BK248.out 1).trans rfl⟩ (fun hHeld => ?_); generalize wr.drew = w10 at BK247 BK248 HB hHeld ⊢; refine pure_ (i := 1) (N := some 10) (v := ?_) (a' := ?_) (bA 5 2) rfl rfl (by kernel_rfl) (fun _ _ _ h => h) (Or.inl ⟨by rfl, ?_⟩) ?_ ?_; rotate_left
     ·intro w'
      go_simp; with_reducible rfl
     rotate_left
     ·simp only [Act.put, List.setIfInBounds_toArray, List.set_cons_zero, List.set_cons_succ, i64_w, i32_w]
      rfl
     refine take_ (i := 0) (N := some 9) (v := ?_) (a' := ?_) (bA 5 3) rfl rfl (by kernel_rfl) (fun _ _ _ h => h) (Or.inl ⟨by rfl, ?_⟩) hHeld ?_ ?_; rotate_left
     ·rintro w' ⟨s0, s1, s2, s3⟩
      go_simp; with_reducible rfl
     rotate_left
     ·simp only [Act.put, List.setIfInBounds_toArray, List.set_cons_zero, List.set_cons_succ, i64_w, i32_w]
      rfl
     refine take_ (i := 3) (N := some 12) (v := ?_) (a' := ?_) (bA 5 11) rfl rfl (by kernel_rfl) (fun _ _ _ h => h) (Or.inl ⟨by rfl, ?_⟩) hHeld ?_ ?_; rotate_left
     ·rintro w' ⟨s0, s1, s2, s3⟩
      go_simp; with_reducible rfl
     rotate_left
     ·simp only [Act.put, List.setIfInBounds_toArray, List.set_cons_zero, List.set_cons_succ, i64_w, i32_w]
      rfl
     refine one_ (i := 2) (N := some 11) (bA 5 15) rfl rfl (by kernel_rfl) (by decide) (fun K hK => ?_); refine gs Try.func69 #[.agg #[.int .i8 a0_0, .int .i8 a0_1], .int .i64 x6_1] ?_; with_reducible refine (impl_NextSpot.calls a0_0 a0_1 x6_1 t249 t250 _ A6.out).mono ?_
     rintro e w11 ⟨rfl, hb⟩
     refine ⟨_, rfl, ?_⟩; replace BK247 := bkb BK247 hb; replace BK248 := bkb BK248 hb; replace HB := bst HB hb; (try clear hb); (try clear hb2); (try clear hk); (try clear hi); refine hK.out _ _ ⟨(blk_cell BK247.out 0).trans rfl, (blk_cell BK247.out 1).trans rfl, (blk_cell BK248.out 0).trans rfl, (blk_cell BK248.out 1).trans rfl⟩ (fun hHeld => ?_); clear hK K; refine nm 11 ?_; refine pure_ (i := 4) (N := some 13) (v := ?_) (a' := ?_) (bA 5 31) rfl rfl (by kernel_rfl) (fun _ _ _ h => h) (Or.inl ⟨by rfl, ?_⟩) ?_ ?_; rotate_left
     ·intro w'
      go_simp; with_reducible rfl
     rotate_left
     ·simp only [Act.put, List.setIfInBounds_toArray, List.set_cons_zero, List.set_cons_succ, i64_w, i32_w]
      rfl
     refine done_ (by kernel_rfl) ?_
     try go_wp2
     go_roundg k1
     case measure => have := HK1.out; omega
     case rel => exact ⟨(wrap64 (x6_1 + 1)), (by first | rfl | (simp; done) | (simp [*]; done)), H', ⟨by have := HK1.out; omega⟩, ⟨pk BK247⟩, ⟨pk BK248⟩, ⟨pbs HB⟩⟩
   ·rw [if_neg c5] at H
    have c5b0 : decide (x6_1 < 4) = false := decide_eq_false c5; clear c5; obtain rfl := Option.some.inj H
    go_wp2
    go_ret
    exact ⟨by first | rfl | (simp [errW_none, errW_some] <;> rfl) | (simp [*, errW_none, errW_some] <;> rfl), pbs HB⟩
def impl_Spot_95.f (l0 : List (S39)) : Option (Int) := some (l0.length : Int)
set_option maxHeartbeats 8000000 in
set_option maxRecDepth 100000 in
theorem impl_Spot_95.calls (A0 : Option Addr) (c0 : Nat) (l0 : List (S39)) (r : Int) (w : World) (hr0 : Kd.C k39 w A0 l0.length l0) (hc0 : l0.length ≤ c0) (h : impl_Spot_95.f l0 = some r) :
  Calls Try.prog 95 #[.slice A0 l0.length c0] w fun e w' => e = .returned (.int .i64 r) ∧ Drawn0 w w' := by
 have HR0 := Aside0.mk hr0
 have HC0 := Aside0.mk hc0
 clear hr0 hc0
 have H : (some (l0.length : Int)) = some r := h
 clear h
 obtain rfl := Option.some.inj H
 go_enter Try.func95, Try.ntmps95
 go_wp2
 go_ret
 exact ⟨by first | rfl | (simp; done) | (simp [*]; done), by repeat (first | exact Drawn0.refl _ | apply Drawn0.step)⟩
end Go.Proofs.Ytjpponjekcemjaa.PB
end
