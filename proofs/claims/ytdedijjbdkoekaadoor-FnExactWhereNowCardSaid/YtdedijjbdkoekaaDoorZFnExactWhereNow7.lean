/- The statement FnExactWhereNow of this program: what its proof uses, part 8 of 13. The call returns true for all arguments. No condition of its own. -/
import Derived.Test.YtdedijjbdkoekaaDoorZFnExactWhereNow6
section
namespace Go.Proofs.YtdedijjbdkoekaaDoor.PB
open Go.RowKit Go.Proofs.YtdedijjbdkoekaaDoorW.PrintWords Go.Proofs.YtdedijjbdkoekaaDoorW.PrintLast Go.Proofs.YtdedijjbdkoekaaDoorW.PrintMore Go.Proofs.YtdedijjbdkoekaaDoor.La
attribute [local go_sem] max2_int min2_int max_two min_two max_three min_three max_four min_four   -- for this text's walks alone
set_option linter.unusedVariables false
set_option linter.unusedSimpArgs false
def impl_Room_isFree.f (a0_0 : Int) (a0_1 : Int) (a0_2 : LA 10) (a1_0 : Int) (a1_1 : Int) : Option (Bool) := (impl_Room_isCell.f a0_0 a0_1 a0_2 a1_0 a1_1).bind fun t185 => (if t185 = true then (if 0 ≤ a1_1 then (if a1_1 < 10 then (if 0 ≤ a1_0 then (some ((Go.bits .and .u16 (shr .u16 (rd a0_2.l a1_1) a1_0) 1) == 0)) else (none)) else (none)) else (none)) else (some false))
def impl_Room_isFree.T1 : Bool × List (List Nat × List Nat) := (true, [([], []), ([], []), ([0, 1], [0, 1]), ([2, 2], [2]), ([3], [3]), ([4, 3], [3, 4]), ([3], [3]), ([6, 5, 3], [3, 5, 6]), ([7, 3], [3, 7]), ([3], [3]), ([9, 3], [3, 9]), ([8, 10, 3], [3, 8, 10]), ([11, 3], [3, 11]), ([12, 3], [3, 12]), ([3, 13], [3, 13]), ([14, 3, 0, 1, 2, 3, 4, 5, 6, 7, 8, 9, 10, 11, 12, 13, 14], [14])])
def impl_Room_isFree.B1 : List Nat := [0, 0, 3, 7, 15, 31, 15, 127, 255, 15, 527, 2047, 4095, 8191, 16383, 32767]
theorem impl_Room_isFree.tab1 : rtab .any (opsOf Tryd.f51 1) = impl_Room_isFree.T1 := by kernel_rfl
theorem impl_Room_isFree.bits1 : waitsOk impl_Room_isFree.T1.2 impl_Room_isFree.B1 = true := by kernel_rfl
set_option maxHeartbeats 8000000 in
set_option maxRecDepth 100000 in
theorem impl_Room_isFree.calls (a0_0 : Int) (a0_1 : Int) (a0_2 : LA 10) (a1_0 : Int) (a1_1 : Int) (r : Bool) (w : World) (h : impl_Room_isFree.f a0_0 a0_1 a0_2 a1_0 a1_1 = some r) :
  Calls Tryd.prog 51 #[.agg (mixA (Value.int .u16) [.int .i8 a0_0, .int .i8 a0_1] a0_2), .agg #[.int .i8 a1_0, .int .i8 a1_1]] w fun e w' => e = .returned (.bool r) ∧ Below w.heap.size w w' := by
 have hu31 := Tryd.underlying31
 have hu41 := Tryd.underlying41
 have HB := Aside0.mk (Below.refl w.heap.size w)
 have H : ((impl_Room_isCell.f a0_0 a0_1 a0_2 a1_0 a1_1).bind fun t185 => (if t185 = true then (if 0 ≤ a1_1 then (if a1_1 < 10 then (if 0 ≤ a1_0 then (some ((Go.bits .and .u16 (shr .u16 (rd a0_2.l a1_1) a1_0) 1) == 0)) else (none)) else (none)) else (none)) else (some false))) = some r := h
 clear h
 replace H := Option.bind_eq_some_iff.mp H
 obtain ⟨t185, A30, H⟩ := H
 replace H : (if t185 = true then (if 0 ≤ a1_1 then (if a1_1 < 10 then (if 0 ≤ a1_0 then (some ((Go.bits .and .u16 (shr .u16 (rd a0_2.l a1_1) a1_0) 1) == 0)) else (none)) else (none)) else (none)) else (some false)) = some r := H
 have A3 := Aside0.mk A30
 clear A30
 by_cases c4 : t185 = true
 ·subst c4
  have H1 : (if 0 ≤ a1_1 then (if a1_1 < 10 then (if 0 ≤ a1_0 then (some ((Go.bits .and .u16 (shr .u16 (rd a0_2.l a1_1) a1_0) 1) == 0)) else (none)) else (none)) else (none)) = some r := by rw [if_pos rfl] at H; exact H
  clear H
  have H := H1
  clear H1
  by_cases c5 : 0 ≤ a1_1
  ·rw [if_pos c5] at H
   have c5b0 : decide (0 ≤ a1_1) = true := decide_eq_true c5
   clear c5
   by_cases c6 : a1_1 < 10
   ·rw [if_pos c6] at H
    have c6b0 : decide (a1_1 < 10) = true := decide_eq_true c6
    clear c6
    by_cases c7 : 0 ≤ a1_0
    ·rw [if_pos c7] at H
     have c7b0 := eq_true c7
     have c7b1 : decide (0 ≤ a1_0) = true := decide_eq_true c7
     clear c7
     obtain ⟨ji8, hji8⟩ : ∃ j_ : Int, (shr .u16 (rd a0_2.l a1_1) a1_0) = j_ := ⟨_, rfl⟩
     replace H : (some ((Go.bits .and .u16 (ji8) 1) == 0)) = some r := by first | (rw [hji8] at H; exact H) | (simp only [hji8] at H ⊢; exact H)
     (try rw [hji8] at A3)
     have hji8_ : ((rd a0_2.l a1_1) / 2 ^ min a1_0.toNat 16) = ji8 := hji8
     have hji8z : a1_0 ≤ 16 → ((rd a0_2.l a1_1) / 2 ^ a1_0.toNat) = ji8 := shr_small hji8
     obtain rfl := Option.some.inj H
     go_enter Tryd.func51, Tryd.ntmps51
     try go_wp2_with (first | ((with_reducible refine gate_dst (N := 2) rfl ?_); refine box_event ?hg (N := 2) ?hd (cs := (mixA (Value.int .u16) [.int .i8 a0_0, .int .i8 a0_1] a0_2)) (t := 31) ?hr ?_; (case hd => rfl); (case hg => rfl); (case hr => first | (go_simp; done) | (go_simp; rfl)); intro gb183 hg w9 hbox hb; have n0_ := bst HB hb; have n1_ := Aside0.mk (hbox); have n2_ := gwl HB hg; have n3_ := gwl HB hg; clear HB; have HB := n0_; have BK183 := n1_; have GW183 := n2_; have GE183 := n3_; clear n0_ n1_ n2_ n3_; clear hb hbox hg) | ((with_reducible refine gate_dst (N := 3) rfl ?_); refine box_event ?hg (N := 3) ?hd (cs := #[.int .i8 a1_0, .int .i8 a1_1]) (t := 41) ?hr ?_; (case hd => rfl); (case hg => rfl); (case hr => first | (go_simp; done) | (go_simp; rfl)); intro gb184 hg w10 hbox hb; have n0_ := bkb BK183 hb; have n1_ := bst HB hb; have n2_ := Aside0.mk (hbox); have n3_ := gwl HB hg; have n4_ := gwl HB hg; have n5_ := nbl BK183 hg; have n6_ := nbg BK183 hg; clear BK183; clear HB; have BK183 := n0_; have HB := n1_; have BK184 := n2_; have GW184 := n3_; have GE184 := n4_; have NB183_184 := n5_; have NB184_183 := n6_; clear n0_ n1_ n2_ n3_ n4_ n5_ n6_; clear hb hbox hg))
     have n0_ := Aside0.mk (blk_drew BK183.out)
     have n1_ := Aside0.mk (blk_drew BK184.out)
     have n2_ := Aside0.mk (below_drew1 HB.out)
     clear BK183
     clear BK184
     clear HB
     have BK183 := n0_
     have BK184 := n1_
     have HB := n2_
     clear n0_ n1_ n2_
     have hpd13 : (0 ≤ a1_1) = True := eq_true (by first | omega | exact of_decide_eq_true (by first | (with_reducible assumption) | assumption))
     have hqd13 : (a1_1 < 10) = True := eq_true (by first | omega | exact of_decide_eq_true (by first | (with_reducible assumption) | assumption))
     have hrd13 : (a1_1 < ((10 : Nat) : Int)) = True := eq_true (by first | omega | exact of_decide_eq_true (by first | (with_reducible assumption) | assumption))
     refine start_ (n := 16) (S := fun w' => w'.cell? ⟨gb184, 0, none⟩ = some (.int .i8 a1_0) ∧ w'.cell? ⟨gb184, 1, none⟩ = some (.int .i8 a1_1) ∧ w'.cell? ⟨gb183, 2 + a1_1.toNat, none⟩ = some (.int .u16 (rd a0_2.l a1_1)) ∧ World.rangeAt w' gb183 0 ([.int .i8 a0_0, .int .i8 a0_1] ++ a0_2.l.map (Value.int .u16))) (ds := []) #[false, false, false, false, false, false, false, false, false, false, false, false, false, false, false, false] (by kernel_rfl) rfl rfl ⟨(blk_cell BK184.out 0).trans rfl, (blk_cell BK184.out 1).trans rfl, mix_at BK183.out 2 rfl a1_1 (of_eq_true hpd13) (of_eq_true hqd13), mix_range BK183.out⟩ (fun hHeld => ?_); refine with_tabW impl_Room_isFree.tab1 impl_Room_isFree.bits1 (fun HT_ HW_ => ?_)
     generalize w10.drew = w11 at BK183 BK184 HB hHeld ⊢
     refine take_ (i := 0) (N := some 5) (v := ?_) (a' := ?_) #[true, false, false, false, false, false, false, false, false, false, false, false, false, false, false, false] rfl rfl (take_ofW HT_.out HW_.out (by kernel_rfl)) (fun _ _ _ h => h) (Or.inl ⟨by rfl, ?_⟩) hHeld ?_ ?_
     rotate_left
     ·rintro w' ⟨s0, s1, s2, s3⟩
      refine load_mix_run (P := Tryd.prog) 31 (.tmp 2) ?_ gb183 ?_ s3 Tryd.underlying31 rfl (by kernel_rfl) rfl
      all_goals rfl
     rotate_left
     ·simp only [Act.put, List.setIfInBounds_toArray, List.set_cons_zero, List.set_cons_succ, i64_w, i32_w]
      rfl
     refine take_ (i := 1) (N := some 6) (v := ?_) (a' := ?_) #[true, true, false, false, false, false, false, false, false, false, false, false, false, false, false, false] rfl rfl (take_ofW HT_.out HW_.out (by kernel_rfl)) (fun _ _ _ h => h) (Or.inl ⟨by rfl, ?_⟩) hHeld ?_ ?_
     rotate_left
     ·rintro w' ⟨s0, s1, s2, s3⟩
      go_simp
      with_reducible rfl
     rotate_left
     ·simp only [Act.put, List.setIfInBounds_toArray, List.set_cons_zero, List.set_cons_succ, i64_w, i32_w]
      rfl
     refine one_ (i := 2) (N := some 7) #[true, true, true, false, false, false, false, false, false, false, false, false, false, false, false, false] rfl rfl (one_of HT_.out (by kernel_rfl)) (by decide) (fun K hK => ?_)
     refine goes_ Tryd.func65 (by kernel_rfl) rfl #[.agg (mixA (Value.int .u16) [.int .i8 a0_0, .int .i8 a0_1] a0_2), .agg #[.int .i8 a1_0, .int .i8 a1_1]] (by rfl) rfl rfl (by (try simp only [List.map_toArray, List.map_cons, List.map_nil]); first | done | rfl | (simp only [List.length_drop, List.length_take]; rfl)) ?_
     with_reducible refine (impl_Room_isCell.calls a0_0 a0_1 a0_2 a1_0 a1_1 true _ A3.out).mono ?_
     rintro e w12 ⟨rfl, hb⟩
     refine ⟨_, rfl, ?_⟩
     have n0_ := bkb BK183 hb
     have n1_ := bkb BK184 hb
     have n2_ := bst HB hb
     clear BK183
     clear BK184
     clear HB
     have BK183 := n0_
     have BK184 := n1_
     have HB := n2_
     clear n0_ n1_ n2_
     (try clear hb)
     (try clear hb2)
     (try clear hk)
     (try clear hi)
     refine hK.out _ _ ⟨(blk_cell BK184.out 0).trans rfl, (blk_cell BK184.out 1).trans rfl, mix_at BK183.out 2 rfl a1_1 (of_eq_true hpd13) (of_eq_true hqd13), mix_range BK183.out⟩ (fun hHeld => ?_)
     clear hK K
     refine norm_ (a' := ?_) ?_ ?_
     rotate_left
     ·show Act.put _ (some 7) _ = _
      simp only [Act.put, List.setIfInBounds_toArray, List.set_cons_zero, List.set_cons_succ, i64_w, i32_w]
      rfl
     refine pure_ (i := 3) (N := some 8) (v := ?_) (a' := ?_) #[true, true, true, true, false, false, false, false, false, false, false, false, false, false, false, false] rfl rfl (any_of HT_.out (by kernel_rfl)) (fun _ _ _ h => h) (Or.inl ⟨by rfl, ?_⟩) ?_ ?_
     rotate_left
     ·intro w'
      go_simp
      with_reducible rfl
     rotate_left
     ·simp only [Act.put, List.setIfInBounds_toArray, List.set_cons_zero, List.set_cons_succ, i64_w, i32_w]
      rfl
     refine pure_ (i := 4) (N := some 9) (v := ?_) (a' := ?_) #[true, true, true, true, true, false, false, false, false, false, false, false, false, false, false, false] rfl rfl (any_of HT_.out (by kernel_rfl)) (fun _ _ _ h => h) (Or.inl ⟨by rfl, ?_⟩) ?_ ?_
     rotate_left
     ·intro w'
      go_simp
      with_reducible rfl
     rotate_left
     ·simp only [Act.put, List.setIfInBounds_toArray, List.set_cons_zero, List.set_cons_succ, i64_w, i32_w]
      rfl
     refine pure_ (i := 6) (N := some 11) (v := ?_) (a' := ?_) #[true, true, true, true, true, false, true, false, false, false, false, false, false, false, false, false] rfl rfl (any_of HT_.out (by kernel_rfl)) (fun _ _ _ h => h) (Or.inl ⟨by rfl, ?_⟩) ?_ ?_
     rotate_left
     ·intro w'
      go_simp
      with_reducible rfl
     rotate_left
     ·simp only [Act.put, List.setIfInBounds_toArray, List.set_cons_zero, List.set_cons_succ, i64_w, i32_w]
      rfl
     refine pure_ (i := 9) (N := some 14) (v := ?_) (a' := ?_) #[true, true, true, true, true, false, true, false, false, true, false, false, false, false, false, false] rfl rfl (any_of HT_.out (by kernel_rfl)) (fun _ _ _ h => h) (Or.inl ⟨by rfl, ?_⟩) ?_ ?_
     rotate_left
     ·intro w'
      go_simp
      with_reducible rfl
     rotate_left
     ·simp only [Act.put, List.setIfInBounds_toArray, List.set_cons_zero, List.set_cons_succ, i64_w, i32_w]
      rfl
     refine take_ (i := 5) (N := some 10) (v := ?_) (a' := ?_) #[true, true, true, true, true, true, true, false, false, true, false, false, false, false, false, false] rfl rfl (take_ofW HT_.out HW_.out (by kernel_rfl)) (fun _ _ _ h => h) (Or.inl ⟨by rfl, ?_⟩) hHeld ?_ ?_
     rotate_left
     ·rintro w' ⟨s0, s1, s2, s3⟩
      go_simp
      with_reducible rfl
     rotate_left
     ·simp only [Act.put, List.setIfInBounds_toArray, List.set_cons_zero, List.set_cons_succ, i64_w, i32_w]
      rfl
     refine pure_ (i := 7) (N := some 12) (v := ?_) (a' := ?_) #[true, true, true, true, true, true, true, true, false, true, false, false, false, false, false, false] rfl rfl (any_of HT_.out (by kernel_rfl)) (fun _ _ _ h => h) (Or.inl ⟨by rfl, ?_⟩) ?_ ?_
     rotate_left
     ·intro w'
      go_simp
      with_reducible rfl
     rotate_left
     ·simp only [Act.put, List.setIfInBounds_toArray, List.set_cons_zero, List.set_cons_succ, i64_w, i32_w]
      rfl
     refine take_ (i := 8) (N := some 13) (v := ?_) (a' := ?_) #[true, true, true, true, true, true, true, true, true, true, false, false, false, false, false, false] rfl rfl (take_ofW HT_.out HW_.out (by kernel_rfl)) (fun _ _ _ h => h) (Or.inl ⟨by rfl, ?_⟩) hHeld ?_ ?_
     rotate_left
     ·rintro w' ⟨s0, s1, s2, s3⟩
      go_simp
      with_reducible rfl
     rotate_left
     ·simp only [Act.put, List.setIfInBounds_toArray, List.set_cons_zero, List.set_cons_succ, i64_w, i32_w]
      rfl
     refine take_ (i := 10) (N := some 15) (v := ?_) (a' := ?_) #[true, true, true, true, true, true, true, true, true, true, true, false, false, false, false, false] rfl rfl (take_ofW HT_.out HW_.out (by kernel_rfl)) (fun _ _ _ h => h) (Or.inl ⟨by rfl, ?_⟩) hHeld ?_ ?_
     rotate_left
     ·rintro w' ⟨s0, s1, s2, s3⟩
      go_simp
      with_reducible rfl
     rotate_left
     ·simp only [Act.put, List.setIfInBounds_toArray, List.set_cons_zero, List.set_cons_succ, i64_w, i32_w]
      rfl
     refine pure_ (i := 11) (N := some 16) (v := ?_) (a' := ?_) #[true, true, true, true, true, true, true, true, true, true, true, true, false, false, false, false] rfl rfl (any_of HT_.out (by kernel_rfl)) (fun _ _ _ h => h) (Or.inl ⟨by rfl, ?_⟩) ?_ ?_
     rotate_left
     ·intro w'
      go_simp
      with_reducible rfl
     rotate_left
     ·simp only [Act.put, List.setIfInBounds_toArray, List.set_cons_zero, List.set_cons_succ, i64_w, i32_w]
      rfl
     refine pure_ (i := 12) (N := some 17) (v := ?_) (a' := ?_) #[true, true, true, true, true, true, true, true, true, true, true, true, true, false, false, false] rfl rfl (any_of HT_.out (by kernel_rfl)) (fun _ _ _ h => h) (Or.inl ⟨by rfl, ?_⟩) ?_ ?_
     rotate_left
     ·intro w'
      go_simp
      with_reducible rfl
     rotate_left
     ·simp only [Act.put, List.setIfInBounds_toArray, List.set_cons_zero, List.set_cons_succ, i64_w, i32_w]
      rfl
     refine pure_ (i := 13) (N := some 18) (v := ?_) (a' := ?_) #[true, true, true, true, true, true, true, true, true, true, true, true, true, true, false, false] rfl rfl (any_of HT_.out (by kernel_rfl)) (fun _ _ _ h => h) (Or.inl ⟨by rfl, ?_⟩) ?_ ?_
     rotate_left
     ·intro w'
      go_simp
      with_reducible rfl
     rotate_left
     ·simp only [Act.put, List.setIfInBounds_toArray, List.set_cons_zero, List.set_cons_succ, i64_w, i32_w]
      rfl
     refine pure_ (i := 14) (N := some 19) (v := ?_) (a' := ?_) #[true, true, true, true, true, true, true, true, true, true, true, true, true, true, true, false] rfl rfl (any_of HT_.out (by kernel_rfl)) (fun _ _ _ h => h) (Or.inl ⟨by rfl, ?_⟩) ?_ ?_
     rotate_left
     ·intro w'
      go_simp
      with_reducible rfl
     rotate_left
     ·simp only [Act.put, List.setIfInBounds_toArray, List.set_cons_zero, List.set_cons_succ, i64_w, i32_w]
      rfl
     refine pure_ (i := 15) (N := some 4) (v := ?_) (a' := ?_) #[true, true, true, true, true, true, true, true, true, true, true, true, true, true, true, true] rfl rfl (any_of HT_.out (by kernel_rfl)) (fun _ _ _ h => h) (Or.inl ⟨by rfl, ?_⟩) ?_ ?_
     rotate_left
     ·intro w'
      go_simp
      with_reducible rfl
     rotate_left
     ·simp only [Act.put, List.setIfInBounds_toArray, List.set_cons_zero, List.set_cons_succ, i64_w, i32_w]
      rfl
     refine done_ (done_of HT_.out (by kernel_rfl)) ?_
     try go_wp2
     go_ret
     exact ⟨by first | rfl | (simp [errW_none, errW_some] <;> rfl) | (simp only [← hji8]; first | rfl | (simp [errW_none, errW_some] <;> rfl)) | (simp [*, errW_none, errW_some] <;> rfl), pbs HB⟩
    ·rw [if_neg c7] at H
     exact absurd H (by simp)
   ·rw [if_neg c6] at H
    exact absurd H (by simp)
  ·rw [if_neg c5] at H
   exact absurd H (by simp)
 ·replace c4 := Bool.eq_false_iff.mpr c4
  subst c4
  have H1 : (some false) = some r := by rw [if_neg (show ¬ (false = true) by decide)] at H; exact H
  clear H
  have H := H1
  clear H1
  obtain rfl := Option.some.inj H
  go_enter Tryd.func51, Tryd.ntmps51
  try go_wp2_with (first | ((with_reducible refine gate_dst (N := 2) rfl ?_); refine box_event ?hg (N := 2) ?hd (cs := (mixA (Value.int .u16) [.int .i8 a0_0, .int .i8 a0_1] a0_2)) (t := 31) ?hr ?_; (case hd => rfl); (case hg => rfl); (case hr => first | (go_simp; done) | (go_simp; rfl)); intro gb183 hg w15 hbox hb; have n0_ := bst HB hb; have n1_ := Aside0.mk (hbox); have n2_ := gwl HB hg; have n3_ := gwl HB hg; clear HB; have HB := n0_; have BK183 := n1_; have GW183 := n2_; have GE183 := n3_; clear n0_ n1_ n2_ n3_; clear hb hbox hg) | ((with_reducible refine gate_dst (N := 3) rfl ?_); refine box_event ?hg (N := 3) ?hd (cs := #[.int .i8 a1_0, .int .i8 a1_1]) (t := 41) ?hr ?_; (case hd => rfl); (case hg => rfl); (case hr => first | (go_simp; done) | (go_simp; rfl)); intro gb184 hg w16 hbox hb; have n0_ := bkb BK183 hb; have n1_ := bst HB hb; have n2_ := Aside0.mk (hbox); have n3_ := gwl HB hg; have n4_ := gwl HB hg; have n5_ := nbl BK183 hg; have n6_ := nbg BK183 hg; clear BK183; clear HB; have BK183 := n0_; have HB := n1_; have BK184 := n2_; have GW184 := n3_; have GE184 := n4_; have NB183_184 := n5_; have NB184_183 := n6_; clear n0_ n1_ n2_ n3_ n4_ n5_ n6_; clear hb hbox hg))
  have n0_ := Aside0.mk (blk_drew BK183.out)
  have n1_ := Aside0.mk (blk_drew BK184.out)
  have n2_ := Aside0.mk (below_drew1 HB.out)
  clear BK183
  clear BK184
  clear HB
  have BK183 := n0_
  have BK184 := n1_
  have HB := n2_
  clear n0_ n1_ n2_
  refine start_ (n := 16) (S := fun w' => w'.cell? ⟨gb184, 0, none⟩ = some (.int .i8 a1_0) ∧ w'.cell? ⟨gb184, 1, none⟩ = some (.int .i8 a1_1) ∧ World.rangeAt w' gb183 0 ([.int .i8 a0_0, .int .i8 a0_1] ++ a0_2.l.map (Value.int .u16))) (ds := []) #[false, false, false, false, false, false, false, false, false, false, false, false, false, false, false, false] (by kernel_rfl) rfl rfl ⟨(blk_cell BK184.out 0).trans rfl, (blk_cell BK184.out 1).trans rfl, mix_range BK183.out⟩ (fun hHeld => ?_); refine with_tabW impl_Room_isFree.tab1 impl_Room_isFree.bits1 (fun HT_ HW_ => ?_)
  generalize w16.drew = w17 at BK183 BK184 HB hHeld ⊢
  refine take_ (i := 0) (N := some 5) (v := ?_) (a' := ?_) #[true, false, false, false, false, false, false, false, false, false, false, false, false, false, false, false] rfl rfl (take_ofW HT_.out HW_.out (by kernel_rfl)) (fun _ _ _ h => h) (Or.inl ⟨by rfl, ?_⟩) hHeld ?_ ?_
  rotate_left
  ·rintro w' ⟨s0, s1, s2⟩
   refine load_mix_run (P := Tryd.prog) 31 (.tmp 2) ?_ gb183 ?_ s2 Tryd.underlying31 rfl (by kernel_rfl) rfl
   all_goals rfl
  rotate_left
  ·simp only [Act.put, List.setIfInBounds_toArray, List.set_cons_zero, List.set_cons_succ, i64_w, i32_w]
   rfl
  refine take_ (i := 1) (N := some 6) (v := ?_) (a' := ?_) #[true, true, false, false, false, false, false, false, false, false, false, false, false, false, false, false] rfl rfl (take_ofW HT_.out HW_.out (by kernel_rfl)) (fun _ _ _ h => h) (Or.inl ⟨by rfl, ?_⟩) hHeld ?_ ?_
  rotate_left
  ·rintro w' ⟨s0, s1, s2⟩
   go_simp
   with_reducible rfl
  rotate_left
  ·simp only [Act.put, List.setIfInBounds_toArray, List.set_cons_zero, List.set_cons_succ, i64_w, i32_w]
   rfl
  refine one_ (i := 2) (N := some 7) #[true, true, true, false, false, false, false, false, false, false, false, false, false, false, false, false] rfl rfl (one_of HT_.out (by kernel_rfl)) (by decide) (fun K hK => ?_)
  refine goes_ Tryd.func65 (by kernel_rfl) rfl #[.agg (mixA (Value.int .u16) [.int .i8 a0_0, .int .i8 a0_1] a0_2), .agg #[.int .i8 a1_0, .int .i8 a1_1]] (by rfl) rfl rfl (by (try simp only [List.map_toArray, List.map_cons, List.map_nil]); first | done | rfl | (simp only [List.length_drop, List.length_take]; rfl)) ?_
  with_reducible refine (impl_Room_isCell.calls a0_0 a0_1 a0_2 a1_0 a1_1 false _ A3.out).mono ?_
  rintro e w18 ⟨rfl, hb⟩
  refine ⟨_, rfl, ?_⟩
  have n0_ := bkb BK183 hb
  have n1_ := bkb BK184 hb
  have n2_ := bst HB hb
  clear BK183
  clear BK184
  clear HB
  have BK183 := n0_
  have BK184 := n1_
  have HB := n2_
  clear n0_ n1_ n2_
  (try clear hb)
  (try clear hb2)
  (try clear hk)
  (try clear hi)
  refine hK.out _ _ ⟨(blk_cell BK184.out 0).trans rfl, (blk_cell BK184.out 1).trans rfl, mix_range BK183.out⟩ (fun hHeld => ?_)
  clear hK K
  refine norm_ (a' := ?_) ?_ ?_
  rotate_left
  ·show Act.put _ (some 7) _ = _
   simp only [Act.put, List.setIfInBounds_toArray, List.set_cons_zero, List.set_cons_succ, i64_w, i32_w]
   rfl
  refine pure_ (i := 3) (N := some 8) (v := ?_) (a' := ?_) #[true, true, true, true, false, false, false, false, false, false, false, false, false, false, false, false] rfl rfl (any_of HT_.out (by kernel_rfl)) (fun _ _ _ h => h) (Or.inl ⟨by rfl, ?_⟩) ?_ ?_
  rotate_left
  ·intro w'
   go_simp
   with_reducible rfl
  rotate_left
  ·simp only [Act.put, List.setIfInBounds_toArray, List.set_cons_zero, List.set_cons_succ, i64_w, i32_w]
   rfl
  refine pure_ (i := 4) (N := some 9) (v := undef) (a' := ?_) #[true, true, true, true, true, false, false, false, false, false, false, false, false, false, false, false] rfl rfl (any_of HT_.out (by kernel_rfl)) (fun _ _ _ h => h) (Or.inr ⟨by rfl, rfl⟩) ?_ ?_
  rotate_left
  ·simp only [Act.put, List.setIfInBounds_toArray, List.set_cons_zero, List.set_cons_succ, i64_w, i32_w]
   rfl
  refine pure_ (i := 5) (N := some 10) (v := undef) (a' := ?_) #[true, true, true, true, true, true, false, false, false, false, false, false, false, false, false, false] rfl rfl (any_of HT_.out (by kernel_rfl)) (fun _ _ _ h => h) (Or.inr ⟨by rfl, rfl⟩) ?_ ?_
  rotate_left
  ·simp only [Act.put, List.setIfInBounds_toArray, List.set_cons_zero, List.set_cons_succ, i64_w, i32_w]
   rfl
  refine pure_ (i := 6) (N := some 11) (v := undef) (a' := ?_) #[true, true, true, true, true, true, true, false, false, false, false, false, false, false, false, false] rfl rfl (any_of HT_.out (by kernel_rfl)) (fun _ _ _ h => h) (Or.inr ⟨by rfl, rfl⟩) ?_ ?_
  rotate_left
  ·simp only [Act.put, List.setIfInBounds_toArray, List.set_cons_zero, List.set_cons_succ, i64_w, i32_w]
   rfl
  refine pure_ (i := 7) (N := some 12) (v := undef) (a' := ?_) #[true, true, true, true, true, true, true, true, false, false, false, false, false, false, false, false] rfl rfl (any_of HT_.out (by kernel_rfl)) (fun _ _ _ h => h) (Or.inr ⟨by rfl, rfl⟩) ?_ ?_
  rotate_left
  ·simp only [Act.put, List.setIfInBounds_toArray, List.set_cons_zero, List.set_cons_succ, i64_w, i32_w]
   rfl
  refine pure_ (i := 8) (N := some 13) (v := undef) (a' := ?_) #[true, true, true, true, true, true, true, true, true, false, false, false, false, false, false, false] rfl rfl (any_of HT_.out (by kernel_rfl)) (fun _ _ _ h => h) (Or.inr ⟨by rfl, rfl⟩) ?_ ?_
  rotate_left
  ·simp only [Act.put, List.setIfInBounds_toArray, List.set_cons_zero, List.set_cons_succ, i64_w, i32_w]
   rfl
  refine pure_ (i := 9) (N := some 14) (v := undef) (a' := ?_) #[true, true, true, true, true, true, true, true, true, true, false, false, false, false, false, false] rfl rfl (any_of HT_.out (by kernel_rfl)) (fun _ _ _ h => h) (Or.inr ⟨by rfl, rfl⟩) ?_ ?_
  rotate_left
  ·simp only [Act.put, List.setIfInBounds_toArray, List.set_cons_zero, List.set_cons_succ, i64_w, i32_w]
   rfl
  refine pure_ (i := 10) (N := some 15) (v := undef) (a' := ?_) #[true, true, true, true, true, true, true, true, true, true, true, false, false, false, false, false] rfl rfl (any_of HT_.out (by kernel_rfl)) (fun _ _ _ h => h) (Or.inr ⟨by rfl, rfl⟩) ?_ ?_
  rotate_left
  ·simp only [Act.put, List.setIfInBounds_toArray, List.set_cons_zero, List.set_cons_succ, i64_w, i32_w]
   rfl
  refine pure_ (i := 11) (N := some 16) (v := undef) (a' := ?_) #[true, true, true, true, true, true, true, true, true, true, true, true, false, false, false, false] rfl rfl (any_of HT_.out (by kernel_rfl)) (fun _ _ _ h => h) (Or.inr ⟨by rfl, rfl⟩) ?_ ?_
  rotate_left
  ·simp only [Act.put, List.setIfInBounds_toArray, List.set_cons_zero, List.set_cons_succ, i64_w, i32_w]
   rfl
  refine pure_ (i := 12) (N := some 17) (v := undef) (a' := ?_) #[true, true, true, true, true, true, true, true, true, true, true, true, true, false, false, false] rfl rfl (any_of HT_.out (by kernel_rfl)) (fun _ _ _ h => h) (Or.inr ⟨by rfl, rfl⟩) ?_ ?_
  rotate_left
  ·simp only [Act.put, List.setIfInBounds_toArray, List.set_cons_zero, List.set_cons_succ, i64_w, i32_w]
   rfl
  refine pure_ (i := 13) (N := some 18) (v := undef) (a' := ?_) #[true, true, true, true, true, true, true, true, true, true, true, true, true, true, false, false] rfl rfl (any_of HT_.out (by kernel_rfl)) (fun _ _ _ h => h) (Or.inr ⟨by rfl, rfl⟩) ?_ ?_
  rotate_left
  ·simp only [Act.put, List.setIfInBounds_toArray, List.set_cons_zero, List.set_cons_succ, i64_w, i32_w]
   rfl
  refine pure_ (i := 14) (N := some 19) (v := ?_) (a' := ?_) #[true, true, true, true, true, true, true, true, true, true, true, true, true, true, true, false] rfl rfl (any_of HT_.out (by kernel_rfl)) (fun _ _ _ h => h) (Or.inl ⟨by rfl, ?_⟩) ?_ ?_
  rotate_left
  ·intro w'
   go_simp
   with_reducible rfl
  rotate_left
  ·simp only [Act.put, List.setIfInBounds_toArray, List.set_cons_zero, List.set_cons_succ, i64_w, i32_w]
   rfl
  refine pure_ (i := 15) (N := some 4) (v := ?_) (a' := ?_) #[true, true, true, true, true, true, true, true, true, true, true, true, true, true, true, true] rfl rfl (any_of HT_.out (by kernel_rfl)) (fun _ _ _ h => h) (Or.inl ⟨by rfl, ?_⟩) ?_ ?_
  rotate_left
  ·intro w'
   go_simp
   with_reducible rfl
  rotate_left
  ·simp only [Act.put, List.setIfInBounds_toArray, List.set_cons_zero, List.set_cons_succ, i64_w, i32_w]
   rfl
  refine done_ (done_of HT_.out (by kernel_rfl)) ?_
  try go_wp2
  go_ret
  exact ⟨by first | rfl | (simp [errW_none, errW_some] <;> rfl) | (simp [*, errW_none, errW_some] <;> rfl), pbs HB⟩
mutual
def impl_Room_cells__51.l0 : Nat → List (S41) → Int → Int → Int → Int → LA 10 → Int → Int → LA 10 → Option ((List (S41)))
 | 0, _, _, _, _, _, _, _, _, _ => none
 | k + 1, x5, x11, x12, x187000, x187001, x187002, x188000, x188001, x188002 => if x12 < x11 then (impl_Room_cells__51.l1 k x5 x12 x11 x12 x188000 0 x187000 x187001 x187002 x188000 x188001 x188002) else (some x5)
def impl_Room_cells__51.l1 : Nat → List (S41) → Int → Int → Int → Int → Int → Int → Int → LA 10 → Int → Int → LA 10 → Option ((List (S41)))
 | 0, _, _, _, _, _, _, _, _, _, _, _, _ => none
 | k + 1, x5, x6, x11, x12, x16, x17, x187000, x187001, x187002, x188000, x188001, x188002 => if x17 < x16 then ((impl_Room_isFree.f x187000 x187001 x187002 x17 x6).bind fun t192 => (if t192 = true then (if x5.length < 70368744177664 then (impl_Room_cells__51.l1 k (x5 ++ [(⟨x17, x6⟩ : S41)]) x6 x11 x12 x16 (IntKind.i8.wrap (x17 + 1)) x187000 x187001 x187002 x188000 x188001 x188002) else (none)) else (impl_Room_cells__51.l1 k x5 x6 x11 x12 x16 (IntKind.i8.wrap (x17 + 1)) x187000 x187001 x187002 x188000 x188001 x188002))) else (impl_Room_cells__51.l0 k x5 x11 (IntKind.i8.wrap (x12 + 1)) x187000 x187001 x187002 x188000 x188001 x188002)
end
def impl_Room_cells__51.f (k : Nat) (a0_0 : Int) (a0_1 : Int) (a0_2 : LA 10) (a1_0 : Int) (a1_1 : Int) (a1_2 : LA 10) : Option ((List (S41))) := impl_Room_cells__51.l0 k (([] : List (S41))) a0_1 0 a1_0 a1_1 a1_2 a0_0 a0_1 a0_2
theorem impl_Room_cells__51.mono_l : ∀ k, (∀ y0 y1 y2 y3 y4 y5 y6 y7 y8, LeO (impl_Room_cells__51.l0 k y0 y1 y2 y3 y4 y5 y6 y7 y8) (impl_Room_cells__51.l0 (k + 1) y0 y1 y2 y3 y4 y5 y6 y7 y8)) ∧ (∀ y0 y1 y2 y3 y4 y5 y6 y7 y8 y9 y10 y11, LeO (impl_Room_cells__51.l1 k y0 y1 y2 y3 y4 y5 y6 y7 y8 y9 y10 y11) (impl_Room_cells__51.l1 (k + 1) y0 y1 y2 y3 y4 y5 y6 y7 y8 y9 y10 y11))
 | 0 => ⟨fun _ _ _ _ _ _ _ _ _ r h => by simp [impl_Room_cells__51.l0] at h, fun _ _ _ _ _ _ _ _ _ _ _ _ r h => by simp [impl_Room_cells__51.l1] at h⟩
 | k + 1 => by
  obtain ⟨ih0, ih1⟩ := impl_Room_cells__51.mono_l k
  refine ⟨?_, ?_⟩
  ·intro y0 y1 y2 y3 y4 y5 y6 y7 y8
   unfold impl_Room_cells__51.l0
   repeat' first
   | (with_reducible exact ih0 _ _ _ _ _ _ _ _ _)
   | (with_reducible exact ih1 _ _ _ _ _ _ _ _ _ _ _ _)
   | (with_reducible exact LeO.refl _)
   | (with_reducible exact LeO.none _)
   | (with_reducible refine LeO.ite ?_ ?_)
   | (with_reducible refine LeO.bind ?_ (fun _ => ?_))
   | exact ih0 _ _ _ _ _ _ _ _ _
   | exact ih1 _ _ _ _ _ _ _ _ _ _ _ _
   | exact LeO.none _
   | refine LeO.ite ?_ ?_
   | refine LeO.bind ?_ (fun _ => ?_)
  ·intro y0 y1 y2 y3 y4 y5 y6 y7 y8 y9 y10 y11
   unfold impl_Room_cells__51.l1
   repeat' first
   | (with_reducible exact ih0 _ _ _ _ _ _ _ _ _)
   | (with_reducible exact ih1 _ _ _ _ _ _ _ _ _ _ _ _)
   | (with_reducible exact LeO.refl _)
   | (with_reducible exact LeO.none _)
   | (with_reducible refine LeO.ite ?_ ?_)
   | (with_reducible refine LeO.bind ?_ (fun _ => ?_))
   | exact ih0 _ _ _ _ _ _ _ _ _
   | exact ih1 _ _ _ _ _ _ _ _ _ _ _ _
   | exact LeO.none _
   | refine LeO.ite ?_ ?_
   | refine LeO.bind ?_ (fun _ => ?_)
theorem impl_Room_cells__51.mono : ∀ a0 a1 a2 a3 a4 a5 k, LeO (impl_Room_cells__51.f k a0 a1 a2 a3 a4 a5) (impl_Room_cells__51.f (k + 1) a0 a1 a2 a3 a4 a5) := by
 intro a0 a1 a2 a3 a4 a5 k
 obtain ⟨ih0, ih1⟩ := impl_Room_cells__51.mono_l k
 unfold impl_Room_cells__51.f
 repeat' first
   | (with_reducible exact ih0 _ _ _ _ _ _ _ _ _)
   | (with_reducible exact ih1 _ _ _ _ _ _ _ _ _ _ _ _)
   | (with_reducible exact LeO.refl _)
   | (with_reducible exact LeO.none _)
   | (with_reducible refine LeO.ite ?_ ?_)
   | (with_reducible refine LeO.bind ?_ (fun _ => ?_))
   | exact ih0 _ _ _ _ _ _ _ _ _
   | exact ih1 _ _ _ _ _ _ _ _ _ _ _ _
   | exact LeO.none _
   | refine LeO.ite ?_ ?_
   | refine LeO.bind ?_ (fun _ => ?_)
set_option maxHeartbeats 8000000 in
set_option maxRecDepth 100000 in
theorem impl_Room_cells__51.calls (k : Nat) (a0_0 : Int) (a0_1 : Int) (a0_2 : LA 10) (a1_0 : Int) (a1_1 : Int) (a1_2 : LA 10) (r : List (S41)) (w : World) (h : impl_Room_cells__51.f k a0_0 a0_1 a0_2 a1_0 a1_1 a1_2 = some r) :
  Calls Tryd.prog 50 #[.agg (mixA (Value.int .u16) [.int .i8 a0_0, .int .i8 a0_1] a0_2), .func (.func 51) #[.agg (mixA (Value.int .u16) [.int .i8 a1_0, .int .i8 a1_1] a1_2)] #[]] w fun e w' => ∃ v0_ : Value, e = .returned (v0_) ∧ Kd.R k41 41 w' w.heap.size (fun _ => True) v0_ r ∧ Below w.heap.size w w' := by
 have hu31 := Tryd.underlying31
 have hu41 := Tryd.underlying41
 have HB := Aside0.mk (Below.refl w.heap.size w)
 have H : (impl_Room_cells__51.l0 k (([] : List (S41))) a0_1 0 a1_0 a1_1 a1_2 a0_0 a0_1 a0_2) = some r := h
 clear h
 obtain ⟨y188, hy188⟩ : ∃ y_ : List (S41), y_ = (([] : List (S41))) := ⟨_, rfl⟩
 replace H : (impl_Room_cells__51.l0 k y188 a0_1 0 a1_0 a1_1 a1_2 a0_0 a0_1 a0_2) = some r := by first | (rw [hy188]; with_reducible exact H) | (have H2_ := (Option.bind_some _ _).symm.trans H; rw [hy188]; with_reducible exact H2_) | (have H2_ := (Option.bind_some _ _).symm.trans H; with_reducible exact H2_) | with_reducible exact H | (rw [hy188]; exact H) | exact H
 have Ny188 := Aside0.mk hy188
 clear hy188
 have H' := Aside0.mk H
 clear H
 go_enter Tryd.func50, Tryd.ntmps50
 go_wp2_with (first | ((with_reducible refine gate_dst (N := 2) rfl ?_); refine box_event ?hg (N := 2) ?hd (cs := (mixA (Value.int .u16) [.int .i8 a0_0, .int .i8 a0_1] a0_2)) (t := 31) ?hr ?_; (case hd => rfl); (case hg => rfl); (case hr => first | (go_simp; done) | (go_simp; rfl)); intro gb187 hg w3 hbox hb; have n0_ := bst HB hb; have n1_ := Aside0.mk (hbox); have n2_ := gwl HB hg; have n3_ := gwl HB hg; clear HB; have HB := n0_; have BK187 := n1_; have GW187 := n2_; have GE187 := n3_; clear n0_ n1_ n2_ n3_; clear hb hbox hg) | ((with_reducible refine gate_dst (N := 9) rfl ?_); refine Kd.R_lit k41 _ 41 ?hg (N := 9) ?hd (xs := ([] : List (S41))) (inner := []) (ok := fun _ => True) (okp := fun _ => True) ?hr ?hp (fun _ hk => hk) trivial (Below.refl _ _) (Nat.le_refl _) (by simp) ?_; (case hd => rfl); (case hg => rfl); (case hr => first | (go_simp; done) | (go_simp; rfl)); (case hp => exact (Reps.none _ _)); intro v189 w4 ho5 hb hg_ hnew_; clear hg_ hnew_; (first | rw [← Ny188.out] at ho5 | (simp only [Int.reduceToNat] at ho5; rw [← Ny188.out] at ho5)); have n0_ := Aside0.mk (Kd.R_lower ho5 (below_size (by repeat (first | (with_reducible first | exact HB.out | apply below_alloc | apply pw_below_drewN | apply below_drew1 | refine below_set ?_ GE187.out) | exact HB.out)))); have n1_ := bkb BK187 hb; have n2_ := bst HB hb; clear BK187; clear HB; have HO190 := n0_; have BK187 := n1_; have HB := n2_; clear n0_ n1_ n2_; clear hb ho5; have hcz6_0 : w4.cell? ⟨gb187, 0, none⟩ = some (.int .i8 a0_0) := mix_cell0 BK187.out 0; have hcz6_1 : w4.cell? ⟨gb187, 1, none⟩ = some (.int .i8 a0_1) := mix_cell0 BK187.out 1; have hfz6_0 := blk_frozen BK187.out 0; have hfz6_1 := blk_frozen BK187.out 1))
 go_loopg [5, 12] k (fun kq v5 v12 w' => ∃ (x5_1 : List (S41)) (x12_1 : Int), v12 = .int .i8 x12_1 ∧ Aside0 (impl_Room_cells__51.l0 kq x5_1 a0_1 x12_1 a1_0 a1_1 a1_2 a0_0 a0_1 a0_2 = some r) ∧ Aside0 (kq ≤ k) ∧ Aside0 (Kd.R k41 41 w' w.heap.size (fun _ => True) v5 x5_1) ∧ Aside0 (w'.heap[gb187]? = some (.cells (mixA (Value.int .u16) [.int .i8 a0_0, .int .i8 a0_1] a0_2) 31 (0, 0))) ∧ Aside0 (Below w.heap.size w w'))
 case atStart => exact ⟨(y188), (0), (by first | rfl | (simp; done) | (simp [*]; done)), H', ⟨Nat.le_refl _⟩, ⟨by (with_reducible repeat (first | apply Kd.R_alloc | apply Kd.R_drewN | apply Kd.R_drew)); exact HO190.out⟩, ⟨pk BK187⟩, ⟨pbs HB⟩⟩
 case round =>
  clear H'
  try clear p2
  try clear c5
  try clear hcz6_0
  try clear hcz6_1
  try clear hfz6_0
  try clear hfz6_1
  obtain ⟨x5_1, x12_1, rfl, HA, HK1, HO_5, BK187, HB⟩ := hrel
  cases gk with
  | zero => exact absurd HA.out (by simp [impl_Room_cells__51.l0])
  | succ k1 =>
   have H := HA.out
   clear HA
   simp only [impl_Room_cells__51.l0] at H
   by_cases c7 : x12_1 < a0_1
   ·rw [if_pos c7] at H
    have c7b0 : decide (x12_1 < a0_1) = true := decide_eq_true c7
    clear c7
    have H' := Aside0.mk H
    clear H
    have hcz8_0 : wr.cell? ⟨gb187, 0, none⟩ = some (.int .i8 a0_0) := mix_cell0 BK187.out 0
    have hcz8_1 : wr.cell? ⟨gb187, 1, none⟩ = some (.int .i8 a0_1) := mix_cell0 BK187.out 1
    have hfz8_0 := blk_frozen BK187.out 0
    have hfz8_1 := blk_frozen BK187.out 1
    go_wp2
    go_loopg [5, 17] k1 (fun kq v5 v17 w' => ∃ (x5_2 : List (S41)) (x17_2 : Int), v17 = .int .i8 x17_2 ∧ Aside0 (impl_Room_cells__51.l1 kq x5_2 x12_1 a0_1 x12_1 a0_0 x17_2 a1_0 a1_1 a1_2 a0_0 a0_1 a0_2 = some r) ∧ Aside0 (kq ≤ k1) ∧ Aside0 (Kd.R k41 41 w' w.heap.size (fun _ => True) v5 x5_2) ∧ Aside0 (w'.heap[gb187]? = some (.cells (mixA (Value.int .u16) [.int .i8 a0_0, .int .i8 a0_1] a0_2) 31 (0, 0))) ∧ Aside0 (Below w.heap.size w w'))
    case atStart => exact ⟨(x5_1), (0), (by first | rfl | (simp; done) | (simp [*]; done)), H', ⟨Nat.le_refl _⟩, ⟨by (with_reducible repeat (first | apply Kd.R_alloc | apply Kd.R_drewN | apply Kd.R_drew)); exact HO_5.out⟩, ⟨pk BK187⟩, ⟨pbs HB⟩⟩
    case round =>
     clear H'
     try clear p2
     try clear c5
     try clear c7
     try clear c7b0
     try clear hcz6_0
     try clear hcz6_1
     try clear hcz8_0
     try clear hcz8_1
     try clear hfz6_0
     try clear hfz6_1
     try clear hfz8_0
     try clear hfz8_1
     try clear p2
     obtain ⟨x5_2, x17_2, rfl, HA, HK2, HO_5, BK187, HB⟩ := hrel
     cases gk with
     | zero => exact absurd HA.out (by simp [impl_Room_cells__51.l1])
     | succ k2 =>
      have H := HA.out
      clear HA
      simp only [impl_Room_cells__51.l1] at H
      by_cases c9 : x17_2 < a0_0
      ·rw [if_pos c9] at H
       have c9b0 : decide (x17_2 < a0_0) = true := decide_eq_true c9
       clear c9
       replace H := Option.bind_eq_some_iff.mp H
       obtain ⟨t192, A100, H⟩ := H
       replace H : (if t192 = true then (if x5_2.length < 70368744177664 then (impl_Room_cells__51.l1 k2 (x5_2 ++ [(⟨x17_2, x12_1⟩ : S41)]) x12_1 a0_1 x12_1 a0_0 (IntKind.i8.wrap (x17_2 + 1)) a1_0 a1_1 a1_2 a0_0 a0_1 a0_2) else (none)) else (impl_Room_cells__51.l1 k2 x5_2 x12_1 a0_1 x12_1 a0_0 (IntKind.i8.wrap (x17_2 + 1)) a1_0 a1_1 a1_2 a0_0 a0_1 a0_2)) = some r := H
       have A10 := Aside0.mk A100
       clear A100
       by_cases c11 : t192 = true
       ·subst c11
        have H1 : (if x5_2.length < 70368744177664 then (impl_Room_cells__51.l1 k2 (x5_2 ++ [(⟨x17_2, x12_1⟩ : S41)]) x12_1 a0_1 x12_1 a0_0 (IntKind.i8.wrap (x17_2 + 1)) a1_0 a1_1 a1_2 a0_0 a0_1 a0_2) else (none)) = some r := by rw [if_pos rfl] at H; exact H
        clear H
        have H := H1
        clear H1
        by_cases c12 : x5_2.length < 70368744177664
        ·rw [if_pos c12] at H
         have LMc12 := Aside0.mk c12
         clear c12
         obtain ⟨y193, hy193⟩ : ∃ y_ : List (S41), y_ = (x5_2 ++ [(⟨x17_2, x12_1⟩ : S41)]) := ⟨_, rfl⟩
         replace H : (impl_Room_cells__51.l1 k2 y193 x12_1 a0_1 x12_1 a0_0 (IntKind.i8.wrap (x17_2 + 1)) a1_0 a1_1 a1_2 a0_0 a0_1 a0_2) = some r := by first | (rw [hy193]; with_reducible exact H) | (have H2_ := (Option.bind_some _ _).symm.trans H; rw [hy193]; with_reducible exact H2_) | (have H2_ := (Option.bind_some _ _).symm.trans H; with_reducible exact H2_) | with_reducible exact H | (rw [hy193]; exact H) | exact H
         have Ny193 := Aside0.mk hy193
         clear hy193
         have H' := Aside0.mk H
         clear H
         go_wp2_with (first | ((with_reducible refine gate_dst (N := 8) rfl ?_); refine box_event ?hg (N := 8) ?hd (cs := #[.int .i8 0, .int .i8 0]) (t := 41) ?hr ?_; (case hd => rfl); (case hg => rfl); (case hr => first | (go_simp; done) | (go_simp; rfl)); intro gb191 hg w13 hbox hb; have n0_ := Aside0.mk (Kd.R_below (Kd.R_elderB (by (with_reducible repeat (first | apply Kd.R_alloc | apply Kd.R_drewN | apply Kd.R_drew)); exact HO_5.out) gb191 (Nat.le_of_eq hg.symm)) hb); have n1_ := bkb BK187 hb; have n2_ := bst HB hb; have n3_ := Aside0.mk (hbox); have n4_ := gwl HB hg; have n5_ := gwl HB hg; have n6_ := nbl BK187 hg; have n7_ := nbg BK187 hg; clear HO_5; clear BK187; clear HB; have HO_5 := n0_; have BK187 := n1_; have HB := n2_; have BK191 := n3_; have GW191 := n4_; have GE191 := n5_; have NB187_191 := n6_; have NB191_187 := n7_; clear n0_ n1_ n2_ n3_ n4_ n5_ n6_ n7_; clear hb hbox hg; have hnb14 := NB191_187.out; have hnc14 := NB187_191.out; have hcz15_0 : w13.cell? ⟨gb191, 0, none⟩ = some (.int .i8 0) := (blk_cell BK191.out 0).trans rfl; have hcz15_1 : w13.cell? ⟨gb191, 1, none⟩ = some (.int .i8 0) := (blk_cell BK191.out 1).trans rfl; have hfz15_0 := blk_frozen BK191.out 0; have hfz15_1 := blk_frozen BK191.out 1) | (go_at_call 51; (with_reducible refine (impl_Room_isFree.calls a1_0 a1_1 a1_2 x17_2 x12_1 true _ A10.out).mono ?_); rintro e w16 ⟨rfl, hb⟩; have n0_ := Aside0.mk (Kd.R_below (by (with_reducible repeat (first | apply Kd.R_alloc | apply Kd.R_drewN | apply Kd.R_drew)); exact (Kd.R_mono (Kd.R_far (p := ⟨gb191, 1, none⟩) (Kd.R_far (p := ⟨gb191, 0, none⟩) (Kd.R_mono HO_5.out (fun k_ hk => (⟨hk, hk.2⟩ : _ ∧ k_ ≠ gb191))) (fun _ hk => hk.2) (.int .i8 x17_2)) (fun _ hk => hk.2) (.int .i8 x12_1)) (fun _ h_ => h_.1))) hb); have n1_ := Aside0.mk (blk_below (g := gb187) (o := .cells (mixA (Value.int .u16) [.int .i8 a0_0, .int .i8 a0_1] a0_2) 31 (0, 0)) (by (with_reducible repeat (first | refine blk_drewN ?_ _ | refine blk_drew ?_ | refine blk_alloc ?_ _)); refine blk_far ?_ NB187_191.out _; (with_reducible repeat (first | refine blk_drewN ?_ _ | refine blk_drew ?_ | refine blk_alloc ?_ _)); refine blk_far ?_ NB187_191.out _; (with_reducible repeat (first | refine blk_drewN ?_ _ | refine blk_drew ?_ | refine blk_alloc ?_ _)); exact BK187.out) hb); have n2_ := Aside0.mk (blk_below (g := gb191) (o := .cells #[.int .i8 x17_2, .int .i8 x12_1] 41 (0, 0)) (by (with_reducible repeat (first | refine blk_drewN ?_ _ | refine blk_drew ?_ | refine blk_alloc ?_ _)); refine blk_put (cs := #[.int .i8 x17_2, .int .i8 0]) ?_ 1 _ rfl; (with_reducible repeat (first | refine blk_drewN ?_ _ | refine blk_drew ?_ | refine blk_alloc ?_ _)); refine blk_put (cs := #[.int .i8 0, .int .i8 0]) ?_ 0 _ rfl; (with_reducible repeat (first | refine blk_drewN ?_ _ | refine blk_drew ?_ | refine blk_alloc ?_ _)); exact BK191.out) hb); have n3_ := bst HB hb; clear HO_5; clear BK187; clear BK191; clear HB; have HO_5 := n0_; have BK187 := n1_; have BK191 := n2_; have HB := n3_; clear n0_ n1_ n2_ n3_; (try clear hb); (try clear hb2); (try clear hk); (try clear hi); have hcz17_0 : w16.cell? ⟨gb191, 0, none⟩ = some (.int .i8 x17_2) := (blk_cell BK191.out 0).trans rfl; have hcz17_1 : w16.cell? ⟨gb191, 1, none⟩ = some (.int .i8 x12_1) := (blk_cell BK191.out 1).trans rfl; have hfz17_0 := blk_frozen BK191.out 0; have hfz17_1 := blk_frozen BK191.out 1) | ((with_reducible refine gate_builtin (b := .append) (xs := #[.tmp 26, .tmp 28]) rfl ?_); at_builtin; refine Kd.R_append k41 (w0 := w) w.heap.size rfl (.tmp 26) (.tmp 28) 48 41 (.agg #[(.int .i8 0), (.int .i8 0)]) 2 rfl Tryd.underlying48 info41 rfl (by decide) (by omega) u5 x5_2 (⟨x17_2, x12_1⟩ : S41) [.int .i8 x17_2, .int .i8 x12_1] (fun k_ => k_ ≠ gb191) (fun _ => False) rfl rfl ?aP (fun _ hk => hk.elim) ?aF ?aO ?aB ?aS ?aL ?_; (case aP => exact k41_mkM _ _ _ (⟨x17_2, x12_1⟩ : S41)); (case aB => exact (pbs HB)); (case aF => exact (fun k_ hk => Kd.freshB (g := gb191) (o := .cells #[.int .i8 x17_2, .int .i8 x12_1] 41 (0, 0)) (pk BK191) k_ hk)); (case aO => exact (by (with_reducible repeat (first | apply Kd.R_alloc | apply Kd.R_drewN | apply Kd.R_drew)); exact Kd.R_mono HO_5.out (fun _ hk => hk.2))); (case aS => exact (below_size (by repeat (first | (with_reducible first | exact HB.out | apply below_alloc | apply pw_below_drewN | apply below_drew1 | refine below_set ?_ GE187.out | refine below_set ?_ GE191.out) | exact HB.out)))); (case aL => have := LMc12.out; omega); intro v194 w18 ho hb hg hat; rw [← Ny193.out] at ho; have n0_ := Aside0.mk (blk_grown (g := gb187) (o := .cells (mixA (Value.int .u16) [.int .i8 a0_0, .int .i8 a0_1] a0_2) 31 (0, 0)) (pk BK187) hg (Kd.R_ne HO_5.out BK187.out (by decide))); have n1_ := Aside0.mk (blk_grown (g := gb191) (o := .cells #[.int .i8 x17_2, .int .i8 x12_1] 41 (0, 0)) (pk BK191) hg (Kd.R_away HO_5.out (fun _ hk => hk.2))); have n2_ := Aside0.mk (hb); have n3_ := Aside0.mk (ho); clear BK187; clear BK191; clear HB; clear HO_5; have BK187 := n0_; have BK191 := n1_; have HB := n2_; have HO195 := n3_; clear n0_ n1_ n2_ n3_; clear ho hb hg hat))
         go_roundg k2
         case measure => have := HK1.out; have := HK2.out; omega
         case rel => exact ⟨(y193), (IntKind.i8.wrap (x17_2 + 1)), (by first | rfl | (simp; done) | (simp [*]; done)), H', ⟨by have := HK1.out; have := HK2.out; omega⟩, ⟨by (with_reducible repeat (first | apply Kd.R_alloc | apply Kd.R_drewN | apply Kd.R_drew)); exact Kd.R_mono HO195.out (fun _ hk => trivial)⟩, ⟨pk BK187⟩, ⟨pbs HB⟩⟩
        ·rw [if_neg c12] at H
         exact absurd H (by simp)
       ·replace c11 := Bool.eq_false_iff.mpr c11
        subst c11
        have H1 : (impl_Room_cells__51.l1 k2 x5_2 x12_1 a0_1 x12_1 a0_0 (IntKind.i8.wrap (x17_2 + 1)) a1_0 a1_1 a1_2 a0_0 a0_1 a0_2) = some r := by rw [if_neg (show ¬ (false = true) by decide)] at H; exact H
        clear H
        have H := H1
        clear H1
        have H' := Aside0.mk H
        clear H
        go_wp2_with (first | ((with_reducible refine gate_dst (N := 8) rfl ?_); refine box_event ?hg (N := 8) ?hd (cs := #[.int .i8 0, .int .i8 0]) (t := 41) ?hr ?_; (case hd => rfl); (case hg => rfl); (case hr => first | (go_simp; done) | (go_simp; rfl)); intro gb191 hg w19 hbox hb; have n0_ := Aside0.mk (Kd.R_below (Kd.R_elderB (by (with_reducible repeat (first | apply Kd.R_alloc | apply Kd.R_drewN | apply Kd.R_drew)); exact HO_5.out) gb191 (Nat.le_of_eq hg.symm)) hb); have n1_ := bkb BK187 hb; have n2_ := bst HB hb; have n3_ := Aside0.mk (hbox); have n4_ := gwl HB hg; have n5_ := gwl HB hg; have n6_ := nbl BK187 hg; have n7_ := nbg BK187 hg; clear HO_5; clear BK187; clear HB; have HO_5 := n0_; have BK187 := n1_; have HB := n2_; have BK191 := n3_; have GW191 := n4_; have GE191 := n5_; have NB187_191 := n6_; have NB191_187 := n7_; clear n0_ n1_ n2_ n3_ n4_ n5_ n6_ n7_; clear hb hbox hg; have hnb20 := NB191_187.out; have hnc20 := NB187_191.out; have hcz21_0 : w19.cell? ⟨gb191, 0, none⟩ = some (.int .i8 0) := (blk_cell BK191.out 0).trans rfl; have hcz21_1 : w19.cell? ⟨gb191, 1, none⟩ = some (.int .i8 0) := (blk_cell BK191.out 1).trans rfl; have hfz21_0 := blk_frozen BK191.out 0; have hfz21_1 := blk_frozen BK191.out 1) | (go_at_call 51; (with_reducible refine (impl_Room_isFree.calls a1_0 a1_1 a1_2 x17_2 x12_1 false _ A10.out).mono ?_); rintro e w22 ⟨rfl, hb⟩; have n0_ := Aside0.mk (Kd.R_below (by (with_reducible repeat (first | apply Kd.R_alloc | apply Kd.R_drewN | apply Kd.R_drew)); exact (Kd.R_mono (Kd.R_far (p := ⟨gb191, 1, none⟩) (Kd.R_far (p := ⟨gb191, 0, none⟩) (Kd.R_mono HO_5.out (fun k_ hk => (⟨hk, hk.2⟩ : _ ∧ k_ ≠ gb191))) (fun _ hk => hk.2) (.int .i8 x17_2)) (fun _ hk => hk.2) (.int .i8 x12_1)) (fun _ h_ => h_.1))) hb); have n1_ := Aside0.mk (blk_below (g := gb187) (o := .cells (mixA (Value.int .u16) [.int .i8 a0_0, .int .i8 a0_1] a0_2) 31 (0, 0)) (by (with_reducible repeat (first | refine blk_drewN ?_ _ | refine blk_drew ?_ | refine blk_alloc ?_ _)); refine blk_far ?_ NB187_191.out _; (with_reducible repeat (first | refine blk_drewN ?_ _ | refine blk_drew ?_ | refine blk_alloc ?_ _)); refine blk_far ?_ NB187_191.out _; (with_reducible repeat (first | refine blk_drewN ?_ _ | refine blk_drew ?_ | refine blk_alloc ?_ _)); exact BK187.out) hb); have n2_ := Aside0.mk (blk_below (g := gb191) (o := .cells #[.int .i8 x17_2, .int .i8 x12_1] 41 (0, 0)) (by (with_reducible repeat (first | refine blk_drewN ?_ _ | refine blk_drew ?_ | refine blk_alloc ?_ _)); refine blk_put (cs := #[.int .i8 x17_2, .int .i8 0]) ?_ 1 _ rfl; (with_reducible repeat (first | refine blk_drewN ?_ _ | refine blk_drew ?_ | refine blk_alloc ?_ _)); refine blk_put (cs := #[.int .i8 0, .int .i8 0]) ?_ 0 _ rfl; (with_reducible repeat (first | refine blk_drewN ?_ _ | refine blk_drew ?_ | refine blk_alloc ?_ _)); exact BK191.out) hb); have n3_ := bst HB hb; clear HO_5; clear BK187; clear BK191; clear HB; have HO_5 := n0_; have BK187 := n1_; have BK191 := n2_; have HB := n3_; clear n0_ n1_ n2_ n3_; (try clear hb); (try clear hb2); (try clear hk); (try clear hi)))
        go_roundg k2
        case measure => have := HK1.out; have := HK2.out; omega
        case rel => exact ⟨(x5_2), (IntKind.i8.wrap (x17_2 + 1)), (by first | rfl | (simp; done) | (simp [*]; done)), H', ⟨by have := HK1.out; have := HK2.out; omega⟩, ⟨by (with_reducible repeat (first | apply Kd.R_alloc | apply Kd.R_drewN | apply Kd.R_drew)); exact Kd.R_mono HO_5.out (fun _ hk => trivial)⟩, ⟨pk BK187⟩, ⟨pbs HB⟩⟩
      ·rw [if_neg c9] at H
       have c9b0 : decide (x17_2 < a0_0) = false := decide_eq_false c9
       clear c9
       have H' := Aside0.mk H
       clear H
       go_wp2
       go_roundg k2
       case measure => have := HK1.out; have := HK2.out; omega
       case rel => exact ⟨(x5_2), (IntKind.i8.wrap (x12_1 + 1)), (by first | rfl | (simp; done) | (simp [*]; done)), H', ⟨by have := HK1.out; have := HK2.out; omega⟩, ⟨by (with_reducible repeat (first | apply Kd.R_alloc | apply Kd.R_drewN | apply Kd.R_drew)); exact HO_5.out⟩, ⟨pk BK187⟩, ⟨pbs HB⟩⟩
   ·rw [if_neg c7] at H
    have c7b0 : decide (x12_1 < a0_1) = false := decide_eq_false c7
    clear c7
    obtain rfl := Option.some.inj H
    go_wp2
    go_ret
    exact ⟨_, by first | rfl | (simp [errW_none, errW_some] <;> rfl) | (simp [*, errW_none, errW_some] <;> rfl), by (with_reducible repeat (first | apply Kd.R_alloc | apply Kd.R_drewN | apply Kd.R_drew)); exact HO_5.out, pbs HB⟩
def impl_Room_free.f (k : Nat) (a0_0 : Int) (a0_1 : Int) (a0_2 : LA 10) : Option ((List (S41))) := (impl_Room_cells__51.f k a0_0 a0_1 a0_2 a0_0 a0_1 a0_2).bind fun t197 => (some t197)
theorem impl_Room_free.mono : ∀ a0 a1 a2 k, LeO (impl_Room_free.f k a0 a1 a2) (impl_Room_free.f (k + 1) a0 a1 a2) := by
 intro a0 a1 a2 k
 unfold impl_Room_free.f
 repeat' first
   | (with_reducible exact impl_Room_cells__51.mono _ _ _ _ _ _ _)
   | (with_reducible exact LeO.refl _)
   | (with_reducible exact LeO.none _)
   | (with_reducible refine LeO.ite ?_ ?_)
   | (with_reducible refine LeO.bind ?_ (fun _ => ?_))
   | exact impl_Room_cells__51.mono _ _ _ _ _ _ _
   | exact LeO.none _
   | refine LeO.ite ?_ ?_
   | refine LeO.bind ?_ (fun _ => ?_)
set_option maxHeartbeats 8000000 in
set_option maxRecDepth 100000 in
theorem impl_Room_free.calls (k : Nat) (a0_0 : Int) (a0_1 : Int) (a0_2 : LA 10) (r : List (S41)) (w : World) (h : impl_Room_free.f k a0_0 a0_1 a0_2 = some r) :
  Calls Tryd.prog 28 #[.agg (mixA (Value.int .u16) [.int .i8 a0_0, .int .i8 a0_1] a0_2)] w fun e w' => ∃ v0_ : Value, e = .returned (v0_) ∧ Kd.R k41 41 w' w.heap.size (fun _ => True) v0_ r ∧ Below w.heap.size w w' := by
 have hu31 := Tryd.underlying31
 have HB := Aside0.mk (Below.refl w.heap.size w)
 have H : ((impl_Room_cells__51.f k a0_0 a0_1 a0_2 a0_0 a0_1 a0_2).bind fun t197 => (some t197)) = some r := h
 clear h
 replace H := Option.bind_eq_some_iff.mp H
 obtain ⟨t197, A20, H⟩ := H
 replace H : (some t197) = some r := H
 have A2 := Aside0.mk A20
 clear A20
 obtain rfl := Option.some.inj H
 go_enter Tryd.func28, Tryd.ntmps28
 go_wp2_with (first | ((with_reducible refine gate_dst (N := 1) rfl ?_); refine box_event ?hg (N := 1) ?hd (cs := (mixA (Value.int .u16) [.int .i8 a0_0, .int .i8 a0_1] a0_2)) (t := 31) ?hr ?_; (case hd => rfl); (case hg => rfl); (case hr => first | (go_simp; done) | (go_simp; rfl)); intro gb196 hg w3 hbox hb; have n0_ := bst HB hb; have n1_ := Aside0.mk (hbox); have n2_ := gwl HB hg; have n3_ := gwl HB hg; clear HB; have HB := n0_; have BK196 := n1_; have GW196 := n2_; have GE196 := n3_; clear n0_ n1_ n2_ n3_; clear hb hbox hg) | ((with_reducible refine gate_dst (N := 3) rfl ?_); refine wpList_run0 (v := .agg (mixA (Value.int .u16) [.int .i8 a0_0, .int .i8 a0_1] a0_2)) rfl (load_mix_run (P := Tryd.prog) 31 (.tmp 1) rfl gb196 rfl (show World.rangeAt _ gb196 0 ([.int .i8 a0_0, .int .i8 a0_1] ++ a0_2.l.map (Value.int .u16)) from mix_range (show (World.heap _)[gb196]? = some (.cells (mixA (Value.int .u16) [.int .i8 a0_0, .int .i8 a0_1] a0_2) 31 (0, 0)) from by (with_reducible repeat (first | refine blk_drewN ?_ _ | refine blk_drew ?_ | refine blk_alloc ?_ _)); exact BK196.out)) Tryd.underlying31 rfl (by kernel_rfl) rfl) ?_) | ((with_reducible refine gate_dst (N := 4) rfl ?_); refine wpList_run0 (v := .agg (mixA (Value.int .u16) [.int .i8 a0_0, .int .i8 a0_1] a0_2)) rfl (load_mix_run (P := Tryd.prog) 31 (.tmp 1) rfl gb196 rfl (show World.rangeAt _ gb196 0 ([.int .i8 a0_0, .int .i8 a0_1] ++ a0_2.l.map (Value.int .u16)) from mix_range (show (World.heap _)[gb196]? = some (.cells (mixA (Value.int .u16) [.int .i8 a0_0, .int .i8 a0_1] a0_2) 31 (0, 0)) from by (with_reducible repeat (first | refine blk_drewN ?_ _ | refine blk_drew ?_ | refine blk_alloc ?_ _)); exact BK196.out)) Tryd.underlying31 rfl (by kernel_rfl) rfl) ?_) | ((with_reducible refine gate_callee (f := 50) rfl ?_); refine goesL_ (some 6) rfl rfl Tryd.func50 (by kernel_rfl) rfl #[.agg (mixA (Value.int .u16) [.int .i8 a0_0, .int .i8 a0_1] a0_2), .func (.func 51) #[.agg (mixA (Value.int .u16) [.int .i8 a0_0, .int .i8 a0_1] a0_2)] #[]] rfl (by (try simp only [List.map_toArray, List.map_cons, List.map_nil]); first | done | rfl | (simp only [List.length_drop, List.length_take]; rfl)) ?_; (with_reducible refine (impl_Room_cells__51.calls k a0_0 a0_1 a0_2 a0_0 a0_1 a0_2 t197 _ A2.out).mono ?_); rintro e w6 ⟨v198, rfl, ho0, hb⟩; refine ⟨_, rfl, ?_⟩; have n0_ := Aside0.mk (Kd.R_lower ho0 (below_size (by repeat (first | (with_reducible first | exact HB.out | apply below_alloc | apply pw_below_drewN | apply below_drew1 | refine below_set ?_ GE196.out) | exact HB.out)))); have n1_ := bkb BK196 hb; have n2_ := bst HB hb; clear BK196; clear HB; have HO199 := n0_; have BK196 := n1_; have HB := n2_; clear n0_ n1_ n2_; (try clear hb); (try clear hb2); (try clear hk); (try clear hi); (try clear ho0)))
 go_ret
 exact ⟨_, by first | rfl | (simp [errW_none, errW_some] <;> rfl) | (simp [*, errW_none, errW_some] <;> rfl), by (with_reducible repeat (first | apply Kd.R_alloc | apply Kd.R_drewN | apply Kd.R_drew)); exact HO199.out, pbs HB⟩
def impl_Crowd_set.f (C : LA 40) (a1_0 a1_1 a2 : Int) : Option (LA 40) := if 0 ≤ a2 then (if a2 < 4 then (if 0 ≤ a1_1 then (if a1_1 < 10 then (if 0 ≤ a1_0 then some (LA.set C (a2 * 10 + a1_1) (Go.bits .or .u16 (rd C.l (a2 * 10 + a1_1)) (shl .u16 1 a1_0))) else none) else none) else none) else none) else none
set_option maxHeartbeats 8000000 in
set_option maxRecDepth 100000 in
theorem impl_Crowd_set.calls (g : Nat) (C : LA 40) (a1_0 a1_1 a2 : Int) (r1 : LA 40) (w0 w : World) (hI : IsS28 w0 w g C) (hB : Below w0.heap.size w0 w) (h : impl_Crowd_set.f C a1_0 a1_1 a2 = some r1) :
    Calls Tryd.prog 29 #[.pointer (some ⟨g, 0, none⟩), .agg #[.int .i8 a1_0, .int .i8 a1_1], .int .i64 a2] w fun e w' => e = .returned (.tuple #[]) ∧ IsS28 w0 w' g r1 ∧ Below w0.heap.size w0 w' ∧ KeepBut w w' g none := by
  have hu33 := Tryd.underlying41
  have hu26 := Tryd.underlying28
  have hu23 := Tryd.underlying24
  unfold impl_Crowd_set.f at h
  by_cases h0 : 0 ≤ a2
  · rw [if_pos h0] at h
    by_cases h1 : a2 < 4
    · rw [if_pos h1] at h
      by_cases h2 : 0 ≤ a1_1
      · rw [if_pos h2] at h
        by_cases h3 : a1_1 < 10
        · rw [if_pos h3] at h
          by_cases h4 : 0 ≤ a1_0
          case neg => rw [if_neg h4] at h; cases h
          rw [if_pos h4] at h
          have hx4 : (0 ≤ a1_0) = True := eq_true h4
          have hx5 : decide (0 ≤ a1_0) = true := decide_eq_true h4
          obtain rfl := Option.some.inj h
          clear h
          obtain ⟨w1, hw1⟩ : ∃ w1, w.alloc (.cells #[.int .i8 a1_0, .int .i8 a1_1] 41) = w1 := ⟨_, rfl⟩
          have G1 : Aside0 (w1.heap[g]? = some (.cells (mixA (Value.int .u16) [] C) 28 (0, 0))) := ⟨by rw [← hw1]; exact blk_alloc hI.1 _⟩
          have G2 : Aside0 (w1.heap[w.heap.size]? = some (.cells #[.int .i8 a1_0, .int .i8 a1_1] 41 (0, 0))) := ⟨by rw [← hw1]; exact blk_new w _⟩
          have G3 : Aside0 (Below w0.heap.size w0 w1) := ⟨by rw [← hw1]; exact below_alloc hB _⟩
          have G4 : Aside0 (KeepBut w w1 g none) := ⟨by rw [← hw1]; exact keep_alloc (KeepBut.refl w g none) _⟩
          have G5 := Aside0.mk hI.2
          have HW := Aside0.mk hw1
          clear hI hB hw1
          have hx0 : (0 ≤ a2) = True := eq_true h0
          have hx1 : (a2 < 4) = True := eq_true h1
          have hx1' : (a2 < ((4 : Nat) : Int)) = True := eq_true h1
          have hx2 : (0 ≤ a1_1) = True := eq_true h2
          have hx3 : (a1_1 < 10) = True := eq_true h3
          have hx3' : (a1_1 < ((10 : Nat) : Int)) = True := eq_true h3
          go_enter Tryd.func29, Tryd.ntmps29
          go_wp2_with fail
          rw [HW.out]
          have hx : w1.cell? ⟨w.heap.size, 0, none⟩ = some (.int .i8 a1_0) := blk_cell G2.out 0
          have hy : w1.cell? ⟨w.heap.size, 1, none⟩ = some (.int .i8 a1_1) := blk_cell G2.out 1
          have hc : w1.cell? ⟨g, a2.toNat * 10 + a1_1.toNat, none⟩ = some (.int .u16 (rd C.l (a2 * 10 + a1_1))) := mix_at2z 10 G1.out a2 a1_1 h0 h2 (by omega)
          have hf := blk_frozen G1.out (a2.toNat * 10 + a1_1.toNat)
          go_still_tail 15, (by kernel_rfl)
          change wpList _ _ _ _ _ w1.drew
          have hf2 : w1.drew.frozen? ⟨g, a2.toNat * 10 + a1_1.toNat, none⟩ = false := hf
          have hc2 : w1.drew.cell? ⟨g, a2.toNat * 10 + a1_1.toNat, none⟩ = _ := hc
          go_wp2
          first | go_end0 | ((try simp only [Exit.inBlock, Exit.then]); refine bodyPost_ret (results_none rfl _ _ _) rfl ?_)
          have hv : (Go.bits .or .u16 (rd C.l (a2 * 10 + a1_1)) (shl .u16 1 a1_0)) = (Go.bits .or .u16 (rd C.l (a2 * 10 + a1_1)) (IntKind.u16.wrap (2 ^ min (a1_0).toNat 16))) := by unfold shl; rw [Int.one_mul]; rfl
          rw [hv]
          refine ⟨rfl, ⟨mix_set2z (e := Value.int .u16) 10 (w := w1) G1.out a2 a1_1 _ h0 h2 (by omega), G5.out⟩, ?_, ?_⟩
          · exact below_drew1 (below_set G3.out G5.out)
          · exact keep_drew (KeepBut.set_ G4.out _ _)
        · rw [if_neg h3] at h
          cases h
      · rw [if_neg h2] at h
        cases h
    · rw [if_neg h1] at h
      cases h
  · rw [if_neg h0] at h
    cases h
def impl_Crowd_has.f (a0 : LA 40) (a1_0 : Int) (a1_1 : Int) (a2 : Int) : Option (Bool) := if 0 ≤ a2 then (if a2 < 4 then (if 0 ≤ a1_1 then (if a1_1 < 10 then (if 0 ≤ a1_0 then (some ((Go.bits .and .u16 (shr .u16 (rd a0.l (a2 * 10 + a1_1)) a1_0) 1) == 1)) else (none)) else (none)) else (none)) else (none)) else (none)
set_option maxHeartbeats 8000000 in
set_option maxRecDepth 100000 in
theorem impl_Crowd_has.calls (a0 : LA 40) (a1_0 : Int) (a1_1 : Int) (a2 : Int) (r : Bool) (w : World) (h : impl_Crowd_has.f a0 a1_0 a1_1 a2 = some r) :
  Calls Tryd.prog 57 #[.agg (mixA (Value.int .u16) [] a0), .agg #[.int .i8 a1_0, .int .i8 a1_1], .int .i64 a2] w fun e w' => e = .returned (.bool r) ∧ Below w.heap.size w w' := by
 have hu41 := Tryd.underlying41
 have HB := Aside0.mk (Below.refl w.heap.size w)
 have H : (if 0 ≤ a2 then (if a2 < 4 then (if 0 ≤ a1_1 then (if a1_1 < 10 then (if 0 ≤ a1_0 then (some ((Go.bits .and .u16 (shr .u16 (rd a0.l (a2 * 10 + a1_1)) a1_0) 1) == 1)) else (none)) else (none)) else (none)) else (none)) else (none)) = some r := h
 clear h
 by_cases c4 : 0 ≤ a2
 ·rw [if_pos c4] at H
  have c4b0 : decide (0 ≤ a2) = true := decide_eq_true c4
  clear c4
  by_cases c5 : a2 < 4
  ·rw [if_pos c5] at H
   have c5b0 : decide (a2 < 4) = true := decide_eq_true c5
   clear c5
   by_cases c6 : 0 ≤ a1_1
   ·rw [if_pos c6] at H
    have c6b0 : decide (0 ≤ a1_1) = true := decide_eq_true c6
    clear c6
    by_cases c7 : a1_1 < 10
    ·rw [if_pos c7] at H
     have c7b0 : decide (a1_1 < 10) = true := decide_eq_true c7
     clear c7
     by_cases c8 : 0 ≤ a1_0
     ·rw [if_pos c8] at H
      have c8b0 := eq_true c8
      have c8b1 : decide (0 ≤ a1_0) = true := decide_eq_true c8
      clear c8
      obtain ⟨ji9, hji9⟩ : ∃ j_ : Int, (shr .u16 (rd a0.l (a2 * 10 + a1_1)) a1_0) = j_ := ⟨_, rfl⟩
      replace H : (some ((Go.bits .and .u16 (ji9) 1) == 1)) = some r := by first | (rw [hji9] at H; exact H) | (simp only [hji9] at H ⊢; exact H)
      have hji9_ : ((rd a0.l (a2 * 10 + a1_1)) / 2 ^ min a1_0.toNat 16) = ji9 := hji9
      have hji9z : a1_0 ≤ 16 → ((rd a0.l (a2 * 10 + a1_1)) / 2 ^ a1_0.toNat) = ji9 := shr_small hji9
      obtain rfl := Option.some.inj H
      go_enter Tryd.func57, Tryd.ntmps57
      go_wp2_with (first | ((with_reducible refine gate_dst (N := 3) rfl ?_); refine box_event ?hg (N := 3) ?hd (cs := (mixA (Value.int .u16) [] a0)) (t := 28) ?hr ?_; (case hd => rfl); (case hg => rfl); (case hr => first | (go_simp; done) | (go_simp; rfl)); intro gb200 hg w10 hbox hb; have n0_ := bst HB hb; have n1_ := Aside0.mk (hbox); have n2_ := gwl HB hg; have n3_ := gwl HB hg; clear HB; have HB := n0_; have BK200 := n1_; have GW200 := n2_; have GE200 := n3_; clear n0_ n1_ n2_ n3_; clear hb hbox hg) | ((with_reducible refine gate_dst (N := 4) rfl ?_); refine box_event ?hg (N := 4) ?hd (cs := #[.int .i8 a1_0, .int .i8 a1_1]) (t := 41) ?hr ?_; (case hd => rfl); (case hg => rfl); (case hr => first | (go_simp; done) | (go_simp; rfl)); intro gb201 hg w11 hbox hb; have n0_ := bkb BK200 hb; have n1_ := bst HB hb; have n2_ := Aside0.mk (hbox); have n3_ := gwl HB hg; have n4_ := gwl HB hg; have n5_ := nbl BK200 hg; have n6_ := nbg BK200 hg; clear BK200; clear HB; have BK200 := n0_; have HB := n1_; have BK201 := n2_; have GW201 := n3_; have GE201 := n4_; have NB200_201 := n5_; have NB201_200 := n6_; clear n0_ n1_ n2_ n3_ n4_ n5_ n6_; clear hb hbox hg; have hnb12 := NB201_200.out; have hnc12 := NB200_201.out; have hcz13_0 : w11.cell? ⟨gb201, 0, none⟩ = some (.int .i8 a1_0) := (blk_cell BK201.out 0).trans rfl; have hcz13_1 : w11.cell? ⟨gb201, 1, none⟩ = some (.int .i8 a1_1) := (blk_cell BK201.out 1).trans rfl; have hfz13_0 := blk_frozen BK201.out 0; have hfz13_1 := blk_frozen BK201.out 1; have hpd15 : (0 ≤ a2) = True := eq_true (by first | omega | exact of_decide_eq_true (by first | (with_reducible assumption) | assumption)); have hqd15 : (a2 < 4) = True := eq_true (by first | omega | exact of_decide_eq_true (by first | (with_reducible assumption) | assumption)); have hrd15 : (a2 < ((4 : Nat) : Int)) = True := eq_true (by first | omega | exact of_decide_eq_true (by first | (with_reducible assumption) | assumption)); have hpbd15 : (0 ≤ a1_1) = True := eq_true (by first | omega | exact of_decide_eq_true (by first | (with_reducible assumption) | assumption)); have hqbd15 : (a1_1 < 10) = True := eq_true (by first | omega | exact of_decide_eq_true (by first | (with_reducible assumption) | assumption)); have hrbd15 : (a1_1 < ((10 : Nat) : Int)) = True := eq_true (by first | omega | exact of_decide_eq_true (by first | (with_reducible assumption) | assumption)); have hdd15 : w11.cell? ⟨gb200, a2.toNat * 10 + a1_1.toNat, none⟩ = some (.int .u16 (rd a0.l (a2 * 10 + a1_1))) := mix_at2z 10 BK200.out a2 a1_1 (of_eq_true hpd15) (of_eq_true hpbd15) (by have := of_eq_true hqd15; have := of_eq_true hqbd15; omega); have hfdd15 := blk_frozen BK200.out (a2.toNat * 10 + a1_1.toNat)))
      repeat (go_quiet (first | ((with_reducible refine gate_dst (N := 3) rfl ?_); refine box_event ?hg (N := 3) ?hd (cs := (mixA (Value.int .u16) [] a0)) (t := 28) ?hr ?_; (case hd => rfl); (case hg => rfl); (case hr => first | (go_simp; done) | (go_simp; rfl)); intro gb200 hg w10 hbox hb; have n0_ := bst HB hb; have n1_ := Aside0.mk (hbox); have n2_ := gwl HB hg; have n3_ := gwl HB hg; clear HB; have HB := n0_; have BK200 := n1_; have GW200 := n2_; have GE200 := n3_; clear n0_ n1_ n2_ n3_; clear hb hbox hg) | ((with_reducible refine gate_dst (N := 4) rfl ?_); refine box_event ?hg (N := 4) ?hd (cs := #[.int .i8 a1_0, .int .i8 a1_1]) (t := 41) ?hr ?_; (case hd => rfl); (case hg => rfl); (case hr => first | (go_simp; done) | (go_simp; rfl)); intro gb201 hg w11 hbox hb; have n0_ := bkb BK200 hb; have n1_ := bst HB hb; have n2_ := Aside0.mk (hbox); have n3_ := gwl HB hg; have n4_ := gwl HB hg; have n5_ := nbl BK200 hg; have n6_ := nbg BK200 hg; clear BK200; clear HB; have BK200 := n0_; have HB := n1_; have BK201 := n2_; have GW201 := n3_; have GE201 := n4_; have NB200_201 := n5_; have NB201_200 := n6_; clear n0_ n1_ n2_ n3_ n4_ n5_ n6_; clear hb hbox hg; have hnb12 := NB201_200.out; have hnc12 := NB200_201.out; have hcz13_0 : w11.cell? ⟨gb201, 0, none⟩ = some (.int .i8 a1_0) := (blk_cell BK201.out 0).trans rfl; have hcz13_1 : w11.cell? ⟨gb201, 1, none⟩ = some (.int .i8 a1_1) := (blk_cell BK201.out 1).trans rfl; have hfz13_0 := blk_frozen BK201.out 0; have hfz13_1 := blk_frozen BK201.out 1; have hpd15 : (0 ≤ a2) = True := eq_true (by first | omega | exact of_decide_eq_true (by first | (with_reducible assumption) | assumption)); have hqd15 : (a2 < 4) = True := eq_true (by first | omega | exact of_decide_eq_true (by first | (with_reducible assumption) | assumption)); have hrd15 : (a2 < ((4 : Nat) : Int)) = True := eq_true (by first | omega | exact of_decide_eq_true (by first | (with_reducible assumption) | assumption)); have hpbd15 : (0 ≤ a1_1) = True := eq_true (by first | omega | exact of_decide_eq_true (by first | (with_reducible assumption) | assumption)); have hqbd15 : (a1_1 < 10) = True := eq_true (by first | omega | exact of_decide_eq_true (by first | (with_reducible assumption) | assumption)); have hrbd15 : (a1_1 < ((10 : Nat) : Int)) = True := eq_true (by first | omega | exact of_decide_eq_true (by first | (with_reducible assumption) | assumption)); have hdd15 : w11.cell? ⟨gb200, a2.toNat * 10 + a1_1.toNat, none⟩ = some (.int .u16 (rd a0.l (a2 * 10 + a1_1))) := mix_at2z 10 BK200.out a2 a1_1 (of_eq_true hpd15) (of_eq_true hpbd15) (by have := of_eq_true hqd15; have := of_eq_true hqbd15; omega); have hfdd15 := blk_frozen BK200.out (a2.toNat * 10 + a1_1.toNat))); try go_wp2_with (first | ((with_reducible refine gate_dst (N := 3) rfl ?_); refine box_event ?hg (N := 3) ?hd (cs := (mixA (Value.int .u16) [] a0)) (t := 28) ?hr ?_; (case hd => rfl); (case hg => rfl); (case hr => first | (go_simp; done) | (go_simp; rfl)); intro gb200 hg w10 hbox hb; have n0_ := bst HB hb; have n1_ := Aside0.mk (hbox); have n2_ := gwl HB hg; have n3_ := gwl HB hg; clear HB; have HB := n0_; have BK200 := n1_; have GW200 := n2_; have GE200 := n3_; clear n0_ n1_ n2_ n3_; clear hb hbox hg) | ((with_reducible refine gate_dst (N := 4) rfl ?_); refine box_event ?hg (N := 4) ?hd (cs := #[.int .i8 a1_0, .int .i8 a1_1]) (t := 41) ?hr ?_; (case hd => rfl); (case hg => rfl); (case hr => first | (go_simp; done) | (go_simp; rfl)); intro gb201 hg w11 hbox hb; have n0_ := bkb BK200 hb; have n1_ := bst HB hb; have n2_ := Aside0.mk (hbox); have n3_ := gwl HB hg; have n4_ := gwl HB hg; have n5_ := nbl BK200 hg; have n6_ := nbg BK200 hg; clear BK200; clear HB; have BK200 := n0_; have HB := n1_; have BK201 := n2_; have GW201 := n3_; have GE201 := n4_; have NB200_201 := n5_; have NB201_200 := n6_; clear n0_ n1_ n2_ n3_ n4_ n5_ n6_; clear hb hbox hg; have hnb12 := NB201_200.out; have hnc12 := NB200_201.out; have hcz13_0 : w11.cell? ⟨gb201, 0, none⟩ = some (.int .i8 a1_0) := (blk_cell BK201.out 0).trans rfl; have hcz13_1 : w11.cell? ⟨gb201, 1, none⟩ = some (.int .i8 a1_1) := (blk_cell BK201.out 1).trans rfl; have hfz13_0 := blk_frozen BK201.out 0; have hfz13_1 := blk_frozen BK201.out 1; have hpd15 : (0 ≤ a2) = True := eq_true (by first | omega | exact of_decide_eq_true (by first | (with_reducible assumption) | assumption)); have hqd15 : (a2 < 4) = True := eq_true (by first | omega | exact of_decide_eq_true (by first | (with_reducible assumption) | assumption)); have hrd15 : (a2 < ((4 : Nat) : Int)) = True := eq_true (by first | omega | exact of_decide_eq_true (by first | (with_reducible assumption) | assumption)); have hpbd15 : (0 ≤ a1_1) = True := eq_true (by first | omega | exact of_decide_eq_true (by first | (with_reducible assumption) | assumption)); have hqbd15 : (a1_1 < 10) = True := eq_true (by first | omega | exact of_decide_eq_true (by first | (with_reducible assumption) | assumption)); have hrbd15 : (a1_1 < ((10 : Nat) : Int)) = True := eq_true (by first | omega | exact of_decide_eq_true (by first | (with_reducible assumption) | assumption)); have hdd15 : w11.cell? ⟨gb200, a2.toNat * 10 + a1_1.toNat, none⟩ = some (.int .u16 (rd a0.l (a2 * 10 + a1_1))) := mix_at2z 10 BK200.out a2 a1_1 (of_eq_true hpd15) (of_eq_true hpbd15) (by have := of_eq_true hqd15; have := of_eq_true hqbd15; omega); have hfdd15 := blk_frozen BK200.out (a2.toNat * 10 + a1_1.toNat))))
      go_ret
      exact ⟨by first | rfl | (simp [errW_none, errW_some] <;> rfl) | (simp only [← hji9]; first | rfl | (simp [errW_none, errW_some] <;> rfl)) | (simp [*, errW_none, errW_some] <;> rfl), pbs HB⟩
     ·rw [if_neg c8] at H
      exact absurd H (by simp)
    ·rw [if_neg c7] at H
     exact absurd H (by simp)
   ·rw [if_neg c6] at H
    exact absurd H (by simp)
  ·rw [if_neg c5] at H
   exact absurd H (by simp)
 ·rw [if_neg c4] at H
  exact absurd H (by simp)
end Go.Proofs.YtdedijjbdkoekaaDoor.PB
end
section
namespace Go.Proofs.YtdedijjbdkoekaaDoor.PB
open Go.RowKit Go.Proofs.YtdedijjbdkoekaaDoorW.PrintWords Go.Proofs.YtdedijjbdkoekaaDoorW.PrintLast Go.Proofs.YtdedijjbdkoekaaDoorW.PrintMore Go.Proofs.YtdedijjbdkoekaaDoor.La
attribute [local go_sem] max2_int min2_int max_two min_two max_three min_three max_four min_four   -- for this text's walks alone
set_option linter.unusedVariables false
set_option linter.unusedSimpArgs false
def impl_NextSpot.f (a0_0 : Int) (a0_1 : Int) (a1 : Int) : Option (Int × Int) := if a1 = 0 then (some (a0_0, IntKind.i8.wrap (a0_1 - 1))) else (if a1 = 1 then (some (IntKind.i8.wrap (a0_0 + 1), a0_1)) else (if a1 = 2 then (some (a0_0, IntKind.i8.wrap (a0_1 + 1))) else (if a1 = 3 then (some (IntKind.i8.wrap (a0_0 - 1), a0_1)) else (some (a0_0, a0_1)))))
set_option maxHeartbeats 8000000 in
set_option maxRecDepth 100000 in
theorem impl_NextSpot.calls (a0_0 : Int) (a0_1 : Int) (a1 : Int) (r1 : Int) (r2 : Int) (w : World) (h : impl_NextSpot.f a0_0 a0_1 a1 = some (r1, r2)) :
  Calls Tryd.prog 66 #[.agg #[.int .i8 a0_0, .int .i8 a0_1], .int .i64 a1] w fun e w' => e = .returned (.agg #[.int .i8 r1, .int .i8 r2]) ∧ Below w.heap.size w w' := by
 have hu41 := Tryd.underlying41
 have HB := Aside0.mk (Below.refl w.heap.size w)
 have H : (if a1 = 0 then (some (a0_0, IntKind.i8.wrap (a0_1 - 1))) else (if a1 = 1 then (some (IntKind.i8.wrap (a0_0 + 1), a0_1)) else (if a1 = 2 then (some (a0_0, IntKind.i8.wrap (a0_1 + 1))) else (if a1 = 3 then (some (IntKind.i8.wrap (a0_0 - 1), a0_1)) else (some (a0_0, a0_1)))))) = some (r1, r2) := h
 clear h
 by_cases c3 : a1 = 0
 ·rw [if_pos c3] at H
  have c3b0 : (a1 == 0) = true := beq_iff_eq.mpr c3
  have c3b1 : (a1 != 0) = false := bne_eq_false_iff_eq.mpr c3
  clear c3
  simp only [Option.some.injEq, Prod.mk.injEq] at H
  obtain ⟨rfl, rfl⟩ := H
  go_enter Tryd.func66, Tryd.ntmps66
  go_wp2_with (first | ((with_reducible refine gate_dst (N := 2) rfl ?_); refine box_event ?hg (N := 2) ?hd (cs := #[.int .i8 a0_0, .int .i8 a0_1]) (t := 41) ?hr ?_; (case hd => rfl); (case hg => rfl); (case hr => first | (go_simp; done) | (go_simp; rfl)); intro gb202 hg w4 hbox hb; have n0_ := bst HB hb; have n1_ := Aside0.mk (hbox); have n2_ := gwl HB hg; have n3_ := gwl HB hg; clear HB; have HB := n0_; have BK202 := n1_; have GW202 := n2_; have GE202 := n3_; clear n0_ n1_ n2_ n3_; clear hb hbox hg) | ((with_reducible refine gate_dst (N := 4) rfl ?_); refine box_event ?hg (N := 4) ?hd (cs := #[.int .i8 0, .int .i8 0]) (t := 41) ?hr ?_; (case hd => rfl); (case hg => rfl); (case hr => first | (go_simp; done) | (go_simp; rfl)); intro gb203 hg w5 hbox hb; have n0_ := bkb BK202 hb; have n1_ := bst HB hb; have n2_ := Aside0.mk (hbox); have n3_ := gwl HB hg; have n4_ := gwl HB hg; have n5_ := nbl BK202 hg; have n6_ := nbg BK202 hg; clear BK202; clear HB; have BK202 := n0_; have HB := n1_; have BK203 := n2_; have GW203 := n3_; have GE203 := n4_; have NB202_203 := n5_; have NB203_202 := n6_; clear n0_ n1_ n2_ n3_ n4_ n5_ n6_; clear hb hbox hg; have hnb6 := NB202_203.out; have hnc6 := NB203_202.out; have hcz7_0 : w5.cell? ⟨gb202, 0, none⟩ = some (.int .i8 a0_0) := (blk_cell BK202.out 0).trans rfl; have hcz7_1 : w5.cell? ⟨gb202, 1, none⟩ = some (.int .i8 a0_1) := (blk_cell BK202.out 1).trans rfl; have hfz7_0 := blk_frozen BK202.out 0; have hfz7_1 := blk_frozen BK202.out 1; have hcz8_0 : w5.cell? ⟨gb203, 0, none⟩ = some (.int .i8 0) := (blk_cell BK203.out 0).trans rfl; have hcz8_1 : w5.cell? ⟨gb203, 1, none⟩ = some (.int .i8 0) := (blk_cell BK203.out 1).trans rfl; have hfz8_0 := blk_frozen BK203.out 0; have hfz8_1 := blk_frozen BK203.out 1))
  refine bodyPost_ret (results_cell_row rfl _ _ gb203 41 #[.int .i8 a0_0, .int .i8 (IntKind.i8.wrap (a0_1 - 1))] (0, 0) _ rfl (by (with_reducible repeat (first | refine blk_drewN ?_ _ | refine blk_drew ?_ | refine blk_alloc ?_ _)); refine blk_put (cs := #[.int .i8 a0_0, .int .i8 0]) ?_ 1 _ rfl; (with_reducible repeat (first | refine blk_drewN ?_ _ | refine blk_drew ?_ | refine blk_alloc ?_ _)); refine blk_put (cs := #[.int .i8 0, .int .i8 0]) ?_ 0 _ rfl; (with_reducible repeat (first | refine blk_drewN ?_ _ | refine blk_drew ?_ | refine blk_alloc ?_ _)); refine blk_far ?_ NB203_202.out _; (with_reducible repeat (first | refine blk_drewN ?_ _ | refine blk_drew ?_ | refine blk_alloc ?_ _)); exact BK203.out) Tryd.underlying41 rfl (by kernel_rfl)) rfl ?_
  exact ⟨by first | rfl | (simp [errW_none, errW_some] <;> rfl) | (simp [*, errW_none, errW_some] <;> rfl), pbs HB⟩
 ·rw [if_neg c3] at H
  have c3b0 : (a1 == 0) = false := beq_eq_false_iff_ne.mpr c3
  have c3b1 : (a1 != 0) = true := bne_iff_ne.mpr c3
  by_cases c9 : a1 = 1
  ·rw [if_pos c9] at H
   have c9b0 : (a1 == 1) = true := beq_iff_eq.mpr c9
   have c9b1 : (a1 != 1) = false := bne_eq_false_iff_eq.mpr c9
   clear c9
   simp only [Option.some.injEq, Prod.mk.injEq] at H
   obtain ⟨rfl, rfl⟩ := H
   go_enter Tryd.func66, Tryd.ntmps66
   go_wp2_with (first | ((with_reducible refine gate_dst (N := 2) rfl ?_); refine box_event ?hg (N := 2) ?hd (cs := #[.int .i8 a0_0, .int .i8 a0_1]) (t := 41) ?hr ?_; (case hd => rfl); (case hg => rfl); (case hr => first | (go_simp; done) | (go_simp; rfl)); intro gb202 hg w10 hbox hb; have n0_ := bst HB hb; have n1_ := Aside0.mk (hbox); have n2_ := gwl HB hg; have n3_ := gwl HB hg; clear HB; have HB := n0_; have BK202 := n1_; have GW202 := n2_; have GE202 := n3_; clear n0_ n1_ n2_ n3_; clear hb hbox hg) | ((with_reducible refine gate_dst (N := 4) rfl ?_); refine box_event ?hg (N := 4) ?hd (cs := #[.int .i8 0, .int .i8 0]) (t := 41) ?hr ?_; (case hd => rfl); (case hg => rfl); (case hr => first | (go_simp; done) | (go_simp; rfl)); intro gb203 hg w11 hbox hb; have n0_ := bkb BK202 hb; have n1_ := bst HB hb; have n2_ := Aside0.mk (hbox); have n3_ := gwl HB hg; have n4_ := gwl HB hg; have n5_ := nbl BK202 hg; have n6_ := nbg BK202 hg; clear BK202; clear HB; have BK202 := n0_; have HB := n1_; have BK203 := n2_; have GW203 := n3_; have GE203 := n4_; have NB202_203 := n5_; have NB203_202 := n6_; clear n0_ n1_ n2_ n3_ n4_ n5_ n6_; clear hb hbox hg; have hnb12 := NB202_203.out; have hnc12 := NB203_202.out; have hcz13_0 : w11.cell? ⟨gb202, 0, none⟩ = some (.int .i8 a0_0) := (blk_cell BK202.out 0).trans rfl; have hcz13_1 : w11.cell? ⟨gb202, 1, none⟩ = some (.int .i8 a0_1) := (blk_cell BK202.out 1).trans rfl; have hfz13_0 := blk_frozen BK202.out 0; have hfz13_1 := blk_frozen BK202.out 1; have hcz14_0 : w11.cell? ⟨gb203, 0, none⟩ = some (.int .i8 0) := (blk_cell BK203.out 0).trans rfl; have hcz14_1 : w11.cell? ⟨gb203, 1, none⟩ = some (.int .i8 0) := (blk_cell BK203.out 1).trans rfl; have hfz14_0 := blk_frozen BK203.out 0; have hfz14_1 := blk_frozen BK203.out 1))
   refine bodyPost_ret (results_cell_row rfl _ _ gb203 41 #[.int .i8 (IntKind.i8.wrap (a0_0 + 1)), .int .i8 a0_1] (0, 0) _ rfl (by (with_reducible repeat (first | refine blk_drewN ?_ _ | refine blk_drew ?_ | refine blk_alloc ?_ _)); refine blk_put (cs := #[.int .i8 (IntKind.i8.wrap (a0_0 + 1)), .int .i8 0]) ?_ 1 _ rfl; (with_reducible repeat (first | refine blk_drewN ?_ _ | refine blk_drew ?_ | refine blk_alloc ?_ _)); refine blk_put (cs := #[.int .i8 0, .int .i8 0]) ?_ 0 _ rfl; (with_reducible repeat (first | refine blk_drewN ?_ _ | refine blk_drew ?_ | refine blk_alloc ?_ _)); refine blk_far ?_ NB203_202.out _; (with_reducible repeat (first | refine blk_drewN ?_ _ | refine blk_drew ?_ | refine blk_alloc ?_ _)); exact BK203.out) Tryd.underlying41 rfl (by kernel_rfl)) rfl ?_
   exact ⟨by first | rfl | (simp [errW_none, errW_some] <;> rfl) | (simp [*, errW_none, errW_some] <;> rfl), pbs HB⟩
  ·rw [if_neg c9] at H
   have c9b0 : (a1 == 1) = false := beq_eq_false_iff_ne.mpr c9
   have c9b1 : (a1 != 1) = true := bne_iff_ne.mpr c9
   by_cases c15 : a1 = 2
   ·rw [if_pos c15] at H
    have c15b0 : (a1 == 2) = true := beq_iff_eq.mpr c15
    have c15b1 : (a1 != 2) = false := bne_eq_false_iff_eq.mpr c15
    clear c15
    simp only [Option.some.injEq, Prod.mk.injEq] at H
    obtain ⟨rfl, rfl⟩ := H
    go_enter Tryd.func66, Tryd.ntmps66
    go_wp2_with (first | ((with_reducible refine gate_dst (N := 2) rfl ?_); refine box_event ?hg (N := 2) ?hd (cs := #[.int .i8 a0_0, .int .i8 a0_1]) (t := 41) ?hr ?_; (case hd => rfl); (case hg => rfl); (case hr => first | (go_simp; done) | (go_simp; rfl)); intro gb202 hg w16 hbox hb; have n0_ := bst HB hb; have n1_ := Aside0.mk (hbox); have n2_ := gwl HB hg; have n3_ := gwl HB hg; clear HB; have HB := n0_; have BK202 := n1_; have GW202 := n2_; have GE202 := n3_; clear n0_ n1_ n2_ n3_; clear hb hbox hg) | ((with_reducible refine gate_dst (N := 4) rfl ?_); refine box_event ?hg (N := 4) ?hd (cs := #[.int .i8 0, .int .i8 0]) (t := 41) ?hr ?_; (case hd => rfl); (case hg => rfl); (case hr => first | (go_simp; done) | (go_simp; rfl)); intro gb203 hg w17 hbox hb; have n0_ := bkb BK202 hb; have n1_ := bst HB hb; have n2_ := Aside0.mk (hbox); have n3_ := gwl HB hg; have n4_ := gwl HB hg; have n5_ := nbl BK202 hg; have n6_ := nbg BK202 hg; clear BK202; clear HB; have BK202 := n0_; have HB := n1_; have BK203 := n2_; have GW203 := n3_; have GE203 := n4_; have NB202_203 := n5_; have NB203_202 := n6_; clear n0_ n1_ n2_ n3_ n4_ n5_ n6_; clear hb hbox hg; have hnb18 := NB202_203.out; have hnc18 := NB203_202.out; have hcz19_0 : w17.cell? ⟨gb202, 0, none⟩ = some (.int .i8 a0_0) := (blk_cell BK202.out 0).trans rfl; have hcz19_1 : w17.cell? ⟨gb202, 1, none⟩ = some (.int .i8 a0_1) := (blk_cell BK202.out 1).trans rfl; have hfz19_0 := blk_frozen BK202.out 0; have hfz19_1 := blk_frozen BK202.out 1; have hcz20_0 : w17.cell? ⟨gb203, 0, none⟩ = some (.int .i8 0) := (blk_cell BK203.out 0).trans rfl; have hcz20_1 : w17.cell? ⟨gb203, 1, none⟩ = some (.int .i8 0) := (blk_cell BK203.out 1).trans rfl; have hfz20_0 := blk_frozen BK203.out 0; have hfz20_1 := blk_frozen BK203.out 1))
    refine bodyPost_ret (results_cell_row rfl _ _ gb203 41 #[.int .i8 a0_0, .int .i8 (IntKind.i8.wrap (a0_1 + 1))] (0, 0) _ rfl (by (with_reducible repeat (first | refine blk_drewN ?_ _ | refine blk_drew ?_ | refine blk_alloc ?_ _)); refine blk_put (cs := #[.int .i8 a0_0, .int .i8 0]) ?_ 1 _ rfl; (with_reducible repeat (first | refine blk_drewN ?_ _ | refine blk_drew ?_ | refine blk_alloc ?_ _)); refine blk_put (cs := #[.int .i8 0, .int .i8 0]) ?_ 0 _ rfl; (with_reducible repeat (first | refine blk_drewN ?_ _ | refine blk_drew ?_ | refine blk_alloc ?_ _)); refine blk_far ?_ NB203_202.out _; (with_reducible repeat (first | refine blk_drewN ?_ _ | refine blk_drew ?_ | refine blk_alloc ?_ _)); exact BK203.out) Tryd.underlying41 rfl (by kernel_rfl)) rfl ?_
    exact ⟨by first | rfl | (simp [errW_none, errW_some] <;> rfl) | (simp [*, errW_none, errW_some] <;> rfl), pbs HB⟩
   ·rw [if_neg c15] at H
    have c15b0 : (a1 == 2) = false := beq_eq_false_iff_ne.mpr c15
    have c15b1 : (a1 != 2) = true := bne_iff_ne.mpr c15
    by_cases c21 : a1 = 3
    ·rw [if_pos c21] at H
     have c21b0 : (a1 == 3) = true := beq_iff_eq.mpr c21
     have c21b1 : (a1 != 3) = false := bne_eq_false_iff_eq.mpr c21
     clear c21
     simp only [Option.some.injEq, Prod.mk.injEq] at H
     obtain ⟨rfl, rfl⟩ := H
     go_enter Tryd.func66, Tryd.ntmps66
     go_wp2_with (first | ((with_reducible refine gate_dst (N := 2) rfl ?_); refine box_event ?hg (N := 2) ?hd (cs := #[.int .i8 a0_0, .int .i8 a0_1]) (t := 41) ?hr ?_; (case hd => rfl); (case hg => rfl); (case hr => first | (go_simp; done) | (go_simp; rfl)); intro gb202 hg w22 hbox hb; have n0_ := bst HB hb; have n1_ := Aside0.mk (hbox); have n2_ := gwl HB hg; have n3_ := gwl HB hg; clear HB; have HB := n0_; have BK202 := n1_; have GW202 := n2_; have GE202 := n3_; clear n0_ n1_ n2_ n3_; clear hb hbox hg) | ((with_reducible refine gate_dst (N := 4) rfl ?_); refine box_event ?hg (N := 4) ?hd (cs := #[.int .i8 0, .int .i8 0]) (t := 41) ?hr ?_; (case hd => rfl); (case hg => rfl); (case hr => first | (go_simp; done) | (go_simp; rfl)); intro gb203 hg w23 hbox hb; have n0_ := bkb BK202 hb; have n1_ := bst HB hb; have n2_ := Aside0.mk (hbox); have n3_ := gwl HB hg; have n4_ := gwl HB hg; have n5_ := nbl BK202 hg; have n6_ := nbg BK202 hg; clear BK202; clear HB; have BK202 := n0_; have HB := n1_; have BK203 := n2_; have GW203 := n3_; have GE203 := n4_; have NB202_203 := n5_; have NB203_202 := n6_; clear n0_ n1_ n2_ n3_ n4_ n5_ n6_; clear hb hbox hg; have hnb24 := NB202_203.out; have hnc24 := NB203_202.out; have hcz25_0 : w23.cell? ⟨gb202, 0, none⟩ = some (.int .i8 a0_0) := (blk_cell BK202.out 0).trans rfl; have hcz25_1 : w23.cell? ⟨gb202, 1, none⟩ = some (.int .i8 a0_1) := (blk_cell BK202.out 1).trans rfl; have hfz25_0 := blk_frozen BK202.out 0; have hfz25_1 := blk_frozen BK202.out 1; have hcz26_0 : w23.cell? ⟨gb203, 0, none⟩ = some (.int .i8 0) := (blk_cell BK203.out 0).trans rfl; have hcz26_1 : w23.cell? ⟨gb203, 1, none⟩ = some (.int .i8 0) := (blk_cell BK203.out 1).trans rfl; have hfz26_0 := blk_frozen BK203.out 0; have hfz26_1 := blk_frozen BK203.out 1))
     refine bodyPost_ret (results_cell_row rfl _ _ gb203 41 #[.int .i8 (IntKind.i8.wrap (a0_0 - 1)), .int .i8 a0_1] (0, 0) _ rfl (by (with_reducible repeat (first | refine blk_drewN ?_ _ | refine blk_drew ?_ | refine blk_alloc ?_ _)); refine blk_put (cs := #[.int .i8 (IntKind.i8.wrap (a0_0 - 1)), .int .i8 0]) ?_ 1 _ rfl; (with_reducible repeat (first | refine blk_drewN ?_ _ | refine blk_drew ?_ | refine blk_alloc ?_ _)); refine blk_put (cs := #[.int .i8 0, .int .i8 0]) ?_ 0 _ rfl; (with_reducible repeat (first | refine blk_drewN ?_ _ | refine blk_drew ?_ | refine blk_alloc ?_ _)); refine blk_far ?_ NB203_202.out _; (with_reducible repeat (first | refine blk_drewN ?_ _ | refine blk_drew ?_ | refine blk_alloc ?_ _)); exact BK203.out) Tryd.underlying41 rfl (by kernel_rfl)) rfl ?_
     exact ⟨by first | rfl | (simp [errW_none, errW_some] <;> rfl) | (simp [*, errW_none, errW_some] <;> rfl), pbs HB⟩
    ·rw [if_neg c21] at H
     have c21b0 : (a1 == 3) = false := beq_eq_false_iff_ne.mpr c21
     have c21b1 : (a1 != 3) = true := bne_iff_ne.mpr c21
     simp only [Option.some.injEq, Prod.mk.injEq] at H
     obtain ⟨rfl, rfl⟩ := H
     go_enter Tryd.func66, Tryd.ntmps66
     go_wp2_with (first | ((with_reducible refine gate_dst (N := 2) rfl ?_); refine box_event ?hg (N := 2) ?hd (cs := #[.int .i8 a0_0, .int .i8 a0_1]) (t := 41) ?hr ?_; (case hd => rfl); (case hg => rfl); (case hr => first | (go_simp; done) | (go_simp; rfl)); intro gb202 hg w27 hbox hb; have n0_ := bst HB hb; have n1_ := Aside0.mk (hbox); have n2_ := gwl HB hg; have n3_ := gwl HB hg; clear HB; have HB := n0_; have BK202 := n1_; have GW202 := n2_; have GE202 := n3_; clear n0_ n1_ n2_ n3_; clear hb hbox hg) | ((with_reducible refine gate_dst (N := 4) rfl ?_); refine box_event ?hg (N := 4) ?hd (cs := #[.int .i8 0, .int .i8 0]) (t := 41) ?hr ?_; (case hd => rfl); (case hg => rfl); (case hr => first | (go_simp; done) | (go_simp; rfl)); intro gb203 hg w28 hbox hb; have n0_ := bkb BK202 hb; have n1_ := bst HB hb; have n2_ := Aside0.mk (hbox); have n3_ := gwl HB hg; have n4_ := gwl HB hg; have n5_ := nbl BK202 hg; have n6_ := nbg BK202 hg; clear BK202; clear HB; have BK202 := n0_; have HB := n1_; have BK203 := n2_; have GW203 := n3_; have GE203 := n4_; have NB202_203 := n5_; have NB203_202 := n6_; clear n0_ n1_ n2_ n3_ n4_ n5_ n6_; clear hb hbox hg; have hnb29 := NB202_203.out; have hnc29 := NB203_202.out; have hcz30_0 : w28.cell? ⟨gb202, 0, none⟩ = some (.int .i8 a0_0) := (blk_cell BK202.out 0).trans rfl; have hcz30_1 : w28.cell? ⟨gb202, 1, none⟩ = some (.int .i8 a0_1) := (blk_cell BK202.out 1).trans rfl; have hfz30_0 := blk_frozen BK202.out 0; have hfz30_1 := blk_frozen BK202.out 1; have hcz31_0 : w28.cell? ⟨gb203, 0, none⟩ = some (.int .i8 0) := (blk_cell BK203.out 0).trans rfl; have hcz31_1 : w28.cell? ⟨gb203, 1, none⟩ = some (.int .i8 0) := (blk_cell BK203.out 1).trans rfl; have hfz31_0 := blk_frozen BK203.out 0; have hfz31_1 := blk_frozen BK203.out 1))
     refine bodyPost_ret (results_cell_row rfl _ _ gb203 41 #[.int .i8 a0_0, .int .i8 a0_1] (0, 0) _ rfl (by (with_reducible repeat (first | refine blk_drewN ?_ _ | refine blk_drew ?_ | refine blk_alloc ?_ _)); refine blk_put (cs := #[.int .i8 a0_0, .int .i8 0]) ?_ 1 _ rfl; (with_reducible repeat (first | refine blk_drewN ?_ _ | refine blk_drew ?_ | refine blk_alloc ?_ _)); refine blk_put (cs := #[.int .i8 0, .int .i8 0]) ?_ 0 _ rfl; (with_reducible repeat (first | refine blk_drewN ?_ _ | refine blk_drew ?_ | refine blk_alloc ?_ _)); exact BK203.out) Tryd.underlying41 rfl (by kernel_rfl)) rfl ?_
     exact ⟨by first | rfl | (simp [errW_none, errW_some] <;> rfl) | (simp [*, errW_none, errW_some] <;> rfl), pbs HB⟩
mutual
def impl_Crowd_moved.l0 : Nat → Int → List (S41) → Int → Int → LA 40 → Int → Int → LA 10 → LA 40 → Option (LA 40)
 | 0, _, _, _, _, _, _, _, _, _ => none
 | k + 1, x2, x14, x15, x16, x205000, x206000, x206001, x206002, x208000 => if x16 < x15 then (if 0 ≤ x16 then (if x16 < (x14.length : Int) then (impl_Crowd_moved.l1 k x2 x14 x15 x16 0 x205000 x206000 x206001 x206002 x208000 ((rd_T41 x14 x16).f0) ((rd_T41 x14 x16).f1)) else (none)) else (none)) else (some x208000)
def impl_Crowd_moved.l1 : Nat → Int → List (S41) → Int → Int → Int → LA 40 → Int → Int → LA 10 → LA 40 → Int → Int → Option (LA 40)
 | 0, _, _, _, _, _, _, _, _, _, _, _, _ => none
 | k + 1, x2, x14, x15, x16, x20, x205000, x206000, x206001, x206002, x208000, x213000, x213001 => if x20 < 4 then ((impl_Crowd_has.f x205000 x213000 x213001 x20).bind fun t213 => (if t213 = true then ((impl_NextSpot.f x213000 x213001 x20).bind fun bt214 => (if x2 = 108 then ((impl_Crowd_set.f x208000 x213000 x213001 (Int.tmod (wrap64 (x20 + 3)) 4)).bind fun t217 => (impl_Crowd_moved.l1 k x2 x14 x15 x16 (wrap64 (x20 + 1)) x205000 x206000 x206001 x206002 t217 x213000 x213001)) else (if x2 = 114 then ((impl_Crowd_set.f x208000 x213000 x213001 (Int.tmod (wrap64 (x20 + 1)) 4)).bind fun t218 => (impl_Crowd_moved.l1 k x2 x14 x15 x16 (wrap64 (x20 + 1)) x205000 x206000 x206001 x206002 t218 x213000 x213001)) else (if x2 = 102 then ((impl_Room_isFree.f x206000 x206001 x206002 bt214.1 bt214.2).bind fun t219 => (impl_Crowd_moved.j2 k x2 x20 x14 x15 x16 x20 t219 x205000 x206000 x206001 x206002 x208000 x213000 x213001 bt214.1 bt214.2)) else (impl_Crowd_moved.j2 k x2 x20 x14 x15 x16 x20 false x205000 x206000 x206001 x206002 x208000 x213000 x213001 bt214.1 bt214.2))))) else (impl_Crowd_moved.l1 k x2 x14 x15 x16 (wrap64 (x20 + 1)) x205000 x206000 x206001 x206002 x208000 x213000 x213001))) else (impl_Crowd_moved.l0 k x2 x14 x15 (wrap64 (x16 + 1)) x205000 x206000 x206001 x206002 x208000)
def impl_Crowd_moved.j2 : Nat → Int → Int → List (S41) → Int → Int → Int → Bool → LA 40 → Int → Int → LA 10 → LA 40 → Int → Int → Int → Int → Option (LA 40)
 | 0, _, _, _, _, _, _, _, _, _, _, _, _, _, _, _, _ => none
 | k + 1, x2, x10, x14, x15, x16, x20, x47, x205000, x206000, x206001, x206002, x208000, x213000, x213001, x217000, x217001 => if x47 = true then ((impl_Crowd_set.f x208000 x217000 x217001 x10).bind fun t220 => (impl_Crowd_moved.l1 k x2 x14 x15 x16 (wrap64 (x20 + 1)) x205000 x206000 x206001 x206002 t220 x213000 x213001)) else (if x2 = 98 then ((impl_Room_isFree.f x206000 x206001 x206002 x217000 x217001).bind fun t221 => (if t221 = true then (impl_Crowd_moved.l1 k x2 x14 x15 x16 (wrap64 (x20 + 1)) x205000 x206000 x206001 x206002 x208000 x213000 x213001) else ((impl_Crowd_set.f x208000 x213000 x213001 x10).bind fun t222 => (impl_Crowd_moved.l1 k x2 x14 x15 x16 (wrap64 (x20 + 1)) x205000 x206000 x206001 x206002 t222 x213000 x213001)))) else (impl_Crowd_moved.l1 k x2 x14 x15 x16 (wrap64 (x20 + 1)) x205000 x206000 x206001 x206002 x208000 x213000 x213001))
end
def impl_Crowd_moved.f (k : Nat) (a0 : LA 40) (a1_0 : Int) (a1_1 : Int) (a1_2 : LA 10) (a2 : Int) : Option (LA 40) := (impl_Room_free.f k a1_0 a1_1 a1_2).bind fun t208 => (impl_Crowd_moved.l0 k a2 t208 (t208.length : Int) 0 a0 a1_0 a1_1 a1_2 (LA.zero 40))
theorem impl_Crowd_moved.mono_l : ∀ k, (∀ y0 y1 y2 y3 y4 y5 y6 y7 y8, LeO (impl_Crowd_moved.l0 k y0 y1 y2 y3 y4 y5 y6 y7 y8) (impl_Crowd_moved.l0 (k + 1) y0 y1 y2 y3 y4 y5 y6 y7 y8)) ∧ (∀ y0 y1 y2 y3 y4 y5 y6 y7 y8 y9 y10 y11, LeO (impl_Crowd_moved.l1 k y0 y1 y2 y3 y4 y5 y6 y7 y8 y9 y10 y11) (impl_Crowd_moved.l1 (k + 1) y0 y1 y2 y3 y4 y5 y6 y7 y8 y9 y10 y11)) ∧ (∀ y0 y1 y2 y3 y4 y5 y6 y7 y8 y9 y10 y11 y12 y13 y14 y15, LeO (impl_Crowd_moved.j2 k y0 y1 y2 y3 y4 y5 y6 y7 y8 y9 y10 y11 y12 y13 y14 y15) (impl_Crowd_moved.j2 (k + 1) y0 y1 y2 y3 y4 y5 y6 y7 y8 y9 y10 y11 y12 y13 y14 y15))
 | 0 => ⟨fun _ _ _ _ _ _ _ _ _ r h => by simp [impl_Crowd_moved.l0] at h, fun _ _ _ _ _ _ _ _ _ _ _ _ r h => by simp [impl_Crowd_moved.l1] at h, fun _ _ _ _ _ _ _ _ _ _ _ _ _ _ _ _ r h => by simp [impl_Crowd_moved.j2] at h⟩
 | k + 1 => by
  obtain ⟨ih0, ih1, ih2⟩ := impl_Crowd_moved.mono_l k
  refine ⟨?_, ?_, ?_⟩
  ·intro y0 y1 y2 y3 y4 y5 y6 y7 y8
   unfold impl_Crowd_moved.l0
   repeat' first
   | (with_reducible exact ih0 _ _ _ _ _ _ _ _ _)
   | (with_reducible exact ih1 _ _ _ _ _ _ _ _ _ _ _ _)
   | (with_reducible exact ih2 _ _ _ _ _ _ _ _ _ _ _ _ _ _ _ _)
   | (with_reducible exact impl_Room_free.mono _ _ _ _)
   | (with_reducible exact LeO.refl _)
   | (with_reducible exact LeO.none _)
   | (with_reducible refine LeO.ite ?_ ?_)
   | (with_reducible refine LeO.bind ?_ (fun _ => ?_))
   | exact ih0 _ _ _ _ _ _ _ _ _
   | exact ih1 _ _ _ _ _ _ _ _ _ _ _ _
   | exact ih2 _ _ _ _ _ _ _ _ _ _ _ _ _ _ _ _
   | exact impl_Room_free.mono _ _ _ _
   | exact LeO.none _
   | refine LeO.ite ?_ ?_
   | refine LeO.bind ?_ (fun _ => ?_)
  ·intro y0 y1 y2 y3 y4 y5 y6 y7 y8 y9 y10 y11
   unfold impl_Crowd_moved.l1
   repeat' first
   | (with_reducible exact ih0 _ _ _ _ _ _ _ _ _)
   | (with_reducible exact ih1 _ _ _ _ _ _ _ _ _ _ _ _)
   | (with_reducible exact ih2 _ _ _ _ _ _ _ _ _ _ _ _ _ _ _ _)
   | (with_reducible exact impl_Room_free.mono _ _ _ _)
   | (with_reducible exact LeO.refl _)
   | (with_reducible exact LeO.none _)
   | (with_reducible refine LeO.ite ?_ ?_)
   | (with_reducible refine LeO.bind ?_ (fun _ => ?_))
   | exact ih0 _ _ _ _ _ _ _ _ _
   | exact ih1 _ _ _ _ _ _ _ _ _ _ _ _
   | exact ih2 _ _ _ _ _ _ _ _ _ _ _ _ _ _ _ _
   | exact impl_Room_free.mono _ _ _ _
   | exact LeO.none _
   | refine LeO.ite ?_ ?_
   | refine LeO.bind ?_ (fun _ => ?_)
  ·intro y0 y1 y2 y3 y4 y5 y6 y7 y8 y9 y10 y11 y12 y13 y14 y15
   unfold impl_Crowd_moved.j2
   repeat' first
   | (with_reducible exact ih0 _ _ _ _ _ _ _ _ _)
   | (with_reducible exact ih1 _ _ _ _ _ _ _ _ _ _ _ _)
   | (with_reducible exact ih2 _ _ _ _ _ _ _ _ _ _ _ _ _ _ _ _)
   | (with_reducible exact impl_Room_free.mono _ _ _ _)
   | (with_reducible exact LeO.refl _)
   | (with_reducible exact LeO.none _)
   | (with_reducible refine LeO.ite ?_ ?_)
   | (with_reducible refine LeO.bind ?_ (fun _ => ?_))
   | exact ih0 _ _ _ _ _ _ _ _ _
   | exact ih1 _ _ _ _ _ _ _ _ _ _ _ _
   | exact ih2 _ _ _ _ _ _ _ _ _ _ _ _ _ _ _ _
   | exact impl_Room_free.mono _ _ _ _
   | exact LeO.none _
   | refine LeO.ite ?_ ?_
   | refine LeO.bind ?_ (fun _ => ?_)
theorem impl_Crowd_moved.mono : ∀ a0 a1 a2 a3 a4 k, LeO (impl_Crowd_moved.f k a0 a1 a2 a3 a4) (impl_Crowd_moved.f (k + 1) a0 a1 a2 a3 a4) := by
 intro a0 a1 a2 a3 a4 k
 obtain ⟨ih0, ih1, ih2⟩ := impl_Crowd_moved.mono_l k
 unfold impl_Crowd_moved.f
 repeat' first
   | (with_reducible exact ih0 _ _ _ _ _ _ _ _ _)
   | (with_reducible exact ih1 _ _ _ _ _ _ _ _ _ _ _ _)
   | (with_reducible exact ih2 _ _ _ _ _ _ _ _ _ _ _ _ _ _ _ _)
   | (with_reducible exact impl_Room_free.mono _ _ _ _)
   | (with_reducible exact LeO.refl _)
   | (with_reducible exact LeO.none _)
   | (with_reducible refine LeO.ite ?_ ?_)
   | (with_reducible refine LeO.bind ?_ (fun _ => ?_))
   | exact ih0 _ _ _ _ _ _ _ _ _
   | exact ih1 _ _ _ _ _ _ _ _ _ _ _ _
   | exact ih2 _ _ _ _ _ _ _ _ _ _ _ _ _ _ _ _
   | exact impl_Room_free.mono _ _ _ _
   | exact LeO.none _
   | refine LeO.ite ?_ ?_
   | refine LeO.bind ?_ (fun _ => ?_)
set_option maxHeartbeats 8000000 in
set_option maxRecDepth 100000 in
theorem impl_Crowd_moved.calls (k : Nat) (a0 : LA 40) (a1_0 : Int) (a1_1 : Int) (a1_2 : LA 10) (a2 : Int) (r : LA 40) (w : World) (h : impl_Crowd_moved.f k a0 a1_0 a1_1 a1_2 a2 = some r) :
  Calls Tryd.prog 53 #[.agg (mixA (Value.int .u16) [] a0), .agg (mixA (Value.int .u16) [.int .i8 a1_0, .int .i8 a1_1] a1_2), .int .u8 a2] w fun e w' => e = .returned (.agg (mixA (Value.int .u16) [] r)) ∧ Below w.heap.size w w' := by
 have hu31 := Tryd.underlying31
 have hu41 := Tryd.underlying41
 have HB := Aside0.mk (Below.refl w.heap.size w)
 have H : ((impl_Room_free.f k a1_0 a1_1 a1_2).bind fun t208 => (impl_Crowd_moved.l0 k a2 t208 (t208.length : Int) 0 a0 a1_0 a1_1 a1_2 (LA.zero 40))) = some r := h
 clear h
 replace H := Option.bind_eq_some_iff.mp H
 obtain ⟨t208, A40, H⟩ := H
 replace H : (impl_Crowd_moved.l0 k a2 t208 (t208.length : Int) 0 a0 a1_0 a1_1 a1_2 (LA.zero 40)) = some r := H
 have A4 := Aside0.mk A40
 clear A40
 have H' := Aside0.mk H
 clear H
 go_enter Tryd.func53, Tryd.ntmps53
 go_wp2_with (first | ((with_reducible refine gate_dst (N := 3) rfl ?_); refine box_event ?hg (N := 3) ?hd (cs := (mixA (Value.int .u16) [] a0)) (t := 28) ?hr ?_; (case hd => rfl); (case hg => rfl); (case hr => first | (go_simp; done) | (go_simp; rfl)); intro gb204 hg w5 hbox hb; have n0_ := bst HB hb; have n1_ := Aside0.mk (hbox); have n2_ := gwl HB hg; have n3_ := gwl HB hg; clear HB; have HB := n0_; have BK204 := n1_; have GW204 := n2_; have GE204 := n3_; clear n0_ n1_ n2_ n3_; clear hb hbox hg) | ((with_reducible refine gate_dst (N := 4) rfl ?_); refine box_event ?hg (N := 4) ?hd (cs := (mixA (Value.int .u16) [.int .i8 a1_0, .int .i8 a1_1] a1_2)) (t := 31) ?hr ?_; (case hd => rfl); (case hg => rfl); (case hr => first | (go_simp; done) | (go_simp; rfl)); intro gb205 hg w6 hbox hb; have n0_ := bkb BK204 hb; have n1_ := bst HB hb; have n2_ := Aside0.mk (hbox); have n3_ := gwl HB hg; have n4_ := gwl HB hg; have n5_ := nbl BK204 hg; have n6_ := nbg BK204 hg; clear BK204; clear HB; have BK204 := n0_; have HB := n1_; have BK205 := n2_; have GW205 := n3_; have GE205 := n4_; have NB204_205 := n5_; have NB205_204 := n6_; clear n0_ n1_ n2_ n3_ n4_ n5_ n6_; clear hb hbox hg) | ((with_reducible refine gate_dst (N := 6) rfl ?_); refine box_event ?hg (N := 6) ?hd (cs := (mixA (Value.int .u16) [] (LA.zero 40))) (t := 28) ?hr ?_; (case hd => rfl); (case hg => rfl); (case hr => first | (go_simp; done) | (go_simp; rfl)); intro gb206 hg w7 hbox hb; have n0_ := bkb BK204 hb; have n1_ := bkb BK205 hb; have n2_ := bst HB hb; have n3_ := Aside0.mk (hbox); have n4_ := gwl HB hg; have n5_ := gwl HB hg; have n6_ := nbl BK204 hg; have n7_ := nbg BK204 hg; have n8_ := nbl BK205 hg; have n9_ := nbg BK205 hg; clear BK204; clear BK205; clear HB; have BK204 := n0_; have BK205 := n1_; have HB := n2_; have BK206 := n3_; have GW206 := n4_; have GE206 := n5_; have NB204_206 := n6_; have NB206_204 := n7_; have NB205_206 := n8_; have NB206_205 := n9_; clear n0_ n1_ n2_ n3_ n4_ n5_ n6_ n7_ n8_ n9_; clear hb hbox hg) | ((with_reducible refine gate_dst (N := 7) rfl ?_); refine box_event ?hg (N := 7) ?hd (cs := (mixA (Value.int .u16) [] (LA.zero 40))) (t := 28) ?hr ?_; (case hd => rfl); (case hg => rfl); (case hr => first | (go_simp; done) | (go_simp; rfl)); intro gb207 hg w8 hbox hb; have n0_ := bkb BK204 hb; have n1_ := bkb BK205 hb; have n2_ := bkb BK206 hb; have n3_ := bst HB hb; have n4_ := Aside0.mk (hbox); have n5_ := gwl HB hg; have n6_ := gwl HB hg; have n7_ := nbl BK204 hg; have n8_ := nbg BK204 hg; have n9_ := nbl BK205 hg; have n10_ := nbg BK205 hg; have n11_ := nbl BK206 hg; have n12_ := nbg BK206 hg; clear BK204; clear BK205; clear BK206; clear HB; have BK204 := n0_; have BK205 := n1_; have BK206 := n2_; have HB := n3_; have BK207 := n4_; have GW207 := n5_; have GE207 := n6_; have NB204_207 := n7_; have NB207_204 := n8_; have NB205_207 := n9_; have NB207_205 := n10_; have NB206_207 := n11_; have NB207_206 := n12_; clear n0_ n1_ n2_ n3_ n4_ n5_ n6_ n7_ n8_ n9_ n10_ n11_ n12_; clear hb hbox hg) | ((with_reducible refine gate_store (p := 7) rfl ?_); refine wpList_store_lmix rfl 28 _ _ rfl gb207 (e := (Value.int .u16)) (cs' := []) (W' := (LA.zero 40)) (cs := []) (W := (LA.zero 40)) (T := 28) rfl rfl (pk BK207) rfl (by kernel_rfl) rfl (fun _ => rfl) rfl ?_; intro w9 hi hk hbl; have n0_ := Aside0.mk (KeepBut.blk hk (g' := gb204) (o := .cells (mixA (Value.int .u16) [] a0) 28 (0, 0)) (pk BK204) NB204_207.out (by simp)); have n1_ := Aside0.mk (KeepBut.blk hk (g' := gb205) (o := .cells (mixA (Value.int .u16) [.int .i8 a1_0, .int .i8 a1_1] a1_2) 31 (0, 0)) (pk BK205) NB205_207.out (by simp)); have n2_ := Aside0.mk (KeepBut.blk hk (g' := gb206) (o := .cells (mixA (Value.int .u16) [] (LA.zero 40)) 28 (0, 0)) (pk BK206) NB206_207.out (by simp)); have n3_ := Aside0.mk (hbl _ _ (pbs HB) GE207.out); have n4_ := Aside0.mk (hi); clear BK204; clear BK205; clear BK206; clear HB; clear BK207; have BK204 := n0_; have BK205 := n1_; have BK206 := n2_; have HB := n3_; have BK207 := n4_; clear n0_ n1_ n2_ n3_ n4_; clear hi hk hbl) | ((with_reducible refine gate_dst (N := 13) rfl ?_); refine wpList_run0 (v := .agg (mixA (Value.int .u16) [.int .i8 a1_0, .int .i8 a1_1] a1_2)) rfl (load_mix_run (P := Tryd.prog) 31 (.tmp 4) rfl gb205 rfl (show World.rangeAt _ gb205 0 ([.int .i8 a1_0, .int .i8 a1_1] ++ a1_2.l.map (Value.int .u16)) from mix_range (show (World.heap _)[gb205]? = some (.cells (mixA (Value.int .u16) [.int .i8 a1_0, .int .i8 a1_1] a1_2) 31 (0, 0)) from by (with_reducible repeat (first | refine blk_drewN ?_ _ | refine blk_drew ?_ | refine blk_alloc ?_ _)); exact BK205.out)) Tryd.underlying31 rfl (by kernel_rfl) rfl) ?_) | ((with_reducible refine gate_callee (f := 28) rfl ?_); refine goesL_ (some 14) rfl rfl Tryd.func28 (by kernel_rfl) rfl #[.agg (mixA (Value.int .u16) [.int .i8 a1_0, .int .i8 a1_1] a1_2)] rfl (by (try simp only [List.map_toArray, List.map_cons, List.map_nil]); first | done | rfl | (simp only [List.length_drop, List.length_take]; rfl)) ?_; (with_reducible refine (impl_Room_free.calls k a1_0 a1_1 a1_2 t208 _ A4.out).mono ?_); rintro e w11 ⟨v209, rfl, ho0, hb⟩; refine ⟨_, rfl, ?_⟩; have n0_ := Aside0.mk (Kd.R_lower ho0 (below_size (by repeat (first | (with_reducible first | exact HB.out | apply below_alloc | apply pw_below_drewN | apply below_drew1 | refine below_set ?_ GE204.out | refine below_set ?_ GE205.out | refine below_set ?_ GE206.out | refine below_set ?_ GE207.out) | exact HB.out)))); have n1_ := bkb BK204 hb; have n2_ := bkb BK205 hb; have n3_ := bkb BK206 hb; have n4_ := bkb BK207 hb; have n5_ := bst HB hb; clear BK204; clear BK205; clear BK206; clear BK207; clear HB; have HO210 := n0_; have BK204 := n1_; have BK205 := n2_; have BK206 := n3_; have BK207 := n4_; have HB := n5_; clear n0_ n1_ n2_ n3_ n4_ n5_; (try clear hb); (try clear hb2); (try clear hk); (try clear hi); (try clear ho0); obtain ⟨Ao12, co12, eo12⟩ := Kd.R_slice HO210.out; subst eo12))
 go_loopg [16] k (fun kq v16 w' => ∃ (x16_1 : Int) (x208000_1 : LA 40), v16 = .int .i64 x16_1 ∧ Aside0 (impl_Crowd_moved.l0 kq a2 t208 (t208.length : Int) x16_1 a0 a1_0 a1_1 a1_2 x208000_1 = some r) ∧ Aside0 (kq ≤ k) ∧ Aside0 (Kd.R k41 41 w' w.heap.size (fun _ => True) (.slice Ao12 t208.length co12) t208) ∧ Aside0 (w'.heap[gb204]? = some (.cells (mixA (Value.int .u16) [] a0) 28 (0, 0))) ∧ Aside0 (w'.heap[gb205]? = some (.cells (mixA (Value.int .u16) [.int .i8 a1_0, .int .i8 a1_1] a1_2) 31 (0, 0))) ∧ Aside0 (w'.heap[gb206]? = some (.cells (mixA (Value.int .u16) [] (LA.zero 40)) 28 (0, 0))) ∧ Aside0 (w'.heap[gb207]? = some (.cells (mixA (Value.int .u16) [] x208000_1) 28 (0, 0))) ∧ Aside0 (Below w.heap.size w w'))
 case atStart => exact ⟨(0), ((LA.zero 40)), (by first | rfl | (simp; done) | (simp [*]; done)), H', ⟨Nat.le_refl _⟩, ⟨by (with_reducible repeat (first | apply Kd.R_alloc | apply Kd.R_drewN | apply Kd.R_drew)); exact HO210.out⟩, ⟨pk BK204⟩, ⟨pk BK205⟩, ⟨pk BK206⟩, ⟨pk BK207⟩, ⟨pbs HB⟩⟩
 case round =>
  clear H'
  try clear c2
  try clear p2
  try clear c5
  obtain ⟨x16_1, x208000_1, rfl, HA, HK1, HO_14, BK204, BK205, BK206, BK207, HB⟩ := hrel
  cases gk with
  | zero => exact absurd HA.out (by simp [impl_Crowd_moved.l0])
  | succ k1 =>
   have H := HA.out
   clear HA
   simp only [impl_Crowd_moved.l0] at H
   by_cases c13 : x16_1 < (t208.length : Int)
   ·rw [if_pos c13] at H
    have c13b0 : decide (x16_1 < (t208.length : Int)) = true := decide_eq_true c13
    clear c13
    by_cases c14 : 0 ≤ x16_1
    ·rw [if_pos c14] at H
     have c14b0 : decide (0 ≤ x16_1) = true := decide_eq_true c14
     clear c14
     by_cases c15 : x16_1 < (t208.length : Int)
     ·rw [if_pos c15] at H
      have c15b0 : decide (x16_1 < (t208.length : Int)) = true := decide_eq_true c15
      clear c15
      have H' := Aside0.mk H
      clear H
      have p211 : 0 ≤ (x16_1 : Int) := of_decide_eq_true (by first | (with_reducible assumption) | assumption)
      have q211 : x16_1 < (t208.length : Int) := of_decide_eq_true (by first | (with_reducible assumption) | assumption)
      obtain ⟨ad211, e211, hx211_0, hx211_1⟩ := at_T41 (Kd.R_reads' HO_14.out).2.2 x16_1 p211 q211
      cases e211
      replace p211 := eq_true p211
      replace q211 := eq_true q211
      go_wp2_with (first | ((with_reducible refine gate_dst (N := 9) rfl ?_); refine box_event ?hg (N := 9) ?hd (cs := #[.int .i8 0, .int .i8 0]) (t := 41) ?hr ?_; (case hd => rfl); (case hg => rfl); (case hr => first | (go_simp; done) | (go_simp; rfl)); intro gb212 hg w16 hbox hb; have n0_ := Aside0.mk (Kd.R_below (Kd.R_elderB (by (with_reducible repeat (first | apply Kd.R_alloc | apply Kd.R_drewN | apply Kd.R_drew)); exact HO_14.out) gb212 (Nat.le_of_eq hg.symm)) hb); have n1_ := bkb BK204 hb; have n2_ := bkb BK205 hb; have n3_ := bkb BK206 hb; have n4_ := bkb BK207 hb; have n5_ := bst HB hb; have n6_ := Aside0.mk (hbox); have n7_ := gwl HB hg; have n8_ := gwl HB hg; have n9_ := nbl BK204 hg; have n10_ := nbg BK204 hg; have n11_ := nbl BK205 hg; have n12_ := nbg BK205 hg; have n13_ := nbl BK206 hg; have n14_ := nbg BK206 hg; have n15_ := nbl BK207 hg; have n16_ := nbg BK207 hg; clear HO_14; clear BK204; clear BK205; clear BK206; clear BK207; clear HB; have HO_14 := n0_; have BK204 := n1_; have BK205 := n2_; have BK206 := n3_; have BK207 := n4_; have HB := n5_; have BK212 := n6_; have GW212 := n7_; have GE212 := n8_; have NB204_212 := n9_; have NB212_204 := n10_; have NB205_212 := n11_; have NB212_205 := n12_; have NB206_212 := n13_; have NB212_206 := n14_; have NB207_212 := n15_; have NB212_207 := n16_; clear n0_ n1_ n2_ n3_ n4_ n5_ n6_ n7_ n8_ n9_ n10_ n11_ n12_ n13_ n14_ n15_ n16_; clear hb hbox hg; have hnb17 := NB212_204.out; have hnc17 := NB204_212.out; have hnb18 := NB212_205.out; have hnc18 := NB205_212.out; have hnb19 := NB212_206.out; have hnc19 := NB206_212.out; have hnb20 := NB212_207.out; have hnc20 := NB207_212.out; have hcz21_0 : w16.cell? ⟨gb212, 0, none⟩ = some (.int .i8 0) := (blk_cell BK212.out 0).trans rfl; have hcz21_1 : w16.cell? ⟨gb212, 1, none⟩ = some (.int .i8 0) := (blk_cell BK212.out 1).trans rfl; have hfz21_0 := blk_frozen BK212.out 0; have hfz21_1 := blk_frozen BK212.out 1))
      go_loopg [20] k1 (fun kq v20 w' => ∃ (x20_2 : Int) (x208000_2 : LA 40), v20 = .int .i64 x20_2 ∧ Aside0 (impl_Crowd_moved.l1 kq a2 t208 (t208.length : Int) x16_1 x20_2 a0 a1_0 a1_1 a1_2 x208000_2 ((rd_T41 t208 x16_1).f0) ((rd_T41 t208 x16_1).f1) = some r) ∧ Aside0 (kq ≤ k1) ∧ Aside0 (Kd.R k41 41 w' w.heap.size (fun k_ => k_ ≠ gb212) (.slice (some ad211) t208.length co12) t208) ∧ Aside0 (w'.heap[gb204]? = some (.cells (mixA (Value.int .u16) [] a0) 28 (0, 0))) ∧ Aside0 (w'.heap[gb205]? = some (.cells (mixA (Value.int .u16) [.int .i8 a1_0, .int .i8 a1_1] a1_2) 31 (0, 0))) ∧ Aside0 (w'.heap[gb206]? = some (.cells (mixA (Value.int .u16) [] (LA.zero 40)) 28 (0, 0))) ∧ Aside0 (w'.heap[gb207]? = some (.cells (mixA (Value.int .u16) [] x208000_2) 28 (0, 0))) ∧ Aside0 (w'.heap[gb212]? = some (.cells #[.int .i8 ((rd_T41 t208 x16_1).f0), .int .i8 ((rd_T41 t208 x16_1).f1)] 41 (0, 0))) ∧ Aside0 (Below w.heap.size w w'))
      case atStart => exact ⟨(0), (x208000_1), (by first | rfl | (simp; done) | (simp [*]; done)), H', ⟨Nat.le_refl _⟩, ⟨by (with_reducible repeat (first | apply Kd.R_alloc | apply Kd.R_drewN | apply Kd.R_drew)); exact Kd.R_mono (Kd.R_far (p := ⟨gb212, 1, none⟩) (Kd.R_far (p := ⟨gb212, 0, none⟩) (Kd.R_mono HO_14.out (fun k_ hk => (⟨hk, hk.2⟩ : _ ∧ k_ ≠ gb212))) (fun _ hk => hk.2) (.int .i8 ((rd_T41 t208 x16_1).f0))) (fun _ hk => hk.2) (.int .i8 ((rd_T41 t208 x16_1).f1))) (fun _ hk => hk.1.2)⟩, ⟨by (with_reducible repeat (first | refine blk_drewN ?_ _ | refine blk_drew ?_ | refine blk_alloc ?_ _)); refine blk_far ?_ NB204_212.out _; (with_reducible repeat (first | refine blk_drewN ?_ _ | refine blk_drew ?_ | refine blk_alloc ?_ _)); refine blk_far ?_ NB204_212.out _; (with_reducible repeat (first | refine blk_drewN ?_ _ | refine blk_drew ?_ | refine blk_alloc ?_ _)); exact BK204.out⟩, ⟨by (with_reducible repeat (first | refine blk_drewN ?_ _ | refine blk_drew ?_ | refine blk_alloc ?_ _)); refine blk_far ?_ NB205_212.out _; (with_reducible repeat (first | refine blk_drewN ?_ _ | refine blk_drew ?_ | refine blk_alloc ?_ _)); refine blk_far ?_ NB205_212.out _; (with_reducible repeat (first | refine blk_drewN ?_ _ | refine blk_drew ?_ | refine blk_alloc ?_ _)); exact BK205.out⟩, ⟨by (with_reducible repeat (first | refine blk_drewN ?_ _ | refine blk_drew ?_ | refine blk_alloc ?_ _)); refine blk_far ?_ NB206_212.out _; (with_reducible repeat (first | refine blk_drewN ?_ _ | refine blk_drew ?_ | refine blk_alloc ?_ _)); refine blk_far ?_ NB206_212.out _; (with_reducible repeat (first | refine blk_drewN ?_ _ | refine blk_drew ?_ | refine blk_alloc ?_ _)); exact BK206.out⟩, ⟨by (with_reducible repeat (first | refine blk_drewN ?_ _ | refine blk_drew ?_ | refine blk_alloc ?_ _)); refine blk_far ?_ NB207_212.out _; (with_reducible repeat (first | refine blk_drewN ?_ _ | refine blk_drew ?_ | refine blk_alloc ?_ _)); refine blk_far ?_ NB207_212.out _; (with_reducible repeat (first | refine blk_drewN ?_ _ | refine blk_drew ?_ | refine blk_alloc ?_ _)); exact BK207.out⟩, ⟨by (with_reducible repeat (first | refine blk_drewN ?_ _ | refine blk_drew ?_ | refine blk_alloc ?_ _)); refine blk_put (cs := #[.int .i8 ((rd_T41 t208 x16_1).f0), .int .i8 0]) ?_ 1 _ rfl; (with_reducible repeat (first | refine blk_drewN ?_ _ | refine blk_drew ?_ | refine blk_alloc ?_ _)); refine blk_put (cs := #[.int .i8 0, .int .i8 0]) ?_ 0 _ rfl; (with_reducible repeat (first | refine blk_drewN ?_ _ | refine blk_drew ?_ | refine blk_alloc ?_ _)); exact BK212.out⟩, ⟨pbs HB⟩⟩
      case round =>
       clear H'
       try clear c1
       try clear c2
       try clear p2
       try clear q2
       try clear hx2
       try clear c5
       try clear c13
       try clear c13b0
       try clear c14
       try clear c14b0
       try clear c15
       try clear c15b0
       try clear c17
       try clear c18
       try clear c19
       try clear c20
       try clear p21
       try clear q21
       try clear hx21
       try clear hcz21_0
       try clear hcz21_1
       try clear hfz21_0
       try clear hfz21_1
       try clear hx211_0
       try clear hx211_1
       try clear p2
       try clear p211
       try clear q211
       obtain ⟨x20_2, x208000_2, rfl, HA, HK2, HO_14, BK204, BK205, BK206, BK207, BK212, HB⟩ := hrel
       cases gk with
       | zero => exact absurd HA.out (by simp [impl_Crowd_moved.l1])
       | succ k2 =>
        have H := HA.out
        clear HA
        simp only [impl_Crowd_moved.l1] at H
        by_cases c22 : x20_2 < 4
        ·rw [if_pos c22] at H
         have c22b0 : decide (x20_2 < 4) = true := decide_eq_true c22
         clear c22
         replace H := Option.bind_eq_some_iff.mp H
         obtain ⟨t213, A230, H⟩ := H
         replace H : (if t213 = true then ((impl_NextSpot.f ((rd_T41 t208 x16_1).f0) ((rd_T41 t208 x16_1).f1) x20_2).bind fun bt214 => (if a2 = 108 then ((impl_Crowd_set.f x208000_2 ((rd_T41 t208 x16_1).f0) ((rd_T41 t208 x16_1).f1) (Int.tmod (wrap64 (x20_2 + 3)) 4)).bind fun t217 => (impl_Crowd_moved.l1 k2 a2 t208 (t208.length : Int) x16_1 (wrap64 (x20_2 + 1)) a0 a1_0 a1_1 a1_2 t217 ((rd_T41 t208 x16_1).f0) ((rd_T41 t208 x16_1).f1))) else (if a2 = 114 then ((impl_Crowd_set.f x208000_2 ((rd_T41 t208 x16_1).f0) ((rd_T41 t208 x16_1).f1) (Int.tmod (wrap64 (x20_2 + 1)) 4)).bind fun t218 => (impl_Crowd_moved.l1 k2 a2 t208 (t208.length : Int) x16_1 (wrap64 (x20_2 + 1)) a0 a1_0 a1_1 a1_2 t218 ((rd_T41 t208 x16_1).f0) ((rd_T41 t208 x16_1).f1))) else (if a2 = 102 then ((impl_Room_isFree.f a1_0 a1_1 a1_2 bt214.1 bt214.2).bind fun t219 => (impl_Crowd_moved.j2 k2 a2 x20_2 t208 (t208.length : Int) x16_1 x20_2 t219 a0 a1_0 a1_1 a1_2 x208000_2 ((rd_T41 t208 x16_1).f0) ((rd_T41 t208 x16_1).f1) bt214.1 bt214.2)) else (impl_Crowd_moved.j2 k2 a2 x20_2 t208 (t208.length : Int) x16_1 x20_2 false a0 a1_0 a1_1 a1_2 x208000_2 ((rd_T41 t208 x16_1).f0) ((rd_T41 t208 x16_1).f1) bt214.1 bt214.2))))) else (impl_Crowd_moved.l1 k2 a2 t208 (t208.length : Int) x16_1 (wrap64 (x20_2 + 1)) a0 a1_0 a1_1 a1_2 x208000_2 ((rd_T41 t208 x16_1).f0) ((rd_T41 t208 x16_1).f1))) = some r := H
         have A23 := Aside0.mk A230
         clear A230
         by_cases c24 : t213 = true
         ·subst c24
          have H1 : ((impl_NextSpot.f ((rd_T41 t208 x16_1).f0) ((rd_T41 t208 x16_1).f1) x20_2).bind fun bt214 => (if a2 = 108 then ((impl_Crowd_set.f x208000_2 ((rd_T41 t208 x16_1).f0) ((rd_T41 t208 x16_1).f1) (Int.tmod (wrap64 (x20_2 + 3)) 4)).bind fun t217 => (impl_Crowd_moved.l1 k2 a2 t208 (t208.length : Int) x16_1 (wrap64 (x20_2 + 1)) a0 a1_0 a1_1 a1_2 t217 ((rd_T41 t208 x16_1).f0) ((rd_T41 t208 x16_1).f1))) else (if a2 = 114 then ((impl_Crowd_set.f x208000_2 ((rd_T41 t208 x16_1).f0) ((rd_T41 t208 x16_1).f1) (Int.tmod (wrap64 (x20_2 + 1)) 4)).bind fun t218 => (impl_Crowd_moved.l1 k2 a2 t208 (t208.length : Int) x16_1 (wrap64 (x20_2 + 1)) a0 a1_0 a1_1 a1_2 t218 ((rd_T41 t208 x16_1).f0) ((rd_T41 t208 x16_1).f1))) else (if a2 = 102 then ((impl_Room_isFree.f a1_0 a1_1 a1_2 bt214.1 bt214.2).bind fun t219 => (impl_Crowd_moved.j2 k2 a2 x20_2 t208 (t208.length : Int) x16_1 x20_2 t219 a0 a1_0 a1_1 a1_2 x208000_2 ((rd_T41 t208 x16_1).f0) ((rd_T41 t208 x16_1).f1) bt214.1 bt214.2)) else (impl_Crowd_moved.j2 k2 a2 x20_2 t208 (t208.length : Int) x16_1 x20_2 false a0 a1_0 a1_1 a1_2 x208000_2 ((rd_T41 t208 x16_1).f0) ((rd_T41 t208 x16_1).f1) bt214.1 bt214.2))))) = some r := by rw [if_pos rfl] at H; exact H
          clear H
          have H := H1
          clear H1
          replace H := Option.bind_eq_some_iff.mp H
          obtain ⟨⟨t214, t215⟩, A250, H⟩ := H
          replace H : (if a2 = 108 then ((impl_Crowd_set.f x208000_2 ((rd_T41 t208 x16_1).f0) ((rd_T41 t208 x16_1).f1) (Int.tmod (wrap64 (x20_2 + 3)) 4)).bind fun t217 => (impl_Crowd_moved.l1 k2 a2 t208 (t208.length : Int) x16_1 (wrap64 (x20_2 + 1)) a0 a1_0 a1_1 a1_2 t217 ((rd_T41 t208 x16_1).f0) ((rd_T41 t208 x16_1).f1))) else (if a2 = 114 then ((impl_Crowd_set.f x208000_2 ((rd_T41 t208 x16_1).f0) ((rd_T41 t208 x16_1).f1) (Int.tmod (wrap64 (x20_2 + 1)) 4)).bind fun t218 => (impl_Crowd_moved.l1 k2 a2 t208 (t208.length : Int) x16_1 (wrap64 (x20_2 + 1)) a0 a1_0 a1_1 a1_2 t218 ((rd_T41 t208 x16_1).f0) ((rd_T41 t208 x16_1).f1))) else (if a2 = 102 then ((impl_Room_isFree.f a1_0 a1_1 a1_2 t214 t215).bind fun t219 => (impl_Crowd_moved.j2 k2 a2 x20_2 t208 (t208.length : Int) x16_1 x20_2 t219 a0 a1_0 a1_1 a1_2 x208000_2 ((rd_T41 t208 x16_1).f0) ((rd_T41 t208 x16_1).f1) t214 t215)) else (impl_Crowd_moved.j2 k2 a2 x20_2 t208 (t208.length : Int) x16_1 x20_2 false a0 a1_0 a1_1 a1_2 x208000_2 ((rd_T41 t208 x16_1).f0) ((rd_T41 t208 x16_1).f1) t214 t215)))) = some r := H
          have A25 := Aside0.mk A250
          clear A250
          by_cases c26 : a2 = 108
          ·rw [if_pos c26] at H
           have c26b0 : (a2 == 108) = true := beq_iff_eq.mpr c26
           have c26b1 : (a2 != 108) = false := bne_eq_false_iff_eq.mpr c26
           clear c26
           replace H := Option.bind_eq_some_iff.mp H
           obtain ⟨t217, A270, H⟩ := H
           replace H : (impl_Crowd_moved.l1 k2 a2 t208 (t208.length : Int) x16_1 (wrap64 (x20_2 + 1)) a0 a1_0 a1_1 a1_2 t217 ((rd_T41 t208 x16_1).f0) ((rd_T41 t208 x16_1).f1)) = some r := H
           have A27 := Aside0.mk A270
           clear A270
           have H' := Aside0.mk H
           clear H
           go_wp2_with (first | ((with_reducible refine gate_dst (N := 23) rfl ?_); refine wpList_run0 (v := .agg (mixA (Value.int .u16) [] a0)) rfl (load_mix_run (P := Tryd.prog) 28 (.tmp 3) rfl gb204 rfl (show World.rangeAt _ gb204 0 ([] ++ a0.l.map (Value.int .u16)) from mix_range (show (World.heap _)[gb204]? = some (.cells (mixA (Value.int .u16) [] a0) 28 (0, 0)) from by (with_reducible repeat (first | refine blk_drewN ?_ _ | refine blk_drew ?_ | refine blk_alloc ?_ _)); exact BK204.out)) Tryd.underlying28 rfl (by kernel_rfl) rfl) ?_; have hnb29 := NB212_204.out; have hnc29 := NB204_212.out; have hnb30 := NB212_205.out; have hnc30 := NB205_212.out; have hnb31 := NB212_206.out; have hnc31 := NB206_212.out; have hnb32 := NB212_207.out; have hnc32 := NB207_212.out; have hcz33_0 : wr.cell? ⟨gb212, 0, none⟩ = some (.int .i8 ((rd_T41 t208 x16_1).f0)) := (blk_cell BK212.out 0).trans rfl; have hcz33_1 : wr.cell? ⟨gb212, 1, none⟩ = some (.int .i8 ((rd_T41 t208 x16_1).f1)) := (blk_cell BK212.out 1).trans rfl; have hfz33_0 := blk_frozen BK212.out 0; have hfz33_1 := blk_frozen BK212.out 1) | ((with_reducible refine gate_callee (f := 57) rfl ?_); refine goesL_ (some 26) rfl rfl Tryd.func57 (by kernel_rfl) rfl #[.agg (mixA (Value.int .u16) [] a0), .agg #[.int .i8 ((rd_T41 t208 x16_1).f0), .int .i8 ((rd_T41 t208 x16_1).f1)], .int .i64 x20_2] rfl (by (try simp only [List.map_toArray, List.map_cons, List.map_nil]); first | done | rfl | (simp only [List.length_drop, List.length_take]; rfl)) ?_; (with_reducible refine (impl_Crowd_has.calls a0 ((rd_T41 t208 x16_1).f0) ((rd_T41 t208 x16_1).f1) x20_2 true _ A23.out).mono ?_); rintro e w34 ⟨rfl, hb⟩; refine ⟨_, rfl, ?_⟩; have n0_ := krb HO_14 hb; have n1_ := bkb BK204 hb; have n2_ := bkb BK205 hb; have n3_ := bkb BK206 hb; have n4_ := bkb BK207 hb; have n5_ := bkb BK212 hb; have n6_ := bst HB hb; clear HO_14; clear BK204; clear BK205; clear BK206; clear BK207; clear BK212; clear HB; have HO_14 := n0_; have BK204 := n1_; have BK205 := n2_; have BK206 := n3_; have BK207 := n4_; have BK212 := n5_; have HB := n6_; clear n0_ n1_ n2_ n3_ n4_ n5_ n6_; (try clear hb); (try clear hb2); (try clear hk); (try clear hi); have hcz35_0 : w34.cell? ⟨gb212, 0, none⟩ = some (.int .i8 ((rd_T41 t208 x16_1).f0)) := (blk_cell BK212.out 0).trans rfl; have hcz35_1 : w34.cell? ⟨gb212, 1, none⟩ = some (.int .i8 ((rd_T41 t208 x16_1).f1)) := (blk_cell BK212.out 1).trans rfl; have hfz35_0 := blk_frozen BK212.out 0; have hfz35_1 := blk_frozen BK212.out 1) | ((with_reducible refine gate_callee (f := 66) rfl ?_); refine goesL_ (some 30) rfl rfl Tryd.func66 (by kernel_rfl) rfl #[.agg #[.int .i8 ((rd_T41 t208 x16_1).f0), .int .i8 ((rd_T41 t208 x16_1).f1)], .int .i64 x20_2] rfl (by (try simp only [List.map_toArray, List.map_cons, List.map_nil]); first | done | rfl | (simp only [List.length_drop, List.length_take]; rfl)) ?_; (with_reducible refine (impl_NextSpot.calls ((rd_T41 t208 x16_1).f0) ((rd_T41 t208 x16_1).f1) x20_2 t214 t215 _ A25.out).mono ?_); rintro e w36 ⟨rfl, hb⟩; refine ⟨_, rfl, ?_⟩; have n0_ := krb HO_14 hb; have n1_ := bkb BK204 hb; have n2_ := bkb BK205 hb; have n3_ := bkb BK206 hb; have n4_ := bkb BK207 hb; have n5_ := bkb BK212 hb; have n6_ := bst HB hb; clear HO_14; clear BK204; clear BK205; clear BK206; clear BK207; clear BK212; clear HB; have HO_14 := n0_; have BK204 := n1_; have BK205 := n2_; have BK206 := n3_; have BK207 := n4_; have BK212 := n5_; have HB := n6_; clear n0_ n1_ n2_ n3_ n4_ n5_ n6_; (try clear hb); (try clear hb2); (try clear hk); (try clear hi)) | ((with_reducible refine gate_dst (N := 11) rfl ?_); refine box_event ?hg (N := 11) ?hd (cs := #[.int .i8 0, .int .i8 0]) (t := 41) ?hr ?_; (case hd => rfl); (case hg => rfl); (case hr => first | (go_simp; done) | (go_simp; rfl)); intro gb216 hg w37 hbox hb; have n0_ := Aside0.mk (Kd.R_below (Kd.R_elderB (by (with_reducible repeat (first | apply Kd.R_alloc | apply Kd.R_drewN | apply Kd.R_drew)); exact HO_14.out) gb216 (Nat.le_of_eq hg.symm)) hb); have n1_ := bkb BK204 hb; have n2_ := bkb BK205 hb; have n3_ := bkb BK206 hb; have n4_ := bkb BK207 hb; have n5_ := bkb BK212 hb; have n6_ := bst HB hb; have n7_ := Aside0.mk (hbox); have n8_ := gwl HB hg; have n9_ := gwl HB hg; have n10_ := nbl BK204 hg; have n11_ := nbg BK204 hg; have n12_ := nbl BK205 hg; have n13_ := nbg BK205 hg; have n14_ := nbl BK206 hg; have n15_ := nbg BK206 hg; have n16_ := nbl BK207 hg; have n17_ := nbg BK207 hg; have n18_ := nbl BK212 hg; have n19_ := nbg BK212 hg; clear HO_14; clear BK204; clear BK205; clear BK206; clear BK207; clear BK212; clear HB; have HO_14 := n0_; have BK204 := n1_; have BK205 := n2_; have BK206 := n3_; have BK207 := n4_; have BK212 := n5_; have HB := n6_; have BK216 := n7_; have GW216 := n8_; have GE216 := n9_; have NB204_216 := n10_; have NB216_204 := n11_; have NB205_216 := n12_; have NB216_205 := n13_; have NB206_216 := n14_; have NB216_206 := n15_; have NB207_216 := n16_; have NB216_207 := n17_; have NB212_216 := n18_; have NB216_212 := n19_; clear n0_ n1_ n2_ n3_ n4_ n5_ n6_ n7_ n8_ n9_ n10_ n11_ n12_ n13_ n14_ n15_ n16_ n17_ n18_ n19_; clear hb hbox hg; have hnb38 := NB216_204.out; have hnc38 := NB204_216.out; have hnb39 := NB216_205.out; have hnc39 := NB205_216.out; have hnb40 := NB216_206.out; have hnc40 := NB206_216.out; have hnb41 := NB216_207.out; have hnc41 := NB207_216.out; have hnb42 := NB216_212.out; have hnc42 := NB212_216.out; have hcz43_0 : w37.cell? ⟨gb216, 0, none⟩ = some (.int .i8 0) := (blk_cell BK216.out 0).trans rfl; have hcz43_1 : w37.cell? ⟨gb216, 1, none⟩ = some (.int .i8 0) := (blk_cell BK216.out 1).trans rfl; have hfz43_0 := blk_frozen BK216.out 0; have hfz43_1 := blk_frozen BK216.out 1; have hcz44_0 : w37.cell? ⟨gb212, 0, none⟩ = some (.int .i8 ((rd_T41 t208 x16_1).f0)) := (blk_cell BK212.out 0).trans rfl; have hcz44_1 : w37.cell? ⟨gb212, 1, none⟩ = some (.int .i8 ((rd_T41 t208 x16_1).f1)) := (blk_cell BK212.out 1).trans rfl; have hfz44_0 := blk_frozen BK212.out 0; have hfz44_1 := blk_frozen BK212.out 1) | ((with_reducible refine gate_callee (f := 29) rfl ?_); refine goesL_ (some 38) rfl rfl Tryd.func29 (by kernel_rfl) rfl #[.pointer (some ⟨gb207, 0, none⟩), .agg #[.int .i8 ((rd_T41 t208 x16_1).f0), .int .i8 ((rd_T41 t208 x16_1).f1)], .int .i64 (Int.tmod (wrap64 (x20_2 + 3)) 4)] rfl (by (try simp only [List.map_toArray, List.map_cons, List.map_nil]); first | done | rfl | (simp only [List.length_drop, List.length_take]; rfl)) ?_; (with_reducible refine (impl_Crowd_set.calls gb207 x208000_2 ((rd_T41 t208 x16_1).f0) ((rd_T41 t208 x16_1).f1) (Int.tmod (wrap64 (x20_2 + 3)) 4) t217 w _ ?side1 ?side2 A27.out).mono ?_); (case side1 => exact ⟨(by (with_reducible repeat (first | refine blk_drewN ?_ _ | refine blk_drew ?_ | refine blk_alloc ?_ _)); refine blk_far ?_ NB207_216.out _; (with_reducible repeat (first | refine blk_drewN ?_ _ | refine blk_drew ?_ | refine blk_alloc ?_ _)); refine blk_far ?_ NB207_216.out _; (with_reducible repeat (first | refine blk_drewN ?_ _ | refine blk_drew ?_ | refine blk_alloc ?_ _)); exact BK207.out), GE207.out⟩); (case side2 => repeat (first | (with_reducible first | exact HB.out | apply below_alloc | apply pw_below_drewN | apply below_drew1 | refine below_set ?_ GE204.out | refine below_set ?_ GE205.out | refine below_set ?_ GE206.out | refine below_set ?_ GE207.out | refine below_set ?_ GE212.out | refine below_set ?_ GE216.out) | exact HB.out)); rintro e w45 ⟨rfl, hi, hb, hk⟩; refine ⟨_, rfl, ?_⟩; have n0_ := Aside0.mk (Kd.R_mono (Kd.R_keep (Kd.R_types (by (with_reducible repeat (first | apply Kd.R_alloc | apply Kd.R_drewN | apply Kd.R_drew)); exact (Kd.R_mono (Kd.R_far (p := ⟨gb216, 1, none⟩) (Kd.R_far (p := ⟨gb216, 0, none⟩) (Kd.R_mono HO_14.out (fun k_ hk => (⟨hk, hk.2⟩ : _ ∧ k_ ≠ gb216))) (fun _ hk => hk.2) (.int .i8 t214)) (fun _ hk => hk.2) (.int .i8 t215)) (fun _ h_ => h_.1))) (show (World.heap _)[gb207]? = some (.cells (mixA (Value.int .u16) [] x208000_2) 28 (0, 0)) from by (with_reducible repeat (first | refine blk_drewN ?_ _ | refine blk_drew ?_ | refine blk_alloc ?_ _)); refine blk_far ?_ NB207_216.out _; (with_reducible repeat (first | refine blk_drewN ?_ _ | refine blk_drew ?_ | refine blk_alloc ?_ _)); refine blk_far ?_ NB207_216.out _; (with_reducible repeat (first | refine blk_drewN ?_ _ | refine blk_drew ?_ | refine blk_alloc ?_ _)); exact BK207.out) (by decide)) hk (fun _ h => h.2)) (fun _ h => h.1)); have n1_ := Aside0.mk (KeepBut.blk hk (g' := gb204) (o := .cells (mixA (Value.int .u16) [] a0) 28 (0, 0)) (by (with_reducible repeat (first | refine blk_drewN ?_ _ | refine blk_drew ?_ | refine blk_alloc ?_ _)); refine blk_far ?_ NB204_216.out _; (with_reducible repeat (first | refine blk_drewN ?_ _ | refine blk_drew ?_ | refine blk_alloc ?_ _)); refine blk_far ?_ NB204_216.out _; (with_reducible repeat (first | refine blk_drewN ?_ _ | refine blk_drew ?_ | refine blk_alloc ?_ _)); exact BK204.out) NB204_207.out (by simp)); have n2_ := Aside0.mk (KeepBut.blk hk (g' := gb205) (o := .cells (mixA (Value.int .u16) [.int .i8 a1_0, .int .i8 a1_1] a1_2) 31 (0, 0)) (by (with_reducible repeat (first | refine blk_drewN ?_ _ | refine blk_drew ?_ | refine blk_alloc ?_ _)); refine blk_far ?_ NB205_216.out _; (with_reducible repeat (first | refine blk_drewN ?_ _ | refine blk_drew ?_ | refine blk_alloc ?_ _)); refine blk_far ?_ NB205_216.out _; (with_reducible repeat (first | refine blk_drewN ?_ _ | refine blk_drew ?_ | refine blk_alloc ?_ _)); exact BK205.out) NB205_207.out (by simp)); have n3_ := Aside0.mk (KeepBut.blk hk (g' := gb206) (o := .cells (mixA (Value.int .u16) [] (LA.zero 40)) 28 (0, 0)) (by (with_reducible repeat (first | refine blk_drewN ?_ _ | refine blk_drew ?_ | refine blk_alloc ?_ _)); refine blk_far ?_ NB206_216.out _; (with_reducible repeat (first | refine blk_drewN ?_ _ | refine blk_drew ?_ | refine blk_alloc ?_ _)); refine blk_far ?_ NB206_216.out _; (with_reducible repeat (first | refine blk_drewN ?_ _ | refine blk_drew ?_ | refine blk_alloc ?_ _)); exact BK206.out) NB206_207.out (by simp)); have n4_ := Aside0.mk (KeepBut.blk hk (g' := gb212) (o := .cells #[.int .i8 ((rd_T41 t208 x16_1).f0), .int .i8 ((rd_T41 t208 x16_1).f1)] 41 (0, 0)) (by (with_reducible repeat (first | refine blk_drewN ?_ _ | refine blk_drew ?_ | refine blk_alloc ?_ _)); refine blk_far ?_ NB212_216.out _; (with_reducible repeat (first | refine blk_drewN ?_ _ | refine blk_drew ?_ | refine blk_alloc ?_ _)); refine blk_far ?_ NB212_216.out _; (with_reducible repeat (first | refine blk_drewN ?_ _ | refine blk_drew ?_ | refine blk_alloc ?_ _)); exact BK212.out) NB212_207.out (by simp)); have n5_ := Aside0.mk (KeepBut.blk hk (g' := gb216) (o := .cells #[.int .i8 t214, .int .i8 t215] 41 (0, 0)) (by (with_reducible repeat (first | refine blk_drewN ?_ _ | refine blk_drew ?_ | refine blk_alloc ?_ _)); refine blk_put (cs := #[.int .i8 t214, .int .i8 0]) ?_ 1 _ rfl; (with_reducible repeat (first | refine blk_drewN ?_ _ | refine blk_drew ?_ | refine blk_alloc ?_ _)); refine blk_put (cs := #[.int .i8 0, .int .i8 0]) ?_ 0 _ rfl; (with_reducible repeat (first | refine blk_drewN ?_ _ | refine blk_drew ?_ | refine blk_alloc ?_ _)); exact BK216.out) NB216_207.out (by simp)); have n6_ := Aside0.mk (hb); have n7_ := Aside0.mk (hi.1); clear HO_14; clear BK204; clear BK205; clear BK206; clear BK212; clear BK216; clear HB; clear BK207; have HO_14 := n0_; have BK204 := n1_; have BK205 := n2_; have BK206 := n3_; have BK212 := n4_; have BK216 := n5_; have HB := n6_; have BK207 := n7_; clear n0_ n1_ n2_ n3_ n4_ n5_ n6_ n7_; (try clear hb); (try clear hb2); (try clear hk); (try clear hi)))
           go_roundg k2
           case measure => have := HK1.out; have := HK2.out; omega
           case rel => exact ⟨(wrap64 (x20_2 + 1)), (t217), (by first | rfl | (simp; done) | (simp [*]; done)), H', ⟨by have := HK1.out; have := HK2.out; omega⟩, ⟨by (with_reducible repeat (first | apply Kd.R_alloc | apply Kd.R_drewN | apply Kd.R_drew)); exact Kd.R_mono HO_14.out (fun _ hk => hk.1)⟩, ⟨pk BK204⟩, ⟨pk BK205⟩, ⟨pk BK206⟩, ⟨pk BK207⟩, ⟨pk BK212⟩, ⟨pbs HB⟩⟩
          ·rw [if_neg c26] at H
           have c26b0 : (a2 == 108) = false := beq_eq_false_iff_ne.mpr c26
           have c26b1 : (a2 != 108) = true := bne_iff_ne.mpr c26
           by_cases c46 : a2 = 114
           ·rw [if_pos c46] at H
            have c46b0 : (a2 == 114) = true := beq_iff_eq.mpr c46
            have c46b1 : (a2 != 114) = false := bne_eq_false_iff_eq.mpr c46
            clear c46
            replace H := Option.bind_eq_some_iff.mp H
            obtain ⟨t218, A470, H⟩ := H
            replace H : (impl_Crowd_moved.l1 k2 a2 t208 (t208.length : Int) x16_1 (wrap64 (x20_2 + 1)) a0 a1_0 a1_1 a1_2 t218 ((rd_T41 t208 x16_1).f0) ((rd_T41 t208 x16_1).f1)) = some r := H
            have A47 := Aside0.mk A470
            clear A470
            have H' := Aside0.mk H
            clear H
            go_wp2_with (first | ((with_reducible refine gate_dst (N := 23) rfl ?_); refine wpList_run0 (v := .agg (mixA (Value.int .u16) [] a0)) rfl (load_mix_run (P := Tryd.prog) 28 (.tmp 3) rfl gb204 rfl (show World.rangeAt _ gb204 0 ([] ++ a0.l.map (Value.int .u16)) from mix_range (show (World.heap _)[gb204]? = some (.cells (mixA (Value.int .u16) [] a0) 28 (0, 0)) from by (with_reducible repeat (first | refine blk_drewN ?_ _ | refine blk_drew ?_ | refine blk_alloc ?_ _)); exact BK204.out)) Tryd.underlying28 rfl (by kernel_rfl) rfl) ?_; have hnb49 := NB212_204.out; have hnc49 := NB204_212.out; have hnb50 := NB212_205.out; have hnc50 := NB205_212.out; have hnb51 := NB212_206.out; have hnc51 := NB206_212.out; have hnb52 := NB212_207.out; have hnc52 := NB207_212.out; have hcz53_0 : wr.cell? ⟨gb212, 0, none⟩ = some (.int .i8 ((rd_T41 t208 x16_1).f0)) := (blk_cell BK212.out 0).trans rfl; have hcz53_1 : wr.cell? ⟨gb212, 1, none⟩ = some (.int .i8 ((rd_T41 t208 x16_1).f1)) := (blk_cell BK212.out 1).trans rfl; have hfz53_0 := blk_frozen BK212.out 0; have hfz53_1 := blk_frozen BK212.out 1) | ((with_reducible refine gate_callee (f := 57) rfl ?_); refine goesL_ (some 26) rfl rfl Tryd.func57 (by kernel_rfl) rfl #[.agg (mixA (Value.int .u16) [] a0), .agg #[.int .i8 ((rd_T41 t208 x16_1).f0), .int .i8 ((rd_T41 t208 x16_1).f1)], .int .i64 x20_2] rfl (by (try simp only [List.map_toArray, List.map_cons, List.map_nil]); first | done | rfl | (simp only [List.length_drop, List.length_take]; rfl)) ?_; (with_reducible refine (impl_Crowd_has.calls a0 ((rd_T41 t208 x16_1).f0) ((rd_T41 t208 x16_1).f1) x20_2 true _ A23.out).mono ?_); rintro e w54 ⟨rfl, hb⟩; refine ⟨_, rfl, ?_⟩; have n0_ := krb HO_14 hb; have n1_ := bkb BK204 hb; have n2_ := bkb BK205 hb; have n3_ := bkb BK206 hb; have n4_ := bkb BK207 hb; have n5_ := bkb BK212 hb; have n6_ := bst HB hb; clear HO_14; clear BK204; clear BK205; clear BK206; clear BK207; clear BK212; clear HB; have HO_14 := n0_; have BK204 := n1_; have BK205 := n2_; have BK206 := n3_; have BK207 := n4_; have BK212 := n5_; have HB := n6_; clear n0_ n1_ n2_ n3_ n4_ n5_ n6_; (try clear hb); (try clear hb2); (try clear hk); (try clear hi); have hcz55_0 : w54.cell? ⟨gb212, 0, none⟩ = some (.int .i8 ((rd_T41 t208 x16_1).f0)) := (blk_cell BK212.out 0).trans rfl; have hcz55_1 : w54.cell? ⟨gb212, 1, none⟩ = some (.int .i8 ((rd_T41 t208 x16_1).f1)) := (blk_cell BK212.out 1).trans rfl; have hfz55_0 := blk_frozen BK212.out 0; have hfz55_1 := blk_frozen BK212.out 1) | ((with_reducible refine gate_callee (f := 66) rfl ?_); refine goesL_ (some 30) rfl rfl Tryd.func66 (by kernel_rfl) rfl #[.agg #[.int .i8 ((rd_T41 t208 x16_1).f0), .int .i8 ((rd_T41 t208 x16_1).f1)], .int .i64 x20_2] rfl (by (try simp only [List.map_toArray, List.map_cons, List.map_nil]); first | done | rfl | (simp only [List.length_drop, List.length_take]; rfl)) ?_; (with_reducible refine (impl_NextSpot.calls ((rd_T41 t208 x16_1).f0) ((rd_T41 t208 x16_1).f1) x20_2 t214 t215 _ A25.out).mono ?_); rintro e w56 ⟨rfl, hb⟩; refine ⟨_, rfl, ?_⟩; have n0_ := krb HO_14 hb; have n1_ := bkb BK204 hb; have n2_ := bkb BK205 hb; have n3_ := bkb BK206 hb; have n4_ := bkb BK207 hb; have n5_ := bkb BK212 hb; have n6_ := bst HB hb; clear HO_14; clear BK204; clear BK205; clear BK206; clear BK207; clear BK212; clear HB; have HO_14 := n0_; have BK204 := n1_; have BK205 := n2_; have BK206 := n3_; have BK207 := n4_; have BK212 := n5_; have HB := n6_; clear n0_ n1_ n2_ n3_ n4_ n5_ n6_; (try clear hb); (try clear hb2); (try clear hk); (try clear hi)) | ((with_reducible refine gate_dst (N := 11) rfl ?_); refine box_event ?hg (N := 11) ?hd (cs := #[.int .i8 0, .int .i8 0]) (t := 41) ?hr ?_; (case hd => rfl); (case hg => rfl); (case hr => first | (go_simp; done) | (go_simp; rfl)); intro gb216 hg w57 hbox hb; have n0_ := Aside0.mk (Kd.R_below (Kd.R_elderB (by (with_reducible repeat (first | apply Kd.R_alloc | apply Kd.R_drewN | apply Kd.R_drew)); exact HO_14.out) gb216 (Nat.le_of_eq hg.symm)) hb); have n1_ := bkb BK204 hb; have n2_ := bkb BK205 hb; have n3_ := bkb BK206 hb; have n4_ := bkb BK207 hb; have n5_ := bkb BK212 hb; have n6_ := bst HB hb; have n7_ := Aside0.mk (hbox); have n8_ := gwl HB hg; have n9_ := gwl HB hg; have n10_ := nbl BK204 hg; have n11_ := nbg BK204 hg; have n12_ := nbl BK205 hg; have n13_ := nbg BK205 hg; have n14_ := nbl BK206 hg; have n15_ := nbg BK206 hg; have n16_ := nbl BK207 hg; have n17_ := nbg BK207 hg; have n18_ := nbl BK212 hg; have n19_ := nbg BK212 hg; clear HO_14; clear BK204; clear BK205; clear BK206; clear BK207; clear BK212; clear HB; have HO_14 := n0_; have BK204 := n1_; have BK205 := n2_; have BK206 := n3_; have BK207 := n4_; have BK212 := n5_; have HB := n6_; have BK216 := n7_; have GW216 := n8_; have GE216 := n9_; have NB204_216 := n10_; have NB216_204 := n11_; have NB205_216 := n12_; have NB216_205 := n13_; have NB206_216 := n14_; have NB216_206 := n15_; have NB207_216 := n16_; have NB216_207 := n17_; have NB212_216 := n18_; have NB216_212 := n19_; clear n0_ n1_ n2_ n3_ n4_ n5_ n6_ n7_ n8_ n9_ n10_ n11_ n12_ n13_ n14_ n15_ n16_ n17_ n18_ n19_; clear hb hbox hg; have hnb58 := NB216_204.out; have hnc58 := NB204_216.out; have hnb59 := NB216_205.out; have hnc59 := NB205_216.out; have hnb60 := NB216_206.out; have hnc60 := NB206_216.out; have hnb61 := NB216_207.out; have hnc61 := NB207_216.out; have hnb62 := NB216_212.out; have hnc62 := NB212_216.out; have hcz63_0 : w57.cell? ⟨gb216, 0, none⟩ = some (.int .i8 0) := (blk_cell BK216.out 0).trans rfl; have hcz63_1 : w57.cell? ⟨gb216, 1, none⟩ = some (.int .i8 0) := (blk_cell BK216.out 1).trans rfl; have hfz63_0 := blk_frozen BK216.out 0; have hfz63_1 := blk_frozen BK216.out 1; have hcz64_0 : w57.cell? ⟨gb212, 0, none⟩ = some (.int .i8 ((rd_T41 t208 x16_1).f0)) := (blk_cell BK212.out 0).trans rfl; have hcz64_1 : w57.cell? ⟨gb212, 1, none⟩ = some (.int .i8 ((rd_T41 t208 x16_1).f1)) := (blk_cell BK212.out 1).trans rfl; have hfz64_0 := blk_frozen BK212.out 0; have hfz64_1 := blk_frozen BK212.out 1) | ((with_reducible refine gate_callee (f := 29) rfl ?_); refine goesL_ (some 46) rfl rfl Tryd.func29 (by kernel_rfl) rfl #[.pointer (some ⟨gb207, 0, none⟩), .agg #[.int .i8 ((rd_T41 t208 x16_1).f0), .int .i8 ((rd_T41 t208 x16_1).f1)], .int .i64 (Int.tmod (wrap64 (x20_2 + 1)) 4)] rfl (by (try simp only [List.map_toArray, List.map_cons, List.map_nil]); first | done | rfl | (simp only [List.length_drop, List.length_take]; rfl)) ?_; (with_reducible refine (impl_Crowd_set.calls gb207 x208000_2 ((rd_T41 t208 x16_1).f0) ((rd_T41 t208 x16_1).f1) (Int.tmod (wrap64 (x20_2 + 1)) 4) t218 w _ ?side1 ?side2 A47.out).mono ?_); (case side1 => exact ⟨(by (with_reducible repeat (first | refine blk_drewN ?_ _ | refine blk_drew ?_ | refine blk_alloc ?_ _)); refine blk_far ?_ NB207_216.out _; (with_reducible repeat (first | refine blk_drewN ?_ _ | refine blk_drew ?_ | refine blk_alloc ?_ _)); refine blk_far ?_ NB207_216.out _; (with_reducible repeat (first | refine blk_drewN ?_ _ | refine blk_drew ?_ | refine blk_alloc ?_ _)); exact BK207.out), GE207.out⟩); (case side2 => repeat (first | (with_reducible first | exact HB.out | apply below_alloc | apply pw_below_drewN | apply below_drew1 | refine below_set ?_ GE204.out | refine below_set ?_ GE205.out | refine below_set ?_ GE206.out | refine below_set ?_ GE207.out | refine below_set ?_ GE212.out | refine below_set ?_ GE216.out) | exact HB.out)); rintro e w65 ⟨rfl, hi, hb, hk⟩; refine ⟨_, rfl, ?_⟩; have n0_ := Aside0.mk (Kd.R_mono (Kd.R_keep (Kd.R_types (by (with_reducible repeat (first | apply Kd.R_alloc | apply Kd.R_drewN | apply Kd.R_drew)); exact (Kd.R_mono (Kd.R_far (p := ⟨gb216, 1, none⟩) (Kd.R_far (p := ⟨gb216, 0, none⟩) (Kd.R_mono HO_14.out (fun k_ hk => (⟨hk, hk.2⟩ : _ ∧ k_ ≠ gb216))) (fun _ hk => hk.2) (.int .i8 t214)) (fun _ hk => hk.2) (.int .i8 t215)) (fun _ h_ => h_.1))) (show (World.heap _)[gb207]? = some (.cells (mixA (Value.int .u16) [] x208000_2) 28 (0, 0)) from by (with_reducible repeat (first | refine blk_drewN ?_ _ | refine blk_drew ?_ | refine blk_alloc ?_ _)); refine blk_far ?_ NB207_216.out _; (with_reducible repeat (first | refine blk_drewN ?_ _ | refine blk_drew ?_ | refine blk_alloc ?_ _)); refine blk_far ?_ NB207_216.out _; (with_reducible repeat (first | refine blk_drewN ?_ _ | refine blk_drew ?_ | refine blk_alloc ?_ _)); exact BK207.out) (by decide)) hk (fun _ h => h.2)) (fun _ h => h.1)); have n1_ := Aside0.mk (KeepBut.blk hk (g' := gb204) (o := .cells (mixA (Value.int .u16) [] a0) 28 (0, 0)) (by (with_reducible repeat (first | refine blk_drewN ?_ _ | refine blk_drew ?_ | refine blk_alloc ?_ _)); refine blk_far ?_ NB204_216.out _; (with_reducible repeat (first | refine blk_drewN ?_ _ | refine blk_drew ?_ | refine blk_alloc ?_ _)); refine blk_far ?_ NB204_216.out _; (with_reducible repeat (first | refine blk_drewN ?_ _ | refine blk_drew ?_ | refine blk_alloc ?_ _)); exact BK204.out) NB204_207.out (by simp)); have n2_ := Aside0.mk (KeepBut.blk hk (g' := gb205) (o := .cells (mixA (Value.int .u16) [.int .i8 a1_0, .int .i8 a1_1] a1_2) 31 (0, 0)) (by (with_reducible repeat (first | refine blk_drewN ?_ _ | refine blk_drew ?_ | refine blk_alloc ?_ _)); refine blk_far ?_ NB205_216.out _; (with_reducible repeat (first | refine blk_drewN ?_ _ | refine blk_drew ?_ | refine blk_alloc ?_ _)); refine blk_far ?_ NB205_216.out _; (with_reducible repeat (first | refine blk_drewN ?_ _ | refine blk_drew ?_ | refine blk_alloc ?_ _)); exact BK205.out) NB205_207.out (by simp)); have n3_ := Aside0.mk (KeepBut.blk hk (g' := gb206) (o := .cells (mixA (Value.int .u16) [] (LA.zero 40)) 28 (0, 0)) (by (with_reducible repeat (first | refine blk_drewN ?_ _ | refine blk_drew ?_ | refine blk_alloc ?_ _)); refine blk_far ?_ NB206_216.out _; (with_reducible repeat (first | refine blk_drewN ?_ _ | refine blk_drew ?_ | refine blk_alloc ?_ _)); refine blk_far ?_ NB206_216.out _; (with_reducible repeat (first | refine blk_drewN ?_ _ | refine blk_drew ?_ | refine blk_alloc ?_ _)); exact BK206.out) NB206_207.out (by simp)); have n4_ := Aside0.mk (KeepBut.blk hk (g' := gb212) (o := .cells #[.int .i8 ((rd_T41 t208 x16_1).f0), .int .i8 ((rd_T41 t208 x16_1).f1)] 41 (0, 0)) (by (with_reducible repeat (first | refine blk_drewN ?_ _ | refine blk_drew ?_ | refine blk_alloc ?_ _)); refine blk_far ?_ NB212_216.out _; (with_reducible repeat (first | refine blk_drewN ?_ _ | refine blk_drew ?_ | refine blk_alloc ?_ _)); refine blk_far ?_ NB212_216.out _; (with_reducible repeat (first | refine blk_drewN ?_ _ | refine blk_drew ?_ | refine blk_alloc ?_ _)); exact BK212.out) NB212_207.out (by simp)); have n5_ := Aside0.mk (KeepBut.blk hk (g' := gb216) (o := .cells #[.int .i8 t214, .int .i8 t215] 41 (0, 0)) (by (with_reducible repeat (first | refine blk_drewN ?_ _ | refine blk_drew ?_ | refine blk_alloc ?_ _)); refine blk_put (cs := #[.int .i8 t214, .int .i8 0]) ?_ 1 _ rfl; (with_reducible repeat (first | refine blk_drewN ?_ _ | refine blk_drew ?_ | refine blk_alloc ?_ _)); refine blk_put (cs := #[.int .i8 0, .int .i8 0]) ?_ 0 _ rfl; (with_reducible repeat (first | refine blk_drewN ?_ _ | refine blk_drew ?_ | refine blk_alloc ?_ _)); exact BK216.out) NB216_207.out (by simp)); have n6_ := Aside0.mk (hb); have n7_ := Aside0.mk (hi.1); clear HO_14; clear BK204; clear BK205; clear BK206; clear BK212; clear BK216; clear HB; clear BK207; have HO_14 := n0_; have BK204 := n1_; have BK205 := n2_; have BK206 := n3_; have BK212 := n4_; have BK216 := n5_; have HB := n6_; have BK207 := n7_; clear n0_ n1_ n2_ n3_ n4_ n5_ n6_ n7_; (try clear hb); (try clear hb2); (try clear hk); (try clear hi)))
            go_roundg k2
            case measure => have := HK1.out; have := HK2.out; omega
            case rel => exact ⟨(wrap64 (x20_2 + 1)), (t218), (by first | rfl | (simp; done) | (simp [*]; done)), H', ⟨by have := HK1.out; have := HK2.out; omega⟩, ⟨by (with_reducible repeat (first | apply Kd.R_alloc | apply Kd.R_drewN | apply Kd.R_drew)); exact Kd.R_mono HO_14.out (fun _ hk => hk.1)⟩, ⟨pk BK204⟩, ⟨pk BK205⟩, ⟨pk BK206⟩, ⟨pk BK207⟩, ⟨pk BK212⟩, ⟨pbs HB⟩⟩
           ·rw [if_neg c46] at H
            have c46b0 : (a2 == 114) = false := beq_eq_false_iff_ne.mpr c46
            have c46b1 : (a2 != 114) = true := bne_iff_ne.mpr c46
            have HC66 := Aside0.mk H
            clear H
            go_upto_region 14 with (first | ((with_reducible refine gate_dst (N := 23) rfl ?_); refine wpList_run0 (v := .agg (mixA (Value.int .u16) [] a0)) rfl (load_mix_run (P := Tryd.prog) 28 (.tmp 3) rfl gb204 rfl (show World.rangeAt _ gb204 0 ([] ++ a0.l.map (Value.int .u16)) from mix_range (show (World.heap _)[gb204]? = some (.cells (mixA (Value.int .u16) [] a0) 28 (0, 0)) from by (with_reducible repeat (first | refine blk_drewN ?_ _ | refine blk_drew ?_ | refine blk_alloc ?_ _)); exact BK204.out)) Tryd.underlying28 rfl (by kernel_rfl) rfl) ?_; have hnb68 := NB212_204.out; have hnc68 := NB204_212.out; have hnb69 := NB212_205.out; have hnc69 := NB205_212.out; have hnb70 := NB212_206.out; have hnc70 := NB206_212.out; have hnb71 := NB212_207.out; have hnc71 := NB207_212.out; have hcz72_0 : wr.cell? ⟨gb212, 0, none⟩ = some (.int .i8 ((rd_T41 t208 x16_1).f0)) := (blk_cell BK212.out 0).trans rfl; have hcz72_1 : wr.cell? ⟨gb212, 1, none⟩ = some (.int .i8 ((rd_T41 t208 x16_1).f1)) := (blk_cell BK212.out 1).trans rfl; have hfz72_0 := blk_frozen BK212.out 0; have hfz72_1 := blk_frozen BK212.out 1) | ((with_reducible refine gate_callee (f := 57) rfl ?_); refine goesL_ (some 26) rfl rfl Tryd.func57 (by kernel_rfl) rfl #[.agg (mixA (Value.int .u16) [] a0), .agg #[.int .i8 ((rd_T41 t208 x16_1).f0), .int .i8 ((rd_T41 t208 x16_1).f1)], .int .i64 x20_2] rfl (by (try simp only [List.map_toArray, List.map_cons, List.map_nil]); first | done | rfl | (simp only [List.length_drop, List.length_take]; rfl)) ?_; (with_reducible refine (impl_Crowd_has.calls a0 ((rd_T41 t208 x16_1).f0) ((rd_T41 t208 x16_1).f1) x20_2 true _ A23.out).mono ?_); rintro e w73 ⟨rfl, hb⟩; refine ⟨_, rfl, ?_⟩; have n0_ := krb HO_14 hb; have n1_ := bkb BK204 hb; have n2_ := bkb BK205 hb; have n3_ := bkb BK206 hb; have n4_ := bkb BK207 hb; have n5_ := bkb BK212 hb; have n6_ := bst HB hb; clear HO_14; clear BK204; clear BK205; clear BK206; clear BK207; clear BK212; clear HB; have HO_14 := n0_; have BK204 := n1_; have BK205 := n2_; have BK206 := n3_; have BK207 := n4_; have BK212 := n5_; have HB := n6_; clear n0_ n1_ n2_ n3_ n4_ n5_ n6_; (try clear hb); (try clear hb2); (try clear hk); (try clear hi); have hcz74_0 : w73.cell? ⟨gb212, 0, none⟩ = some (.int .i8 ((rd_T41 t208 x16_1).f0)) := (blk_cell BK212.out 0).trans rfl; have hcz74_1 : w73.cell? ⟨gb212, 1, none⟩ = some (.int .i8 ((rd_T41 t208 x16_1).f1)) := (blk_cell BK212.out 1).trans rfl; have hfz74_0 := blk_frozen BK212.out 0; have hfz74_1 := blk_frozen BK212.out 1) | ((with_reducible refine gate_callee (f := 66) rfl ?_); refine goesL_ (some 30) rfl rfl Tryd.func66 (by kernel_rfl) rfl #[.agg #[.int .i8 ((rd_T41 t208 x16_1).f0), .int .i8 ((rd_T41 t208 x16_1).f1)], .int .i64 x20_2] rfl (by (try simp only [List.map_toArray, List.map_cons, List.map_nil]); first | done | rfl | (simp only [List.length_drop, List.length_take]; rfl)) ?_; (with_reducible refine (impl_NextSpot.calls ((rd_T41 t208 x16_1).f0) ((rd_T41 t208 x16_1).f1) x20_2 t214 t215 _ A25.out).mono ?_); rintro e w75 ⟨rfl, hb⟩; refine ⟨_, rfl, ?_⟩; have n0_ := krb HO_14 hb; have n1_ := bkb BK204 hb; have n2_ := bkb BK205 hb; have n3_ := bkb BK206 hb; have n4_ := bkb BK207 hb; have n5_ := bkb BK212 hb; have n6_ := bst HB hb; clear HO_14; clear BK204; clear BK205; clear BK206; clear BK207; clear BK212; clear HB; have HO_14 := n0_; have BK204 := n1_; have BK205 := n2_; have BK206 := n3_; have BK207 := n4_; have BK212 := n5_; have HB := n6_; clear n0_ n1_ n2_ n3_ n4_ n5_ n6_; (try clear hb); (try clear hb2); (try clear hk); (try clear hi)) | ((with_reducible refine gate_dst (N := 11) rfl ?_); refine box_event ?hg (N := 11) ?hd (cs := #[.int .i8 0, .int .i8 0]) (t := 41) ?hr ?_; (case hd => rfl); (case hg => rfl); (case hr => first | (go_simp; done) | (go_simp; rfl)); intro gb216 hg w76 hbox hb; have n0_ := Aside0.mk (Kd.R_below (Kd.R_elderB (by (with_reducible repeat (first | apply Kd.R_alloc | apply Kd.R_drewN | apply Kd.R_drew)); exact HO_14.out) gb216 (Nat.le_of_eq hg.symm)) hb); have n1_ := bkb BK204 hb; have n2_ := bkb BK205 hb; have n3_ := bkb BK206 hb; have n4_ := bkb BK207 hb; have n5_ := bkb BK212 hb; have n6_ := bst HB hb; have n7_ := Aside0.mk (hbox); have n8_ := gwl HB hg; have n9_ := gwl HB hg; have n10_ := nbl BK204 hg; have n11_ := nbg BK204 hg; have n12_ := nbl BK205 hg; have n13_ := nbg BK205 hg; have n14_ := nbl BK206 hg; have n15_ := nbg BK206 hg; have n16_ := nbl BK207 hg; have n17_ := nbg BK207 hg; have n18_ := nbl BK212 hg; have n19_ := nbg BK212 hg; clear HO_14; clear BK204; clear BK205; clear BK206; clear BK207; clear BK212; clear HB; have HO_14 := n0_; have BK204 := n1_; have BK205 := n2_; have BK206 := n3_; have BK207 := n4_; have BK212 := n5_; have HB := n6_; have BK216 := n7_; have GW216 := n8_; have GE216 := n9_; have NB204_216 := n10_; have NB216_204 := n11_; have NB205_216 := n12_; have NB216_205 := n13_; have NB206_216 := n14_; have NB216_206 := n15_; have NB207_216 := n16_; have NB216_207 := n17_; have NB212_216 := n18_; have NB216_212 := n19_; clear n0_ n1_ n2_ n3_ n4_ n5_ n6_ n7_ n8_ n9_ n10_ n11_ n12_ n13_ n14_ n15_ n16_ n17_ n18_ n19_; clear hb hbox hg; have hnb77 := NB216_204.out; have hnc77 := NB204_216.out; have hnb78 := NB216_205.out; have hnc78 := NB205_216.out; have hnb79 := NB216_206.out; have hnc79 := NB206_216.out; have hnb80 := NB216_207.out; have hnc80 := NB207_216.out; have hnb81 := NB216_212.out; have hnc81 := NB212_216.out; have hcz82_0 : w76.cell? ⟨gb216, 0, none⟩ = some (.int .i8 0) := (blk_cell BK216.out 0).trans rfl; have hcz82_1 : w76.cell? ⟨gb216, 1, none⟩ = some (.int .i8 0) := (blk_cell BK216.out 1).trans rfl; have hfz82_0 := blk_frozen BK216.out 0; have hfz82_1 := blk_frozen BK216.out 1))
            (try simp only [Act.put, List.setIfInBounds_toArray, List.set_cons_zero, List.set_cons_succ])
            go_cut [47] (fun v47 wc => ∃ (kq : Nat) (x47_65 : Bool), v47 = .bool x47_65 ∧ Aside0 (impl_Crowd_moved.j2 kq a2 x20_2 t208 (t208.length : Int) x16_1 x20_2 x47_65 a0 a1_0 a1_1 a1_2 x208000_2 ((rd_T41 t208 x16_1).f0) ((rd_T41 t208 x16_1).f1) t214 t215 = some r) ∧ Aside0 (kq ≤ k2) ∧ Aside0 (Kd.R k41 41 wc w.heap.size (fun k_ => k_ ≠ gb212 ∧ k_ ≠ gb216) (.slice (some ad211) t208.length co12) t208) ∧ Aside0 (wc.heap[gb204]? = some (.cells (mixA (Value.int .u16) [] a0) 28 (0, 0))) ∧ Aside0 (wc.heap[gb205]? = some (.cells (mixA (Value.int .u16) [.int .i8 a1_0, .int .i8 a1_1] a1_2) 31 (0, 0))) ∧ Aside0 (wc.heap[gb206]? = some (.cells (mixA (Value.int .u16) [] (LA.zero 40)) 28 (0, 0))) ∧ Aside0 (wc.heap[gb207]? = some (.cells (mixA (Value.int .u16) [] x208000_2) 28 (0, 0))) ∧ Aside0 (wc.heap[gb212]? = some (.cells #[.int .i8 ((rd_T41 t208 x16_1).f0), .int .i8 ((rd_T41 t208 x16_1).f1)] 41 (0, 0))) ∧ Aside0 (wc.heap[gb216]? = some (.cells #[.int .i8 t214, .int .i8 t215] 41 (0, 0))) ∧ Aside0 (Below w.heap.size w wc))
            case first =>
             have H := HC66.out
             clear HC66
             by_cases c83 : a2 = 102
             ·rw [if_pos c83] at H
              have c83b0 : (a2 == 102) = true := beq_iff_eq.mpr c83
              have c83b1 : (a2 != 102) = false := bne_eq_false_iff_eq.mpr c83
              clear c83
              (first | rw [c83b0] | (simp only [i64_w, i32_w]; rw [c83b0]) | skip)
              replace H := Option.bind_eq_some_iff.mp H
              obtain ⟨t219, A840, H⟩ := H
              replace H : (impl_Crowd_moved.j2 k2 a2 x20_2 t208 (t208.length : Int) x16_1 x20_2 t219 a0 a1_0 a1_1 a1_2 x208000_2 ((rd_T41 t208 x16_1).f0) ((rd_T41 t208 x16_1).f1) t214 t215) = some r := H
              have A84 := Aside0.mk A840
              clear A840
              have H' := Aside0.mk H
              clear H
              go_wp2_with (first | ((with_reducible refine gate_dst (N := 51) rfl ?_); refine wpList_run1 (v := .agg (mixA (Value.int .u16) [.int .i8 a1_0, .int .i8 a1_1] a1_2)) (by rfl) (load_mix_run (P := Tryd.prog) 31 (.tmp 4) rfl gb205 rfl (show World.rangeAt _ gb205 0 ([.int .i8 a1_0, .int .i8 a1_1] ++ a1_2.l.map (Value.int .u16)) from mix_range (show (World.heap _)[gb205]? = some (.cells (mixA (Value.int .u16) [.int .i8 a1_0, .int .i8 a1_1] a1_2) 31 (0, 0)) from by (with_reducible repeat (first | refine blk_drewN ?_ _ | refine blk_drew ?_ | refine blk_alloc ?_ _)); refine blk_far ?_ NB205_216.out _; (with_reducible repeat (first | refine blk_drewN ?_ _ | refine blk_drew ?_ | refine blk_alloc ?_ _)); refine blk_far ?_ NB205_216.out _; (with_reducible repeat (first | refine blk_drewN ?_ _ | refine blk_drew ?_ | refine blk_alloc ?_ _)); exact BK205.out)) Tryd.underlying31 rfl (by kernel_rfl) rfl) ?_; have hnb86 := NB216_204.out; have hnc86 := NB204_216.out; have hnb87 := NB216_205.out; have hnc87 := NB205_216.out; have hnb88 := NB216_206.out; have hnc88 := NB206_216.out; have hnb89 := NB216_207.out; have hnc89 := NB207_216.out; have hnb90 := NB216_212.out; have hnc90 := NB212_216.out; have hcz91_0 : w76.cell? ⟨gb216, 0, none⟩ = some (.int .i8 0) := (blk_cell BK216.out 0).trans rfl; have hcz91_1 : w76.cell? ⟨gb216, 1, none⟩ = some (.int .i8 0) := (blk_cell BK216.out 1).trans rfl; have hfz91_0 := blk_frozen BK216.out 0; have hfz91_1 := blk_frozen BK216.out 1) | (go_at_call 51; (with_reducible refine (impl_Room_isFree.calls a1_0 a1_1 a1_2 t214 t215 t219 _ A84.out).mono ?_); rintro e w92 ⟨rfl, hb⟩; have n0_ := Aside0.mk (Kd.R_below (by (with_reducible repeat (first | apply Kd.R_alloc | apply Kd.R_drewN | apply Kd.R_drew)); exact (Kd.R_mono (Kd.R_far (p := ⟨gb216, 1, none⟩) (Kd.R_far (p := ⟨gb216, 0, none⟩) (Kd.R_mono HO_14.out (fun k_ hk => (⟨hk, hk.2⟩ : _ ∧ k_ ≠ gb216))) (fun _ hk => hk.2) (.int .i8 t214)) (fun _ hk => hk.2) (.int .i8 t215)) (fun _ h_ => h_.1))) hb); have n1_ := Aside0.mk (blk_below (g := gb204) (o := .cells (mixA (Value.int .u16) [] a0) 28 (0, 0)) (by (with_reducible repeat (first | refine blk_drewN ?_ _ | refine blk_drew ?_ | refine blk_alloc ?_ _)); refine blk_far ?_ NB204_216.out _; (with_reducible repeat (first | refine blk_drewN ?_ _ | refine blk_drew ?_ | refine blk_alloc ?_ _)); refine blk_far ?_ NB204_216.out _; (with_reducible repeat (first | refine blk_drewN ?_ _ | refine blk_drew ?_ | refine blk_alloc ?_ _)); exact BK204.out) hb); have n2_ := Aside0.mk (blk_below (g := gb205) (o := .cells (mixA (Value.int .u16) [.int .i8 a1_0, .int .i8 a1_1] a1_2) 31 (0, 0)) (by (with_reducible repeat (first | refine blk_drewN ?_ _ | refine blk_drew ?_ | refine blk_alloc ?_ _)); refine blk_far ?_ NB205_216.out _; (with_reducible repeat (first | refine blk_drewN ?_ _ | refine blk_drew ?_ | refine blk_alloc ?_ _)); refine blk_far ?_ NB205_216.out _; (with_reducible repeat (first | refine blk_drewN ?_ _ | refine blk_drew ?_ | refine blk_alloc ?_ _)); exact BK205.out) hb); have n3_ := Aside0.mk (blk_below (g := gb206) (o := .cells (mixA (Value.int .u16) [] (LA.zero 40)) 28 (0, 0)) (by (with_reducible repeat (first | refine blk_drewN ?_ _ | refine blk_drew ?_ | refine blk_alloc ?_ _)); refine blk_far ?_ NB206_216.out _; (with_reducible repeat (first | refine blk_drewN ?_ _ | refine blk_drew ?_ | refine blk_alloc ?_ _)); refine blk_far ?_ NB206_216.out _; (with_reducible repeat (first | refine blk_drewN ?_ _ | refine blk_drew ?_ | refine blk_alloc ?_ _)); exact BK206.out) hb); have n4_ := Aside0.mk (blk_below (g := gb207) (o := .cells (mixA (Value.int .u16) [] x208000_2) 28 (0, 0)) (by (with_reducible repeat (first | refine blk_drewN ?_ _ | refine blk_drew ?_ | refine blk_alloc ?_ _)); refine blk_far ?_ NB207_216.out _; (with_reducible repeat (first | refine blk_drewN ?_ _ | refine blk_drew ?_ | refine blk_alloc ?_ _)); refine blk_far ?_ NB207_216.out _; (with_reducible repeat (first | refine blk_drewN ?_ _ | refine blk_drew ?_ | refine blk_alloc ?_ _)); exact BK207.out) hb); have n5_ := Aside0.mk (blk_below (g := gb212) (o := .cells #[.int .i8 ((rd_T41 t208 x16_1).f0), .int .i8 ((rd_T41 t208 x16_1).f1)] 41 (0, 0)) (by (with_reducible repeat (first | refine blk_drewN ?_ _ | refine blk_drew ?_ | refine blk_alloc ?_ _)); refine blk_far ?_ NB212_216.out _; (with_reducible repeat (first | refine blk_drewN ?_ _ | refine blk_drew ?_ | refine blk_alloc ?_ _)); refine blk_far ?_ NB212_216.out _; (with_reducible repeat (first | refine blk_drewN ?_ _ | refine blk_drew ?_ | refine blk_alloc ?_ _)); exact BK212.out) hb); have n6_ := Aside0.mk (blk_below (g := gb216) (o := .cells #[.int .i8 t214, .int .i8 t215] 41 (0, 0)) (by (with_reducible repeat (first | refine blk_drewN ?_ _ | refine blk_drew ?_ | refine blk_alloc ?_ _)); refine blk_put (cs := #[.int .i8 t214, .int .i8 0]) ?_ 1 _ rfl; (with_reducible repeat (first | refine blk_drewN ?_ _ | refine blk_drew ?_ | refine blk_alloc ?_ _)); refine blk_put (cs := #[.int .i8 0, .int .i8 0]) ?_ 0 _ rfl; (with_reducible repeat (first | refine blk_drewN ?_ _ | refine blk_drew ?_ | refine blk_alloc ?_ _)); exact BK216.out) hb); have n7_ := bst HB hb; clear HO_14; clear BK204; clear BK205; clear BK206; clear BK207; clear BK212; clear BK216; clear HB; have HO_14 := n0_; have BK204 := n1_; have BK205 := n2_; have BK206 := n3_; have BK207 := n4_; have BK212 := n5_; have BK216 := n6_; have HB := n7_; clear n0_ n1_ n2_ n3_ n4_ n5_ n6_ n7_; (try clear hb); (try clear hb2); (try clear hk); (try clear hi)))
              go_meet
              case rel => exact ⟨_, (t219), (by first | rfl | (simp; done) | (simp [*]; done)), H', ⟨by have := HK1.out; have := HK2.out; first | omega | exact Nat.le_refl _⟩, ⟨by (with_reducible repeat (first | apply Kd.R_alloc | apply Kd.R_drewN | apply Kd.R_drew)); exact HO_14.out⟩, ⟨pk BK204⟩, ⟨pk BK205⟩, ⟨pk BK206⟩, ⟨pk BK207⟩, ⟨pk BK212⟩, ⟨pk BK216⟩, ⟨pbs HB⟩⟩
             ·rw [if_neg c83] at H
              have c83b0 : (a2 == 102) = false := beq_eq_false_iff_ne.mpr c83
              have c83b1 : (a2 != 102) = true := bne_iff_ne.mpr c83
              (first | rw [c83b0] | (simp only [i64_w, i32_w]; rw [c83b0]) | skip)
              have H' := Aside0.mk H
              clear H
              go_wp2
              go_meet
              case rel => exact ⟨_, (false), (by first | rfl | (simp; done) | (simp [*]; done)), H', ⟨by have := HK1.out; have := HK2.out; first | omega | exact Nat.le_refl _⟩, ⟨by (with_reducible repeat (first | apply Kd.R_alloc | apply Kd.R_drewN | apply Kd.R_drew)); exact Kd.R_mono (Kd.R_far (p := ⟨gb216, 1, none⟩) (Kd.R_far (p := ⟨gb216, 0, none⟩) (Kd.R_mono HO_14.out (fun k_ hk => (⟨hk, hk.2⟩ : _ ∧ k_ ≠ gb216))) (fun _ hk => hk.2) (.int .i8 t214)) (fun _ hk => hk.2) (.int .i8 t215)) (fun _ hk => ⟨hk.1.1, hk.1.2⟩)⟩, ⟨by (with_reducible repeat (first | refine blk_drewN ?_ _ | refine blk_drew ?_ | refine blk_alloc ?_ _)); refine blk_far ?_ NB204_216.out _; (with_reducible repeat (first | refine blk_drewN ?_ _ | refine blk_drew ?_ | refine blk_alloc ?_ _)); refine blk_far ?_ NB204_216.out _; (with_reducible repeat (first | refine blk_drewN ?_ _ | refine blk_drew ?_ | refine blk_alloc ?_ _)); exact BK204.out⟩, ⟨by (with_reducible repeat (first | refine blk_drewN ?_ _ | refine blk_drew ?_ | refine blk_alloc ?_ _)); refine blk_far ?_ NB205_216.out _; (with_reducible repeat (first | refine blk_drewN ?_ _ | refine blk_drew ?_ | refine blk_alloc ?_ _)); refine blk_far ?_ NB205_216.out _; (with_reducible repeat (first | refine blk_drewN ?_ _ | refine blk_drew ?_ | refine blk_alloc ?_ _)); exact BK205.out⟩, ⟨by (with_reducible repeat (first | refine blk_drewN ?_ _ | refine blk_drew ?_ | refine blk_alloc ?_ _)); refine blk_far ?_ NB206_216.out _; (with_reducible repeat (first | refine blk_drewN ?_ _ | refine blk_drew ?_ | refine blk_alloc ?_ _)); refine blk_far ?_ NB206_216.out _; (with_reducible repeat (first | refine blk_drewN ?_ _ | refine blk_drew ?_ | refine blk_alloc ?_ _)); exact BK206.out⟩, ⟨by (with_reducible repeat (first | refine blk_drewN ?_ _ | refine blk_drew ?_ | refine blk_alloc ?_ _)); refine blk_far ?_ NB207_216.out _; (with_reducible repeat (first | refine blk_drewN ?_ _ | refine blk_drew ?_ | refine blk_alloc ?_ _)); refine blk_far ?_ NB207_216.out _; (with_reducible repeat (first | refine blk_drewN ?_ _ | refine blk_drew ?_ | refine blk_alloc ?_ _)); exact BK207.out⟩, ⟨by (with_reducible repeat (first | refine blk_drewN ?_ _ | refine blk_drew ?_ | refine blk_alloc ?_ _)); refine blk_far ?_ NB212_216.out _; (with_reducible repeat (first | refine blk_drewN ?_ _ | refine blk_drew ?_ | refine blk_alloc ?_ _)); refine blk_far ?_ NB212_216.out _; (with_reducible repeat (first | refine blk_drewN ?_ _ | refine blk_drew ?_ | refine blk_alloc ?_ _)); exact BK212.out⟩, ⟨by (with_reducible repeat (first | refine blk_drewN ?_ _ | refine blk_drew ?_ | refine blk_alloc ?_ _)); refine blk_put (cs := #[.int .i8 t214, .int .i8 0]) ?_ 1 _ rfl; (with_reducible repeat (first | refine blk_drewN ?_ _ | refine blk_drew ?_ | refine blk_alloc ?_ _)); refine blk_put (cs := #[.int .i8 0, .int .i8 0]) ?_ 0 _ rfl; (with_reducible repeat (first | refine blk_drewN ?_ _ | refine blk_drew ?_ | refine blk_alloc ?_ _)); exact BK216.out⟩, ⟨pbs HB⟩⟩
            case rest =>
             clear HC66
             try clear c1
             try clear c2
             try clear p2
             try clear q2
             try clear hx2
             try clear c3
             try clear c4
             try clear c5
             try clear c6
             try clear p6
             try clear c7
             try clear c8
             try clear c9
             try clear c13
             try clear c13b0
             try clear c14
             try clear c14b0
             try clear c15
             try clear c15b0
             try clear c17
             try clear c18
             try clear c19
             try clear c20
             try clear p21
             try clear q21
             try clear hx21
             try clear c22
             try clear c22b0
             try clear c24
             try clear c26
             try clear c26b0
             try clear c26b1
             try clear c28
             try clear c29
             try clear c30
             try clear c31
             try clear c32
             try clear c38
             try clear c39
             try clear c40
             try clear c41
             try clear c42
             try clear c46
             try clear c46b0
             try clear c46b1
             try clear c49
             try clear c50
             try clear c51
             try clear c52
             try clear c53
             try clear c57
             try clear c58
             try clear c59
             try clear c60
             try clear c61
             try clear c62
             try clear p64
             try clear c66
             try clear c68
             try clear c69
             try clear c70
             try clear c71
             try clear c77
             try clear c78
             try clear c79
             try clear c80
             try clear c81
             try clear c83
             try clear c83b0
             try clear c83b1
             try clear c86
             try clear c87
             try clear c88
             try clear c89
             try clear c90
             try clear hcz21_0
             try clear hcz21_1
             try clear hcz33_0
             try clear hcz33_1
             try clear hcz35_0
             try clear hcz35_1
             try clear hcz43_0
             try clear hcz43_1
             try clear hcz44_0
             try clear hcz44_1
             try clear hcz53_0
             try clear hcz53_1
             try clear hcz55_0
             try clear hcz55_1
             try clear hcz63_0
             try clear hcz63_1
             try clear hcz64_0
             try clear hcz64_1
             try clear hcz72_0
             try clear hcz72_1
             try clear hcz74_0
             try clear hcz74_1
             try clear hcz82_0
             try clear hcz82_1
             try clear hcz91_0
             try clear hcz91_1
             try clear hfz21_0
             try clear hfz21_1
             try clear hfz33_0
             try clear hfz33_1
             try clear hfz35_0
             try clear hfz35_1
             try clear hfz43_0
             try clear hfz43_1
             try clear hfz44_0
             try clear hfz44_1
             try clear hfz53_0
             try clear hfz53_1
             try clear hfz55_0
             try clear hfz55_1
             try clear hfz63_0
             try clear hfz63_1
             try clear hfz64_0
             try clear hfz64_1
             try clear hfz72_0
             try clear hfz72_1
             try clear hfz74_0
             try clear hfz74_1
             try clear hfz82_0
             try clear hfz82_1
             try clear hfz91_0
             try clear hfz91_1
             try clear hx211_0
             try clear hx211_1
             try clear p2
             try clear p21
             try clear p211
             try clear q2
             try clear q21
             try clear q211
             obtain ⟨kq, x47_65, rfl, HA, HJ65, HO_14, BK204, BK205, BK206, BK207, BK212, BK216, HB⟩ := hcut
             cases kq with
             | zero => exact absurd HA.out (by simp [impl_Crowd_moved.j2])
             | succ kj65 =>
              have H := HA.out
              clear HA
              simp only [impl_Crowd_moved.j2] at H
              by_cases c93 : x47_65 = true
              ·subst c93
               have H1 : ((impl_Crowd_set.f x208000_2 t214 t215 x20_2).bind fun t220 => (impl_Crowd_moved.l1 kj65 a2 t208 (t208.length : Int) x16_1 (wrap64 (x20_2 + 1)) a0 a1_0 a1_1 a1_2 t220 ((rd_T41 t208 x16_1).f0) ((rd_T41 t208 x16_1).f1))) = some r := by rw [if_pos rfl] at H; exact H
               clear H
               have H := H1
               clear H1
               replace H := Option.bind_eq_some_iff.mp H
               obtain ⟨t220, A940, H⟩ := H
               replace H : (impl_Crowd_moved.l1 kj65 a2 t208 (t208.length : Int) x16_1 (wrap64 (x20_2 + 1)) a0 a1_0 a1_1 a1_2 t220 ((rd_T41 t208 x16_1).f0) ((rd_T41 t208 x16_1).f1)) = some r := H
               have A94 := Aside0.mk A940
               clear A940
               have H' := Aside0.mk H
               clear H
               have hnb95 := NB216_204.out
               have hnc95 := NB204_216.out
               have hnb96 := NB216_205.out
               have hnc96 := NB205_216.out
               have hnb97 := NB216_206.out
               have hnc97 := NB206_216.out
               have hnb98 := NB216_207.out
               have hnc98 := NB207_216.out
               have hnb99 := NB216_212.out
               have hnc99 := NB212_216.out
               have hcz100_0 : wc.cell? ⟨gb216, 0, none⟩ = some (.int .i8 t214) := bc_ BK216.out 0
               have hcz100_1 : wc.cell? ⟨gb216, 1, none⟩ = some (.int .i8 t215) := bc_ BK216.out 1
               have hfz100_0 := blk_frozen BK216.out 0
               have hfz100_1 := blk_frozen BK216.out 1
               go_wp2_with (first | ((with_reducible refine gate_callee (f := 29) rfl ?_); refine goesL_ (some 57) rfl rfl Tryd.func29 (by kernel_rfl) rfl #[.pointer (some ⟨gb207, 0, none⟩), .agg #[.int .i8 t214, .int .i8 t215], .int .i64 x20_2] rfl (by (try simp only [List.map_toArray, List.map_cons, List.map_nil]); first | done | rfl | (simp only [List.length_drop, List.length_take]; rfl)) ?_; (with_reducible refine (impl_Crowd_set.calls gb207 x208000_2 t214 t215 x20_2 t220 w _ ?side1 ?side2 A94.out).mono ?_); (case side1 => exact ⟨(pk BK207), GE207.out⟩); (case side2 => repeat (first | (with_reducible first | exact HB.out | apply below_alloc | apply pw_below_drewN | apply below_drew1 | refine below_set ?_ GE204.out | refine below_set ?_ GE205.out | refine below_set ?_ GE206.out | refine below_set ?_ GE207.out | refine below_set ?_ GE212.out | refine below_set ?_ GE216.out) | exact HB.out)); rintro e w101 ⟨rfl, hi, hb, hk⟩; refine ⟨_, rfl, ?_⟩; have n0_ := Aside0.mk (Kd.R_mono (Kd.R_keep (Kd.R_types (by (with_reducible repeat (first | apply Kd.R_alloc | apply Kd.R_drewN | apply Kd.R_drew)); exact HO_14.out) (pk BK207) (by decide)) hk (fun _ h => h.2)) (fun _ h => h.1)); have n1_ := Aside0.mk (KeepBut.blk hk (g' := gb204) (o := .cells (mixA (Value.int .u16) [] a0) 28 (0, 0)) (pk BK204) NB204_207.out (by simp)); have n2_ := Aside0.mk (KeepBut.blk hk (g' := gb205) (o := .cells (mixA (Value.int .u16) [.int .i8 a1_0, .int .i8 a1_1] a1_2) 31 (0, 0)) (pk BK205) NB205_207.out (by simp)); have n3_ := Aside0.mk (KeepBut.blk hk (g' := gb206) (o := .cells (mixA (Value.int .u16) [] (LA.zero 40)) 28 (0, 0)) (pk BK206) NB206_207.out (by simp)); have n4_ := Aside0.mk (KeepBut.blk hk (g' := gb212) (o := .cells #[.int .i8 ((rd_T41 t208 x16_1).f0), .int .i8 ((rd_T41 t208 x16_1).f1)] 41 (0, 0)) (pk BK212) NB212_207.out (by simp)); have n5_ := Aside0.mk (KeepBut.blk hk (g' := gb216) (o := .cells #[.int .i8 t214, .int .i8 t215] 41 (0, 0)) (pk BK216) NB216_207.out (by simp)); have n6_ := Aside0.mk (hb); have n7_ := Aside0.mk (hi.1); clear HO_14; clear BK204; clear BK205; clear BK206; clear BK212; clear BK216; clear HB; clear BK207; have HO_14 := n0_; have BK204 := n1_; have BK205 := n2_; have BK206 := n3_; have BK212 := n4_; have BK216 := n5_; have HB := n6_; have BK207 := n7_; clear n0_ n1_ n2_ n3_ n4_ n5_ n6_ n7_; (try clear hb); (try clear hb2); (try clear hk); (try clear hi)))
               go_roundg kj65
               case measure => have := HK1.out; have := HK2.out; have := HJ65.out; omega
               case rel => exact ⟨(wrap64 (x20_2 + 1)), (t220), (by first | rfl | (simp; done) | (simp [*]; done)), H', ⟨by have := HK1.out; have := HK2.out; have := HJ65.out; omega⟩, ⟨by (with_reducible repeat (first | apply Kd.R_alloc | apply Kd.R_drewN | apply Kd.R_drew)); exact Kd.R_mono HO_14.out (fun _ hk => hk.1)⟩, ⟨pk BK204⟩, ⟨pk BK205⟩, ⟨pk BK206⟩, ⟨pk BK207⟩, ⟨pk BK212⟩, ⟨pbs HB⟩⟩
              ·replace c93 := Bool.eq_false_iff.mpr c93
               subst c93
               have H1 : (if a2 = 98 then ((impl_Room_isFree.f a1_0 a1_1 a1_2 t214 t215).bind fun t221 => (if t221 = true then (impl_Crowd_moved.l1 kj65 a2 t208 (t208.length : Int) x16_1 (wrap64 (x20_2 + 1)) a0 a1_0 a1_1 a1_2 x208000_2 ((rd_T41 t208 x16_1).f0) ((rd_T41 t208 x16_1).f1)) else ((impl_Crowd_set.f x208000_2 ((rd_T41 t208 x16_1).f0) ((rd_T41 t208 x16_1).f1) x20_2).bind fun t222 => (impl_Crowd_moved.l1 kj65 a2 t208 (t208.length : Int) x16_1 (wrap64 (x20_2 + 1)) a0 a1_0 a1_1 a1_2 t222 ((rd_T41 t208 x16_1).f0) ((rd_T41 t208 x16_1).f1))))) else (impl_Crowd_moved.l1 kj65 a2 t208 (t208.length : Int) x16_1 (wrap64 (x20_2 + 1)) a0 a1_0 a1_1 a1_2 x208000_2 ((rd_T41 t208 x16_1).f0) ((rd_T41 t208 x16_1).f1))) = some r := by rw [if_neg (show ¬ (false = true) by decide)] at H; exact H
               clear H
               have H := H1
               clear H1
               by_cases c102 : a2 = 98
               ·rw [if_pos c102] at H
                have c102b0 : (a2 == 98) = true := beq_iff_eq.mpr c102
                have c102b1 : (a2 != 98) = false := bne_eq_false_iff_eq.mpr c102
                clear c102
                replace H := Option.bind_eq_some_iff.mp H
                obtain ⟨t221, A1030, H⟩ := H
                replace H : (if t221 = true then (impl_Crowd_moved.l1 kj65 a2 t208 (t208.length : Int) x16_1 (wrap64 (x20_2 + 1)) a0 a1_0 a1_1 a1_2 x208000_2 ((rd_T41 t208 x16_1).f0) ((rd_T41 t208 x16_1).f1)) else ((impl_Crowd_set.f x208000_2 ((rd_T41 t208 x16_1).f0) ((rd_T41 t208 x16_1).f1) x20_2).bind fun t222 => (impl_Crowd_moved.l1 kj65 a2 t208 (t208.length : Int) x16_1 (wrap64 (x20_2 + 1)) a0 a1_0 a1_1 a1_2 t222 ((rd_T41 t208 x16_1).f0) ((rd_T41 t208 x16_1).f1)))) = some r := H
                have A103 := Aside0.mk A1030
                clear A1030
                by_cases c104 : t221 = true
                ·subst c104
                 have H1 : (impl_Crowd_moved.l1 kj65 a2 t208 (t208.length : Int) x16_1 (wrap64 (x20_2 + 1)) a0 a1_0 a1_1 a1_2 x208000_2 ((rd_T41 t208 x16_1).f0) ((rd_T41 t208 x16_1).f1)) = some r := by rw [if_pos rfl] at H; exact H
                 clear H
                 have H := H1
                 clear H1
                 have H' := Aside0.mk H
                 clear H
                 go_wp2_with (first | ((with_reducible refine gate_dst (N := 62) rfl ?_); refine wpList_run1 (v := .agg (mixA (Value.int .u16) [.int .i8 a1_0, .int .i8 a1_1] a1_2)) (by rfl) (load_mix_run (P := Tryd.prog) 31 (.tmp 4) rfl gb205 rfl (show World.rangeAt _ gb205 0 ([.int .i8 a1_0, .int .i8 a1_1] ++ a1_2.l.map (Value.int .u16)) from mix_range (show (World.heap _)[gb205]? = some (.cells (mixA (Value.int .u16) [.int .i8 a1_0, .int .i8 a1_1] a1_2) 31 (0, 0)) from by (with_reducible repeat (first | refine blk_drewN ?_ _ | refine blk_drew ?_ | refine blk_alloc ?_ _)); exact BK205.out)) Tryd.underlying31 rfl (by kernel_rfl) rfl) ?_; have hnb106 := NB216_204.out; have hnc106 := NB204_216.out; have hnb107 := NB216_205.out; have hnc107 := NB205_216.out; have hnb108 := NB216_206.out; have hnc108 := NB206_216.out; have hnb109 := NB216_207.out; have hnc109 := NB207_216.out; have hnb110 := NB216_212.out; have hnc110 := NB212_216.out; have hcz111_0 : wc.cell? ⟨gb216, 0, none⟩ = some (.int .i8 t214) := (blk_cell BK216.out 0).trans rfl; have hcz111_1 : wc.cell? ⟨gb216, 1, none⟩ = some (.int .i8 t215) := (blk_cell BK216.out 1).trans rfl; have hfz111_0 := blk_frozen BK216.out 0; have hfz111_1 := blk_frozen BK216.out 1) | (go_at_call 51; (with_reducible refine (impl_Room_isFree.calls a1_0 a1_1 a1_2 t214 t215 true _ A103.out).mono ?_); rintro e w112 ⟨rfl, hb⟩; have n0_ := krb HO_14 hb; have n1_ := bkb BK204 hb; have n2_ := bkb BK205 hb; have n3_ := bkb BK206 hb; have n4_ := bkb BK207 hb; have n5_ := bkb BK212 hb; have n6_ := bkb BK216 hb; have n7_ := bst HB hb; clear HO_14; clear BK204; clear BK205; clear BK206; clear BK207; clear BK212; clear BK216; clear HB; have HO_14 := n0_; have BK204 := n1_; have BK205 := n2_; have BK206 := n3_; have BK207 := n4_; have BK212 := n5_; have BK216 := n6_; have HB := n7_; clear n0_ n1_ n2_ n3_ n4_ n5_ n6_ n7_; (try clear hb); (try clear hb2); (try clear hk); (try clear hi)))
                 go_roundg kj65
                 case measure => have := HK1.out; have := HK2.out; have := HJ65.out; omega
                 case rel => exact ⟨(wrap64 (x20_2 + 1)), (x208000_2), (by first | rfl | (simp; done) | (simp [*]; done)), H', ⟨by have := HK1.out; have := HK2.out; have := HJ65.out; omega⟩, ⟨by (with_reducible repeat (first | apply Kd.R_alloc | apply Kd.R_drewN | apply Kd.R_drew)); exact Kd.R_mono HO_14.out (fun _ hk => hk.1)⟩, ⟨pk BK204⟩, ⟨pk BK205⟩, ⟨pk BK206⟩, ⟨pk BK207⟩, ⟨pk BK212⟩, ⟨pbs HB⟩⟩
                ·replace c104 := Bool.eq_false_iff.mpr c104
                 subst c104
                 have H1 : ((impl_Crowd_set.f x208000_2 ((rd_T41 t208 x16_1).f0) ((rd_T41 t208 x16_1).f1) x20_2).bind fun t222 => (impl_Crowd_moved.l1 kj65 a2 t208 (t208.length : Int) x16_1 (wrap64 (x20_2 + 1)) a0 a1_0 a1_1 a1_2 t222 ((rd_T41 t208 x16_1).f0) ((rd_T41 t208 x16_1).f1))) = some r := by rw [if_neg (show ¬ (false = true) by decide)] at H; exact H
                 clear H
                 have H := H1
                 clear H1
                 replace H := Option.bind_eq_some_iff.mp H
                 obtain ⟨t222, A1130, H⟩ := H
                 replace H : (impl_Crowd_moved.l1 kj65 a2 t208 (t208.length : Int) x16_1 (wrap64 (x20_2 + 1)) a0 a1_0 a1_1 a1_2 t222 ((rd_T41 t208 x16_1).f0) ((rd_T41 t208 x16_1).f1)) = some r := H
                 have A113 := Aside0.mk A1130
                 clear A1130
                 have H' := Aside0.mk H
                 clear H
                 go_wp2_with (first | ((with_reducible refine gate_dst (N := 62) rfl ?_); refine wpList_run1 (v := .agg (mixA (Value.int .u16) [.int .i8 a1_0, .int .i8 a1_1] a1_2)) (by rfl) (load_mix_run (P := Tryd.prog) 31 (.tmp 4) rfl gb205 rfl (show World.rangeAt _ gb205 0 ([.int .i8 a1_0, .int .i8 a1_1] ++ a1_2.l.map (Value.int .u16)) from mix_range (show (World.heap _)[gb205]? = some (.cells (mixA (Value.int .u16) [.int .i8 a1_0, .int .i8 a1_1] a1_2) 31 (0, 0)) from by (with_reducible repeat (first | refine blk_drewN ?_ _ | refine blk_drew ?_ | refine blk_alloc ?_ _)); exact BK205.out)) Tryd.underlying31 rfl (by kernel_rfl) rfl) ?_; have hnb115 := NB216_204.out; have hnc115 := NB204_216.out; have hnb116 := NB216_205.out; have hnc116 := NB205_216.out; have hnb117 := NB216_206.out; have hnc117 := NB206_216.out; have hnb118 := NB216_207.out; have hnc118 := NB207_216.out; have hnb119 := NB216_212.out; have hnc119 := NB212_216.out; have hcz120_0 : wc.cell? ⟨gb216, 0, none⟩ = some (.int .i8 t214) := (blk_cell BK216.out 0).trans rfl; have hcz120_1 : wc.cell? ⟨gb216, 1, none⟩ = some (.int .i8 t215) := (blk_cell BK216.out 1).trans rfl; have hfz120_0 := blk_frozen BK216.out 0; have hfz120_1 := blk_frozen BK216.out 1) | (go_at_call 51; (with_reducible refine (impl_Room_isFree.calls a1_0 a1_1 a1_2 t214 t215 false _ A103.out).mono ?_); rintro e w121 ⟨rfl, hb⟩; have n0_ := krb HO_14 hb; have n1_ := bkb BK204 hb; have n2_ := bkb BK205 hb; have n3_ := bkb BK206 hb; have n4_ := bkb BK207 hb; have n5_ := bkb BK212 hb; have n6_ := bkb BK216 hb; have n7_ := bst HB hb; clear HO_14; clear BK204; clear BK205; clear BK206; clear BK207; clear BK212; clear BK216; clear HB; have HO_14 := n0_; have BK204 := n1_; have BK205 := n2_; have BK206 := n3_; have BK207 := n4_; have BK212 := n5_; have BK216 := n6_; have HB := n7_; clear n0_ n1_ n2_ n3_ n4_ n5_ n6_ n7_; (try clear hb); (try clear hb2); (try clear hk); (try clear hi); have hnb122 := NB212_204.out; have hnc122 := NB204_212.out; have hnb123 := NB212_205.out; have hnc123 := NB205_212.out; have hnb124 := NB212_206.out; have hnc124 := NB206_212.out; have hnb125 := NB212_207.out; have hnc125 := NB207_212.out; have hcz126_0 : w121.cell? ⟨gb212, 0, none⟩ = some (.int .i8 ((rd_T41 t208 x16_1).f0)) := (blk_cell BK212.out 0).trans rfl; have hcz126_1 : w121.cell? ⟨gb212, 1, none⟩ = some (.int .i8 ((rd_T41 t208 x16_1).f1)) := (blk_cell BK212.out 1).trans rfl; have hfz126_0 := blk_frozen BK212.out 0; have hfz126_1 := blk_frozen BK212.out 1) | ((with_reducible refine gate_callee (f := 29) rfl ?_); refine goesL_ (some 69) rfl rfl Tryd.func29 (by kernel_rfl) rfl #[.pointer (some ⟨gb207, 0, none⟩), .agg #[.int .i8 ((rd_T41 t208 x16_1).f0), .int .i8 ((rd_T41 t208 x16_1).f1)], .int .i64 x20_2] rfl (by (try simp only [List.map_toArray, List.map_cons, List.map_nil]); first | done | rfl | (simp only [List.length_drop, List.length_take]; rfl)) ?_; (with_reducible refine (impl_Crowd_set.calls gb207 x208000_2 ((rd_T41 t208 x16_1).f0) ((rd_T41 t208 x16_1).f1) x20_2 t222 w _ ?side1 ?side2 A113.out).mono ?_); (case side1 => exact ⟨(pk BK207), GE207.out⟩); (case side2 => repeat (first | (with_reducible first | exact HB.out | apply below_alloc | apply pw_below_drewN | apply below_drew1 | refine below_set ?_ GE204.out | refine below_set ?_ GE205.out | refine below_set ?_ GE206.out | refine below_set ?_ GE207.out | refine below_set ?_ GE212.out | refine below_set ?_ GE216.out) | exact HB.out)); rintro e w127 ⟨rfl, hi, hb, hk⟩; refine ⟨_, rfl, ?_⟩; have n0_ := Aside0.mk (Kd.R_mono (Kd.R_keep (Kd.R_types (by (with_reducible repeat (first | apply Kd.R_alloc | apply Kd.R_drewN | apply Kd.R_drew)); exact HO_14.out) (pk BK207) (by decide)) hk (fun _ h => h.2)) (fun _ h => h.1)); have n1_ := Aside0.mk (KeepBut.blk hk (g' := gb204) (o := .cells (mixA (Value.int .u16) [] a0) 28 (0, 0)) (pk BK204) NB204_207.out (by simp)); have n2_ := Aside0.mk (KeepBut.blk hk (g' := gb205) (o := .cells (mixA (Value.int .u16) [.int .i8 a1_0, .int .i8 a1_1] a1_2) 31 (0, 0)) (pk BK205) NB205_207.out (by simp)); have n3_ := Aside0.mk (KeepBut.blk hk (g' := gb206) (o := .cells (mixA (Value.int .u16) [] (LA.zero 40)) 28 (0, 0)) (pk BK206) NB206_207.out (by simp)); have n4_ := Aside0.mk (KeepBut.blk hk (g' := gb212) (o := .cells #[.int .i8 ((rd_T41 t208 x16_1).f0), .int .i8 ((rd_T41 t208 x16_1).f1)] 41 (0, 0)) (pk BK212) NB212_207.out (by simp)); have n5_ := Aside0.mk (KeepBut.blk hk (g' := gb216) (o := .cells #[.int .i8 t214, .int .i8 t215] 41 (0, 0)) (pk BK216) NB216_207.out (by simp)); have n6_ := Aside0.mk (hb); have n7_ := Aside0.mk (hi.1); clear HO_14; clear BK204; clear BK205; clear BK206; clear BK212; clear BK216; clear HB; clear BK207; have HO_14 := n0_; have BK204 := n1_; have BK205 := n2_; have BK206 := n3_; have BK212 := n4_; have BK216 := n5_; have HB := n6_; have BK207 := n7_; clear n0_ n1_ n2_ n3_ n4_ n5_ n6_ n7_; (try clear hb); (try clear hb2); (try clear hk); (try clear hi)))
                 go_roundg kj65
                 case measure => have := HK1.out; have := HK2.out; have := HJ65.out; omega
                 case rel => exact ⟨(wrap64 (x20_2 + 1)), (t222), (by first | rfl | (simp; done) | (simp [*]; done)), H', ⟨by have := HK1.out; have := HK2.out; have := HJ65.out; omega⟩, ⟨by (with_reducible repeat (first | apply Kd.R_alloc | apply Kd.R_drewN | apply Kd.R_drew)); exact Kd.R_mono HO_14.out (fun _ hk => hk.1)⟩, ⟨pk BK204⟩, ⟨pk BK205⟩, ⟨pk BK206⟩, ⟨pk BK207⟩, ⟨pk BK212⟩, ⟨pbs HB⟩⟩
               ·rw [if_neg c102] at H
                have c102b0 : (a2 == 98) = false := beq_eq_false_iff_ne.mpr c102
                have c102b1 : (a2 != 98) = true := bne_iff_ne.mpr c102
                have H' := Aside0.mk H
                clear H
                go_wp2
                go_roundg kj65
                case measure => have := HK1.out; have := HK2.out; have := HJ65.out; omega
                case rel => exact ⟨(wrap64 (x20_2 + 1)), (x208000_2), (by first | rfl | (simp; done) | (simp [*]; done)), H', ⟨by have := HK1.out; have := HK2.out; have := HJ65.out; omega⟩, ⟨by (with_reducible repeat (first | apply Kd.R_alloc | apply Kd.R_drewN | apply Kd.R_drew)); exact Kd.R_mono HO_14.out (fun _ hk => hk.1)⟩, ⟨pk BK204⟩, ⟨pk BK205⟩, ⟨pk BK206⟩, ⟨pk BK207⟩, ⟨pk BK212⟩, ⟨pbs HB⟩⟩
         ·replace c24 := Bool.eq_false_iff.mpr c24
          subst c24
          have H1 : (impl_Crowd_moved.l1 k2 a2 t208 (t208.length : Int) x16_1 (wrap64 (x20_2 + 1)) a0 a1_0 a1_1 a1_2 x208000_2 ((rd_T41 t208 x16_1).f0) ((rd_T41 t208 x16_1).f1)) = some r := by rw [if_neg (show ¬ (false = true) by decide)] at H; exact H
          clear H
          have H := H1
          clear H1
          have H' := Aside0.mk H
          clear H
          go_wp2_with (first | ((with_reducible refine gate_dst (N := 23) rfl ?_); refine wpList_run0 (v := .agg (mixA (Value.int .u16) [] a0)) rfl (load_mix_run (P := Tryd.prog) 28 (.tmp 3) rfl gb204 rfl (show World.rangeAt _ gb204 0 ([] ++ a0.l.map (Value.int .u16)) from mix_range (show (World.heap _)[gb204]? = some (.cells (mixA (Value.int .u16) [] a0) 28 (0, 0)) from by (with_reducible repeat (first | refine blk_drewN ?_ _ | refine blk_drew ?_ | refine blk_alloc ?_ _)); exact BK204.out)) Tryd.underlying28 rfl (by kernel_rfl) rfl) ?_; have hnb129 := NB212_204.out; have hnc129 := NB204_212.out; have hnb130 := NB212_205.out; have hnc130 := NB205_212.out; have hnb131 := NB212_206.out; have hnc131 := NB206_212.out; have hnb132 := NB212_207.out; have hnc132 := NB207_212.out; have hcz133_0 : wr.cell? ⟨gb212, 0, none⟩ = some (.int .i8 ((rd_T41 t208 x16_1).f0)) := (blk_cell BK212.out 0).trans rfl; have hcz133_1 : wr.cell? ⟨gb212, 1, none⟩ = some (.int .i8 ((rd_T41 t208 x16_1).f1)) := (blk_cell BK212.out 1).trans rfl; have hfz133_0 := blk_frozen BK212.out 0; have hfz133_1 := blk_frozen BK212.out 1) | ((with_reducible refine gate_callee (f := 57) rfl ?_); refine goesL_ (some 26) rfl rfl Tryd.func57 (by kernel_rfl) rfl #[.agg (mixA (Value.int .u16) [] a0), .agg #[.int .i8 ((rd_T41 t208 x16_1).f0), .int .i8 ((rd_T41 t208 x16_1).f1)], .int .i64 x20_2] rfl (by (try simp only [List.map_toArray, List.map_cons, List.map_nil]); first | done | rfl | (simp only [List.length_drop, List.length_take]; rfl)) ?_; (with_reducible refine (impl_Crowd_has.calls a0 ((rd_T41 t208 x16_1).f0) ((rd_T41 t208 x16_1).f1) x20_2 false _ A23.out).mono ?_); rintro e w134 ⟨rfl, hb⟩; refine ⟨_, rfl, ?_⟩; have n0_ := krb HO_14 hb; have n1_ := bkb BK204 hb; have n2_ := bkb BK205 hb; have n3_ := bkb BK206 hb; have n4_ := bkb BK207 hb; have n5_ := bkb BK212 hb; have n6_ := bst HB hb; clear HO_14; clear BK204; clear BK205; clear BK206; clear BK207; clear BK212; clear HB; have HO_14 := n0_; have BK204 := n1_; have BK205 := n2_; have BK206 := n3_; have BK207 := n4_; have BK212 := n5_; have HB := n6_; clear n0_ n1_ n2_ n3_ n4_ n5_ n6_; (try clear hb); (try clear hb2); (try clear hk); (try clear hi)))
          go_roundg k2
          case measure => have := HK1.out; have := HK2.out; omega
          case rel => exact ⟨(wrap64 (x20_2 + 1)), (x208000_2), (by first | rfl | (simp; done) | (simp [*]; done)), H', ⟨by have := HK1.out; have := HK2.out; omega⟩, ⟨by (with_reducible repeat (first | apply Kd.R_alloc | apply Kd.R_drewN | apply Kd.R_drew)); exact HO_14.out⟩, ⟨pk BK204⟩, ⟨pk BK205⟩, ⟨pk BK206⟩, ⟨pk BK207⟩, ⟨pk BK212⟩, ⟨pbs HB⟩⟩
        ·rw [if_neg c22] at H
         have c22b0 : decide (x20_2 < 4) = false := decide_eq_false c22
         clear c22
         have H' := Aside0.mk H
         clear H
         go_wp2
         go_roundg k2
         case measure => have := HK1.out; have := HK2.out; omega
         case rel => exact ⟨(wrap64 (x16_1 + 1)), (x208000_2), (by first | rfl | (simp; done) | (simp [*]; done)), H', ⟨by have := HK1.out; have := HK2.out; omega⟩, ⟨by (with_reducible repeat (first | apply Kd.R_alloc | apply Kd.R_drewN | apply Kd.R_drew)); exact Kd.R_mono HO_14.out (fun _ hk => trivial)⟩, ⟨pk BK204⟩, ⟨pk BK205⟩, ⟨pk BK206⟩, ⟨pk BK207⟩, ⟨pbs HB⟩⟩
     ·rw [if_neg c15] at H
      exact absurd H (by simp)
    ·rw [if_neg c14] at H
     exact absurd H (by simp)
   ·rw [if_neg c13] at H
    have c13b0 : decide (x16_1 < (t208.length : Int)) = false := decide_eq_false c13
    clear c13
    obtain rfl := Option.some.inj H
    go_wp2_with (first | ((with_reducible refine gate_dst (N := 72) rfl ?_); refine wpList_run0 (v := .agg (mixA (Value.int .u16) [] x208000_1)) rfl (load_mix_run (P := Tryd.prog) 28 (.tmp 7) rfl gb207 rfl (show World.rangeAt _ gb207 0 ([] ++ x208000_1.l.map (Value.int .u16)) from mix_range (show (World.heap _)[gb207]? = some (.cells (mixA (Value.int .u16) [] x208000_1) 28 (0, 0)) from by (with_reducible repeat (first | refine blk_drewN ?_ _ | refine blk_drew ?_ | refine blk_alloc ?_ _)); exact BK207.out)) Tryd.underlying28 rfl (by kernel_rfl) rfl) ?_) | ((with_reducible refine gate_store (p := 6) rfl ?_); refine wpList_store_lmix rfl 28 _ _ rfl gb206 (e := (Value.int .u16)) (cs' := []) (W' := x208000_1) (cs := []) (W := (LA.zero 40)) (T := 28) rfl rfl (pk BK206) rfl (by kernel_rfl) rfl (fun _ => rfl) rfl ?_; intro w136 hi hk hbl; have n0_ := Aside0.mk (Kd.R_mono (Kd.R_keep (Kd.R_types (by (with_reducible repeat (first | apply Kd.R_alloc | apply Kd.R_drewN | apply Kd.R_drew)); exact HO_14.out) (pk BK206) (by decide)) hk (fun _ h => h.2)) (fun _ h => h.1)); have n1_ := Aside0.mk (KeepBut.blk hk (g' := gb204) (o := .cells (mixA (Value.int .u16) [] a0) 28 (0, 0)) (pk BK204) NB204_206.out (by simp)); have n2_ := Aside0.mk (KeepBut.blk hk (g' := gb205) (o := .cells (mixA (Value.int .u16) [.int .i8 a1_0, .int .i8 a1_1] a1_2) 31 (0, 0)) (pk BK205) NB205_206.out (by simp)); have n3_ := Aside0.mk (KeepBut.blk hk (g' := gb207) (o := .cells (mixA (Value.int .u16) [] x208000_1) 28 (0, 0)) (pk BK207) NB207_206.out (by simp)); have n4_ := Aside0.mk (hbl _ _ (pbs HB) GE206.out); have n5_ := Aside0.mk (hi); clear HO_14; clear BK204; clear BK205; clear BK207; clear HB; clear BK206; have HO_14 := n0_; have BK204 := n1_; have BK205 := n2_; have BK207 := n3_; have HB := n4_; have BK206 := n5_; clear n0_ n1_ n2_ n3_ n4_ n5_; clear hi hk hbl))
    refine bodyPost_ret (results_cell_row rfl _ _ gb206 28 (mixA (Value.int .u16) [] x208000_1) (0, 0) _ rfl (pk BK206) Tryd.underlying28 rfl (by rw [mix_size]; kernel_rfl)) rfl ?_
    exact ⟨by first | rfl | (simp [errW_none, errW_some] <;> rfl) | (simp [*, errW_none, errW_some] <;> rfl), pbs HB⟩
end Go.Proofs.YtdedijjbdkoekaaDoor.PB
end
section
namespace Go.Proofs.YtdedijjbdkoekaaDoor.PB
open Go.RowKit Go.Proofs.YtdedijjbdkoekaaDoorW.PrintWords Go.Proofs.YtdedijjbdkoekaaDoorW.PrintLast Go.Proofs.YtdedijjbdkoekaaDoorW.PrintMore Go.Proofs.YtdedijjbdkoekaaDoor.La
attribute [local go_sem] max2_int min2_int max_two min_two max_three min_three max_four min_four   -- for this text's walks alone
set_option linter.unusedVariables false
set_option linter.unusedSimpArgs false
def impl_Crowd_movedBy.l0 : Nat → ByteArray → Int → Int → LA 40 → Int → Int → LA 10 → Option (LA 40)
 | 0, _, _, _, _, _, _, _ => none
 | k + 1, x2, x9, x10, x224000, x225000, x225001, x225002 => if x10 < x9 then (if 0 ≤ x10 then (if x10 < (x2.size : Int) then ((impl_Crowd_moved.f k x224000 x225000 x225001 x225002 (bt x2 x10)).bind fun t226 => (impl_Crowd_movedBy.l0 k x2 x9 (wrap64 (x10 + 1)) t226 x225000 x225001 x225002)) else (none)) else (none)) else (some x224000)
def impl_Crowd_movedBy.f (k : Nat) (a0 : LA 40) (a1_0 : Int) (a1_1 : Int) (a1_2 : LA 10) (a2 : ByteArray) : Option (LA 40) := impl_Crowd_movedBy.l0 k a2 (a2.size : Int) 0 a0 a1_0 a1_1 a1_2
theorem impl_Crowd_movedBy.mono_l : ∀ k, (∀ y0 y1 y2 y3 y4 y5 y6, LeO (impl_Crowd_movedBy.l0 k y0 y1 y2 y3 y4 y5 y6) (impl_Crowd_movedBy.l0 (k + 1) y0 y1 y2 y3 y4 y5 y6))
 | 0 => fun _ _ _ _ _ _ _ r h => by simp [impl_Crowd_movedBy.l0] at h
 | k + 1 => by
  have ih0 := impl_Crowd_movedBy.mono_l k
  ·intro y0 y1 y2 y3 y4 y5 y6
   unfold impl_Crowd_movedBy.l0
   repeat' first
   | (with_reducible exact ih0 _ _ _ _ _ _ _)
   | (with_reducible exact impl_Crowd_moved.mono _ _ _ _ _ _)
   | (with_reducible exact LeO.refl _)
   | (with_reducible exact LeO.none _)
   | (with_reducible refine LeO.ite ?_ ?_)
   | (with_reducible refine LeO.bind ?_ (fun _ => ?_))
   | exact ih0 _ _ _ _ _ _ _
   | exact impl_Crowd_moved.mono _ _ _ _ _ _
   | exact LeO.none _
   | refine LeO.ite ?_ ?_
   | refine LeO.bind ?_ (fun _ => ?_)
theorem impl_Crowd_movedBy.mono : ∀ a0 a1 a2 a3 a4 k, LeO (impl_Crowd_movedBy.f k a0 a1 a2 a3 a4) (impl_Crowd_movedBy.f (k + 1) a0 a1 a2 a3 a4) := by
 intro a0 a1 a2 a3 a4 k
 have ih0 := impl_Crowd_movedBy.mono_l k
 unfold impl_Crowd_movedBy.f
 repeat' first
   | (with_reducible exact ih0 _ _ _ _ _ _ _)
   | (with_reducible exact impl_Crowd_moved.mono _ _ _ _ _ _)
   | (with_reducible exact LeO.refl _)
   | (with_reducible exact LeO.none _)
   | (with_reducible refine LeO.ite ?_ ?_)
   | (with_reducible refine LeO.bind ?_ (fun _ => ?_))
   | exact ih0 _ _ _ _ _ _ _
   | exact impl_Crowd_moved.mono _ _ _ _ _ _
   | exact LeO.none _
   | refine LeO.ite ?_ ?_
   | refine LeO.bind ?_ (fun _ => ?_)
set_option maxHeartbeats 8000000 in
set_option maxRecDepth 100000 in
theorem impl_Crowd_movedBy.calls (k : Nat) (a0 : LA 40) (a1_0 : Int) (a1_1 : Int) (a1_2 : LA 10) (a2 : ByteArray) (r : LA 40) (w : World) (h : impl_Crowd_movedBy.f k a0 a1_0 a1_1 a1_2 a2 = some r) :
  Calls Tryd.prog 31 #[.agg (mixA (Value.int .u16) [] a0), .agg (mixA (Value.int .u16) [.int .i8 a1_0, .int .i8 a1_1] a1_2), .string a2] w fun e w' => e = .returned (.agg (mixA (Value.int .u16) [] r)) ∧ Below w.heap.size w w' := by
 have hu31 := Tryd.underlying31
 have HB := Aside0.mk (Below.refl w.heap.size w)
 have H : (impl_Crowd_movedBy.l0 k a2 (a2.size : Int) 0 a0 a1_0 a1_1 a1_2) = some r := h
 clear h
 have H' := Aside0.mk H
 clear H
 go_enter Tryd.func31, Tryd.ntmps31
 go_wp2_with (first | ((with_reducible refine gate_dst (N := 3) rfl ?_); refine box_event ?hg (N := 3) ?hd (cs := (mixA (Value.int .u16) [] a0)) (t := 28) ?hr ?_; (case hd => rfl); (case hg => rfl); (case hr => first | (go_simp; done) | (go_simp; rfl)); intro gb223 hg w4 hbox hb; have n0_ := bst HB hb; have n1_ := Aside0.mk (hbox); have n2_ := gwl HB hg; have n3_ := gwl HB hg; clear HB; have HB := n0_; have BK223 := n1_; have GW223 := n2_; have GE223 := n3_; clear n0_ n1_ n2_ n3_; clear hb hbox hg) | ((with_reducible refine gate_dst (N := 4) rfl ?_); refine box_event ?hg (N := 4) ?hd (cs := (mixA (Value.int .u16) [.int .i8 a1_0, .int .i8 a1_1] a1_2)) (t := 31) ?hr ?_; (case hd => rfl); (case hg => rfl); (case hr => first | (go_simp; done) | (go_simp; rfl)); intro gb224 hg w5 hbox hb; have n0_ := bkb BK223 hb; have n1_ := bst HB hb; have n2_ := Aside0.mk (hbox); have n3_ := gwl HB hg; have n4_ := gwl HB hg; have n5_ := nbl BK223 hg; have n6_ := nbg BK223 hg; clear BK223; clear HB; have BK223 := n0_; have HB := n1_; have BK224 := n2_; have GW224 := n3_; have GE224 := n4_; have NB223_224 := n5_; have NB224_223 := n6_; clear n0_ n1_ n2_ n3_ n4_ n5_ n6_; clear hb hbox hg) | ((with_reducible refine gate_dst (N := 6) rfl ?_); refine box_event ?hg (N := 6) ?hd (cs := (mixA (Value.int .u16) [] (LA.zero 40))) (t := 28) ?hr ?_; (case hd => rfl); (case hg => rfl); (case hr => first | (go_simp; done) | (go_simp; rfl)); intro gb225 hg w6 hbox hb; have n0_ := bkb BK223 hb; have n1_ := bkb BK224 hb; have n2_ := bst HB hb; have n3_ := Aside0.mk (hbox); have n4_ := gwl HB hg; have n5_ := gwl HB hg; have n6_ := nbl BK223 hg; have n7_ := nbg BK223 hg; have n8_ := nbl BK224 hg; have n9_ := nbg BK224 hg; clear BK223; clear BK224; clear HB; have BK223 := n0_; have BK224 := n1_; have HB := n2_; have BK225 := n3_; have GW225 := n4_; have GE225 := n5_; have NB223_225 := n6_; have NB225_223 := n7_; have NB224_225 := n8_; have NB225_224 := n9_; clear n0_ n1_ n2_ n3_ n4_ n5_ n6_ n7_ n8_ n9_; clear hb hbox hg))
 go_loopg [10] k (fun kq v10 w' => ∃ (x10_1 : Int) (x224000_1 : LA 40), v10 = .int .i64 x10_1 ∧ Aside0 (impl_Crowd_movedBy.l0 kq a2 (a2.size : Int) x10_1 x224000_1 a1_0 a1_1 a1_2 = some r) ∧ Aside0 (kq ≤ k) ∧ Aside0 (w'.heap[gb223]? = some (.cells (mixA (Value.int .u16) [] x224000_1) 28 (0, 0))) ∧ Aside0 (w'.heap[gb224]? = some (.cells (mixA (Value.int .u16) [.int .i8 a1_0, .int .i8 a1_1] a1_2) 31 (0, 0))) ∧ Aside0 (w'.heap[gb225]? = some (.cells (mixA (Value.int .u16) [] (LA.zero 40)) 28 (0, 0))) ∧ Aside0 (Below w.heap.size w w'))
 case atStart => exact ⟨(0), (a0), (by first | rfl | (simp; done) | (simp [*]; done)), H', ⟨Nat.le_refl _⟩, ⟨pk BK223⟩, ⟨pk BK224⟩, ⟨pk BK225⟩, ⟨pbs HB⟩⟩
 case round =>
  clear H'
  try clear p2
  try clear c3
  obtain ⟨x10_1, x224000_1, rfl, HA, HK1, BK223, BK224, BK225, HB⟩ := hrel
  cases gk with
  | zero => exact absurd HA.out (by simp [impl_Crowd_movedBy.l0])
  | succ k1 =>
   have H := HA.out
   clear HA
   simp only [impl_Crowd_movedBy.l0] at H
   by_cases c7 : x10_1 < (a2.size : Int)
   ·rw [if_pos c7] at H
    have c7b0 : decide (x10_1 < (a2.size : Int)) = true := decide_eq_true c7
    clear c7
    by_cases c8 : 0 ≤ x10_1
    ·rw [if_pos c8] at H
     have c8b0 : decide (0 ≤ x10_1) = true := decide_eq_true c8
     clear c8
     by_cases c9 : x10_1 < (a2.size : Int)
     ·rw [if_pos c9] at H
      have c9b0 : decide (x10_1 < (a2.size : Int)) = true := decide_eq_true c9
      clear c9
      replace H := Option.bind_eq_some_iff.mp H
      obtain ⟨t226, A110, H⟩ := H
      replace H : (impl_Crowd_movedBy.l0 k1 a2 (a2.size : Int) (wrap64 (x10_1 + 1)) t226 a1_0 a1_1 a1_2) = some r := H
      have A11 := Aside0.mk A110
      clear A110
      have H' := Aside0.mk H
      clear H
      try go_wp2
      have n0_ := Aside0.mk (blk_drew BK223.out)
      have n1_ := Aside0.mk (blk_drew BK224.out)
      have n2_ := Aside0.mk (blk_drew BK225.out)
      have n3_ := Aside0.mk (below_drew1 HB.out)
      clear BK223
      clear BK224
      clear BK225
      clear HB
      have BK223 := n0_
      have BK224 := n1_
      have BK225 := n2_
      have HB := n3_
      clear n0_ n1_ n2_ n3_
      have p10 : 0 ≤ (x10_1 : Int) := of_decide_eq_true (by first | (with_reducible assumption) | assumption)
      have q10 : x10_1 < (a2.size : Int) := of_decide_eq_true (by first | (with_reducible assumption) | assumption)
      have hx10 := bt_at a2 x10_1
      replace p10 := eq_true p10
      replace q10 := eq_true q10
      refine start_ (n := 7) (S := fun w' => World.rangeAt w' gb223 0 ([] ++ x224000_1.l.map (Value.int .u16)) ∧ World.rangeAt w' gb224 0 ([.int .i8 a1_0, .int .i8 a1_1] ++ a1_2.l.map (Value.int .u16))) (ds := [6]) #[false, false, false, false, false, false, false] (by kernel_rfl) rfl rfl ⟨mix_range BK223.out, mix_range BK224.out⟩ (fun hHeld => ?_)
      generalize wr.drew = w12 at BK223 BK224 BK225 HB hHeld ⊢
      refine pure_ (i := 2) (N := some 15) (v := ?_) (a' := ?_) #[false, false, true, false, false, false, false] rfl rfl (by kernel_rfl) (fun _ _ _ h => h) (Or.inl ⟨by rfl, ?_⟩) ?_ ?_
      rotate_left
      ·intro w'
       go_simp
       with_reducible rfl
      rotate_left
      ·simp only [Act.put, List.setIfInBounds_toArray, List.set_cons_zero, List.set_cons_succ, i64_w, i32_w]
       rfl
      refine pure_ (i := 3) (N := some 16) (v := ?_) (a' := ?_) #[false, false, true, true, false, false, false] rfl rfl (by kernel_rfl) (fun _ _ _ h => h) (Or.inl ⟨by rfl, ?_⟩) ?_ ?_
      rotate_left
      ·intro w'
       go_simp
       with_reducible rfl
      rotate_left
      ·simp only [Act.put, List.setIfInBounds_toArray, List.set_cons_zero, List.set_cons_succ, i64_w, i32_w]
       rfl
      refine take_ (i := 0) (N := some 13) (v := ?_) (a' := ?_) #[true, false, true, true, false, false, false] rfl rfl (by kernel_rfl) (fun _ _ _ h => h) (Or.inl ⟨by rfl, ?_⟩) hHeld ?_ ?_
      rotate_left
      ·rintro w' ⟨s0, s1⟩
       refine load_mix_run (P := Tryd.prog) 28 (.tmp 3) ?_ gb223 ?_ s0 Tryd.underlying28 rfl (by kernel_rfl) rfl
       all_goals rfl
      rotate_left
      ·simp only [Act.put, List.setIfInBounds_toArray, List.set_cons_zero, List.set_cons_succ, i64_w, i32_w]
       rfl
      refine take_ (i := 1) (N := some 14) (v := ?_) (a' := ?_) #[true, true, true, true, false, false, false] rfl rfl (by kernel_rfl) (fun _ _ _ h => h) (Or.inl ⟨by rfl, ?_⟩) hHeld ?_ ?_
      rotate_left
      ·rintro w' ⟨s0, s1⟩
       refine load_mix_run (P := Tryd.prog) 31 (.tmp 4) ?_ gb224 ?_ s1 Tryd.underlying31 rfl (by kernel_rfl) rfl
       all_goals rfl
      rotate_left
      ·simp only [Act.put, List.setIfInBounds_toArray, List.set_cons_zero, List.set_cons_succ, i64_w, i32_w]
       rfl
      refine take_ (i := 4) (N := some 17) (v := ?_) (a' := ?_) #[true, true, true, true, true, false, false] rfl rfl (by kernel_rfl) (fun _ _ _ h => h) (Or.inl ⟨by rfl, ?_⟩) hHeld ?_ ?_
      rotate_left
      ·rintro w' ⟨s0, s1⟩
       go_simp
       with_reducible rfl
      rotate_left
      ·simp only [Act.put, List.setIfInBounds_toArray, List.set_cons_zero, List.set_cons_succ, i64_w, i32_w]
       rfl
      refine one_ (i := 5) (N := some 18) #[true, true, true, true, true, true, false] rfl rfl (by kernel_rfl) (by decide) (fun K hK => ?_)
      refine goes_ Tryd.func53 (by kernel_rfl) rfl #[.agg (mixA (Value.int .u16) [] x224000_1), .agg (mixA (Value.int .u16) [.int .i8 a1_0, .int .i8 a1_1] a1_2), .int .u8 (bt a2 x10_1)] (by rfl) rfl rfl (by (try simp only [List.map_toArray, List.map_cons, List.map_nil]); first | done | rfl | (simp only [List.length_drop, List.length_take]; rfl)) ?_
      with_reducible refine (impl_Crowd_moved.calls k1 x224000_1 a1_0 a1_1 a1_2 (bt a2 x10_1) t226 _ A11.out).mono ?_
      rintro e w13 ⟨rfl, hb⟩
      refine ⟨_, rfl, ?_⟩
      have n0_ := bkb BK223 hb
      have n1_ := bkb BK224 hb
      have n2_ := bkb BK225 hb
      have n3_ := bst HB hb
      clear BK223
      clear BK224
      clear BK225
      clear HB
      have BK223 := n0_
      have BK224 := n1_
      have BK225 := n2_
      have HB := n3_
      clear n0_ n1_ n2_ n3_
      (try clear hb)
      (try clear hb2)
      (try clear hk)
      (try clear hi)
      refine hK.out _ _ ⟨mix_range BK223.out, mix_range BK224.out⟩ (fun hHeld => ?_)
      clear hK K
      refine norm_ (a' := ?_) ?_ ?_
      rotate_left
      ·show Act.put _ (some 18) _ = _
       simp only [Act.put, List.setIfInBounds_toArray, List.set_cons_zero, List.set_cons_succ, i64_w, i32_w]
       rfl
      refine last_ (i := 6) (N := none) #[true, true, true, true, true, true, true] rfl rfl (by kernel_rfl) (by decide) (fun K hK => ?_)
      refine step_store_lmix (by rfl) rfl 28 _ _ rfl gb223 (e := (Value.int .u16)) (cs' := []) (W' := t226) (cs := []) (W := x224000_1) (T := 28) (by (try simp only [List.map_toArray, List.map_cons, List.map_nil]); first | done | rfl | (simp only [List.length_drop, List.length_take]; rfl)) (by (try simp only [List.map_toArray, List.map_cons, List.map_nil]); first | done | rfl | (simp only [List.length_drop, List.length_take]; rfl)) (pk BK223) rfl (by kernel_rfl) rfl (fun _ => rfl) rfl ?_
      intro w14 hi hk hbl
      have n0_ := Aside0.mk (KeepBut.blk hk (g' := gb224) (o := .cells (mixA (Value.int .u16) [.int .i8 a1_0, .int .i8 a1_1] a1_2) 31 (0, 0)) (pk BK224) NB224_223.out (by simp))
      have n1_ := Aside0.mk (KeepBut.blk hk (g' := gb225) (o := .cells (mixA (Value.int .u16) [] (LA.zero 40)) 28 (0, 0)) (pk BK225) NB225_223.out (by simp))
      have n2_ := Aside0.mk (hbl _ _ (pbs HB) GE223.out)
      have n3_ := Aside0.mk (hi)
      clear BK224
      clear BK225
      clear HB
      clear BK223
      have BK224 := n0_
      have BK225 := n1_
      have HB := n2_
      have BK223 := n3_
      clear n0_ n1_ n2_ n3_
      clear hi hk hbl
      refine hK.out _ _ ?_
      clear hK K
      refine done_ (by kernel_rfl) ?_
      try go_wp2
      go_roundg k1
      case measure => have := HK1.out; omega
      case rel => exact ⟨(wrap64 (x10_1 + 1)), (t226), (by first | rfl | (simp; done) | (simp [*]; done)), H', ⟨by have := HK1.out; omega⟩, ⟨pk BK223⟩, ⟨pk BK224⟩, ⟨pk BK225⟩, ⟨pbs HB⟩⟩
     ·rw [if_neg c9] at H
      exact absurd H (by simp)
    ·rw [if_neg c8] at H
     exact absurd H (by simp)
   ·rw [if_neg c7] at H
    have c7b0 : decide (x10_1 < (a2.size : Int)) = false := decide_eq_false c7
    clear c7
    obtain rfl := Option.some.inj H
    go_wp2_with (first | ((with_reducible refine gate_dst (N := 20) rfl ?_); refine wpList_run0 (v := .agg (mixA (Value.int .u16) [] x224000_1)) rfl (load_mix_run (P := Tryd.prog) 28 (.tmp 3) rfl gb223 rfl (show World.rangeAt _ gb223 0 ([] ++ x224000_1.l.map (Value.int .u16)) from mix_range (show (World.heap _)[gb223]? = some (.cells (mixA (Value.int .u16) [] x224000_1) 28 (0, 0)) from by (with_reducible repeat (first | refine blk_drewN ?_ _ | refine blk_drew ?_ | refine blk_alloc ?_ _)); exact BK223.out)) Tryd.underlying28 rfl (by kernel_rfl) rfl) ?_) | ((with_reducible refine gate_store (p := 6) rfl ?_); refine wpList_store_lmix rfl 28 _ _ rfl gb225 (e := (Value.int .u16)) (cs' := []) (W' := x224000_1) (cs := []) (W := (LA.zero 40)) (T := 28) rfl rfl (pk BK225) rfl (by kernel_rfl) rfl (fun _ => rfl) rfl ?_; intro w18 hi hk hbl; have n0_ := Aside0.mk (KeepBut.blk hk (g' := gb223) (o := .cells (mixA (Value.int .u16) [] x224000_1) 28 (0, 0)) (pk BK223) NB223_225.out (by simp)); have n1_ := Aside0.mk (KeepBut.blk hk (g' := gb224) (o := .cells (mixA (Value.int .u16) [.int .i8 a1_0, .int .i8 a1_1] a1_2) 31 (0, 0)) (pk BK224) NB224_225.out (by simp)); have n2_ := Aside0.mk (hbl _ _ (pbs HB) GE225.out); have n3_ := Aside0.mk (hi); clear BK223; clear BK224; clear HB; clear BK225; have BK223 := n0_; have BK224 := n1_; have HB := n2_; have BK225 := n3_; clear n0_ n1_ n2_ n3_; clear hi hk hbl))
    refine bodyPost_ret (results_cell_row rfl _ _ gb225 28 (mixA (Value.int .u16) [] x224000_1) (0, 0) _ rfl (pk BK225) Tryd.underlying28 rfl (by rw [mix_size]; kernel_rfl)) rfl ?_
    exact ⟨by first | rfl | (simp [errW_none, errW_some] <;> rfl) | (simp [*, errW_none, errW_some] <;> rfl), pbs HB⟩
mutual
def impl_ValidRoom.j0 : Nat → Bool → Int → Int → LA 10 → Option (Bool)
 | 0, _, _, _, _ => none
 | k + 1, x16, x228000, x228001, x228002 => if x16 = true then (some false) else (impl_ValidRoom.l0 k x228002 0 x228000 x228001 x228002)
def impl_ValidRoom.l0 : Nat → LA 10 → Int → Int → Int → LA 10 → Option (Bool)
 | 0, _, _, _, _, _ => none
 | k + 1, x18, x19, x228000, x228001, x228002 => if x19 < 10 then (if 0 ≤ x19 then (if 0 ≤ x228000 then (if (shr .u16 (rd x18.l x19) x228000) = 0 then (if x19 ≥ (wrap64 (x228001)) then (if (rd x18.l x19) = 0 then (impl_ValidRoom.l0 k x18 (wrap64 (x19 + 1)) x228000 x228001 x228002) else (some false)) else (impl_ValidRoom.l0 k x18 (wrap64 (x19 + 1)) x228000 x228001 x228002)) else (some false)) else (none)) else (none)) else (some true)
end
def impl_ValidRoom.f (k : Nat) (a0_0 : Int) (a0_1 : Int) (a0_2 : LA 10) : Option (Bool) := (impl_within.f (wrap64 (a0_0)) 1 10).bind fun t228 => (if t228 = true then ((impl_within.f (wrap64 (a0_1)) 1 10).bind fun t229 => (impl_ValidRoom.j0 k (!t229) a0_0 a0_1 a0_2)) else (impl_ValidRoom.j0 k true a0_0 a0_1 a0_2))
theorem impl_ValidRoom.mono_l : ∀ k, (∀ y0 y1 y2 y3, LeO (impl_ValidRoom.j0 k y0 y1 y2 y3) (impl_ValidRoom.j0 (k + 1) y0 y1 y2 y3)) ∧ (∀ y0 y1 y2 y3 y4, LeO (impl_ValidRoom.l0 k y0 y1 y2 y3 y4) (impl_ValidRoom.l0 (k + 1) y0 y1 y2 y3 y4))
 | 0 => ⟨fun _ _ _ _ r h => by simp [impl_ValidRoom.j0] at h, fun _ _ _ _ _ r h => by simp [impl_ValidRoom.l0] at h⟩
 | k + 1 => by
  obtain ⟨ih0, ih1⟩ := impl_ValidRoom.mono_l k
  refine ⟨?_, ?_⟩
  ·intro y0 y1 y2 y3
   unfold impl_ValidRoom.j0
   repeat' first
   | (with_reducible exact ih0 _ _ _ _)
   | (with_reducible exact ih1 _ _ _ _ _)
   | (with_reducible exact LeO.refl _)
   | (with_reducible exact LeO.none _)
   | (with_reducible refine LeO.ite ?_ ?_)
   | (with_reducible refine LeO.bind ?_ (fun _ => ?_))
   | exact ih0 _ _ _ _
   | exact ih1 _ _ _ _ _
   | exact LeO.none _
   | refine LeO.ite ?_ ?_
   | refine LeO.bind ?_ (fun _ => ?_)
  ·intro y0 y1 y2 y3 y4
   unfold impl_ValidRoom.l0
   repeat' first
   | (with_reducible exact ih0 _ _ _ _)
   | (with_reducible exact ih1 _ _ _ _ _)
   | (with_reducible exact LeO.refl _)
   | (with_reducible exact LeO.none _)
   | (with_reducible refine LeO.ite ?_ ?_)
   | (with_reducible refine LeO.bind ?_ (fun _ => ?_))
   | exact ih0 _ _ _ _
   | exact ih1 _ _ _ _ _
   | exact LeO.none _
   | refine LeO.ite ?_ ?_
   | refine LeO.bind ?_ (fun _ => ?_)
theorem impl_ValidRoom.mono : ∀ a0 a1 a2 k, LeO (impl_ValidRoom.f k a0 a1 a2) (impl_ValidRoom.f (k + 1) a0 a1 a2) := by
 intro a0 a1 a2 k
 obtain ⟨ih0, ih1⟩ := impl_ValidRoom.mono_l k
 unfold impl_ValidRoom.f
 repeat' first
   | (with_reducible exact ih0 _ _ _ _)
   | (with_reducible exact ih1 _ _ _ _ _)
   | (with_reducible exact LeO.refl _)
   | (with_reducible exact LeO.none _)
   | (with_reducible refine LeO.ite ?_ ?_)
   | (with_reducible refine LeO.bind ?_ (fun _ => ?_))
   | exact ih0 _ _ _ _
   | exact ih1 _ _ _ _ _
   | exact LeO.none _
   | refine LeO.ite ?_ ?_
   | refine LeO.bind ?_ (fun _ => ?_)
set_option maxHeartbeats 8000000 in
set_option maxRecDepth 100000 in
theorem impl_ValidRoom.calls (k : Nat) (a0_0 : Int) (a0_1 : Int) (a0_2 : LA 10) (r : Bool) (w : World) (h : impl_ValidRoom.f k a0_0 a0_1 a0_2 = some r) :
  Calls Tryd.prog 26 #[.agg (mixA (Value.int .u16) [.int .i8 a0_0, .int .i8 a0_1] a0_2)] w fun e w' => e = .returned (.bool r) ∧ Below w.heap.size w w' := by
 have hu31 := Tryd.underlying31
 have HB := Aside0.mk (Below.refl w.heap.size w)
 have H : ((impl_within.f (wrap64 (a0_0)) 1 10).bind fun t228 => (if t228 = true then ((impl_within.f (wrap64 (a0_1)) 1 10).bind fun t229 => (impl_ValidRoom.j0 k (!t229) a0_0 a0_1 a0_2)) else (impl_ValidRoom.j0 k true a0_0 a0_1 a0_2))) = some r := h
 clear h
 have HC2 := Aside0.mk H
 clear H
 go_enter Tryd.func26, Tryd.ntmps26
 go_upto_region 1 with (first | ((with_reducible refine gate_dst (N := 1) rfl ?_); refine box_event ?hg (N := 1) ?hd (cs := (mixA (Value.int .u16) [.int .i8 a0_0, .int .i8 a0_1] a0_2)) (t := 31) ?hr ?_; (case hd => rfl); (case hg => rfl); (case hr => first | (go_simp; done) | (go_simp; rfl)); intro gb227 hg w3 hbox hb; have n0_ := bst HB hb; have n1_ := Aside0.mk (hbox); have n2_ := gwl HB hg; have n3_ := gwl HB hg; clear HB; have HB := n0_; have BK227 := n1_; have GW227 := n2_; have GE227 := n3_; clear n0_ n1_ n2_ n3_; clear hb hbox hg))
 (try simp only [Act.put, List.setIfInBounds_toArray, List.set_cons_zero, List.set_cons_succ])
 go_cut [16] (fun v16 wc => ∃ (kq : Nat) (x16_1 : Bool), v16 = .bool x16_1 ∧ Aside0 (impl_ValidRoom.j0 kq x16_1 a0_0 a0_1 a0_2 = some r) ∧ Aside0 (kq ≤ k) ∧ Aside0 (wc.heap[gb227]? = some (.cells (mixA (Value.int .u16) [.int .i8 a0_0, .int .i8 a0_1] a0_2) 31 (0, 0))) ∧ Aside0 (Below w.heap.size w wc))
 case first =>
  have H := HC2.out
  clear HC2
  replace H := Option.bind_eq_some_iff.mp H
  obtain ⟨t228, A40, H⟩ := H
  replace H : (if t228 = true then ((impl_within.f (wrap64 (a0_1)) 1 10).bind fun t229 => (impl_ValidRoom.j0 k (!t229) a0_0 a0_1 a0_2)) else (impl_ValidRoom.j0 k true a0_0 a0_1 a0_2)) = some r := H
  have A4 := Aside0.mk A40
  clear A40
  by_cases c5 : t228 = true
  ·subst c5
   have H1 : ((impl_within.f (wrap64 (a0_1)) 1 10).bind fun t229 => (impl_ValidRoom.j0 k (!t229) a0_0 a0_1 a0_2)) = some r := by rw [if_pos rfl] at H; exact H
   clear H
   have H := H1
   clear H1
   replace H := Option.bind_eq_some_iff.mp H
   obtain ⟨t229, A60, H⟩ := H
   replace H : (impl_ValidRoom.j0 k (!t229) a0_0 a0_1 a0_2) = some r := H
   have A6 := Aside0.mk A60
   clear A60
   have H' := Aside0.mk H
   clear H
   have hcz7_0 : w3.cell? ⟨gb227, 0, none⟩ = some (.int .i8 a0_0) := mix_cell0 BK227.out 0
   have hcz7_1 : w3.cell? ⟨gb227, 1, none⟩ = some (.int .i8 a0_1) := mix_cell0 BK227.out 1
   have hfz7_0 := blk_frozen BK227.out 0
   have hfz7_1 := blk_frozen BK227.out 1
   go_wp2_with (first | ((with_reducible refine gate_callee (f := 47) rfl ?_); refine goesL_ (some 8) rfl rfl Tryd.func47 (by kernel_rfl) rfl #[.int .i64 (wrap64 (a0_0)), .int .i64 1, .int .i64 10] rfl (by (try simp only [List.map_toArray, List.map_cons, List.map_nil]); first | done | rfl | (simp only [List.length_drop, List.length_take]; rfl)) ?_; (with_reducible refine (impl_within.calls (wrap64 (a0_0)) 1 10 true _ A4.out).mono ?_); rintro e w' ⟨rfl, ⟨nd, rfl⟩⟩; refine ⟨_, rfl, ?_⟩) | (go_at_call 47; (with_reducible refine (impl_within.calls (wrap64 (a0_1)) 1 10 t229 _ A6.out).mono ?_); rintro e w' ⟨rfl, ⟨nd, rfl⟩⟩))
   go_meet
   case rel => exact ⟨_, (!t229), (by first | rfl | (simp; done) | (simp [*]; done)), H', ⟨by first | omega | exact Nat.le_refl _⟩, ⟨pk BK227⟩, ⟨pbs HB⟩⟩
  ·replace c5 := Bool.eq_false_iff.mpr c5
   subst c5
   have H1 : (impl_ValidRoom.j0 k true a0_0 a0_1 a0_2) = some r := by rw [if_neg (show ¬ (false = true) by decide)] at H; exact H
   clear H
   have H := H1
   clear H1
   have H' := Aside0.mk H
   clear H
   have hcz8_0 : w3.cell? ⟨gb227, 0, none⟩ = some (.int .i8 a0_0) := mix_cell0 BK227.out 0
   have hcz8_1 : w3.cell? ⟨gb227, 1, none⟩ = some (.int .i8 a0_1) := mix_cell0 BK227.out 1
   have hfz8_0 := blk_frozen BK227.out 0
   have hfz8_1 := blk_frozen BK227.out 1
   go_wp2_with (first | ((with_reducible refine gate_callee (f := 47) rfl ?_); refine goesL_ (some 8) rfl rfl Tryd.func47 (by kernel_rfl) rfl #[.int .i64 (wrap64 (a0_0)), .int .i64 1, .int .i64 10] rfl (by (try simp only [List.map_toArray, List.map_cons, List.map_nil]); first | done | rfl | (simp only [List.length_drop, List.length_take]; rfl)) ?_; (with_reducible refine (impl_within.calls (wrap64 (a0_0)) 1 10 false _ A4.out).mono ?_); rintro e w' ⟨rfl, ⟨nd, rfl⟩⟩; refine ⟨_, rfl, ?_⟩))
   go_meet
   case rel => exact ⟨_, (true), (by first | rfl | (simp; done) | (simp [*]; done)), H', ⟨by first | omega | exact Nat.le_refl _⟩, ⟨pk BK227⟩, ⟨pbs HB⟩⟩
 case rest =>
  clear HC2
  try clear c2
  try clear p2
  try clear c4
  try clear c5
  try clear p6
  try clear hcz7_0
  try clear hcz7_1
  try clear hcz8_0
  try clear hcz8_1
  try clear hfz7_0
  try clear hfz7_1
  try clear hfz8_0
  try clear hfz8_1
  obtain ⟨kq, x16_1, rfl, HA, HJ1, BK227, HB⟩ := hcut
  cases kq with
  | zero => exact absurd HA.out (by simp [impl_ValidRoom.j0])
  | succ kj1 =>
   have H := HA.out
   clear HA
   simp only [impl_ValidRoom.j0] at H
   by_cases c9 : x16_1 = true
   ·subst c9
    have H1 : (some false) = some r := by rw [if_pos rfl] at H; exact H
    clear H
    have H := H1
    clear H1
    obtain rfl := Option.some.inj H
    go_wp2
    go_ret
    exact ⟨by first | rfl | (simp [errW_none, errW_some] <;> rfl) | (simp [*, errW_none, errW_some] <;> rfl), pbs HB⟩
   ·replace c9 := Bool.eq_false_iff.mpr c9
    subst c9
    have H1 : (impl_ValidRoom.l0 kj1 a0_2 0 a0_0 a0_1 a0_2) = some r := by rw [if_neg (show ¬ (false = true) by decide)] at H; exact H
    clear H
    have H := H1
    clear H1
    have H' := Aside0.mk H
    clear H
    go_wp2_with (first | ((with_reducible refine gate_dst (N := 18) rfl ?_); refine wpList_run0 (v := .agg (mixA (Value.int .u16) [] a0_2)) rfl (load_arr_run (P := Tryd.prog) 24 (.tmp 17) rfl gb227 2 rfl (show World.rangeAt _ gb227 2 (a0_2.l.map (Value.int .u16)) from mix_range_arr (show (World.heap _)[gb227]? = some (.cells (mixA (Value.int .u16) [.int .i8 a0_0, .int .i8 a0_1] a0_2) 31 (0, 0)) from by (with_reducible repeat (first | refine blk_drewN ?_ _ | refine blk_drew ?_ | refine blk_alloc ?_ _)); exact BK227.out) 2 rfl) Tryd.underlying24 rfl (by kernel_rfl)) ?_))
    go_loopg [19] kj1 (fun kq v19 w' => ∃ (x19_2 : Int), v19 = .int .i64 x19_2 ∧ Aside0 (impl_ValidRoom.l0 kq a0_2 x19_2 a0_0 a0_1 a0_2 = some r) ∧ Aside0 (kq ≤ kj1) ∧ Aside0 (w'.heap[gb227]? = some (.cells (mixA (Value.int .u16) [.int .i8 a0_0, .int .i8 a0_1] a0_2) 31 (0, 0))) ∧ Aside0 (Below w.heap.size w w'))
    case atStart => exact ⟨(0), (by first | rfl | (simp; done) | (simp [*]; done)), H', ⟨Nat.le_refl _⟩, ⟨pk BK227⟩, ⟨pbs HB⟩⟩
    case round =>
     clear H'
     try clear c2
     try clear p2
     try clear c4
     try clear c5
     try clear p6
     try clear c9
     try clear hcz7_0
     try clear hcz7_1
     try clear hcz8_0
     try clear hcz8_1
     try clear hfz7_0
     try clear hfz7_1
     try clear hfz8_0
     try clear hfz8_1
     try clear p2
     try clear p6
     obtain ⟨x19_2, rfl, HA, HK2, BK227, HB⟩ := hrel
     cases gk with
     | zero => exact absurd HA.out (by simp [impl_ValidRoom.l0])
     | succ k2 =>
      have H := HA.out
      clear HA
      simp only [impl_ValidRoom.l0] at H
      by_cases c11 : x19_2 < 10
      ·rw [if_pos c11] at H
       have c11b0 : decide (x19_2 < 10) = true := decide_eq_true c11
       clear c11
       by_cases c12 : 0 ≤ x19_2
       ·rw [if_pos c12] at H
        have c12b0 : decide (0 ≤ x19_2) = true := decide_eq_true c12
        clear c12
        by_cases c13 : 0 ≤ a0_0
        ·rw [if_pos c13] at H
         have c13b0 := eq_true c13
         have c13b1 : decide (0 ≤ a0_0) = true := decide_eq_true c13
         clear c13
         obtain ⟨ji14, hji14⟩ : ∃ j_ : Int, (shr .u16 (rd a0_2.l x19_2) a0_0) = j_ := ⟨_, rfl⟩
         replace H : (if (ji14) = 0 then (if x19_2 ≥ (wrap64 (a0_1)) then (if (rd a0_2.l x19_2) = 0 then (impl_ValidRoom.l0 k2 a0_2 (wrap64 (x19_2 + 1)) a0_0 a0_1 a0_2) else (some false)) else (impl_ValidRoom.l0 k2 a0_2 (wrap64 (x19_2 + 1)) a0_0 a0_1 a0_2)) else (some false)) = some r := by first | (rw [hji14] at H; exact H) | (simp only [hji14] at H ⊢; exact H)
         have hji14_ : ((rd a0_2.l x19_2) / 2 ^ min a0_0.toNat 16) = ji14 := hji14
         have hji14z : a0_0 ≤ 16 → ((rd a0_2.l x19_2) / 2 ^ a0_0.toNat) = ji14 := shr_small hji14
         by_cases c15 : (ji14) = 0
         ·rw [if_pos c15] at H
          have c15b0 : ((ji14) == 0) = true := beq_iff_eq.mpr c15
          have c15b1 : ((ji14) != 0) = false := bne_eq_false_iff_eq.mpr c15
          clear c15
          by_cases c16 : x19_2 ≥ (wrap64 (a0_1))
          ·rw [if_pos c16] at H
           have c16b0 : decide ((wrap64 (a0_1)) ≤ x19_2) = true := decide_eq_true c16
           clear c16
           by_cases c17 : (rd a0_2.l x19_2) = 0
           ·rw [if_pos c17] at H
            have c17b0 : ((rd a0_2.l x19_2) == 0) = true := beq_iff_eq.mpr c17
            have c17b1 : ((rd a0_2.l x19_2) != 0) = false := bne_eq_false_iff_eq.mpr c17
            clear c17
            have H' := Aside0.mk H
            clear H
            have hixd18 : ∀ W_ : World, (Instr.index 24 (.agg (mixA (Value.int .u16) [] a0_2)) (.int .i64 x19_2)).run Tryd.prog W_ = .ok (.int .u16 (rd a0_2.l x19_2)) W_ := fun W_ => idx_la (e := (Value.int .u16)) Tryd.underlying24 (fun _ => by kernel_rfl) (fun _ => by kernel_rfl) x19_2 (by first | omega | exact of_decide_eq_true (by first | (with_reducible assumption) | assumption)) (by first | omega | exact of_decide_eq_true (by first | (with_reducible assumption) | assumption)) W_
            have hcz19_0 : wr.cell? ⟨gb227, 0, none⟩ = some (.int .i8 a0_0) := mix_cell0 BK227.out 0
            have hcz19_1 : wr.cell? ⟨gb227, 1, none⟩ = some (.int .i8 a0_1) := mix_cell0 BK227.out 1
            have hfz19_0 := blk_frozen BK227.out 0
            have hfz19_1 := blk_frozen BK227.out 1
            go_wp2
            go_roundg k2
            case measure => have := HJ1.out; have := HK2.out; omega
            case rel => exact ⟨(wrap64 (x19_2 + 1)), (by first | rfl | (simp; done) | (simp [*]; done)), H', ⟨by have := HJ1.out; have := HK2.out; omega⟩, ⟨pk BK227⟩, ⟨pbs HB⟩⟩
           ·rw [if_neg c17] at H
            have c17b0 : ((rd a0_2.l x19_2) == 0) = false := beq_eq_false_iff_ne.mpr c17
            have c17b1 : ((rd a0_2.l x19_2) != 0) = true := bne_iff_ne.mpr c17
            obtain rfl := Option.some.inj H
            have hixd20 : ∀ W_ : World, (Instr.index 24 (.agg (mixA (Value.int .u16) [] a0_2)) (.int .i64 x19_2)).run Tryd.prog W_ = .ok (.int .u16 (rd a0_2.l x19_2)) W_ := fun W_ => idx_la (e := (Value.int .u16)) Tryd.underlying24 (fun _ => by kernel_rfl) (fun _ => by kernel_rfl) x19_2 (by first | omega | exact of_decide_eq_true (by first | (with_reducible assumption) | assumption)) (by first | omega | exact of_decide_eq_true (by first | (with_reducible assumption) | assumption)) W_
            have hcz21_0 : wr.cell? ⟨gb227, 0, none⟩ = some (.int .i8 a0_0) := mix_cell0 BK227.out 0
            have hcz21_1 : wr.cell? ⟨gb227, 1, none⟩ = some (.int .i8 a0_1) := mix_cell0 BK227.out 1
            have hfz21_0 := blk_frozen BK227.out 0
            have hfz21_1 := blk_frozen BK227.out 1
            go_wp2
            go_ret
            exact ⟨by first | rfl | (simp [errW_none, errW_some] <;> rfl) | (simp only [← hji14]; first | rfl | (simp [errW_none, errW_some] <;> rfl)) | (simp [*, errW_none, errW_some] <;> rfl), pbs HB⟩
          ·rw [if_neg c16] at H
           have c16b0 : decide ((wrap64 (a0_1)) ≤ x19_2) = false := decide_eq_false c16
           clear c16
           have H' := Aside0.mk H
           clear H
           have hixd22 : ∀ W_ : World, (Instr.index 24 (.agg (mixA (Value.int .u16) [] a0_2)) (.int .i64 x19_2)).run Tryd.prog W_ = .ok (.int .u16 (rd a0_2.l x19_2)) W_ := fun W_ => idx_la (e := (Value.int .u16)) Tryd.underlying24 (fun _ => by kernel_rfl) (fun _ => by kernel_rfl) x19_2 (by first | omega | exact of_decide_eq_true (by first | (with_reducible assumption) | assumption)) (by first | omega | exact of_decide_eq_true (by first | (with_reducible assumption) | assumption)) W_
           have hcz23_0 : wr.cell? ⟨gb227, 0, none⟩ = some (.int .i8 a0_0) := mix_cell0 BK227.out 0
           have hcz23_1 : wr.cell? ⟨gb227, 1, none⟩ = some (.int .i8 a0_1) := mix_cell0 BK227.out 1
           have hfz23_0 := blk_frozen BK227.out 0
           have hfz23_1 := blk_frozen BK227.out 1
           go_wp2
           go_roundg k2
           case measure => have := HJ1.out; have := HK2.out; omega
           case rel => exact ⟨(wrap64 (x19_2 + 1)), (by first | rfl | (simp; done) | (simp [*]; done)), H', ⟨by have := HJ1.out; have := HK2.out; omega⟩, ⟨pk BK227⟩, ⟨pbs HB⟩⟩
         ·rw [if_neg c15] at H
          have c15b0 : ((ji14) == 0) = false := beq_eq_false_iff_ne.mpr c15
          have c15b1 : ((ji14) != 0) = true := bne_iff_ne.mpr c15
          obtain rfl := Option.some.inj H
          have hixd24 : ∀ W_ : World, (Instr.index 24 (.agg (mixA (Value.int .u16) [] a0_2)) (.int .i64 x19_2)).run Tryd.prog W_ = .ok (.int .u16 (rd a0_2.l x19_2)) W_ := fun W_ => idx_la (e := (Value.int .u16)) Tryd.underlying24 (fun _ => by kernel_rfl) (fun _ => by kernel_rfl) x19_2 (by first | omega | exact of_decide_eq_true (by first | (with_reducible assumption) | assumption)) (by first | omega | exact of_decide_eq_true (by first | (with_reducible assumption) | assumption)) W_
          have hcz25_0 : wr.cell? ⟨gb227, 0, none⟩ = some (.int .i8 a0_0) := mix_cell0 BK227.out 0
          have hcz25_1 : wr.cell? ⟨gb227, 1, none⟩ = some (.int .i8 a0_1) := mix_cell0 BK227.out 1
          have hfz25_0 := blk_frozen BK227.out 0
          have hfz25_1 := blk_frozen BK227.out 1
          go_wp2
          go_ret
          exact ⟨by first | rfl | (simp [errW_none, errW_some] <;> rfl) | (simp only [← hji14]; first | rfl | (simp [errW_none, errW_some] <;> rfl)) | (simp [*, errW_none, errW_some] <;> rfl), pbs HB⟩
        ·rw [if_neg c13] at H
         exact absurd H (by simp)
       ·rw [if_neg c12] at H
        exact absurd H (by simp)
      ·rw [if_neg c11] at H
       have c11b0 : decide (x19_2 < 10) = false := decide_eq_false c11
       clear c11
       obtain rfl := Option.some.inj H
       go_wp2
       go_ret
       exact ⟨by first | rfl | (simp [errW_none, errW_some] <;> rfl) | (simp [*, errW_none, errW_some] <;> rfl), pbs HB⟩
end Go.Proofs.YtdedijjbdkoekaaDoor.PB
end
