/- The statement FnExactMoveCrowd of this program: what its proof uses, part 9 of 12. The call returns true for all arguments. No condition of its own. -/
import Derived.Test.YtdedijjbdkoekaaDoorZFnExactMoveCrowd7
section
namespace Go.Proofs.YtdedijjbdkoekaaDoor.PB
open Go.RowKit Go.Proofs.YtdedijjbdkoekaaDoorW.PrintWords Go.Proofs.YtdedijjbdkoekaaDoorW.PrintLast Go.Proofs.YtdedijjbdkoekaaDoorW.PrintMore Go.Proofs.YtdedijjbdkoekaaDoor.La
attribute [local go_sem] max2_int min2_int max_two min_two max_three min_three max_four min_four   -- for this text's walks alone
set_option linter.unusedVariables false
set_option linter.unusedSimpArgs false
def impl_NextSpot.f (a0_0 : Int) (a0_1 : Int) (a1 : Int) : Option (Int × Int) := if a1 = 0 then (some (a0_0, IntKind.i8.wrap (a0_1 - 1))) else (if a1 = 1 then (some (IntKind.i8.wrap (a0_0 + 1), a0_1)) else (if a1 = 2 then (some (a0_0, IntKind.i8.wrap (a0_1 + 1))) else (if a1 = 3 then (some (IntKind.i8.wrap (a0_0 - 1), a0_1)) else (some (a0_0, a0_1)))))
set_option maxHeartbeats 8000000 in
set_option maxRecDepth 100000 in
theorem impl_NextSpot.calls (a0_0 : Int) (a0_1 : Int) (a1 : Int) (r1 : Int) (r2 : Int) (w : World) (h : impl_NextSpot.f a0_0 a0_1 a1 = some (r1, r2)) :
  Calls Tryd.prog 66 #[.agg #[.int .i8 a0_0, .int .i8 a0_1], .int .i64 a1] w fun e w' => e = .returned (.agg #[.int .i8 r1, .int .i8 r2]) ∧ Below w.heap.size w w' := by
 have hu41 := Tryd.underlying41
 have HB := Aside0.mk (Below.refl w.heap.size w)
 have H : (if a1 = 0 then (some (a0_0, IntKind.i8.wrap (a0_1 - 1))) else (if a1 = 1 then (some (IntKind.i8.wrap (a0_0 + 1), a0_1)) else (if a1 = 2 then (some (a0_0, IntKind.i8.wrap (a0_1 + 1))) else (if a1 = 3 then (some (IntKind.i8.wrap (a0_0 - 1), a0_1)) else (some (a0_0, a0_1)))))) = some (r1, r2) := h
 clear h
 by_cases c3 : a1 = 0
 ·rw [if_pos c3] at H
  have c3b0 : (a1 == 0) = true := beq_iff_eq.mpr c3
  have c3b1 : (a1 != 0) = false := bne_eq_false_iff_eq.mpr c3
  clear c3
  simp only [Option.some.injEq, Prod.mk.injEq] at H
  obtain ⟨rfl, rfl⟩ := H
  go_enter Tryd.func66, Tryd.ntmps66
  go_wp2_with (first | ((with_reducible refine gate_dst (N := 2) rfl ?_); refine box_event ?hg (N := 2) ?hd (cs := #[.int .i8 a0_0, .int .i8 a0_1]) (t := 41) ?hr ?_; (case hd => rfl); (case hg => rfl); (case hr => first | (go_simp; done) | (go_simp; rfl)); intro gb202 hg w4 hbox hb; have n0_ := bst HB hb; have n1_ := Aside0.mk (hbox); have n2_ := gwl HB hg; have n3_ := gwl HB hg; clear HB; have HB := n0_; have BK202 := n1_; have GW202 := n2_; have GE202 := n3_; clear n0_ n1_ n2_ n3_; clear hb hbox hg) | ((with_reducible refine gate_dst (N := 4) rfl ?_); refine box_event ?hg (N := 4) ?hd (cs := #[.int .i8 0, .int .i8 0]) (t := 41) ?hr ?_; (case hd => rfl); (case hg => rfl); (case hr => first | (go_simp; done) | (go_simp; rfl)); intro gb203 hg w5 hbox hb; have n0_ := bkb BK202 hb; have n1_ := bst HB hb; have n2_ := Aside0.mk (hbox); have n3_ := gwl HB hg; have n4_ := gwl HB hg; have n5_ := nbl BK202 hg; have n6_ := nbg BK202 hg; clear BK202; clear HB; have BK202 := n0_; have HB := n1_; have BK203 := n2_; have GW203 := n3_; have GE203 := n4_; have NB202_203 := n5_; have NB203_202 := n6_; clear n0_ n1_ n2_ n3_ n4_ n5_ n6_; clear hb hbox hg; have hnb6 := NB202_203.out; have hnc6 := NB203_202.out; have hcz7_0 : w5.cell? ⟨gb202, 0, none⟩ = some (.int .i8 a0_0) := (blk_cell BK202.out 0).trans rfl; have hcz7_1 : w5.cell? ⟨gb202, 1, none⟩ = some (.int .i8 a0_1) := (blk_cell BK202.out 1).trans rfl; have hfz7_0 := blk_frozen BK202.out 0; have hfz7_1 := blk_frozen BK202.out 1; have hcz8_0 : w5.cell? ⟨gb203, 0, none⟩ = some (.int .i8 0) := (blk_cell BK203.out 0).trans rfl; have hcz8_1 : w5.cell? ⟨gb203, 1, none⟩ = some (.int .i8 0) := (blk_cell BK203.out 1).trans rfl; have hfz8_0 := blk_frozen BK203.out 0; have hfz8_1 := blk_frozen BK203.out 1))
  refine bodyPost_ret (results_cell_row rfl _ _ gb203 41 #[.int .i8 a0_0, .int .i8 (IntKind.i8.wrap (a0_1 - 1))] (0, 0) _ rfl (by (with_reducible repeat (first | refine blk_drewN ?_ _ | refine blk_drew ?_ | refine blk_alloc ?_ _)); refine blk_put (cs := #[.int .i8 a0_0, .int .i8 0]) ?_ 1 _ rfl; (with_reducible repeat (first | refine blk_drewN ?_ _ | refine blk_drew ?_ | refine blk_alloc ?_ _)); refine blk_put (cs := #[.int .i8 0, .int .i8 0]) ?_ 0 _ rfl; (with_reducible repeat (first | refine blk_drewN ?_ _ | refine blk_drew ?_ | refine blk_alloc ?_ _)); refine blk_far ?_ NB203_202.out _; (with_reducible repeat (first | refine blk_drewN ?_ _ | refine blk_drew ?_ | refine blk_alloc ?_ _)); exact BK203.out) Tryd.underlying41 rfl (by kernel_rfl)) rfl ?_
  exact ⟨by first | rfl | (simp [errW_none, errW_some] <;> rfl) | (simp [*, errW_none, errW_some] <;> rfl), pbs HB⟩
 ·rw [if_neg c3] at H
  have c3b0 : (a1 == 0) = false := beq_eq_false_iff_ne.mpr c3
  have c3b1 : (a1 != 0) = true := bne_iff_ne.mpr c3
  by_cases c9 : a1 = 1
  ·rw [if_pos c9] at H
   have c9b0 : (a1 == 1) = true := beq_iff_eq.mpr c9
   have c9b1 : (a1 != 1) = false := bne_eq_false_iff_eq.mpr c9
   clear c9
   simp only [Option.some.injEq, Prod.mk.injEq] at H
   obtain ⟨rfl, rfl⟩ := H
   go_enter Tryd.func66, Tryd.ntmps66
   go_wp2_with (first | ((with_reducible refine gate_dst (N := 2) rfl ?_); refine box_event ?hg (N := 2) ?hd (cs := #[.int .i8 a0_0, .int .i8 a0_1]) (t := 41) ?hr ?_; (case hd => rfl); (case hg => rfl); (case hr => first | (go_simp; done) | (go_simp; rfl)); intro gb202 hg w10 hbox hb; have n0_ := bst HB hb; have n1_ := Aside0.mk (hbox); have n2_ := gwl HB hg; have n3_ := gwl HB hg; clear HB; have HB := n0_; have BK202 := n1_; have GW202 := n2_; have GE202 := n3_; clear n0_ n1_ n2_ n3_; clear hb hbox hg) | ((with_reducible refine gate_dst (N := 4) rfl ?_); refine box_event ?hg (N := 4) ?hd (cs := #[.int .i8 0, .int .i8 0]) (t := 41) ?hr ?_; (case hd => rfl); (case hg => rfl); (case hr => first | (go_simp; done) | (go_simp; rfl)); intro gb203 hg w11 hbox hb; have n0_ := bkb BK202 hb; have n1_ := bst HB hb; have n2_ := Aside0.mk (hbox); have n3_ := gwl HB hg; have n4_ := gwl HB hg; have n5_ := nbl BK202 hg; have n6_ := nbg BK202 hg; clear BK202; clear HB; have BK202 := n0_; have HB := n1_; have BK203 := n2_; have GW203 := n3_; have GE203 := n4_; have NB202_203 := n5_; have NB203_202 := n6_; clear n0_ n1_ n2_ n3_ n4_ n5_ n6_; clear hb hbox hg; have hnb12 := NB202_203.out; have hnc12 := NB203_202.out; have hcz13_0 : w11.cell? ⟨gb202, 0, none⟩ = some (.int .i8 a0_0) := (blk_cell BK202.out 0).trans rfl; have hcz13_1 : w11.cell? ⟨gb202, 1, none⟩ = some (.int .i8 a0_1) := (blk_cell BK202.out 1).trans rfl; have hfz13_0 := blk_frozen BK202.out 0; have hfz13_1 := blk_frozen BK202.out 1; have hcz14_0 : w11.cell? ⟨gb203, 0, none⟩ = some (.int .i8 0) := (blk_cell BK203.out 0).trans rfl; have hcz14_1 : w11.cell? ⟨gb203, 1, none⟩ = some (.int .i8 0) := (blk_cell BK203.out 1).trans rfl; have hfz14_0 := blk_frozen BK203.out 0; have hfz14_1 := blk_frozen BK203.out 1))
   refine bodyPost_ret (results_cell_row rfl _ _ gb203 41 #[.int .i8 (IntKind.i8.wrap (a0_0 + 1)), .int .i8 a0_1] (0, 0) _ rfl (by (with_reducible repeat (first | refine blk_drewN ?_ _ | refine blk_drew ?_ | refine blk_alloc ?_ _)); refine blk_put (cs := #[.int .i8 (IntKind.i8.wrap (a0_0 + 1)), .int .i8 0]) ?_ 1 _ rfl; (with_reducible repeat (first | refine blk_drewN ?_ _ | refine blk_drew ?_ | refine blk_alloc ?_ _)); refine blk_put (cs := #[.int .i8 0, .int .i8 0]) ?_ 0 _ rfl; (with_reducible repeat (first | refine blk_drewN ?_ _ | refine blk_drew ?_ | refine blk_alloc ?_ _)); refine blk_far ?_ NB203_202.out _; (with_reducible repeat (first | refine blk_drewN ?_ _ | refine blk_drew ?_ | refine blk_alloc ?_ _)); exact BK203.out) Tryd.underlying41 rfl (by kernel_rfl)) rfl ?_
   exact ⟨by first | rfl | (simp [errW_none, errW_some] <;> rfl) | (simp [*, errW_none, errW_some] <;> rfl), pbs HB⟩
  ·rw [if_neg c9] at H
   have c9b0 : (a1 == 1) = false := beq_eq_false_iff_ne.mpr c9
   have c9b1 : (a1 != 1) = true := bne_iff_ne.mpr c9
   by_cases c15 : a1 = 2
   ·rw [if_pos c15] at H
    have c15b0 : (a1 == 2) = true := beq_iff_eq.mpr c15
    have c15b1 : (a1 != 2) = false := bne_eq_false_iff_eq.mpr c15
    clear c15
    simp only [Option.some.injEq, Prod.mk.injEq] at H
    obtain ⟨rfl, rfl⟩ := H
    go_enter Tryd.func66, Tryd.ntmps66
    go_wp2_with (first | ((with_reducible refine gate_dst (N := 2) rfl ?_); refine box_event ?hg (N := 2) ?hd (cs := #[.int .i8 a0_0, .int .i8 a0_1]) (t := 41) ?hr ?_; (case hd => rfl); (case hg => rfl); (case hr => first | (go_simp; done) | (go_simp; rfl)); intro gb202 hg w16 hbox hb; have n0_ := bst HB hb; have n1_ := Aside0.mk (hbox); have n2_ := gwl HB hg; have n3_ := gwl HB hg; clear HB; have HB := n0_; have BK202 := n1_; have GW202 := n2_; have GE202 := n3_; clear n0_ n1_ n2_ n3_; clear hb hbox hg) | ((with_reducible refine gate_dst (N := 4) rfl ?_); refine box_event ?hg (N := 4) ?hd (cs := #[.int .i8 0, .int .i8 0]) (t := 41) ?hr ?_; (case hd => rfl); (case hg => rfl); (case hr => first | (go_simp; done) | (go_simp; rfl)); intro gb203 hg w17 hbox hb; have n0_ := bkb BK202 hb; have n1_ := bst HB hb; have n2_ := Aside0.mk (hbox); have n3_ := gwl HB hg; have n4_ := gwl HB hg; have n5_ := nbl BK202 hg; have n6_ := nbg BK202 hg; clear BK202; clear HB; have BK202 := n0_; have HB := n1_; have BK203 := n2_; have GW203 := n3_; have GE203 := n4_; have NB202_203 := n5_; have NB203_202 := n6_; clear n0_ n1_ n2_ n3_ n4_ n5_ n6_; clear hb hbox hg; have hnb18 := NB202_203.out; have hnc18 := NB203_202.out; have hcz19_0 : w17.cell? ⟨gb202, 0, none⟩ = some (.int .i8 a0_0) := (blk_cell BK202.out 0).trans rfl; have hcz19_1 : w17.cell? ⟨gb202, 1, none⟩ = some (.int .i8 a0_1) := (blk_cell BK202.out 1).trans rfl; have hfz19_0 := blk_frozen BK202.out 0; have hfz19_1 := blk_frozen BK202.out 1; have hcz20_0 : w17.cell? ⟨gb203, 0, none⟩ = some (.int .i8 0) := (blk_cell BK203.out 0).trans rfl; have hcz20_1 : w17.cell? ⟨gb203, 1, none⟩ = some (.int .i8 0) := (blk_cell BK203.out 1).trans rfl; have hfz20_0 := blk_frozen BK203.out 0; have hfz20_1 := blk_frozen BK203.out 1))
    refine bodyPost_ret (results_cell_row rfl _ _ gb203 41 #[.int .i8 a0_0, .int .i8 (IntKind.i8.wrap (a0_1 + 1))] (0, 0) _ rfl (by (with_reducible repeat (first | refine blk_drewN ?_ _ | refine blk_drew ?_ | refine blk_alloc ?_ _)); refine blk_put (cs := #[.int .i8 a0_0, .int .i8 0]) ?_ 1 _ rfl; (with_reducible repeat (first | refine blk_drewN ?_ _ | refine blk_drew ?_ | refine blk_alloc ?_ _)); refine blk_put (cs := #[.int .i8 0, .int .i8 0]) ?_ 0 _ rfl; (with_reducible repeat (first | refine blk_drewN ?_ _ | refine blk_drew ?_ | refine blk_alloc ?_ _)); refine blk_far ?_ NB203_202.out _; (with_reducible repeat (first | refine blk_drewN ?_ _ | refine blk_drew ?_ | refine blk_alloc ?_ _)); exact BK203.out) Tryd.underlying41 rfl (by kernel_rfl)) rfl ?_
    exact ⟨by first | rfl | (simp [errW_none, errW_some] <;> rfl) | (simp [*, errW_none, errW_some] <;> rfl), pbs HB⟩
   ·rw [if_neg c15] at H
    have c15b0 : (a1 == 2) = false := beq_eq_false_iff_ne.mpr c15
    have c15b1 : (a1 != 2) = true := bne_iff_ne.mpr c15
    by_cases c21 : a1 = 3
    ·rw [if_pos c21] at H
     have c21b0 : (a1 == 3) = true := beq_iff_eq.mpr c21
     have c21b1 : (a1 != 3) = false := bne_eq_false_iff_eq.mpr c21
     clear c21
     simp only [Option.some.injEq, Prod.mk.injEq] at H
     obtain ⟨rfl, rfl⟩ := H
     go_enter Tryd.func66, Tryd.ntmps66
     go_wp2_with (first | ((with_reducible refine gate_dst (N := 2) rfl ?_); refine box_event ?hg (N := 2) ?hd (cs := #[.int .i8 a0_0, .int .i8 a0_1]) (t := 41) ?hr ?_; (case hd => rfl); (case hg => rfl); (case hr => first | (go_simp; done) | (go_simp; rfl)); intro gb202 hg w22 hbox hb; have n0_ := bst HB hb; have n1_ := Aside0.mk (hbox); have n2_ := gwl HB hg; have n3_ := gwl HB hg; clear HB; have HB := n0_; have BK202 := n1_; have GW202 := n2_; have GE202 := n3_; clear n0_ n1_ n2_ n3_; clear hb hbox hg) | ((with_reducible refine gate_dst (N := 4) rfl ?_); refine box_event ?hg (N := 4) ?hd (cs := #[.int .i8 0, .int .i8 0]) (t := 41) ?hr ?_; (case hd => rfl); (case hg => rfl); (case hr => first | (go_simp; done) | (go_simp; rfl)); intro gb203 hg w23 hbox hb; have n0_ := bkb BK202 hb; have n1_ := bst HB hb; have n2_ := Aside0.mk (hbox); have n3_ := gwl HB hg; have n4_ := gwl HB hg; have n5_ := nbl BK202 hg; have n6_ := nbg BK202 hg; clear BK202; clear HB; have BK202 := n0_; have HB := n1_; have BK203 := n2_; have GW203 := n3_; have GE203 := n4_; have NB202_203 := n5_; have NB203_202 := n6_; clear n0_ n1_ n2_ n3_ n4_ n5_ n6_; clear hb hbox hg; have hnb24 := NB202_203.out; have hnc24 := NB203_202.out; have hcz25_0 : w23.cell? ⟨gb202, 0, none⟩ = some (.int .i8 a0_0) := (blk_cell BK202.out 0).trans rfl; have hcz25_1 : w23.cell? ⟨gb202, 1, none⟩ = some (.int .i8 a0_1) := (blk_cell BK202.out 1).trans rfl; have hfz25_0 := blk_frozen BK202.out 0; have hfz25_1 := blk_frozen BK202.out 1; have hcz26_0 : w23.cell? ⟨gb203, 0, none⟩ = some (.int .i8 0) := (blk_cell BK203.out 0).trans rfl; have hcz26_1 : w23.cell? ⟨gb203, 1, none⟩ = some (.int .i8 0) := (blk_cell BK203.out 1).trans rfl; have hfz26_0 := blk_frozen BK203.out 0; have hfz26_1 := blk_frozen BK203.out 1))
     refine bodyPost_ret (results_cell_row rfl _ _ gb203 41 #[.int .i8 (IntKind.i8.wrap (a0_0 - 1)), .int .i8 a0_1] (0, 0) _ rfl (by (with_reducible repeat (first | refine blk_drewN ?_ _ | refine blk_drew ?_ | refine blk_alloc ?_ _)); refine blk_put (cs := #[.int .i8 (IntKind.i8.wrap (a0_0 - 1)), .int .i8 0]) ?_ 1 _ rfl; (with_reducible repeat (first | refine blk_drewN ?_ _ | refine blk_drew ?_ | refine blk_alloc ?_ _)); refine blk_put (cs := #[.int .i8 0, .int .i8 0]) ?_ 0 _ rfl; (with_reducible repeat (first | refine blk_drewN ?_ _ | refine blk_drew ?_ | refine blk_alloc ?_ _)); refine blk_far ?_ NB203_202.out _; (with_reducible repeat (first | refine blk_drewN ?_ _ | refine blk_drew ?_ | refine blk_alloc ?_ _)); exact BK203.out) Tryd.underlying41 rfl (by kernel_rfl)) rfl ?_
     exact ⟨by first | rfl | (simp [errW_none, errW_some] <;> rfl) | (simp [*, errW_none, errW_some] <;> rfl), pbs HB⟩
    ·rw [if_neg c21] at H
     have c21b0 : (a1 == 3) = false := beq_eq_false_iff_ne.mpr c21
     have c21b1 : (a1 != 3) = true := bne_iff_ne.mpr c21
     simp only [Option.some.injEq, Prod.mk.injEq] at H
     obtain ⟨rfl, rfl⟩ := H
     go_enter Tryd.func66, Tryd.ntmps66
     go_wp2_with (first | ((with_reducible refine gate_dst (N := 2) rfl ?_); refine box_event ?hg (N := 2) ?hd (cs := #[.int .i8 a0_0, .int .i8 a0_1]) (t := 41) ?hr ?_; (case hd => rfl); (case hg => rfl); (case hr => first | (go_simp; done) | (go_simp; rfl)); intro gb202 hg w27 hbox hb; have n0_ := bst HB hb; have n1_ := Aside0.mk (hbox); have n2_ := gwl HB hg; have n3_ := gwl HB hg; clear HB; have HB := n0_; have BK202 := n1_; have GW202 := n2_; have GE202 := n3_; clear n0_ n1_ n2_ n3_; clear hb hbox hg) | ((with_reducible refine gate_dst (N := 4) rfl ?_); refine box_event ?hg (N := 4) ?hd (cs := #[.int .i8 0, .int .i8 0]) (t := 41) ?hr ?_; (case hd => rfl); (case hg => rfl); (case hr => first | (go_simp; done) | (go_simp; rfl)); intro gb203 hg w28 hbox hb; have n0_ := bkb BK202 hb; have n1_ := bst HB hb; have n2_ := Aside0.mk (hbox); have n3_ := gwl HB hg; have n4_ := gwl HB hg; have n5_ := nbl BK202 hg; have n6_ := nbg BK202 hg; clear BK202; clear HB; have BK202 := n0_; have HB := n1_; have BK203 := n2_; have GW203 := n3_; have GE203 := n4_; have NB202_203 := n5_; have NB203_202 := n6_; clear n0_ n1_ n2_ n3_ n4_ n5_ n6_; clear hb hbox hg; have hnb29 := NB202_203.out; have hnc29 := NB203_202.out; have hcz30_0 : w28.cell? ⟨gb202, 0, none⟩ = some (.int .i8 a0_0) := (blk_cell BK202.out 0).trans rfl; have hcz30_1 : w28.cell? ⟨gb202, 1, none⟩ = some (.int .i8 a0_1) := (blk_cell BK202.out 1).trans rfl; have hfz30_0 := blk_frozen BK202.out 0; have hfz30_1 := blk_frozen BK202.out 1; have hcz31_0 : w28.cell? ⟨gb203, 0, none⟩ = some (.int .i8 0) := (blk_cell BK203.out 0).trans rfl; have hcz31_1 : w28.cell? ⟨gb203, 1, none⟩ = some (.int .i8 0) := (blk_cell BK203.out 1).trans rfl; have hfz31_0 := blk_frozen BK203.out 0; have hfz31_1 := blk_frozen BK203.out 1))
     refine bodyPost_ret (results_cell_row rfl _ _ gb203 41 #[.int .i8 a0_0, .int .i8 a0_1] (0, 0) _ rfl (by (with_reducible repeat (first | refine blk_drewN ?_ _ | refine blk_drew ?_ | refine blk_alloc ?_ _)); refine blk_put (cs := #[.int .i8 a0_0, .int .i8 0]) ?_ 1 _ rfl; (with_reducible repeat (first | refine blk_drewN ?_ _ | refine blk_drew ?_ | refine blk_alloc ?_ _)); refine blk_put (cs := #[.int .i8 0, .int .i8 0]) ?_ 0 _ rfl; (with_reducible repeat (first | refine blk_drewN ?_ _ | refine blk_drew ?_ | refine blk_alloc ?_ _)); exact BK203.out) Tryd.underlying41 rfl (by kernel_rfl)) rfl ?_
     exact ⟨by first | rfl | (simp [errW_none, errW_some] <;> rfl) | (simp [*, errW_none, errW_some] <;> rfl), pbs HB⟩
mutual
def impl_Crowd_moved.l0 : Nat → Int → List (S41) → Int → Int → LA 40 → Int → Int → LA 10 → LA 40 → Option (LA 40)
 | 0, _, _, _, _, _, _, _, _, _ => none
 | k + 1, x2, x14, x15, x16, x205000, x206000, x206001, x206002, x208000 => if x16 < x15 then (if 0 ≤ x16 then (if x16 < (x14.length : Int) then (impl_Crowd_moved.l1 k x2 x14 x15 x16 0 x205000 x206000 x206001 x206002 x208000 ((rd_T41 x14 x16).f0) ((rd_T41 x14 x16).f1)) else (none)) else (none)) else (some x208000)
def impl_Crowd_moved.l1 : Nat → Int → List (S41) → Int → Int → Int → LA 40 → Int → Int → LA 10 → LA 40 → Int → Int → Option (LA 40)
 | 0, _, _, _, _, _, _, _, _, _, _, _, _ => none
 | k + 1, x2, x14, x15, x16, x20, x205000, x206000, x206001, x206002, x208000, x213000, x213001 => if x20 < 4 then ((impl_Crowd_has.f x205000 x213000 x213001 x20).bind fun t213 => (if t213 = true then ((impl_NextSpot.f x213000 x213001 x20).bind fun bt214 => (if x2 = 108 then ((impl_Crowd_set.f x208000 x213000 x213001 (Int.tmod (wrap64 (x20 + 3)) 4)).bind fun t217 => (impl_Crowd_moved.l1 k x2 x14 x15 x16 (wrap64 (x20 + 1)) x205000 x206000 x206001 x206002 t217 x213000 x213001)) else (if x2 = 114 then ((impl_Crowd_set.f x208000 x213000 x213001 (Int.tmod (wrap64 (x20 + 1)) 4)).bind fun t218 => (impl_Crowd_moved.l1 k x2 x14 x15 x16 (wrap64 (x20 + 1)) x205000 x206000 x206001 x206002 t218 x213000 x213001)) else (if x2 = 102 then ((impl_Room_isFree.f x206000 x206001 x206002 bt214.1 bt214.2).bind fun t219 => (impl_Crowd_moved.j2 k x2 x20 x14 x15 x16 x20 t219 x205000 x206000 x206001 x206002 x208000 x213000 x213001 bt214.1 bt214.2)) else (impl_Crowd_moved.j2 k x2 x20 x14 x15 x16 x20 false x205000 x206000 x206001 x206002 x208000 x213000 x213001 bt214.1 bt214.2))))) else (impl_Crowd_moved.l1 k x2 x14 x15 x16 (wrap64 (x20 + 1)) x205000 x206000 x206001 x206002 x208000 x213000 x213001))) else (impl_Crowd_moved.l0 k x2 x14 x15 (wrap64 (x16 + 1)) x205000 x206000 x206001 x206002 x208000)
def impl_Crowd_moved.j2 : Nat → Int → Int → List (S41) → Int → Int → Int → Bool → LA 40 → Int → Int → LA 10 → LA 40 → Int → Int → Int → Int → Option (LA 40)
 | 0, _, _, _, _, _, _, _, _, _, _, _, _, _, _, _, _ => none
 | k + 1, x2, x10, x14, x15, x16, x20, x47, x205000, x206000, x206001, x206002, x208000, x213000, x213001, x217000, x217001 => if x47 = true then ((impl_Crowd_set.f x208000 x217000 x217001 x10).bind fun t220 => (impl_Crowd_moved.l1 k x2 x14 x15 x16 (wrap64 (x20 + 1)) x205000 x206000 x206001 x206002 t220 x213000 x213001)) else (if x2 = 98 then ((impl_Room_isFree.f x206000 x206001 x206002 x217000 x217001).bind fun t221 => (if t221 = true then (impl_Crowd_moved.l1 k x2 x14 x15 x16 (wrap64 (x20 + 1)) x205000 x206000 x206001 x206002 x208000 x213000 x213001) else ((impl_Crowd_set.f x208000 x213000 x213001 x10).bind fun t222 => (impl_Crowd_moved.l1 k x2 x14 x15 x16 (wrap64 (x20 + 1)) x205000 x206000 x206001 x206002 t222 x213000 x213001)))) else (impl_Crowd_moved.l1 k x2 x14 x15 x16 (wrap64 (x20 + 1)) x205000 x206000 x206001 x206002 x208000 x213000 x213001))
end
def impl_Crowd_moved.f (k : Nat) (a0 : LA 40) (a1_0 : Int) (a1_1 : Int) (a1_2 : LA 10) (a2 : Int) : Option (LA 40) := (impl_Room_free.f k a1_0 a1_1 a1_2).bind fun t208 => (impl_Crowd_moved.l0 k a2 t208 (t208.length : Int) 0 a0 a1_0 a1_1 a1_2 (LA.zero 40))
theorem impl_Crowd_moved.mono_l : ∀ k, (∀ y0 y1 y2 y3 y4 y5 y6 y7 y8, LeO (impl_Crowd_moved.l0 k y0 y1 y2 y3 y4 y5 y6 y7 y8) (impl_Crowd_moved.l0 (k + 1) y0 y1 y2 y3 y4 y5 y6 y7 y8)) ∧ (∀ y0 y1 y2 y3 y4 y5 y6 y7 y8 y9 y10 y11, LeO (impl_Crowd_moved.l1 k y0 y1 y2 y3 y4 y5 y6 y7 y8 y9 y10 y11) (impl_Crowd_moved.l1 (k + 1) y0 y1 y2 y3 y4 y5 y6 y7 y8 y9 y10 y11)) ∧ (∀ y0 y1 y2 y3 y4 y5 y6 y7 y8 y9 y10 y11 y12 y13 y14 y15, LeO (impl_Crowd_moved.j2 k y0 y1 y2 y3 y4 y5 y6 y7 y8 y9 y10 y11 y12 y13 y14 y15) (impl_Crowd_moved.j2 (k + 1) y0 y1 y2 y3 y4 y5 y6 y7 y8 y9 y10 y11 y12 y13 y14 y15))
 | 0 => ⟨fun _ _ _ _ _ _ _ _ _ r h => by simp [impl_Crowd_moved.l0] at h, fun _ _ _ _ _ _ _ _ _ _ _ _ r h => by simp [impl_Crowd_moved.l1] at h, fun _ _ _ _ _ _ _ _ _ _ _ _ _ _ _ _ r h => by simp [impl_Crowd_moved.j2] at h⟩
 | k + 1 => by
  obtain ⟨ih0, ih1, ih2⟩ := impl_Crowd_moved.mono_l k
  refine ⟨?_, ?_, ?_⟩
  ·intro y0 y1 y2 y3 y4 y5 y6 y7 y8
   unfold impl_Crowd_moved.l0
   repeat' first
   | (with_reducible exact ih0 _ _ _ _ _ _ _ _ _)
   | (with_reducible exact ih1 _ _ _ _ _ _ _ _ _ _ _ _)
   | (with_reducible exact ih2 _ _ _ _ _ _ _ _ _ _ _ _ _ _ _ _)
   | (with_reducible exact impl_Room_free.mono _ _ _ _)
   | (with_reducible exact LeO.refl _)
   | (with_reducible exact LeO.none _)
   | (with_reducible refine LeO.ite ?_ ?_)
   | (with_reducible refine LeO.bind ?_ (fun _ => ?_))
   | exact ih0 _ _ _ _ _ _ _ _ _
   | exact ih1 _ _ _ _ _ _ _ _ _ _ _ _
   | exact ih2 _ _ _ _ _ _ _ _ _ _ _ _ _ _ _ _
   | exact impl_Room_free.mono _ _ _ _
   | exact LeO.none _
   | refine LeO.ite ?_ ?_
   | refine LeO.bind ?_ (fun _ => ?_)
  ·intro y0 y1 y2 y3 y4 y5 y6 y7 y8 y9 y10 y11
   unfold impl_Crowd_moved.l1
   repeat' first
   | (with_reducible exact ih0 _ _ _ _ _ _ _ _ _)
   | (with_reducible exact ih1 _ _ _ _ _ _ _ _ _ _ _ _)
   | (with_reducible exact ih2 _ _ _ _ _ _ _ _ _ _ _ _ _ _ _ _)
   | (with_reducible exact impl_Room_free.mono _ _ _ _)
   | (with_reducible exact LeO.refl _)
   | (with_reducible exact LeO.none _)
   | (with_reducible refine LeO.ite ?_ ?_)
   | (with_reducible refine LeO.bind ?_ (fun _ => ?_))
   | exact ih0 _ _ _ _ _ _ _ _ _
   | exact ih1 _ _ _ _ _ _ _ _ _ _ _ _
   | exact ih2 _ _ _ _ _ _ _ _ _ _ _ _ _ _ _ _
   | exact impl_Room_free.mono _ _ _ _
   | exact LeO.none _
   | refine LeO.ite ?_ ?_
   | refine LeO.bind ?_ (fun _ => ?_)
  ·intro y0 y1 y2 y3 y4 y5 y6 y7 y8 y9 y10 y11 y12 y13 y14 y15
   unfold impl_Crowd_moved.j2
   repeat' first
   | (with_reducible exact ih0 _ _ _ _ _ _ _ _ _)
   | (with_reducible exact ih1 _ _ _ _ _ _ _ _ _ _ _ _)
   | (with_reducible exact ih2 _ _ _ _ _ _ _ _ _ _ _ _ _ _ _ _)
   | (with_reducible exact impl_Room_free.mono _ _ _ _)
   | (with_reducible exact LeO.refl _)
   | (with_reducible exact LeO.none _)
   | (with_reducible refine LeO.ite ?_ ?_)
   | (with_reducible refine LeO.bind ?_ (fun _ => ?_))
   | exact ih0 _ _ _ _ _ _ _ _ _
   | exact ih1 _ _ _ _ _ _ _ _ _ _ _ _
   | exact ih2 _ _ _ _ _ _ _ _ _ _ _ _ _ _ _ _
   | exact impl_Room_free.mono _ _ _ _
   | exact LeO.none _
   | refine LeO.ite ?_ ?_
   | refine LeO.bind ?_ (fun _ => ?_)
theorem impl_Crowd_moved.mono : ∀ a0 a1 a2 a3 a4 k, LeO (impl_Crowd_moved.f k a0 a1 a2 a3 a4) (impl_Crowd_moved.f (k + 1) a0 a1 a2 a3 a4) := by
 intro a0 a1 a2 a3 a4 k
 obtain ⟨ih0, ih1, ih2⟩ := impl_Crowd_moved.mono_l k
 unfold impl_Crowd_moved.f
 repeat' first
   | (with_reducible exact ih0 _ _ _ _ _ _ _ _ _)
   | (with_reducible exact ih1 _ _ _ _ _ _ _ _ _ _ _ _)
   | (with_reducible exact ih2 _ _ _ _ _ _ _ _ _ _ _ _ _ _ _ _)
   | (with_reducible exact impl_Room_free.mono _ _ _ _)
   | (with_reducible exact LeO.refl _)
   | (with_reducible exact LeO.none _)
   | (with_reducible refine LeO.ite ?_ ?_)
   | (with_reducible refine LeO.bind ?_ (fun _ => ?_))
   | exact ih0 _ _ _ _ _ _ _ _ _
   | exact ih1 _ _ _ _ _ _ _ _ _ _ _ _
   | exact ih2 _ _ _ _ _ _ _ _ _ _ _ _ _ _ _ _
   | exact impl_Room_free.mono _ _ _ _
   | exact LeO.none _
   | refine LeO.ite ?_ ?_
   | refine LeO.bind ?_ (fun _ => ?_)
set_option maxHeartbeats 8000000 in
set_option maxRecDepth 100000 in
theorem impl_Crowd_moved.calls (k : Nat) (a0 : LA 40) (a1_0 : Int) (a1_1 : Int) (a1_2 : LA 10) (a2 : Int) (r : LA 40) (w : World) (h : impl_Crowd_moved.f k a0 a1_0 a1_1 a1_2 a2 = some r) :
  Calls Tryd.prog 53 #[.agg (mixA (Value.int .u16) [] a0), .agg (mixA (Value.int .u16) [.int .i8 a1_0, .int .i8 a1_1] a1_2), .int .u8 a2] w fun e w' => e = .returned (.agg (mixA (Value.int .u16) [] r)) ∧ Below w.heap.size w w' := by
 have hu31 := Tryd.underlying31
 have hu41 := Tryd.underlying41
 have HB := Aside0.mk (Below.refl w.heap.size w)
 have H : ((impl_Room_free.f k a1_0 a1_1 a1_2).bind fun t208 => (impl_Crowd_moved.l0 k a2 t208 (t208.length : Int) 0 a0 a1_0 a1_1 a1_2 (LA.zero 40))) = some r := h
 clear h
 replace H := Option.bind_eq_some_iff.mp H
 obtain ⟨t208, A40, H⟩ := H
 replace H : (impl_Crowd_moved.l0 k a2 t208 (t208.length : Int) 0 a0 a1_0 a1_1 a1_2 (LA.zero 40)) = some r := H
 have A4 := Aside0.mk A40
 clear A40
 have H' := Aside0.mk H
 clear H
 go_enter Tryd.func53, Tryd.ntmps53
 go_wp2_with (first | ((with_reducible refine gate_dst (N := 3) rfl ?_); refine box_event ?hg (N := 3) ?hd (cs := (mixA (Value.int .u16) [] a0)) (t := 28) ?hr ?_; (case hd => rfl); (case hg => rfl); (case hr => first | (go_simp; done) | (go_simp; rfl)); intro gb204 hg w5 hbox hb; have n0_ := bst HB hb; have n1_ := Aside0.mk (hbox); have n2_ := gwl HB hg; have n3_ := gwl HB hg; clear HB; have HB := n0_; have BK204 := n1_; have GW204 := n2_; have GE204 := n3_; clear n0_ n1_ n2_ n3_; clear hb hbox hg) | ((with_reducible refine gate_dst (N := 4) rfl ?_); refine box_event ?hg (N := 4) ?hd (cs := (mixA (Value.int .u16) [.int .i8 a1_0, .int .i8 a1_1] a1_2)) (t := 31) ?hr ?_; (case hd => rfl); (case hg => rfl); (case hr => first | (go_simp; done) | (go_simp; rfl)); intro gb205 hg w6 hbox hb; have n0_ := bkb BK204 hb; have n1_ := bst HB hb; have n2_ := Aside0.mk (hbox); have n3_ := gwl HB hg; have n4_ := gwl HB hg; have n5_ := nbl BK204 hg; have n6_ := nbg BK204 hg; clear BK204; clear HB; have BK204 := n0_; have HB := n1_; have BK205 := n2_; have GW205 := n3_; have GE205 := n4_; have NB204_205 := n5_; have NB205_204 := n6_; clear n0_ n1_ n2_ n3_ n4_ n5_ n6_; clear hb hbox hg) | ((with_reducible refine gate_dst (N := 6) rfl ?_); refine box_event ?hg (N := 6) ?hd (cs := (mixA (Value.int .u16) [] (LA.zero 40))) (t := 28) ?hr ?_; (case hd => rfl); (case hg => rfl); (case hr => first | (go_simp; done) | (go_simp; rfl)); intro gb206 hg w7 hbox hb; have n0_ := bkb BK204 hb; have n1_ := bkb BK205 hb; have n2_ := bst HB hb; have n3_ := Aside0.mk (hbox); have n4_ := gwl HB hg; have n5_ := gwl HB hg; have n6_ := nbl BK204 hg; have n7_ := nbg BK204 hg; have n8_ := nbl BK205 hg; have n9_ := nbg BK205 hg; clear BK204; clear BK205; clear HB; have BK204 := n0_; have BK205 := n1_; have HB := n2_; have BK206 := n3_; have GW206 := n4_; have GE206 := n5_; have NB204_206 := n6_; have NB206_204 := n7_; have NB205_206 := n8_; have NB206_205 := n9_; clear n0_ n1_ n2_ n3_ n4_ n5_ n6_ n7_ n8_ n9_; clear hb hbox hg) | ((with_reducible refine gate_dst (N := 7) rfl ?_); refine box_event ?hg (N := 7) ?hd (cs := (mixA (Value.int .u16) [] (LA.zero 40))) (t := 28) ?hr ?_; (case hd => rfl); (case hg => rfl); (case hr => first | (go_simp; done) | (go_simp; rfl)); intro gb207 hg w8 hbox hb; have n0_ := bkb BK204 hb; have n1_ := bkb BK205 hb; have n2_ := bkb BK206 hb; have n3_ := bst HB hb; have n4_ := Aside0.mk (hbox); have n5_ := gwl HB hg; have n6_ := gwl HB hg; have n7_ := nbl BK204 hg; have n8_ := nbg BK204 hg; have n9_ := nbl BK205 hg; have n10_ := nbg BK205 hg; have n11_ := nbl BK206 hg; have n12_ := nbg BK206 hg; clear BK204; clear BK205; clear BK206; clear HB; have BK204 := n0_; have BK205 := n1_; have BK206 := n2_; have HB := n3_; have BK207 := n4_; have GW207 := n5_; have GE207 := n6_; have NB204_207 := n7_; have NB207_204 := n8_; have NB205_207 := n9_; have NB207_205 := n10_; have NB206_207 := n11_; have NB207_206 := n12_; clear n0_ n1_ n2_ n3_ n4_ n5_ n6_ n7_ n8_ n9_ n10_ n11_ n12_; clear hb hbox hg) | ((with_reducible refine gate_store (p := 7) rfl ?_); refine wpList_store_lmix rfl 28 _ _ rfl gb207 (e := (Value.int .u16)) (cs' := []) (W' := (LA.zero 40)) (cs := []) (W := (LA.zero 40)) (T := 28) rfl rfl (pk BK207) rfl (by kernel_rfl) rfl (fun _ => rfl) rfl ?_; intro w9 hi hk hbl; have n0_ := Aside0.mk (KeepBut.blk hk (g' := gb204) (o := .cells (mixA (Value.int .u16) [] a0) 28 (0, 0)) (pk BK204) NB204_207.out (by simp)); have n1_ := Aside0.mk (KeepBut.blk hk (g' := gb205) (o := .cells (mixA (Value.int .u16) [.int .i8 a1_0, .int .i8 a1_1] a1_2) 31 (0, 0)) (pk BK205) NB205_207.out (by simp)); have n2_ := Aside0.mk (KeepBut.blk hk (g' := gb206) (o := .cells (mixA (Value.int .u16) [] (LA.zero 40)) 28 (0, 0)) (pk BK206) NB206_207.out (by simp)); have n3_ := Aside0.mk (hbl _ _ (pbs HB) GE207.out); have n4_ := Aside0.mk (hi); clear BK204; clear BK205; clear BK206; clear HB; clear BK207; have BK204 := n0_; have BK205 := n1_; have BK206 := n2_; have HB := n3_; have BK207 := n4_; clear n0_ n1_ n2_ n3_ n4_; clear hi hk hbl) | ((with_reducible refine gate_dst (N := 13) rfl ?_); refine wpList_run0 (v := .agg (mixA (Value.int .u16) [.int .i8 a1_0, .int .i8 a1_1] a1_2)) rfl (load_mix_run (P := Tryd.prog) 31 (.tmp 4) rfl gb205 rfl (show World.rangeAt _ gb205 0 ([.int .i8 a1_0, .int .i8 a1_1] ++ a1_2.l.map (Value.int .u16)) from mix_range (show (World.heap _)[gb205]? = some (.cells (mixA (Value.int .u16) [.int .i8 a1_0, .int .i8 a1_1] a1_2) 31 (0, 0)) from by (with_reducible repeat (first | refine blk_drewN ?_ _ | refine blk_drew ?_ | refine blk_alloc ?_ _)); exact BK205.out)) Tryd.underlying31 rfl (by kernel_rfl) rfl) ?_) | ((with_reducible refine gate_callee (f := 28) rfl ?_); refine goesL_ (some 14) rfl rfl Tryd.func28 (by kernel_rfl) rfl #[.agg (mixA (Value.int .u16) [.int .i8 a1_0, .int .i8 a1_1] a1_2)] rfl (by (try simp only [List.map_toArray, List.map_cons, List.map_nil]); first | done | rfl | (simp only [List.length_drop, List.length_take]; rfl)) ?_; (with_reducible refine (impl_Room_free.calls k a1_0 a1_1 a1_2 t208 _ A4.out).mono ?_); rintro e w11 ⟨v209, rfl, ho0, hb⟩; refine ⟨_, rfl, ?_⟩; have n0_ := Aside0.mk (Kd.R_lower ho0 (below_size (by repeat (first | (with_reducible first | exact HB.out | apply below_alloc | apply pw_below_drewN | apply below_drew1 | refine below_set ?_ GE204.out | refine below_set ?_ GE205.out | refine below_set ?_ GE206.out | refine below_set ?_ GE207.out) | exact HB.out)))); have n1_ := bkb BK204 hb; have n2_ := bkb BK205 hb; have n3_ := bkb BK206 hb; have n4_ := bkb BK207 hb; have n5_ := bst HB hb; clear BK204; clear BK205; clear BK206; clear BK207; clear HB; have HO210 := n0_; have BK204 := n1_; have BK205 := n2_; have BK206 := n3_; have BK207 := n4_; have HB := n5_; clear n0_ n1_ n2_ n3_ n4_ n5_; (try clear hb); (try clear hb2); (try clear hk); (try clear hi); (try clear ho0); obtain ⟨Ao12, co12, eo12⟩ := Kd.R_slice HO210.out; subst eo12))
 go_loopg [16] k (fun kq v16 w' => ∃ (x16_1 : Int) (x208000_1 : LA 40), v16 = .int .i64 x16_1 ∧ Aside0 (impl_Crowd_moved.l0 kq a2 t208 (t208.length : Int) x16_1 a0 a1_0 a1_1 a1_2 x208000_1 = some r) ∧ Aside0 (kq ≤ k) ∧ Aside0 (Kd.R k41 41 w' w.heap.size (fun _ => True) (.slice Ao12 t208.length co12) t208) ∧ Aside0 (w'.heap[gb204]? = some (.cells (mixA (Value.int .u16) [] a0) 28 (0, 0))) ∧ Aside0 (w'.heap[gb205]? = some (.cells (mixA (Value.int .u16) [.int .i8 a1_0, .int .i8 a1_1] a1_2) 31 (0, 0))) ∧ Aside0 (w'.heap[gb206]? = some (.cells (mixA (Value.int .u16) [] (LA.zero 40)) 28 (0, 0))) ∧ Aside0 (w'.heap[gb207]? = some (.cells (mixA (Value.int .u16) [] x208000_1) 28 (0, 0))) ∧ Aside0 (Below w.heap.size w w'))
 case atStart => exact ⟨(0), ((LA.zero 40)), (by first | rfl | (simp; done) | (simp [*]; done)), H', ⟨Nat.le_refl _⟩, ⟨by (with_reducible repeat (first | apply Kd.R_alloc | apply Kd.R_drewN | apply Kd.R_drew)); exact HO210.out⟩, ⟨pk BK204⟩, ⟨pk BK205⟩, ⟨pk BK206⟩, ⟨pk BK207⟩, ⟨pbs HB⟩⟩
 case round =>
  clear H'
  try clear c2
  try clear p2
  try clear c5
  obtain ⟨x16_1, x208000_1, rfl, HA, HK1, HO_14, BK204, BK205, BK206, BK207, HB⟩ := hrel
  cases gk with
  | zero => exact absurd HA.out (by simp [impl_Crowd_moved.l0])
  | succ k1 =>
   have H := HA.out
   clear HA
   simp only [impl_Crowd_moved.l0] at H
   by_cases c13 : x16_1 < (t208.length : Int)
   ·rw [if_pos c13] at H
    have c13b0 : decide (x16_1 < (t208.length : Int)) = true := decide_eq_true c13
    clear c13
    by_cases c14 : 0 ≤ x16_1
    ·rw [if_pos c14] at H
     have c14b0 : decide (0 ≤ x16_1) = true := decide_eq_true c14
     clear c14
     by_cases c15 : x16_1 < (t208.length : Int)
     ·rw [if_pos c15] at H
      have c15b0 : decide (x16_1 < (t208.length : Int)) = true := decide_eq_true c15
      clear c15
      have H' := Aside0.mk H
      clear H
      have p211 : 0 ≤ (x16_1 : Int) := of_decide_eq_true (by first | (with_reducible assumption) | assumption)
      have q211 : x16_1 < (t208.length : Int) := of_decide_eq_true (by first | (with_reducible assumption) | assumption)
      obtain ⟨ad211, e211, hx211_0, hx211_1⟩ := at_T41 (Kd.R_reads' HO_14.out).2.2 x16_1 p211 q211
      cases e211
      replace p211 := eq_true p211
      replace q211 := eq_true q211
      go_wp2_with (first | ((with_reducible refine gate_dst (N := 9) rfl ?_); refine box_event ?hg (N := 9) ?hd (cs := #[.int .i8 0, .int .i8 0]) (t := 41) ?hr ?_; (case hd => rfl); (case hg => rfl); (case hr => first | (go_simp; done) | (go_simp; rfl)); intro gb212 hg w16 hbox hb; have n0_ := Aside0.mk (Kd.R_below (Kd.R_elderB (by (with_reducible repeat (first | apply Kd.R_alloc | apply Kd.R_drewN | apply Kd.R_drew)); exact HO_14.out) gb212 (Nat.le_of_eq hg.symm)) hb); have n1_ := bkb BK204 hb; have n2_ := bkb BK205 hb; have n3_ := bkb BK206 hb; have n4_ := bkb BK207 hb; have n5_ := bst HB hb; have n6_ := Aside0.mk (hbox); have n7_ := gwl HB hg; have n8_ := gwl HB hg; have n9_ := nbl BK204 hg; have n10_ := nbg BK204 hg; have n11_ := nbl BK205 hg; have n12_ := nbg BK205 hg; have n13_ := nbl BK206 hg; have n14_ := nbg BK206 hg; have n15_ := nbl BK207 hg; have n16_ := nbg BK207 hg; clear HO_14; clear BK204; clear BK205; clear BK206; clear BK207; clear HB; have HO_14 := n0_; have BK204 := n1_; have BK205 := n2_; have BK206 := n3_; have BK207 := n4_; have HB := n5_; have BK212 := n6_; have GW212 := n7_; have GE212 := n8_; have NB204_212 := n9_; have NB212_204 := n10_; have NB205_212 := n11_; have NB212_205 := n12_; have NB206_212 := n13_; have NB212_206 := n14_; have NB207_212 := n15_; have NB212_207 := n16_; clear n0_ n1_ n2_ n3_ n4_ n5_ n6_ n7_ n8_ n9_ n10_ n11_ n12_ n13_ n14_ n15_ n16_; clear hb hbox hg; have hnb17 := NB212_204.out; have hnc17 := NB204_212.out; have hnb18 := NB212_205.out; have hnc18 := NB205_212.out; have hnb19 := NB212_206.out; have hnc19 := NB206_212.out; have hnb20 := NB212_207.out; have hnc20 := NB207_212.out; have hcz21_0 : w16.cell? ⟨gb212, 0, none⟩ = some (.int .i8 0) := (blk_cell BK212.out 0).trans rfl; have hcz21_1 : w16.cell? ⟨gb212, 1, none⟩ = some (.int .i8 0) := (blk_cell BK212.out 1).trans rfl; have hfz21_0 := blk_frozen BK212.out 0; have hfz21_1 := blk_frozen BK212.out 1))
      go_loopg [20] k1 (fun kq v20 w' => ∃ (x20_2 : Int) (x208000_2 : LA 40), v20 = .int .i64 x20_2 ∧ Aside0 (impl_Crowd_moved.l1 kq a2 t208 (t208.length : Int) x16_1 x20_2 a0 a1_0 a1_1 a1_2 x208000_2 ((rd_T41 t208 x16_1).f0) ((rd_T41 t208 x16_1).f1) = some r) ∧ Aside0 (kq ≤ k1) ∧ Aside0 (Kd.R k41 41 w' w.heap.size (fun k_ => k_ ≠ gb212) (.slice (some ad211) t208.length co12) t208) ∧ Aside0 (w'.heap[gb204]? = some (.cells (mixA (Value.int .u16) [] a0) 28 (0, 0))) ∧ Aside0 (w'.heap[gb205]? = some (.cells (mixA (Value.int .u16) [.int .i8 a1_0, .int .i8 a1_1] a1_2) 31 (0, 0))) ∧ Aside0 (w'.heap[gb206]? = some (.cells (mixA (Value.int .u16) [] (LA.zero 40)) 28 (0, 0))) ∧ Aside0 (w'.heap[gb207]? = some (.cells (mixA (Value.int .u16) [] x208000_2) 28 (0, 0))) ∧ Aside0 (w'.heap[gb212]? = some (.cells #[.int .i8 ((rd_T41 t208 x16_1).f0), .int .i8 ((rd_T41 t208 x16_1).f1)] 41 (0, 0))) ∧ Aside0 (Below w.heap.size w w'))
      case atStart => exact ⟨(0), (x208000_1), (by first | rfl | (simp; done) | (simp [*]; done)), H', ⟨Nat.le_refl _⟩, ⟨by (with_reducible repeat (first | apply Kd.R_alloc | apply Kd.R_drewN | apply Kd.R_drew)); exact Kd.R_mono (Kd.R_far (p := ⟨gb212, 1, none⟩) (Kd.R_far (p := ⟨gb212, 0, none⟩) (Kd.R_mono HO_14.out (fun k_ hk => (⟨hk, hk.2⟩ : _ ∧ k_ ≠ gb212))) (fun _ hk => hk.2) (.int .i8 ((rd_T41 t208 x16_1).f0))) (fun _ hk => hk.2) (.int .i8 ((rd_T41 t208 x16_1).f1))) (fun _ hk => hk.1.2)⟩, ⟨by (with_reducible repeat (first | refine blk_drewN ?_ _ | refine blk_drew ?_ | refine blk_alloc ?_ _)); refine blk_far ?_ NB204_212.out _; (with_reducible repeat (first | refine blk_drewN ?_ _ | refine blk_drew ?_ | refine blk_alloc ?_ _)); refine blk_far ?_ NB204_212.out _; (with_reducible repeat (first | refine blk_drewN ?_ _ | refine blk_drew ?_ | refine blk_alloc ?_ _)); exact BK204.out⟩, ⟨by (with_reducible repeat (first | refine blk_drewN ?_ _ | refine blk_drew ?_ | refine blk_alloc ?_ _)); refine blk_far ?_ NB205_212.out _; (with_reducible repeat (first | refine blk_drewN ?_ _ | refine blk_drew ?_ | refine blk_alloc ?_ _)); refine blk_far ?_ NB205_212.out _; (with_reducible repeat (first | refine blk_drewN ?_ _ | refine blk_drew ?_ | refine blk_alloc ?_ _)); exact BK205.out⟩, ⟨by (with_reducible repeat (first | refine blk_drewN ?_ _ | refine blk_drew ?_ | refine blk_alloc ?_ _)); refine blk_far ?_ NB206_212.out _; (with_reducible repeat (first | refine blk_drewN ?_ _ | refine blk_drew ?_ | refine blk_alloc ?_ _)); refine blk_far ?_ NB206_212.out _; (with_reducible repeat (first | refine blk_drewN ?_ _ | refine blk_drew ?_ | refine blk_alloc ?_ _)); exact BK206.out⟩, ⟨by (with_reducible repeat (first | refine blk_drewN ?_ _ | refine blk_drew ?_ | refine blk_alloc ?_ _)); refine blk_far ?_ NB207_212.out _; (with_reducible repeat (first | refine blk_drewN ?_ _ | refine blk_drew ?_ | refine blk_alloc ?_ _)); refine blk_far ?_ NB207_212.out _; (with_reducible repeat (first | refine blk_drewN ?_ _ | refine blk_drew ?_ | refine blk_alloc ?_ _)); exact BK207.out⟩, ⟨by (with_reducible repeat (first | refine blk_drewN ?_ _ | refine blk_drew ?_ | refine blk_alloc ?_ _)); refine blk_put (cs := #[.int .i8 ((rd_T41 t208 x16_1).f0), .int .i8 0]) ?_ 1 _ rfl; (with_reducible repeat (first | refine blk_drewN ?_ _ | refine blk_drew ?_ | refine blk_alloc ?_ _)); refine blk_put (cs := #[.int .i8 0, .int .i8 0]) ?_ 0 _ rfl; (with_reducible repeat (first | refine blk_drewN ?_ _ | refine blk_drew ?_ | refine blk_alloc ?_ _)); exact BK212.out⟩, ⟨pbs HB⟩⟩
      case round =>
       clear H'
       try clear c1
       try clear c2
       try clear p2
       try clear q2
       try clear hx2
       try clear c5
       try clear c13
       try clear c13b0
       try clear c14
       try clear c14b0
       try clear c15
       try clear c15b0
       try clear c17
       try clear c18
       try clear c19
       try clear c20
       try clear p21
       try clear q21
       try clear hx21
       try clear hcz21_0
       try clear hcz21_1
       try clear hfz21_0
       try clear hfz21_1
       try clear hx211_0
       try clear hx211_1
       try clear p2
       try clear p211
       try clear q211
       obtain ⟨x20_2, x208000_2, rfl, HA, HK2, HO_14, BK204, BK205, BK206, BK207, BK212, HB⟩ := hrel
       cases gk with
       | zero => exact absurd HA.out (by simp [impl_Crowd_moved.l1])
       | succ k2 =>
        have H := HA.out
        clear HA
        simp only [impl_Crowd_moved.l1] at H
        by_cases c22 : x20_2 < 4
        ·rw [if_pos c22] at H
         have c22b0 : decide (x20_2 < 4) = true := decide_eq_true c22
         clear c22
         replace H := Option.bind_eq_some_iff.mp H
         obtain ⟨t213, A230, H⟩ := H
         replace H : (if t213 = true then ((impl_NextSpot.f ((rd_T41 t208 x16_1).f0) ((rd_T41 t208 x16_1).f1) x20_2).bind fun bt214 => (if a2 = 108 then ((impl_Crowd_set.f x208000_2 ((rd_T41 t208 x16_1).f0) ((rd_T41 t208 x16_1).f1) (Int.tmod (wrap64 (x20_2 + 3)) 4)).bind fun t217 => (impl_Crowd_moved.l1 k2 a2 t208 (t208.length : Int) x16_1 (wrap64 (x20_2 + 1)) a0 a1_0 a1_1 a1_2 t217 ((rd_T41 t208 x16_1).f0) ((rd_T41 t208 x16_1).f1))) else (if a2 = 114 then ((impl_Crowd_set.f x208000_2 ((rd_T41 t208 x16_1).f0) ((rd_T41 t208 x16_1).f1) (Int.tmod (wrap64 (x20_2 + 1)) 4)).bind fun t218 => (impl_Crowd_moved.l1 k2 a2 t208 (t208.length : Int) x16_1 (wrap64 (x20_2 + 1)) a0 a1_0 a1_1 a1_2 t218 ((rd_T41 t208 x16_1).f0) ((rd_T41 t208 x16_1).f1))) else (if a2 = 102 then ((impl_Room_isFree.f a1_0 a1_1 a1_2 bt214.1 bt214.2).bind fun t219 => (impl_Crowd_moved.j2 k2 a2 x20_2 t208 (t208.length : Int) x16_1 x20_2 t219 a0 a1_0 a1_1 a1_2 x208000_2 ((rd_T41 t208 x16_1).f0) ((rd_T41 t208 x16_1).f1) bt214.1 bt214.2)) else (impl_Crowd_moved.j2 k2 a2 x20_2 t208 (t208.length : Int) x16_1 x20_2 false a0 a1_0 a1_1 a1_2 x208000_2 ((rd_T41 t208 x16_1).f0) ((rd_T41 t208 x16_1).f1) bt214.1 bt214.2))))) else (impl_Crowd_moved.l1 k2 a2 t208 (t208.length : Int) x16_1 (wrap64 (x20_2 + 1)) a0 a1_0 a1_1 a1_2 x208000_2 ((rd_T41 t208 x16_1).f0) ((rd_T41 t208 x16_1).f1))) = some r := H
         have A23 := Aside0.mk A230
         clear A230
         by_cases c24 : t213 = true
         ·subst c24
          have H1 : ((impl_NextSpot.f ((rd_T41 t208 x16_1).f0) ((rd_T41 t208 x16_1).f1) x20_2).bind fun bt214 => (if a2 = 108 then ((impl_Crowd_set.f x208000_2 ((rd_T41 t208 x16_1).f0) ((rd_T41 t208 x16_1).f1) (Int.tmod (wrap64 (x20_2 + 3)) 4)).bind fun t217 => (impl_Crowd_moved.l1 k2 a2 t208 (t208.length : Int) x16_1 (wrap64 (x20_2 + 1)) a0 a1_0 a1_1 a1_2 t217 ((rd_T41 t208 x16_1).f0) ((rd_T41 t208 x16_1).f1))) else (if a2 = 114 then ((impl_Crowd_set.f x208000_2 ((rd_T41 t208 x16_1).f0) ((rd_T41 t208 x16_1).f1) (Int.tmod (wrap64 (x20_2 + 1)) 4)).bind fun t218 => (impl_Crowd_moved.l1 k2 a2 t208 (t208.length : Int) x16_1 (wrap64 (x20_2 + 1)) a0 a1_0 a1_1 a1_2 t218 ((rd_T41 t208 x16_1).f0) ((rd_T41 t208 x16_1).f1))) else (if a2 = 102 then ((impl_Room_isFree.f a1_0 a1_1 a1_2 bt214.1 bt214.2).bind fun t219 => (impl_Crowd_moved.j2 k2 a2 x20_2 t208 (t208.length : Int) x16_1 x20_2 t219 a0 a1_0 a1_1 a1_2 x208000_2 ((rd_T41 t208 x16_1).f0) ((rd_T41 t208 x16_1).f1) bt214.1 bt214.2)) else (impl_Crowd_moved.j2 k2 a2 x20_2 t208 (t208.length : Int) x16_1 x20_2 false a0 a1_0 a1_1 a1_2 x208000_2 ((rd_T41 t208 x16_1).f0) ((rd_T41 t208 x16_1).f1) bt214.1 bt214.2))))) = some r := by rw [if_pos rfl] at H; exact H
          clear H
          have H := H1
          clear H1
          replace H := Option.bind_eq_some_iff.mp H
          obtain ⟨⟨t214, t215⟩, A250, H⟩ := H
          replace H : (if a2 = 108 then ((impl_Crowd_set.f x208000_2 ((rd_T41 t208 x16_1).f0) ((rd_T41 t208 x16_1).f1) (Int.tmod (wrap64 (x20_2 + 3)) 4)).bind fun t217 => (impl_Crowd_moved.l1 k2 a2 t208 (t208.length : Int) x16_1 (wrap64 (x20_2 + 1)) a0 a1_0 a1_1 a1_2 t217 ((rd_T41 t208 x16_1).f0) ((rd_T41 t208 x16_1).f1))) else (if a2 = 114 then ((impl_Crowd_set.f x208000_2 ((rd_T41 t208 x16_1).f0) ((rd_T41 t208 x16_1).f1) (Int.tmod (wrap64 (x20_2 + 1)) 4)).bind fun t218 => (impl_Crowd_moved.l1 k2 a2 t208 (t208.length : Int) x16_1 (wrap64 (x20_2 + 1)) a0 a1_0 a1_1 a1_2 t218 ((rd_T41 t208 x16_1).f0) ((rd_T41 t208 x16_1).f1))) else (if a2 = 102 then ((impl_Room_isFree.f a1_0 a1_1 a1_2 t214 t215).bind fun t219 => (impl_Crowd_moved.j2 k2 a2 x20_2 t208 (t208.length : Int) x16_1 x20_2 t219 a0 a1_0 a1_1 a1_2 x208000_2 ((rd_T41 t208 x16_1).f0) ((rd_T41 t208 x16_1).f1) t214 t215)) else (impl_Crowd_moved.j2 k2 a2 x20_2 t208 (t208.length : Int) x16_1 x20_2 false a0 a1_0 a1_1 a1_2 x208000_2 ((rd_T41 t208 x16_1).f0) ((rd_T41 t208 x16_1).f1) t214 t215)))) = some r := H
          have A25 := Aside0.mk A250
          clear A250
          by_cases c26 : a2 = 108
          ·rw [if_pos c26] at H
           have c26b0 : (a2 == 108) = true := beq_iff_eq.mpr c26
           have c26b1 : (a2 != 108) = false := bne_eq_false_iff_eq.mpr c26
           clear c26
           replace H := Option.bind_eq_some_iff.mp H
           obtain ⟨t217, A270, H⟩ := H
           replace H : (impl_Crowd_moved.l1 k2 a2 t208 (t208.length : Int) x16_1 (wrap64 (x20_2 + 1)) a0 a1_0 a1_1 a1_2 t217 ((rd_T41 t208 x16_1).f0) ((rd_T41 t208 x16_1).f1)) = some r := H
           have A27 := Aside0.mk A270
           clear A270
           have H' := Aside0.mk H
           clear H
           go_wp2_with (first | ((with_reducible refine gate_dst (N := 23) rfl ?_); refine wpList_run0 (v := .agg (mixA (Value.int .u16) [] a0)) rfl (load_mix_run (P := Tryd.prog) 28 (.tmp 3) rfl gb204 rfl (show World.rangeAt _ gb204 0 ([] ++ a0.l.map (Value.int .u16)) from mix_range (show (World.heap _)[gb204]? = some (.cells (mixA (Value.int .u16) [] a0) 28 (0, 0)) from by (with_reducible repeat (first | refine blk_drewN ?_ _ | refine blk_drew ?_ | refine blk_alloc ?_ _)); exact BK204.out)) Tryd.underlying28 rfl (by kernel_rfl) rfl) ?_; have hnb29 := NB212_204.out; have hnc29 := NB204_212.out; have hnb30 := NB212_205.out; have hnc30 := NB205_212.out; have hnb31 := NB212_206.out; have hnc31 := NB206_212.out; have hnb32 := NB212_207.out; have hnc32 := NB207_212.out; have hcz33_0 : wr.cell? ⟨gb212, 0, none⟩ = some (.int .i8 ((rd_T41 t208 x16_1).f0)) := (blk_cell BK212.out 0).trans rfl; have hcz33_1 : wr.cell? ⟨gb212, 1, none⟩ = some (.int .i8 ((rd_T41 t208 x16_1).f1)) := (blk_cell BK212.out 1).trans rfl; have hfz33_0 := blk_frozen BK212.out 0; have hfz33_1 := blk_frozen BK212.out 1) | ((with_reducible refine gate_callee (f := 57) rfl ?_); refine goesL_ (some 26) rfl rfl Tryd.func57 (by kernel_rfl) rfl #[.agg (mixA (Value.int .u16) [] a0), .agg #[.int .i8 ((rd_T41 t208 x16_1).f0), .int .i8 ((rd_T41 t208 x16_1).f1)], .int .i64 x20_2] rfl (by (try simp only [List.map_toArray, List.map_cons, List.map_nil]); first | done | rfl | (simp only [List.length_drop, List.length_take]; rfl)) ?_; (with_reducible refine (impl_Crowd_has.calls a0 ((rd_T41 t208 x16_1).f0) ((rd_T41 t208 x16_1).f1) x20_2 true _ A23.out).mono ?_); rintro e w34 ⟨rfl, hb⟩; refine ⟨_, rfl, ?_⟩; have n0_ := krb HO_14 hb; have n1_ := bkb BK204 hb; have n2_ := bkb BK205 hb; have n3_ := bkb BK206 hb; have n4_ := bkb BK207 hb; have n5_ := bkb BK212 hb; have n6_ := bst HB hb; clear HO_14; clear BK204; clear BK205; clear BK206; clear BK207; clear BK212; clear HB; have HO_14 := n0_; have BK204 := n1_; have BK205 := n2_; have BK206 := n3_; have BK207 := n4_; have BK212 := n5_; have HB := n6_; clear n0_ n1_ n2_ n3_ n4_ n5_ n6_; (try clear hb); (try clear hb2); (try clear hk); (try clear hi); have hcz35_0 : w34.cell? ⟨gb212, 0, none⟩ = some (.int .i8 ((rd_T41 t208 x16_1).f0)) := (blk_cell BK212.out 0).trans rfl; have hcz35_1 : w34.cell? ⟨gb212, 1, none⟩ = some (.int .i8 ((rd_T41 t208 x16_1).f1)) := (blk_cell BK212.out 1).trans rfl; have hfz35_0 := blk_frozen BK212.out 0; have hfz35_1 := blk_frozen BK212.out 1) | ((with_reducible refine gate_callee (f := 66) rfl ?_); refine goesL_ (some 30) rfl rfl Tryd.func66 (by kernel_rfl) rfl #[.agg #[.int .i8 ((rd_T41 t208 x16_1).f0), .int .i8 ((rd_T41 t208 x16_1).f1)], .int .i64 x20_2] rfl (by (try simp only [List.map_toArray, List.map_cons, List.map_nil]); first | done | rfl | (simp only [List.length_drop, List.length_take]; rfl)) ?_; (with_reducible refine (impl_NextSpot.calls ((rd_T41 t208 x16_1).f0) ((rd_T41 t208 x16_1).f1) x20_2 t214 t215 _ A25.out).mono ?_); rintro e w36 ⟨rfl, hb⟩; refine ⟨_, rfl, ?_⟩; have n0_ := krb HO_14 hb; have n1_ := bkb BK204 hb; have n2_ := bkb BK205 hb; have n3_ := bkb BK206 hb; have n4_ := bkb BK207 hb; have n5_ := bkb BK212 hb; have n6_ := bst HB hb; clear HO_14; clear BK204; clear BK205; clear BK206; clear BK207; clear BK212; clear HB; have HO_14 := n0_; have BK204 := n1_; have BK205 := n2_; have BK206 := n3_; have BK207 := n4_; have BK212 := n5_; have HB := n6_; clear n0_ n1_ n2_ n3_ n4_ n5_ n6_; (try clear hb); (try clear hb2); (try clear hk); (try clear hi)) | ((with_reducible refine gate_dst (N := 11) rfl ?_); refine box_event ?hg (N := 11) ?hd (cs := #[.int .i8 0, .int .i8 0]) (t := 41) ?hr ?_; (case hd => rfl); (case hg => rfl); (case hr => first | (go_simp; done) | (go_simp; rfl)); intro gb216 hg w37 hbox hb; have n0_ := Aside0.mk (Kd.R_below (Kd.R_elderB (by (with_reducible repeat (first | apply Kd.R_alloc | apply Kd.R_drewN | apply Kd.R_drew)); exact HO_14.out) gb216 (Nat.le_of_eq hg.symm)) hb); have n1_ := bkb BK204 hb; have n2_ := bkb BK205 hb; have n3_ := bkb BK206 hb; have n4_ := bkb BK207 hb; have n5_ := bkb BK212 hb; have n6_ := bst HB hb; have n7_ := Aside0.mk (hbox); have n8_ := gwl HB hg; have n9_ := gwl HB hg; have n10_ := nbl BK204 hg; have n11_ := nbg BK204 hg; have n12_ := nbl BK205 hg; have n13_ := nbg BK205 hg; have n14_ := nbl BK206 hg; have n15_ := nbg BK206 hg; have n16_ := nbl BK207 hg; have n17_ := nbg BK207 hg; have n18_ := nbl BK212 hg; have n19_ := nbg BK212 hg; clear HO_14; clear BK204; clear BK205; clear BK206; clear BK207; clear BK212; clear HB; have HO_14 := n0_; have BK204 := n1_; have BK205 := n2_; have BK206 := n3_; have BK207 := n4_; have BK212 := n5_; have HB := n6_; have BK216 := n7_; have GW216 := n8_; have GE216 := n9_; have NB204_216 := n10_; have NB216_204 := n11_; have NB205_216 := n12_; have NB216_205 := n13_; have NB206_216 := n14_; have NB216_206 := n15_; have NB207_216 := n16_; have NB216_207 := n17_; have NB212_216 := n18_; have NB216_212 := n19_; clear n0_ n1_ n2_ n3_ n4_ n5_ n6_ n7_ n8_ n9_ n10_ n11_ n12_ n13_ n14_ n15_ n16_ n17_ n18_ n19_; clear hb hbox hg; have hnb38 := NB216_204.out; have hnc38 := NB204_216.out; have hnb39 := NB216_205.out; have hnc39 := NB205_216.out; have hnb40 := NB216_206.out; have hnc40 := NB206_216.out; have hnb41 := NB216_207.out; have hnc41 := NB207_216.out; have hnb42 := NB216_212.out; have hnc42 := NB212_216.out; have hcz43_0 : w37.cell? ⟨gb216, 0, none⟩ = some (.int .i8 0) := (blk_cell BK216.out 0).trans rfl; have hcz43_1 : w37.cell? ⟨gb216, 1, none⟩ = some (.int .i8 0) := (blk_cell BK216.out 1).trans rfl; have hfz43_0 := blk_frozen BK216.out 0; have hfz43_1 := blk_frozen BK216.out 1; have hcz44_0 : w37.cell? ⟨gb212, 0, none⟩ = some (.int .i8 ((rd_T41 t208 x16_1).f0)) := (blk_cell BK212.out 0).trans rfl; have hcz44_1 : w37.cell? ⟨gb212, 1, none⟩ = some (.int .i8 ((rd_T41 t208 x16_1).f1)) := (blk_cell BK212.out 1).trans rfl; have hfz44_0 := blk_frozen BK212.out 0; have hfz44_1 := blk_frozen BK212.out 1) | ((with_reducible refine gate_callee (f := 29) rfl ?_); refine goesL_ (some 38) rfl rfl Tryd.func29 (by kernel_rfl) rfl #[.pointer (some ⟨gb207, 0, none⟩), .agg #[.int .i8 ((rd_T41 t208 x16_1).f0), .int .i8 ((rd_T41 t208 x16_1).f1)], .int .i64 (Int.tmod (wrap64 (x20_2 + 3)) 4)] rfl (by (try simp only [List.map_toArray, List.map_cons, List.map_nil]); first | done | rfl | (simp only [List.length_drop, List.length_take]; rfl)) ?_; (with_reducible refine (impl_Crowd_set.calls gb207 x208000_2 ((rd_T41 t208 x16_1).f0) ((rd_T41 t208 x16_1).f1) (Int.tmod (wrap64 (x20_2 + 3)) 4) t217 w _ ?side1 ?side2 A27.out).mono ?_); (case side1 => exact ⟨(by (with_reducible repeat (first | refine blk_drewN ?_ _ | refine blk_drew ?_ | refine blk_alloc ?_ _)); refine blk_far ?_ NB207_216.out _; (with_reducible repeat (first | refine blk_drewN ?_ _ | refine blk_drew ?_ | refine blk_alloc ?_ _)); refine blk_far ?_ NB207_216.out _; (with_reducible repeat (first | refine blk_drewN ?_ _ | refine blk_drew ?_ | refine blk_alloc ?_ _)); exact BK207.out), GE207.out⟩); (case side2 => repeat (first | (with_reducible first | exact HB.out | apply below_alloc | apply pw_below_drewN | apply below_drew1 | refine below_set ?_ GE204.out | refine below_set ?_ GE205.out | refine below_set ?_ GE206.out | refine below_set ?_ GE207.out | refine below_set ?_ GE212.out | refine below_set ?_ GE216.out) | exact HB.out)); rintro e w45 ⟨rfl, hi, hb, hk⟩; refine ⟨_, rfl, ?_⟩; have n0_ := Aside0.mk (Kd.R_mono (Kd.R_keep (Kd.R_types (by (with_reducible repeat (first | apply Kd.R_alloc | apply Kd.R_drewN | apply Kd.R_drew)); exact (Kd.R_mono (Kd.R_far (p := ⟨gb216, 1, none⟩) (Kd.R_far (p := ⟨gb216, 0, none⟩) (Kd.R_mono HO_14.out (fun k_ hk => (⟨hk, hk.2⟩ : _ ∧ k_ ≠ gb216))) (fun _ hk => hk.2) (.int .i8 t214)) (fun _ hk => hk.2) (.int .i8 t215)) (fun _ h_ => h_.1))) (show (World.heap _)[gb207]? = some (.cells (mixA (Value.int .u16) [] x208000_2) 28 (0, 0)) from by (with_reducible repeat (first | refine blk_drewN ?_ _ | refine blk_drew ?_ | refine blk_alloc ?_ _)); refine blk_far ?_ NB207_216.out _; (with_reducible repeat (first | refine blk_drewN ?_ _ | refine blk_drew ?_ | refine blk_alloc ?_ _)); refine blk_far ?_ NB207_216.out _; (with_reducible repeat (first | refine blk_drewN ?_ _ | refine blk_drew ?_ | refine blk_alloc ?_ _)); exact BK207.out) (by decide)) hk (fun _ h => h.2)) (fun _ h => h.1)); have n1_ := Aside0.mk (KeepBut.blk hk (g' := gb204) (o := .cells (mixA (Value.int .u16) [] a0) 28 (0, 0)) (by (with_reducible repeat (first | refine blk_drewN ?_ _ | refine blk_drew ?_ | refine blk_alloc ?_ _)); refine blk_far ?_ NB204_216.out _; (with_reducible repeat (first | refine blk_drewN ?_ _ | refine blk_drew ?_ | refine blk_alloc ?_ _)); refine blk_far ?_ NB204_216.out _; (with_reducible repeat (first | refine blk_drewN ?_ _ | refine blk_drew ?_ | refine blk_alloc ?_ _)); exact BK204.out) NB204_207.out (by simp)); have n2_ := Aside0.mk (KeepBut.blk hk (g' := gb205) (o := .cells (mixA (Value.int .u16) [.int .i8 a1_0, .int .i8 a1_1] a1_2) 31 (0, 0)) (by (with_reducible repeat (first | refine blk_drewN ?_ _ | refine blk_drew ?_ | refine blk_alloc ?_ _)); refine blk_far ?_ NB205_216.out _; (with_reducible repeat (first | refine blk_drewN ?_ _ | refine blk_drew ?_ | refine blk_alloc ?_ _)); refine blk_far ?_ NB205_216.out _; (with_reducible repeat (first | refine blk_drewN ?_ _ | refine blk_drew ?_ | refine blk_alloc ?_ _)); exact BK205.out) NB205_207.out (by simp)); have n3_ := Aside0.mk (KeepBut.blk hk (g' := gb206) (o := .cells (mixA (Value.int .u16) [] (LA.zero 40)) 28 (0, 0)) (by (with_reducible repeat (first | refine blk_drewN ?_ _ | refine blk_drew ?_ | refine blk_alloc ?_ _)); refine blk_far ?_ NB206_216.out _; (with_reducible repeat (first | refine blk_drewN ?_ _ | refine blk_drew ?_ | refine blk_alloc ?_ _)); refine blk_far ?_ NB206_216.out _; (with_reducible repeat (first | refine blk_drewN ?_ _ | refine blk_drew ?_ | refine blk_alloc ?_ _)); exact BK206.out) NB206_207.out (by simp)); have n4_ := Aside0.mk (KeepBut.blk hk (g' := gb212) (o := .cells #[.int .i8 ((rd_T41 t208 x16_1).f0), .int .i8 ((rd_T41 t208 x16_1).f1)] 41 (0, 0)) (by (with_reducible repeat (first | refine blk_drewN ?_ _ | refine blk_drew ?_ | refine blk_alloc ?_ _)); refine blk_far ?_ NB212_216.out _; (with_reducible repeat (first | refine blk_drewN ?_ _ | refine blk_drew ?_ | refine blk_alloc ?_ _)); refine blk_far ?_ NB212_216.out _; (with_reducible repeat (first | refine blk_drewN ?_ _ | refine blk_drew ?_ | refine blk_alloc ?_ _)); exact BK212.out) NB212_207.out (by simp)); have n5_ := Aside0.mk (KeepBut.blk hk (g' := gb216) (o := .cells #[.int .i8 t214, .int .i8 t215] 41 (0, 0)) (by (with_reducible repeat (first | refine blk_drewN ?_ _ | refine blk_drew ?_ | refine blk_alloc ?_ _)); refine blk_put (cs := #[.int .i8 t214, .int .i8 0]) ?_ 1 _ rfl; (with_reducible repeat (first | refine blk_drewN ?_ _ | refine blk_drew ?_ | refine blk_alloc ?_ _)); refine blk_put (cs := #[.int .i8 0, .int .i8 0]) ?_ 0 _ rfl; (with_reducible repeat (first | refine blk_drewN ?_ _ | refine blk_drew ?_ | refine blk_alloc ?_ _)); exact BK216.out) NB216_207.out (by simp)); have n6_ := Aside0.mk (hb); have n7_ := Aside0.mk (hi.1); clear HO_14; clear BK204; clear BK205; clear BK206; clear BK212; clear BK216; clear HB; clear BK207; have HO_14 := n0_; have BK204 := n1_; have BK205 := n2_; have BK206 := n3_; have BK212 := n4_; have BK216 := n5_; have HB := n6_; have BK207 := n7_; clear n0_ n1_ n2_ n3_ n4_ n5_ n6_ n7_; (try clear hb); (try clear hb2); (try clear hk); (try clear hi)))
           go_roundg k2
           case measure => have := HK1.out; have := HK2.out; omega
           case rel => exact ⟨(wrap64 (x20_2 + 1)), (t217), (by first | rfl | (simp; done) | (simp [*]; done)), H', ⟨by have := HK1.out; have := HK2.out; omega⟩, ⟨by (with_reducible repeat (first | apply Kd.R_alloc | apply Kd.R_drewN | apply Kd.R_drew)); exact Kd.R_mono HO_14.out (fun _ hk => hk.1)⟩, ⟨pk BK204⟩, ⟨pk BK205⟩, ⟨pk BK206⟩, ⟨pk BK207⟩, ⟨pk BK212⟩, ⟨pbs HB⟩⟩
          ·rw [if_neg c26] at H
           have c26b0 : (a2 == 108) = false := beq_eq_false_iff_ne.mpr c26
           have c26b1 : (a2 != 108) = true := bne_iff_ne.mpr c26
           by_cases c46 : a2 = 114
           ·rw [if_pos c46] at H
            have c46b0 : (a2 == 114) = true := beq_iff_eq.mpr c46
            have c46b1 : (a2 != 114) = false := bne_eq_false_iff_eq.mpr c46
            clear c46
            replace H := Option.bind_eq_some_iff.mp H
            obtain ⟨t218, A470, H⟩ := H
            replace H : (impl_Crowd_moved.l1 k2 a2 t208 (t208.length : Int) x16_1 (wrap64 (x20_2 + 1)) a0 a1_0 a1_1 a1_2 t218 ((rd_T41 t208 x16_1).f0) ((rd_T41 t208 x16_1).f1)) = some r := H
            have A47 := Aside0.mk A470
            clear A470
            have H' := Aside0.mk H
            clear H
            go_wp2_with (first | ((with_reducible refine gate_dst (N := 23) rfl ?_); refine wpList_run0 (v := .agg (mixA (Value.int .u16) [] a0)) rfl (load_mix_run (P := Tryd.prog) 28 (.tmp 3) rfl gb204 rfl (show World.rangeAt _ gb204 0 ([] ++ a0.l.map (Value.int .u16)) from mix_range (show (World.heap _)[gb204]? = some (.cells (mixA (Value.int .u16) [] a0) 28 (0, 0)) from by (with_reducible repeat (first | refine blk_drewN ?_ _ | refine blk_drew ?_ | refine blk_alloc ?_ _)); exact BK204.out)) Tryd.underlying28 rfl (by kernel_rfl) rfl) ?_; have hnb49 := NB212_204.out; have hnc49 := NB204_212.out; have hnb50 := NB212_205.out; have hnc50 := NB205_212.out; have hnb51 := NB212_206.out; have hnc51 := NB206_212.out; have hnb52 := NB212_207.out; have hnc52 := NB207_212.out; have hcz53_0 : wr.cell? ⟨gb212, 0, none⟩ = some (.int .i8 ((rd_T41 t208 x16_1).f0)) := (blk_cell BK212.out 0).trans rfl; have hcz53_1 : wr.cell? ⟨gb212, 1, none⟩ = some (.int .i8 ((rd_T41 t208 x16_1).f1)) := (blk_cell BK212.out 1).trans rfl; have hfz53_0 := blk_frozen BK212.out 0; have hfz53_1 := blk_frozen BK212.out 1) | ((with_reducible refine gate_callee (f := 57) rfl ?_); refine goesL_ (some 26) rfl rfl Tryd.func57 (by kernel_rfl) rfl #[.agg (mixA (Value.int .u16) [] a0), .agg #[.int .i8 ((rd_T41 t208 x16_1).f0), .int .i8 ((rd_T41 t208 x16_1).f1)], .int .i64 x20_2] rfl (by (try simp only [List.map_toArray, List.map_cons, List.map_nil]); first | done | rfl | (simp only [List.length_drop, List.length_take]; rfl)) ?_; (with_reducible refine (impl_Crowd_has.calls a0 ((rd_T41 t208 x16_1).f0) ((rd_T41 t208 x16_1).f1) x20_2 true _ A23.out).mono ?_); rintro e w54 ⟨rfl, hb⟩; refine ⟨_, rfl, ?_⟩; have n0_ := krb HO_14 hb; have n1_ := bkb BK204 hb; have n2_ := bkb BK205 hb; have n3_ := bkb BK206 hb; have n4_ := bkb BK207 hb; have n5_ := bkb BK212 hb; have n6_ := bst HB hb; clear HO_14; clear BK204; clear BK205; clear BK206; clear BK207; clear BK212; clear HB; have HO_14 := n0_; have BK204 := n1_; have BK205 := n2_; have BK206 := n3_; have BK207 := n4_; have BK212 := n5_; have HB := n6_; clear n0_ n1_ n2_ n3_ n4_ n5_ n6_; (try clear hb); (try clear hb2); (try clear hk); (try clear hi); have hcz55_0 : w54.cell? ⟨gb212, 0, none⟩ = some (.int .i8 ((rd_T41 t208 x16_1).f0)) := (blk_cell BK212.out 0).trans rfl; have hcz55_1 : w54.cell? ⟨gb212, 1, none⟩ = some (.int .i8 ((rd_T41 t208 x16_1).f1)) := (blk_cell BK212.out 1).trans rfl; have hfz55_0 := blk_frozen BK212.out 0; have hfz55_1 := blk_frozen BK212.out 1) | ((with_reducible refine gate_callee (f := 66) rfl ?_); refine goesL_ (some 30) rfl rfl Tryd.func66 (by kernel_rfl) rfl #[.agg #[.int .i8 ((rd_T41 t208 x16_1).f0), .int .i8 ((rd_T41 t208 x16_1).f1)], .int .i64 x20_2] rfl (by (try simp only [List.map_toArray, List.map_cons, List.map_nil]); first | done | rfl | (simp only [List.length_drop, List.length_take]; rfl)) ?_; (with_reducible refine (impl_NextSpot.calls ((rd_T41 t208 x16_1).f0) ((rd_T41 t208 x16_1).f1) x20_2 t214 t215 _ A25.out).mono ?_); rintro e w56 ⟨rfl, hb⟩; refine ⟨_, rfl, ?_⟩; have n0_ := krb HO_14 hb; have n1_ := bkb BK204 hb; have n2_ := bkb BK205 hb; have n3_ := bkb BK206 hb; have n4_ := bkb BK207 hb; have n5_ := bkb BK212 hb; have n6_ := bst HB hb; clear HO_14; clear BK204; clear BK205; clear BK206; clear BK207; clear BK212; clear HB; have HO_14 := n0_; have BK204 := n1_; have BK205 := n2_; have BK206 := n3_; have BK207 := n4_; have BK212 := n5_; have HB := n6_; clear n0_ n1_ n2_ n3_ n4_ n5_ n6_; (try clear hb); (try clear hb2); (try clear hk); (try clear hi)) | ((with_reducible refine gate_dst (N := 11) rfl ?_); refine box_event ?hg (N := 11) ?hd (cs := #[.int .i8 0, .int .i8 0]) (t := 41) ?hr ?_; (case hd => rfl); (case hg => rfl); (case hr => first | (go_simp; done) | (go_simp; rfl)); intro gb216 hg w57 hbox hb; have n0_ := Aside0.mk (Kd.R_below (Kd.R_elderB (by (with_reducible repeat (first | apply Kd.R_alloc | apply Kd.R_drewN | apply Kd.R_drew)); exact HO_14.out) gb216 (Nat.le_of_eq hg.symm)) hb); have n1_ := bkb BK204 hb; have n2_ := bkb BK205 hb; have n3_ := bkb BK206 hb; have n4_ := bkb BK207 hb; have n5_ := bkb BK212 hb; have n6_ := bst HB hb; have n7_ := Aside0.mk (hbox); have n8_ := gwl HB hg; have n9_ := gwl HB hg; have n10_ := nbl BK204 hg; have n11_ := nbg BK204 hg; have n12_ := nbl BK205 hg; have n13_ := nbg BK205 hg; have n14_ := nbl BK206 hg; have n15_ := nbg BK206 hg; have n16_ := nbl BK207 hg; have n17_ := nbg BK207 hg; have n18_ := nbl BK212 hg; have n19_ := nbg BK212 hg; clear HO_14; clear BK204; clear BK205; clear BK206; clear BK207; clear BK212; clear HB; have HO_14 := n0_; have BK204 := n1_; have BK205 := n2_; have BK206 := n3_; have BK207 := n4_; have BK212 := n5_; have HB := n6_; have BK216 := n7_; have GW216 := n8_; have GE216 := n9_; have NB204_216 := n10_; have NB216_204 := n11_; have NB205_216 := n12_; have NB216_205 := n13_; have NB206_216 := n14_; have NB216_206 := n15_; have NB207_216 := n16_; have NB216_207 := n17_; have NB212_216 := n18_; have NB216_212 := n19_; clear n0_ n1_ n2_ n3_ n4_ n5_ n6_ n7_ n8_ n9_ n10_ n11_ n12_ n13_ n14_ n15_ n16_ n17_ n18_ n19_; clear hb hbox hg; have hnb58 := NB216_204.out; have hnc58 := NB204_216.out; have hnb59 := NB216_205.out; have hnc59 := NB205_216.out; have hnb60 := NB216_206.out; have hnc60 := NB206_216.out; have hnb61 := NB216_207.out; have hnc61 := NB207_216.out; have hnb62 := NB216_212.out; have hnc62 := NB212_216.out; have hcz63_0 : w57.cell? ⟨gb216, 0, none⟩ = some (.int .i8 0) := (blk_cell BK216.out 0).trans rfl; have hcz63_1 : w57.cell? ⟨gb216, 1, none⟩ = some (.int .i8 0) := (blk_cell BK216.out 1).trans rfl; have hfz63_0 := blk_frozen BK216.out 0; have hfz63_1 := blk_frozen BK216.out 1; have hcz64_0 : w57.cell? ⟨gb212, 0, none⟩ = some (.int .i8 ((rd_T41 t208 x16_1).f0)) := (blk_cell BK212.out 0).trans rfl; have hcz64_1 : w57.cell? ⟨gb212, 1, none⟩ = some (.int .i8 ((rd_T41 t208 x16_1).f1)) := (blk_cell BK212.out 1).trans rfl; have hfz64_0 := blk_frozen BK212.out 0; have hfz64_1 := blk_frozen BK212.out 1) | ((with_reducible refine gate_callee (f := 29) rfl ?_); refine goesL_ (some 46) rfl rfl Tryd.func29 (by kernel_rfl) rfl #[.pointer (some ⟨gb207, 0, none⟩), .agg #[.int .i8 ((rd_T41 t208 x16_1).f0), .int .i8 ((rd_T41 t208 x16_1).f1)], .int .i64 (Int.tmod (wrap64 (x20_2 + 1)) 4)] rfl (by (try simp only [List.map_toArray, List.map_cons, List.map_nil]); first | done | rfl | (simp only [List.length_drop, List.length_take]; rfl)) ?_; (with_reducible refine (impl_Crowd_set.calls gb207 x208000_2 ((rd_T41 t208 x16_1).f0) ((rd_T41 t208 x16_1).f1) (Int.tmod (wrap64 (x20_2 + 1)) 4) t218 w _ ?side1 ?side2 A47.out).mono ?_); (case side1 => exact ⟨(by (with_reducible repeat (first | refine blk_drewN ?_ _ | refine blk_drew ?_ | refine blk_alloc ?_ _)); refine blk_far ?_ NB207_216.out _; (with_reducible repeat (first | refine blk_drewN ?_ _ | refine blk_drew ?_ | refine blk_alloc ?_ _)); refine blk_far ?_ NB207_216.out _; (with_reducible repeat (first | refine blk_drewN ?_ _ | refine blk_drew ?_ | refine blk_alloc ?_ _)); exact BK207.out), GE207.out⟩); (case side2 => repeat (first | (with_reducible first | exact HB.out | apply below_alloc | apply pw_below_drewN | apply below_drew1 | refine below_set ?_ GE204.out | refine below_set ?_ GE205.out | refine below_set ?_ GE206.out | refine below_set ?_ GE207.out | refine below_set ?_ GE212.out | refine below_set ?_ GE216.out) | exact HB.out)); rintro e w65 ⟨rfl, hi, hb, hk⟩; refine ⟨_, rfl, ?_⟩; have n0_ := Aside0.mk (Kd.R_mono (Kd.R_keep (Kd.R_types (by (with_reducible repeat (first | apply Kd.R_alloc | apply Kd.R_drewN | apply Kd.R_drew)); exact (Kd.R_mono (Kd.R_far (p := ⟨gb216, 1, none⟩) (Kd.R_far (p := ⟨gb216, 0, none⟩) (Kd.R_mono HO_14.out (fun k_ hk => (⟨hk, hk.2⟩ : _ ∧ k_ ≠ gb216))) (fun _ hk => hk.2) (.int .i8 t214)) (fun _ hk => hk.2) (.int .i8 t215)) (fun _ h_ => h_.1))) (show (World.heap _)[gb207]? = some (.cells (mixA (Value.int .u16) [] x208000_2) 28 (0, 0)) from by (with_reducible repeat (first | refine blk_drewN ?_ _ | refine blk_drew ?_ | refine blk_alloc ?_ _)); refine blk_far ?_ NB207_216.out _; (with_reducible repeat (first | refine blk_drewN ?_ _ | refine blk_drew ?_ | refine blk_alloc ?_ _)); refine blk_far ?_ NB207_216.out _; (with_reducible repeat (first | refine blk_drewN ?_ _ | refine blk_drew ?_ | refine blk_alloc ?_ _)); exact BK207.out) (by decide)) hk (fun _ h => h.2)) (fun _ h => h.1)); have n1_ := Aside0.mk (KeepBut.blk hk (g' := gb204) (o := .cells (mixA (Value.int .u16) [] a0) 28 (0, 0)) (by (with_reducible repeat (first | refine blk_drewN ?_ _ | refine blk_drew ?_ | refine blk_alloc ?_ _)); refine blk_far ?_ NB204_216.out _; (with_reducible repeat (first | refine blk_drewN ?_ _ | refine blk_drew ?_ | refine blk_alloc ?_ _)); refine blk_far ?_ NB204_216.out _; (with_reducible repeat (first | refine blk_drewN ?_ _ | refine blk_drew ?_ | refine blk_alloc ?_ _)); exact BK204.out) NB204_207.out (by simp)); have n2_ := Aside0.mk (KeepBut.blk hk (g' := gb205) (o := .cells (mixA (Value.int .u16) [.int .i8 a1_0, .int .i8 a1_1] a1_2) 31 (0, 0)) (by (with_reducible repeat (first | refine blk_drewN ?_ _ | refine blk_drew ?_ | refine blk_alloc ?_ _)); refine blk_far ?_ NB205_216.out _; (with_reducible repeat (first | refine blk_drewN ?_ _ | refine blk_drew ?_ | refine blk_alloc ?_ _)); refine blk_far ?_ NB205_216.out _; (with_reducible repeat (first | refine blk_drewN ?_ _ | refine blk_drew ?_ | refine blk_alloc ?_ _)); exact BK205.out) NB205_207.out (by simp)); have n3_ := Aside0.mk (KeepBut.blk hk (g' := gb206) (o := .cells (mixA (Value.int .u16) [] (LA.zero 40)) 28 (0, 0)) (by (with_reducible repeat (first | refine blk_drewN ?_ _ | refine blk_drew ?_ | refine blk_alloc ?_ _)); refine blk_far ?_ NB206_216.out _; (with_reducible repeat (first | refine blk_drewN ?_ _ | refine blk_drew ?_ | refine blk_alloc ?_ _)); refine blk_far ?_ NB206_216.out _; (with_reducible repeat (first | refine blk_drewN ?_ _ | refine blk_drew ?_ | refine blk_alloc ?_ _)); exact BK206.out) NB206_207.out (by simp)); have n4_ := Aside0.mk (KeepBut.blk hk (g' := gb212) (o := .cells #[.int .i8 ((rd_T41 t208 x16_1).f0), .int .i8 ((rd_T41 t208 x16_1).f1)] 41 (0, 0)) (by (with_reducible repeat (first | refine blk_drewN ?_ _ | refine blk_drew ?_ | refine blk_alloc ?_ _)); refine blk_far ?_ NB212_216.out _; (with_reducible repeat (first | refine blk_drewN ?_ _ | refine blk_drew ?_ | refine blk_alloc ?_ _)); refine blk_far ?_ NB212_216.out _; (with_reducible repeat (first | refine blk_drewN ?_ _ | refine blk_drew ?_ | refine blk_alloc ?_ _)); exact BK212.out) NB212_207.out (by simp)); have n5_ := Aside0.mk (KeepBut.blk hk (g' := gb216) (o := .cells #[.int .i8 t214, .int .i8 t215] 41 (0, 0)) (by (with_reducible repeat (first | refine blk_drewN ?_ _ | refine blk_drew ?_ | refine blk_alloc ?_ _)); refine blk_put (cs := #[.int .i8 t214, .int .i8 0]) ?_ 1 _ rfl; (with_reducible repeat (first | refine blk_drewN ?_ _ | refine blk_drew ?_ | refine blk_alloc ?_ _)); refine blk_put (cs := #[.int .i8 0, .int .i8 0]) ?_ 0 _ rfl; (with_reducible repeat (first | refine blk_drewN ?_ _ | refine blk_drew ?_ | refine blk_alloc ?_ _)); exact BK216.out) NB216_207.out (by simp)); have n6_ := Aside0.mk (hb); have n7_ := Aside0.mk (hi.1); clear HO_14; clear BK204; clear BK205; clear BK206; clear BK212; clear BK216; clear HB; clear BK207; have HO_14 := n0_; have BK204 := n1_; have BK205 := n2_; have BK206 := n3_; have BK212 := n4_; have BK216 := n5_; have HB := n6_; have BK207 := n7_; clear n0_ n1_ n2_ n3_ n4_ n5_ n6_ n7_; (try clear hb); (try clear hb2); (try clear hk); (try clear hi)))
            go_roundg k2
            case measure => have := HK1.out; have := HK2.out; omega
            case rel => exact ⟨(wrap64 (x20_2 + 1)), (t218), (by first | rfl | (simp; done) | (simp [*]; done)), H', ⟨by have := HK1.out; have := HK2.out; omega⟩, ⟨by (with_reducible repeat (first | apply Kd.R_alloc | apply Kd.R_drewN | apply Kd.R_drew)); exact Kd.R_mono HO_14.out (fun _ hk => hk.1)⟩, ⟨pk BK204⟩, ⟨pk BK205⟩, ⟨pk BK206⟩, ⟨pk BK207⟩, ⟨pk BK212⟩, ⟨pbs HB⟩⟩
           ·rw [if_neg c46] at H
            have c46b0 : (a2 == 114) = false := beq_eq_false_iff_ne.mpr c46
            have c46b1 : (a2 != 114) = true := bne_iff_ne.mpr c46
            have HC66 := Aside0.mk H
            clear H
            go_upto_region 14 with (first | ((with_reducible refine gate_dst (N := 23) rfl ?_); refine wpList_run0 (v := .agg (mixA (Value.int .u16) [] a0)) rfl (load_mix_run (P := Tryd.prog) 28 (.tmp 3) rfl gb204 rfl (show World.rangeAt _ gb204 0 ([] ++ a0.l.map (Value.int .u16)) from mix_range (show (World.heap _)[gb204]? = some (.cells (mixA (Value.int .u16) [] a0) 28 (0, 0)) from by (with_reducible repeat (first | refine blk_drewN ?_ _ | refine blk_drew ?_ | refine blk_alloc ?_ _)); exact BK204.out)) Tryd.underlying28 rfl (by kernel_rfl) rfl) ?_; have hnb68 := NB212_204.out; have hnc68 := NB204_212.out; have hnb69 := NB212_205.out; have hnc69 := NB205_212.out; have hnb70 := NB212_206.out; have hnc70 := NB206_212.out; have hnb71 := NB212_207.out; have hnc71 := NB207_212.out; have hcz72_0 : wr.cell? ⟨gb212, 0, none⟩ = some (.int .i8 ((rd_T41 t208 x16_1).f0)) := (blk_cell BK212.out 0).trans rfl; have hcz72_1 : wr.cell? ⟨gb212, 1, none⟩ = some (.int .i8 ((rd_T41 t208 x16_1).f1)) := (blk_cell BK212.out 1).trans rfl; have hfz72_0 := blk_frozen BK212.out 0; have hfz72_1 := blk_frozen BK212.out 1) | ((with_reducible refine gate_callee (f := 57) rfl ?_); refine goesL_ (some 26) rfl rfl Tryd.func57 (by kernel_rfl) rfl #[.agg (mixA (Value.int .u16) [] a0), .agg #[.int .i8 ((rd_T41 t208 x16_1).f0), .int .i8 ((rd_T41 t208 x16_1).f1)], .int .i64 x20_2] rfl (by (try simp only [List.map_toArray, List.map_cons, List.map_nil]); first | done | rfl | (simp only [List.length_drop, List.length_take]; rfl)) ?_; (with_reducible refine (impl_Crowd_has.calls a0 ((rd_T41 t208 x16_1).f0) ((rd_T41 t208 x16_1).f1) x20_2 true _ A23.out).mono ?_); rintro e w73 ⟨rfl, hb⟩; refine ⟨_, rfl, ?_⟩; have n0_ := krb HO_14 hb; have n1_ := bkb BK204 hb; have n2_ := bkb BK205 hb; have n3_ := bkb BK206 hb; have n4_ := bkb BK207 hb; have n5_ := bkb BK212 hb; have n6_ := bst HB hb; clear HO_14; clear BK204; clear BK205; clear BK206; clear BK207; clear BK212; clear HB; have HO_14 := n0_; have BK204 := n1_; have BK205 := n2_; have BK206 := n3_; have BK207 := n4_; have BK212 := n5_; have HB := n6_; clear n0_ n1_ n2_ n3_ n4_ n5_ n6_; (try clear hb); (try clear hb2); (try clear hk); (try clear hi); have hcz74_0 : w73.cell? ⟨gb212, 0, none⟩ = some (.int .i8 ((rd_T41 t208 x16_1).f0)) := (blk_cell BK212.out 0).trans rfl; have hcz74_1 : w73.cell? ⟨gb212, 1, none⟩ = some (.int .i8 ((rd_T41 t208 x16_1).f1)) := (blk_cell BK212.out 1).trans rfl; have hfz74_0 := blk_frozen BK212.out 0; have hfz74_1 := blk_frozen BK212.out 1) | ((with_reducible refine gate_callee (f := 66) rfl ?_); refine goesL_ (some 30) rfl rfl Tryd.func66 (by kernel_rfl) rfl #[.agg #[.int .i8 ((rd_T41 t208 x16_1).f0), .int .i8 ((rd_T41 t208 x16_1).f1)], .int .i64 x20_2] rfl (by (try simp only [List.map_toArray, List.map_cons, List.map_nil]); first | done | rfl | (simp only [List.length_drop, List.length_take]; rfl)) ?_; (with_reducible refine (impl_NextSpot.calls ((rd_T41 t208 x16_1).f0) ((rd_T41 t208 x16_1).f1) x20_2 t214 t215 _ A25.out).mono ?_); rintro e w75 ⟨rfl, hb⟩; refine ⟨_, rfl, ?_⟩; have n0_ := krb HO_14 hb; have n1_ := bkb BK204 hb; have n2_ := bkb BK205 hb; have n3_ := bkb BK206 hb; have n4_ := bkb BK207 hb; have n5_ := bkb BK212 hb; have n6_ := bst HB hb; clear HO_14; clear BK204; clear BK205; clear BK206; clear BK207; clear BK212; clear HB; have HO_14 := n0_; have BK204 := n1_; have BK205 := n2_; have BK206 := n3_; have BK207 := n4_; have BK212 := n5_; have HB := n6_; clear n0_ n1_ n2_ n3_ n4_ n5_ n6_; (try clear hb); (try clear hb2); (try clear hk); (try clear hi)) | ((with_reducible refine gate_dst (N := 11) rfl ?_); refine box_event ?hg (N := 11) ?hd (cs := #[.int .i8 0, .int .i8 0]) (t := 41) ?hr ?_; (case hd => rfl); (case hg => rfl); (case hr => first | (go_simp; done) | (go_simp; rfl)); intro gb216 hg w76 hbox hb; have n0_ := Aside0.mk (Kd.R_below (Kd.R_elderB (by (with_reducible repeat (first | apply Kd.R_alloc | apply Kd.R_drewN | apply Kd.R_drew)); exact HO_14.out) gb216 (Nat.le_of_eq hg.symm)) hb); have n1_ := bkb BK204 hb; have n2_ := bkb BK205 hb; have n3_ := bkb BK206 hb; have n4_ := bkb BK207 hb; have n5_ := bkb BK212 hb; have n6_ := bst HB hb; have n7_ := Aside0.mk (hbox); have n8_ := gwl HB hg; have n9_ := gwl HB hg; have n10_ := nbl BK204 hg; have n11_ := nbg BK204 hg; have n12_ := nbl BK205 hg; have n13_ := nbg BK205 hg; have n14_ := nbl BK206 hg; have n15_ := nbg BK206 hg; have n16_ := nbl BK207 hg; have n17_ := nbg BK207 hg; have n18_ := nbl BK212 hg; have n19_ := nbg BK212 hg; clear HO_14; clear BK204; clear BK205; clear BK206; clear BK207; clear BK212; clear HB; have HO_14 := n0_; have BK204 := n1_; have BK205 := n2_; have BK206 := n3_; have BK207 := n4_; have BK212 := n5_; have HB := n6_; have BK216 := n7_; have GW216 := n8_; have GE216 := n9_; have NB204_216 := n10_; have NB216_204 := n11_; have NB205_216 := n12_; have NB216_205 := n13_; have NB206_216 := n14_; have NB216_206 := n15_; have NB207_216 := n16_; have NB216_207 := n17_; have NB212_216 := n18_; have NB216_212 := n19_; clear n0_ n1_ n2_ n3_ n4_ n5_ n6_ n7_ n8_ n9_ n10_ n11_ n12_ n13_ n14_ n15_ n16_ n17_ n18_ n19_; clear hb hbox hg; have hnb77 := NB216_204.out; have hnc77 := NB204_216.out; have hnb78 := NB216_205.out; have hnc78 := NB205_216.out; have hnb79 := NB216_206.out; have hnc79 := NB206_216.out; have hnb80 := NB216_207.out; have hnc80 := NB207_216.out; have hnb81 := NB216_212.out; have hnc81 := NB212_216.out; have hcz82_0 : w76.cell? ⟨gb216, 0, none⟩ = some (.int .i8 0) := (blk_cell BK216.out 0).trans rfl; have hcz82_1 : w76.cell? ⟨gb216, 1, none⟩ = some (.int .i8 0) := (blk_cell BK216.out 1).trans rfl; have hfz82_0 := blk_frozen BK216.out 0; have hfz82_1 := blk_frozen BK216.out 1))
            (try simp only [Act.put, List.setIfInBounds_toArray, List.set_cons_zero, List.set_cons_succ])
            go_cut [47] (fun v47 wc => ∃ (kq : Nat) (x47_65 : Bool), v47 = .bool x47_65 ∧ Aside0 (impl_Crowd_moved.j2 kq a2 x20_2 t208 (t208.length : Int) x16_1 x20_2 x47_65 a0 a1_0 a1_1 a1_2 x208000_2 ((rd_T41 t208 x16_1).f0) ((rd_T41 t208 x16_1).f1) t214 t215 = some r) ∧ Aside0 (kq ≤ k2) ∧ Aside0 (Kd.R k41 41 wc w.heap.size (fun k_ => k_ ≠ gb212 ∧ k_ ≠ gb216) (.slice (some ad211) t208.length co12) t208) ∧ Aside0 (wc.heap[gb204]? = some (.cells (mixA (Value.int .u16) [] a0) 28 (0, 0))) ∧ Aside0 (wc.heap[gb205]? = some (.cells (mixA (Value.int .u16) [.int .i8 a1_0, .int .i8 a1_1] a1_2) 31 (0, 0))) ∧ Aside0 (wc.heap[gb206]? = some (.cells (mixA (Value.int .u16) [] (LA.zero 40)) 28 (0, 0))) ∧ Aside0 (wc.heap[gb207]? = some (.cells (mixA (Value.int .u16) [] x208000_2) 28 (0, 0))) ∧ Aside0 (wc.heap[gb212]? = some (.cells #[.int .i8 ((rd_T41 t208 x16_1).f0), .int .i8 ((rd_T41 t208 x16_1).f1)] 41 (0, 0))) ∧ Aside0 (wc.heap[gb216]? = some (.cells #[.int .i8 t214, .int .i8 t215] 41 (0, 0))) ∧ Aside0 (Below w.heap.size w wc))
            case first =>
             have H := HC66.out
             clear HC66
             by_cases c83 : a2 = 102
             ·rw [if_pos c83] at H
              have c83b0 : (a2 == 102) = true := beq_iff_eq.mpr c83
              have c83b1 : (a2 != 102) = false := bne_eq_false_iff_eq.mpr c83
              clear c83
              (first | rw [c83b0] | (simp only [i64_w, i32_w]; rw [c83b0]) | skip)
              replace H := Option.bind_eq_some_iff.mp H
              obtain ⟨t219, A840, H⟩ := H
              replace H : (impl_Crowd_moved.j2 k2 a2 x20_2 t208 (t208.length : Int) x16_1 x20_2 t219 a0 a1_0 a1_1 a1_2 x208000_2 ((rd_T41 t208 x16_1).f0) ((rd_T41 t208 x16_1).f1) t214 t215) = some r := H
              have A84 := Aside0.mk A840
              clear A840
              have H' := Aside0.mk H
              clear H
              go_wp2_with (first | ((with_reducible refine gate_dst (N := 51) rfl ?_); refine wpList_run1 (v := .agg (mixA (Value.int .u16) [.int .i8 a1_0, .int .i8 a1_1] a1_2)) (by rfl) (load_mix_run (P := Tryd.prog) 31 (.tmp 4) rfl gb205 rfl (show World.rangeAt _ gb205 0 ([.int .i8 a1_0, .int .i8 a1_1] ++ a1_2.l.map (Value.int .u16)) from mix_range (show (World.heap _)[gb205]? = some (.cells (mixA (Value.int .u16) [.int .i8 a1_0, .int .i8 a1_1] a1_2) 31 (0, 0)) from by (with_reducible repeat (first | refine blk_drewN ?_ _ | refine blk_drew ?_ | refine blk_alloc ?_ _)); refine blk_far ?_ NB205_216.out _; (with_reducible repeat (first | refine blk_drewN ?_ _ | refine blk_drew ?_ | refine blk_alloc ?_ _)); refine blk_far ?_ NB205_216.out _; (with_reducible repeat (first | refine blk_drewN ?_ _ | refine blk_drew ?_ | refine blk_alloc ?_ _)); exact BK205.out)) Tryd.underlying31 rfl (by kernel_rfl) rfl) ?_; have hnb86 := NB216_204.out; have hnc86 := NB204_216.out; have hnb87 := NB216_205.out; have hnc87 := NB205_216.out; have hnb88 := NB216_206.out; have hnc88 := NB206_216.out; have hnb89 := NB216_207.out; have hnc89 := NB207_216.out; have hnb90 := NB216_212.out; have hnc90 := NB212_216.out; have hcz91_0 : w76.cell? ⟨gb216, 0, none⟩ = some (.int .i8 0) := (blk_cell BK216.out 0).trans rfl; have hcz91_1 : w76.cell? ⟨gb216, 1, none⟩ = some (.int .i8 0) := (blk_cell BK216.out 1).trans rfl; have hfz91_0 := blk_frozen BK216.out 0; have hfz91_1 := blk_frozen BK216.out 1) | (go_at_call 51; (with_reducible refine (impl_Room_isFree.calls a1_0 a1_1 a1_2 t214 t215 t219 _ A84.out).mono ?_); rintro e w92 ⟨rfl, hb⟩; have n0_ := Aside0.mk (Kd.R_below (by (with_reducible repeat (first | apply Kd.R_alloc | apply Kd.R_drewN | apply Kd.R_drew)); exact (Kd.R_mono (Kd.R_far (p := ⟨gb216, 1, none⟩) (Kd.R_far (p := ⟨gb216, 0, none⟩) (Kd.R_mono HO_14.out (fun k_ hk => (⟨hk, hk.2⟩ : _ ∧ k_ ≠ gb216))) (fun _ hk => hk.2) (.int .i8 t214)) (fun _ hk => hk.2) (.int .i8 t215)) (fun _ h_ => h_.1))) hb); have n1_ := Aside0.mk (blk_below (g := gb204) (o := .cells (mixA (Value.int .u16) [] a0) 28 (0, 0)) (by (with_reducible repeat (first | refine blk_drewN ?_ _ | refine blk_drew ?_ | refine blk_alloc ?_ _)); refine blk_far ?_ NB204_216.out _; (with_reducible repeat (first | refine blk_drewN ?_ _ | refine blk_drew ?_ | refine blk_alloc ?_ _)); refine blk_far ?_ NB204_216.out _; (with_reducible repeat (first | refine blk_drewN ?_ _ | refine blk_drew ?_ | refine blk_alloc ?_ _)); exact BK204.out) hb); have n2_ := Aside0.mk (blk_below (g := gb205) (o := .cells (mixA (Value.int .u16) [.int .i8 a1_0, .int .i8 a1_1] a1_2) 31 (0, 0)) (by (with_reducible repeat (first | refine blk_drewN ?_ _ | refine blk_drew ?_ | refine blk_alloc ?_ _)); refine blk_far ?_ NB205_216.out _; (with_reducible repeat (first | refine blk_drewN ?_ _ | refine blk_drew ?_ | refine blk_alloc ?_ _)); refine blk_far ?_ NB205_216.out _; (with_reducible repeat (first | refine blk_drewN ?_ _ | refine blk_drew ?_ | refine blk_alloc ?_ _)); exact BK205.out) hb); have n3_ := Aside0.mk (blk_below (g := gb206) (o := .cells (mixA (Value.int .u16) [] (LA.zero 40)) 28 (0, 0)) (by (with_reducible repeat (first | refine blk_drewN ?_ _ | refine blk_drew ?_ | refine blk_alloc ?_ _)); refine blk_far ?_ NB206_216.out _; (with_reducible repeat (first | refine blk_drewN ?_ _ | refine blk_drew ?_ | refine blk_alloc ?_ _)); refine blk_far ?_ NB206_216.out _; (with_reducible repeat (first | refine blk_drewN ?_ _ | refine blk_drew ?_ | refine blk_alloc ?_ _)); exact BK206.out) hb); have n4_ := Aside0.mk (blk_below (g := gb207) (o := .cells (mixA (Value.int .u16) [] x208000_2) 28 (0, 0)) (by (with_reducible repeat (first | refine blk_drewN ?_ _ | refine blk_drew ?_ | refine blk_alloc ?_ _)); refine blk_far ?_ NB207_216.out _; (with_reducible repeat (first | refine blk_drewN ?_ _ | refine blk_drew ?_ | refine blk_alloc ?_ _)); refine blk_far ?_ NB207_216.out _; (with_reducible repeat (first | refine blk_drewN ?_ _ | refine blk_drew ?_ | refine blk_alloc ?_ _)); exact BK207.out) hb); have n5_ := Aside0.mk (blk_below (g := gb212) (o := .cells #[.int .i8 ((rd_T41 t208 x16_1).f0), .int .i8 ((rd_T41 t208 x16_1).f1)] 41 (0, 0)) (by (with_reducible repeat (first | refine blk_drewN ?_ _ | refine blk_drew ?_ | refine blk_alloc ?_ _)); refine blk_far ?_ NB212_216.out _; (with_reducible repeat (first | refine blk_drewN ?_ _ | refine blk_drew ?_ | refine blk_alloc ?_ _)); refine blk_far ?_ NB212_216.out _; (with_reducible repeat (first | refine blk_drewN ?_ _ | refine blk_drew ?_ | refine blk_alloc ?_ _)); exact BK212.out) hb); have n6_ := Aside0.mk (blk_below (g := gb216) (o := .cells #[.int .i8 t214, .int .i8 t215] 41 (0, 0)) (by (with_reducible repeat (first | refine blk_drewN ?_ _ | refine blk_drew ?_ | refine blk_alloc ?_ _)); refine blk_put (cs := #[.int .i8 t214, .int .i8 0]) ?_ 1 _ rfl; (with_reducible repeat (first | refine blk_drewN ?_ _ | refine blk_drew ?_ | refine blk_alloc ?_ _)); refine blk_put (cs := #[.int .i8 0, .int .i8 0]) ?_ 0 _ rfl; (with_reducible repeat (first | refine blk_drewN ?_ _ | refine blk_drew ?_ | refine blk_alloc ?_ _)); exact BK216.out) hb); have n7_ := bst HB hb; clear HO_14; clear BK204; clear BK205; clear BK206; clear BK207; clear BK212; clear BK216; clear HB; have HO_14 := n0_; have BK204 := n1_; have BK205 := n2_; have BK206 := n3_; have BK207 := n4_; have BK212 := n5_; have BK216 := n6_; have HB := n7_; clear n0_ n1_ n2_ n3_ n4_ n5_ n6_ n7_; (try clear hb); (try clear hb2); (try clear hk); (try clear hi)))
              go_meet
              case rel => exact ⟨_, (t219), (by first | rfl | (simp; done) | (simp [*]; done)), H', ⟨by have := HK1.out; have := HK2.out; first | omega | exact Nat.le_refl _⟩, ⟨by (with_reducible repeat (first | apply Kd.R_alloc | apply Kd.R_drewN | apply Kd.R_drew)); exact HO_14.out⟩, ⟨pk BK204⟩, ⟨pk BK205⟩, ⟨pk BK206⟩, ⟨pk BK207⟩, ⟨pk BK212⟩, ⟨pk BK216⟩, ⟨pbs HB⟩⟩
             ·rw [if_neg c83] at H
              have c83b0 : (a2 == 102) = false := beq_eq_false_iff_ne.mpr c83
              have c83b1 : (a2 != 102) = true := bne_iff_ne.mpr c83
              (first | rw [c83b0] | (simp only [i64_w, i32_w]; rw [c83b0]) | skip)
              have H' := Aside0.mk H
              clear H
              go_wp2
              go_meet
              case rel => exact ⟨_, (false), (by first | rfl | (simp; done) | (simp [*]; done)), H', ⟨by have := HK1.out; have := HK2.out; first | omega | exact Nat.le_refl _⟩, ⟨by (with_reducible repeat (first | apply Kd.R_alloc | apply Kd.R_drewN | apply Kd.R_drew)); exact Kd.R_mono (Kd.R_far (p := ⟨gb216, 1, none⟩) (Kd.R_far (p := ⟨gb216, 0, none⟩) (Kd.R_mono HO_14.out (fun k_ hk => (⟨hk, hk.2⟩ : _ ∧ k_ ≠ gb216))) (fun _ hk => hk.2) (.int .i8 t214)) (fun _ hk => hk.2) (.int .i8 t215)) (fun _ hk => ⟨hk.1.1, hk.1.2⟩)⟩, ⟨by (with_reducible repeat (first | refine blk_drewN ?_ _ | refine blk_drew ?_ | refine blk_alloc ?_ _)); refine blk_far ?_ NB204_216.out _; (with_reducible repeat (first | refine blk_drewN ?_ _ | refine blk_drew ?_ | refine blk_alloc ?_ _)); refine blk_far ?_ NB204_216.out _; (with_reducible repeat (first | refine blk_drewN ?_ _ | refine blk_drew ?_ | refine blk_alloc ?_ _)); exact BK204.out⟩, ⟨by (with_reducible repeat (first | refine blk_drewN ?_ _ | refine blk_drew ?_ | refine blk_alloc ?_ _)); refine blk_far ?_ NB205_216.out _; (with_reducible repeat (first | refine blk_drewN ?_ _ | refine blk_drew ?_ | refine blk_alloc ?_ _)); refine blk_far ?_ NB205_216.out _; (with_reducible repeat (first | refine blk_drewN ?_ _ | refine blk_drew ?_ | refine blk_alloc ?_ _)); exact BK205.out⟩, ⟨by (with_reducible repeat (first | refine blk_drewN ?_ _ | refine blk_drew ?_ | refine blk_alloc ?_ _)); refine blk_far ?_ NB206_216.out _; (with_reducible repeat (first | refine blk_drewN ?_ _ | refine blk_drew ?_ | refine blk_alloc ?_ _)); refine blk_far ?_ NB206_216.out _; (with_reducible repeat (first | refine blk_drewN ?_ _ | refine blk_drew ?_ | refine blk_alloc ?_ _)); exact BK206.out⟩, ⟨by (with_reducible repeat (first | refine blk_drewN ?_ _ | refine blk_drew ?_ | refine blk_alloc ?_ _)); refine blk_far ?_ NB207_216.out _; (with_reducible repeat (first | refine blk_drewN ?_ _ | refine blk_drew ?_ | refine blk_alloc ?_ _)); refine blk_far ?_ NB207_216.out _; (with_reducible repeat (first | refine blk_drewN ?_ _ | refine blk_drew ?_ | refine blk_alloc ?_ _)); exact BK207.out⟩, ⟨by (with_reducible repeat (first | refine blk_drewN ?_ _ | refine blk_drew ?_ | refine blk_alloc ?_ _)); refine blk_far ?_ NB212_216.out _; (with_reducible repeat (first | refine blk_drewN ?_ _ | refine blk_drew ?_ | refine blk_alloc ?_ _)); refine blk_far ?_ NB212_216.out _; (with_reducible repeat (first | refine blk_drewN ?_ _ | refine blk_drew ?_ | refine blk_alloc ?_ _)); exact BK212.out⟩, ⟨by (with_reducible repeat (first | refine blk_drewN ?_ _ | refine blk_drew ?_ | refine blk_alloc ?_ _)); refine blk_put (cs := #[.int .i8 t214, .int .i8 0]) ?_ 1 _ rfl; (with_reducible repeat (first | refine blk_drewN ?_ _ | refine blk_drew ?_ | refine blk_alloc ?_ _)); refine blk_put (cs := #[.int .i8 0, .int .i8 0]) ?_ 0 _ rfl; (with_reducible repeat (first | refine blk_drewN ?_ _ | refine blk_drew ?_ | refine blk_alloc ?_ _)); exact BK216.out⟩, ⟨pbs HB⟩⟩
            case rest =>
             clear HC66
             try clear c1
             try clear c2
             try clear p2
             try clear q2
             try clear hx2
             try clear c3
             try clear c4
             try clear c5
             try clear c6
             try clear p6
             try clear c7
             try clear c8
             try clear c9
             try clear c13
             try clear c13b0
             try clear c14
             try clear c14b0
             try clear c15
             try clear c15b0
             try clear c17
             try clear c18
             try clear c19
             try clear c20
             try clear p21
             try clear q21
             try clear hx21
             try clear c22
             try clear c22b0
             try clear c24
             try clear c26
             try clear c26b0
             try clear c26b1
             try clear c28
             try clear c29
             try clear c30
             try clear c31
             try clear c32
             try clear c38
             try clear c39
             try clear c40
             try clear c41
             try clear c42
             try clear c46
             try clear c46b0
             try clear c46b1
             try clear c49
             try clear c50
             try clear c51
             try clear c52
             try clear c53
             try clear c57
             try clear c58
             try clear c59
             try clear c60
             try clear c61
             try clear c62
             try clear p64
             try clear c66
             try clear c68
             try clear c69
             try clear c70
             try clear c71
             try clear c77
             try clear c78
             try clear c79
             try clear c80
             try clear c81
             try clear c83
             try clear c83b0
             try clear c83b1
             try clear c86
             try clear c87
             try clear c88
             try clear c89
             try clear c90
             try clear hcz21_0
             try clear hcz21_1
             try clear hcz33_0
             try clear hcz33_1
             try clear hcz35_0
             try clear hcz35_1
             try clear hcz43_0
             try clear hcz43_1
             try clear hcz44_0
             try clear hcz44_1
             try clear hcz53_0
             try clear hcz53_1
             try clear hcz55_0
             try clear hcz55_1
             try clear hcz63_0
             try clear hcz63_1
             try clear hcz64_0
             try clear hcz64_1
             try clear hcz72_0
             try clear hcz72_1
             try clear hcz74_0
             try clear hcz74_1
             try clear hcz82_0
             try clear hcz82_1
             try clear hcz91_0
             try clear hcz91_1
             try clear hfz21_0
             try clear hfz21_1
             try clear hfz33_0
             try clear hfz33_1
             try clear hfz35_0
             try clear hfz35_1
             try clear hfz43_0
             try clear hfz43_1
             try clear hfz44_0
             try clear hfz44_1
             try clear hfz53_0
             try clear hfz53_1
             try clear hfz55_0
             try clear hfz55_1
             try clear hfz63_0
             try clear hfz63_1
             try clear hfz64_0
             try clear hfz64_1
             try clear hfz72_0
             try clear hfz72_1
             try clear hfz74_0
             try clear hfz74_1
             try clear hfz82_0
             try clear hfz82_1
             try clear hfz91_0
             try clear hfz91_1
             try clear hx211_0
             try clear hx211_1
             try clear p2
             try clear p21
             try clear p211
             try clear q2
             try clear q21
             try clear q211
             obtain ⟨kq, x47_65, rfl, HA, HJ65, HO_14, BK204, BK205, BK206, BK207, BK212, BK216, HB⟩ := hcut
             cases kq with
             | zero => exact absurd HA.out (by simp [impl_Crowd_moved.j2])
             | succ kj65 =>
              have H := HA.out
              clear HA
              simp only [impl_Crowd_moved.j2] at H
              by_cases c93 : x47_65 = true
              ·subst c93
               have H1 : ((impl_Crowd_set.f x208000_2 t214 t215 x20_2).bind fun t220 => (impl_Crowd_moved.l1 kj65 a2 t208 (t208.length : Int) x16_1 (wrap64 (x20_2 + 1)) a0 a1_0 a1_1 a1_2 t220 ((rd_T41 t208 x16_1).f0) ((rd_T41 t208 x16_1).f1))) = some r := by rw [if_pos rfl] at H; exact H
               clear H
               have H := H1
               clear H1
               replace H := Option.bind_eq_some_iff.mp H
               obtain ⟨t220, A940, H⟩ := H
               replace H : (impl_Crowd_moved.l1 kj65 a2 t208 (t208.length : Int) x16_1 (wrap64 (x20_2 + 1)) a0 a1_0 a1_1 a1_2 t220 ((rd_T41 t208 x16_1).f0) ((rd_T41 t208 x16_1).f1)) = some r := H
               have A94 := Aside0.mk A940
               clear A940
               have H' := Aside0.mk H
               clear H
               have hnb95 := NB216_204.out
               have hnc95 := NB204_216.out
               have hnb96 := NB216_205.out
               have hnc96 := NB205_216.out
               have hnb97 := NB216_206.out
               have hnc97 := NB206_216.out
               have hnb98 := NB216_207.out
               have hnc98 := NB207_216.out
               have hnb99 := NB216_212.out
               have hnc99 := NB212_216.out
               have hcz100_0 : wc.cell? ⟨gb216, 0, none⟩ = some (.int .i8 t214) := bc_ BK216.out 0
               have hcz100_1 : wc.cell? ⟨gb216, 1, none⟩ = some (.int .i8 t215) := bc_ BK216.out 1
               have hfz100_0 := blk_frozen BK216.out 0
               have hfz100_1 := blk_frozen BK216.out 1
               go_wp2_with (first | ((with_reducible refine gate_callee (f := 29) rfl ?_); refine goesL_ (some 57) rfl rfl Tryd.func29 (by kernel_rfl) rfl #[.pointer (some ⟨gb207, 0, none⟩), .agg #[.int .i8 t214, .int .i8 t215], .int .i64 x20_2] rfl (by (try simp only [List.map_toArray, List.map_cons, List.map_nil]); first | done | rfl | (simp only [List.length_drop, List.length_take]; rfl)) ?_; (with_reducible refine (impl_Crowd_set.calls gb207 x208000_2 t214 t215 x20_2 t220 w _ ?side1 ?side2 A94.out).mono ?_); (case side1 => exact ⟨(pk BK207), GE207.out⟩); (case side2 => repeat (first | (with_reducible first | exact HB.out | apply below_alloc | apply pw_below_drewN | apply below_drew1 | refine below_set ?_ GE204.out | refine below_set ?_ GE205.out | refine below_set ?_ GE206.out | refine below_set ?_ GE207.out | refine below_set ?_ GE212.out | refine below_set ?_ GE216.out) | exact HB.out)); rintro e w101 ⟨rfl, hi, hb, hk⟩; refine ⟨_, rfl, ?_⟩; have n0_ := Aside0.mk (Kd.R_mono (Kd.R_keep (Kd.R_types (by (with_reducible repeat (first | apply Kd.R_alloc | apply Kd.R_drewN | apply Kd.R_drew)); exact HO_14.out) (pk BK207) (by decide)) hk (fun _ h => h.2)) (fun _ h => h.1)); have n1_ := Aside0.mk (KeepBut.blk hk (g' := gb204) (o := .cells (mixA (Value.int .u16) [] a0) 28 (0, 0)) (pk BK204) NB204_207.out (by simp)); have n2_ := Aside0.mk (KeepBut.blk hk (g' := gb205) (o := .cells (mixA (Value.int .u16) [.int .i8 a1_0, .int .i8 a1_1] a1_2) 31 (0, 0)) (pk BK205) NB205_207.out (by simp)); have n3_ := Aside0.mk (KeepBut.blk hk (g' := gb206) (o := .cells (mixA (Value.int .u16) [] (LA.zero 40)) 28 (0, 0)) (pk BK206) NB206_207.out (by simp)); have n4_ := Aside0.mk (KeepBut.blk hk (g' := gb212) (o := .cells #[.int .i8 ((rd_T41 t208 x16_1).f0), .int .i8 ((rd_T41 t208 x16_1).f1)] 41 (0, 0)) (pk BK212) NB212_207.out (by simp)); have n5_ := Aside0.mk (KeepBut.blk hk (g' := gb216) (o := .cells #[.int .i8 t214, .int .i8 t215] 41 (0, 0)) (pk BK216) NB216_207.out (by simp)); have n6_ := Aside0.mk (hb); have n7_ := Aside0.mk (hi.1); clear HO_14; clear BK204; clear BK205; clear BK206; clear BK212; clear BK216; clear HB; clear BK207; have HO_14 := n0_; have BK204 := n1_; have BK205 := n2_; have BK206 := n3_; have BK212 := n4_; have BK216 := n5_; have HB := n6_; have BK207 := n7_; clear n0_ n1_ n2_ n3_ n4_ n5_ n6_ n7_; (try clear hb); (try clear hb2); (try clear hk); (try clear hi)))
               go_roundg kj65
               case measure => have := HK1.out; have := HK2.out; have := HJ65.out; omega
               case rel => exact ⟨(wrap64 (x20_2 + 1)), (t220), (by first | rfl | (simp; done) | (simp [*]; done)), H', ⟨by have := HK1.out; have := HK2.out; have := HJ65.out; omega⟩, ⟨by (with_reducible repeat (first | apply Kd.R_alloc | apply Kd.R_drewN | apply Kd.R_drew)); exact Kd.R_mono HO_14.out (fun _ hk => hk.1)⟩, ⟨pk BK204⟩, ⟨pk BK205⟩, ⟨pk BK206⟩, ⟨pk BK207⟩, ⟨pk BK212⟩, ⟨pbs HB⟩⟩
              ·replace c93 := Bool.eq_false_iff.mpr c93
               subst c93
               have H1 : (if a2 = 98 then ((impl_Room_isFree.f a1_0 a1_1 a1_2 t214 t215).bind fun t221 => (if t221 = true then (impl_Crowd_moved.l1 kj65 a2 t208 (t208.length : Int) x16_1 (wrap64 (x20_2 + 1)) a0 a1_0 a1_1 a1_2 x208000_2 ((rd_T41 t208 x16_1).f0) ((rd_T41 t208 x16_1).f1)) else ((impl_Crowd_set.f x208000_2 ((rd_T41 t208 x16_1).f0) ((rd_T41 t208 x16_1).f1) x20_2).bind fun t222 => (impl_Crowd_moved.l1 kj65 a2 t208 (t208.length : Int) x16_1 (wrap64 (x20_2 + 1)) a0 a1_0 a1_1 a1_2 t222 ((rd_T41 t208 x16_1).f0) ((rd_T41 t208 x16_1).f1))))) else (impl_Crowd_moved.l1 kj65 a2 t208 (t208.length : Int) x16_1 (wrap64 (x20_2 + 1)) a0 a1_0 a1_1 a1_2 x208000_2 ((rd_T41 t208 x16_1).f0) ((rd_T41 t208 x16_1).f1))) = some r := by rw [if_neg (show ¬ (false = true) by decide)] at H; exact H
               clear H
               have H := H1
               clear H1
               by_cases c102 : a2 = 98
               ·rw [if_pos c102] at H
                have c102b0 : (a2 == 98) = true := beq_iff_eq.mpr c102
                have c102b1 : (a2 != 98) = false := bne_eq_false_iff_eq.mpr c102
                clear c102
                replace H := Option.bind_eq_some_iff.mp H
                obtain ⟨t221, A1030, H⟩ := H
                replace H : (if t221 = true then (impl_Crowd_moved.l1 kj65 a2 t208 (t208.length : Int) x16_1 (wrap64 (x20_2 + 1)) a0 a1_0 a1_1 a1_2 x208000_2 ((rd_T41 t208 x16_1).f0) ((rd_T41 t208 x16_1).f1)) else ((impl_Crowd_set.f x208000_2 ((rd_T41 t208 x16_1).f0) ((rd_T41 t208 x16_1).f1) x20_2).bind fun t222 => (impl_Crowd_moved.l1 kj65 a2 t208 (t208.length : Int) x16_1 (wrap64 (x20_2 + 1)) a0 a1_0 a1_1 a1_2 t222 ((rd_T41 t208 x16_1).f0) ((rd_T41 t208 x16_1).f1)))) = some r := H
                have A103 := Aside0.mk A1030
                clear A1030
                by_cases c104 : t221 = true
                ·subst c104
                 have H1 : (impl_Crowd_moved.l1 kj65 a2 t208 (t208.length : Int) x16_1 (wrap64 (x20_2 + 1)) a0 a1_0 a1_1 a1_2 x208000_2 ((rd_T41 t208 x16_1).f0) ((rd_T41 t208 x16_1).f1)) = some r := by rw [if_pos rfl] at H; exact H
                 clear H
                 have H := H1
                 clear H1
                 have H' := Aside0.mk H
                 clear H
                 go_wp2_with (first | ((with_reducible refine gate_dst (N := 62) rfl ?_); refine wpList_run1 (v := .agg (mixA (Value.int .u16) [.int .i8 a1_0, .int .i8 a1_1] a1_2)) (by rfl) (load_mix_run (P := Tryd.prog) 31 (.tmp 4) rfl gb205 rfl (show World.rangeAt _ gb205 0 ([.int .i8 a1_0, .int .i8 a1_1] ++ a1_2.l.map (Value.int .u16)) from mix_range (show (World.heap _)[gb205]? = some (.cells (mixA (Value.int .u16) [.int .i8 a1_0, .int .i8 a1_1] a1_2) 31 (0, 0)) from by (with_reducible repeat (first | refine blk_drewN ?_ _ | refine blk_drew ?_ | refine blk_alloc ?_ _)); exact BK205.out)) Tryd.underlying31 rfl (by kernel_rfl) rfl) ?_; have hnb106 := NB216_204.out; have hnc106 := NB204_216.out; have hnb107 := NB216_205.out; have hnc107 := NB205_216.out; have hnb108 := NB216_206.out; have hnc108 := NB206_216.out; have hnb109 := NB216_207.out; have hnc109 := NB207_216.out; have hnb110 := NB216_212.out; have hnc110 := NB212_216.out; have hcz111_0 : wc.cell? ⟨gb216, 0, none⟩ = some (.int .i8 t214) := (blk_cell BK216.out 0).trans rfl; have hcz111_1 : wc.cell? ⟨gb216, 1, none⟩ = some (.int .i8 t215) := (blk_cell BK216.out 1).trans rfl; have hfz111_0 := blk_frozen BK216.out 0; have hfz111_1 := blk_frozen BK216.out 1) | (go_at_call 51; (with_reducible refine (impl_Room_isFree.calls a1_0 a1_1 a1_2 t214 t215 true _ A103.out).mono ?_); rintro e w112 ⟨rfl, hb⟩; have n0_ := krb HO_14 hb; have n1_ := bkb BK204 hb; have n2_ := bkb BK205 hb; have n3_ := bkb BK206 hb; have n4_ := bkb BK207 hb; have n5_ := bkb BK212 hb; have n6_ := bkb BK216 hb; have n7_ := bst HB hb; clear HO_14; clear BK204; clear BK205; clear BK206; clear BK207; clear BK212; clear BK216; clear HB; have HO_14 := n0_; have BK204 := n1_; have BK205 := n2_; have BK206 := n3_; have BK207 := n4_; have BK212 := n5_; have BK216 := n6_; have HB := n7_; clear n0_ n1_ n2_ n3_ n4_ n5_ n6_ n7_; (try clear hb); (try clear hb2); (try clear hk); (try clear hi)))
                 go_roundg kj65
                 case measure => have := HK1.out; have := HK2.out; have := HJ65.out; omega
                 case rel => exact ⟨(wrap64 (x20_2 + 1)), (x208000_2), (by first | rfl | (simp; done) | (simp [*]; done)), H', ⟨by have := HK1.out; have := HK2.out; have := HJ65.out; omega⟩, ⟨by (with_reducible repeat (first | apply Kd.R_alloc | apply Kd.R_drewN | apply Kd.R_drew)); exact Kd.R_mono HO_14.out (fun _ hk => hk.1)⟩, ⟨pk BK204⟩, ⟨pk BK205⟩, ⟨pk BK206⟩, ⟨pk BK207⟩, ⟨pk BK212⟩, ⟨pbs HB⟩⟩
                ·replace c104 := Bool.eq_false_iff.mpr c104
                 subst c104
                 have H1 : ((impl_Crowd_set.f x208000_2 ((rd_T41 t208 x16_1).f0) ((rd_T41 t208 x16_1).f1) x20_2).bind fun t222 => (impl_Crowd_moved.l1 kj65 a2 t208 (t208.length : Int) x16_1 (wrap64 (x20_2 + 1)) a0 a1_0 a1_1 a1_2 t222 ((rd_T41 t208 x16_1).f0) ((rd_T41 t208 x16_1).f1))) = some r := by rw [if_neg (show ¬ (false = true) by decide)] at H; exact H
                 clear H
                 have H := H1
                 clear H1
                 replace H := Option.bind_eq_some_iff.mp H
                 obtain ⟨t222, A1130, H⟩ := H
                 replace H : (impl_Crowd_moved.l1 kj65 a2 t208 (t208.length : Int) x16_1 (wrap64 (x20_2 + 1)) a0 a1_0 a1_1 a1_2 t222 ((rd_T41 t208 x16_1).f0) ((rd_T41 t208 x16_1).f1)) = some r := H
                 have A113 := Aside0.mk A1130
                 clear A1130
                 have H' := Aside0.mk H
                 clear H
                 go_wp2_with (first | ((with_reducible refine gate_dst (N := 62) rfl ?_); refine wpList_run1 (v := .agg (mixA (Value.int .u16) [.int .i8 a1_0, .int .i8 a1_1] a1_2)) (by rfl) (load_mix_run (P := Tryd.prog) 31 (.tmp 4) rfl gb205 rfl (show World.rangeAt _ gb205 0 ([.int .i8 a1_0, .int .i8 a1_1] ++ a1_2.l.map (Value.int .u16)) from mix_range (show (World.heap _)[gb205]? = some (.cells (mixA (Value.int .u16) [.int .i8 a1_0, .int .i8 a1_1] a1_2) 31 (0, 0)) from by (with_reducible repeat (first | refine blk_drewN ?_ _ | refine blk_drew ?_ | refine blk_alloc ?_ _)); exact BK205.out)) Tryd.underlying31 rfl (by kernel_rfl) rfl) ?_; have hnb115 := NB216_204.out; have hnc115 := NB204_216.out; have hnb116 := NB216_205.out; have hnc116 := NB205_216.out; have hnb117 := NB216_206.out; have hnc117 := NB206_216.out; have hnb118 := NB216_207.out; have hnc118 := NB207_216.out; have hnb119 := NB216_212.out; have hnc119 := NB212_216.out; have hcz120_0 : wc.cell? ⟨gb216, 0, none⟩ = some (.int .i8 t214) := (blk_cell BK216.out 0).trans rfl; have hcz120_1 : wc.cell? ⟨gb216, 1, none⟩ = some (.int .i8 t215) := (blk_cell BK216.out 1).trans rfl; have hfz120_0 := blk_frozen BK216.out 0; have hfz120_1 := blk_frozen BK216.out 1) | (go_at_call 51; (with_reducible refine (impl_Room_isFree.calls a1_0 a1_1 a1_2 t214 t215 false _ A103.out).mono ?_); rintro e w121 ⟨rfl, hb⟩; have n0_ := krb HO_14 hb; have n1_ := bkb BK204 hb; have n2_ := bkb BK205 hb; have n3_ := bkb BK206 hb; have n4_ := bkb BK207 hb; have n5_ := bkb BK212 hb; have n6_ := bkb BK216 hb; have n7_ := bst HB hb; clear HO_14; clear BK204; clear BK205; clear BK206; clear BK207; clear BK212; clear BK216; clear HB; have HO_14 := n0_; have BK204 := n1_; have BK205 := n2_; have BK206 := n3_; have BK207 := n4_; have BK212 := n5_; have BK216 := n6_; have HB := n7_; clear n0_ n1_ n2_ n3_ n4_ n5_ n6_ n7_; (try clear hb); (try clear hb2); (try clear hk); (try clear hi); have hnb122 := NB212_204.out; have hnc122 := NB204_212.out; have hnb123 := NB212_205.out; have hnc123 := NB205_212.out; have hnb124 := NB212_206.out; have hnc124 := NB206_212.out; have hnb125 := NB212_207.out; have hnc125 := NB207_212.out; have hcz126_0 : w121.cell? ⟨gb212, 0, none⟩ = some (.int .i8 ((rd_T41 t208 x16_1).f0)) := (blk_cell BK212.out 0).trans rfl; have hcz126_1 : w121.cell? ⟨gb212, 1, none⟩ = some (.int .i8 ((rd_T41 t208 x16_1).f1)) := (blk_cell BK212.out 1).trans rfl; have hfz126_0 := blk_frozen BK212.out 0; have hfz126_1 := blk_frozen BK212.out 1) | ((with_reducible refine gate_callee (f := 29) rfl ?_); refine goesL_ (some 69) rfl rfl Tryd.func29 (by kernel_rfl) rfl #[.pointer (some ⟨gb207, 0, none⟩), .agg #[.int .i8 ((rd_T41 t208 x16_1).f0), .int .i8 ((rd_T41 t208 x16_1).f1)], .int .i64 x20_2] rfl (by (try simp only [List.map_toArray, List.map_cons, List.map_nil]); first | done | rfl | (simp only [List.length_drop, List.length_take]; rfl)) ?_; (with_reducible refine (impl_Crowd_set.calls gb207 x208000_2 ((rd_T41 t208 x16_1).f0) ((rd_T41 t208 x16_1).f1) x20_2 t222 w _ ?side1 ?side2 A113.out).mono ?_); (case side1 => exact ⟨(pk BK207), GE207.out⟩); (case side2 => repeat (first | (with_reducible first | exact HB.out | apply below_alloc | apply pw_below_drewN | apply below_drew1 | refine below_set ?_ GE204.out | refine below_set ?_ GE205.out | refine below_set ?_ GE206.out | refine below_set ?_ GE207.out | refine below_set ?_ GE212.out | refine below_set ?_ GE216.out) | exact HB.out)); rintro e w127 ⟨rfl, hi, hb, hk⟩; refine ⟨_, rfl, ?_⟩; have n0_ := Aside0.mk (Kd.R_mono (Kd.R_keep (Kd.R_types (by (with_reducible repeat (first | apply Kd.R_alloc | apply Kd.R_drewN | apply Kd.R_drew)); exact HO_14.out) (pk BK207) (by decide)) hk (fun _ h => h.2)) (fun _ h => h.1)); have n1_ := Aside0.mk (KeepBut.blk hk (g' := gb204) (o := .cells (mixA (Value.int .u16) [] a0) 28 (0, 0)) (pk BK204) NB204_207.out (by simp)); have n2_ := Aside0.mk (KeepBut.blk hk (g' := gb205) (o := .cells (mixA (Value.int .u16) [.int .i8 a1_0, .int .i8 a1_1] a1_2) 31 (0, 0)) (pk BK205) NB205_207.out (by simp)); have n3_ := Aside0.mk (KeepBut.blk hk (g' := gb206) (o := .cells (mixA (Value.int .u16) [] (LA.zero 40)) 28 (0, 0)) (pk BK206) NB206_207.out (by simp)); have n4_ := Aside0.mk (KeepBut.blk hk (g' := gb212) (o := .cells #[.int .i8 ((rd_T41 t208 x16_1).f0), .int .i8 ((rd_T41 t208 x16_1).f1)] 41 (0, 0)) (pk BK212) NB212_207.out (by simp)); have n5_ := Aside0.mk (KeepBut.blk hk (g' := gb216) (o := .cells #[.int .i8 t214, .int .i8 t215] 41 (0, 0)) (pk BK216) NB216_207.out (by simp)); have n6_ := Aside0.mk (hb); have n7_ := Aside0.mk (hi.1); clear HO_14; clear BK204; clear BK205; clear BK206; clear BK212; clear BK216; clear HB; clear BK207; have HO_14 := n0_; have BK204 := n1_; have BK205 := n2_; have BK206 := n3_; have BK212 := n4_; have BK216 := n5_; have HB := n6_; have BK207 := n7_; clear n0_ n1_ n2_ n3_ n4_ n5_ n6_ n7_; (try clear hb); (try clear hb2); (try clear hk); (try clear hi)))
                 go_roundg kj65
                 case measure => have := HK1.out; have := HK2.out; have := HJ65.out; omega
                 case rel => exact ⟨(wrap64 (x20_2 + 1)), (t222), (by first | rfl | (simp; done) | (simp [*]; done)), H', ⟨by have := HK1.out; have := HK2.out; have := HJ65.out; omega⟩, ⟨by (with_reducible repeat (first | apply Kd.R_alloc | apply Kd.R_drewN | apply Kd.R_drew)); exact Kd.R_mono HO_14.out (fun _ hk => hk.1)⟩, ⟨pk BK204⟩, ⟨pk BK205⟩, ⟨pk BK206⟩, ⟨pk BK207⟩, ⟨pk BK212⟩, ⟨pbs HB⟩⟩
               ·rw [if_neg c102] at H
                have c102b0 : (a2 == 98) = false := beq_eq_false_iff_ne.mpr c102
                have c102b1 : (a2 != 98) = true := bne_iff_ne.mpr c102
                have H' := Aside0.mk H
                clear H
                go_wp2
                go_roundg kj65
                case measure => have := HK1.out; have := HK2.out; have := HJ65.out; omega
                case rel => exact ⟨(wrap64 (x20_2 + 1)), (x208000_2), (by first | rfl | (simp; done) | (simp [*]; done)), H', ⟨by have := HK1.out; have := HK2.out; have := HJ65.out; omega⟩, ⟨by (with_reducible repeat (first | apply Kd.R_alloc | apply Kd.R_drewN | apply Kd.R_drew)); exact Kd.R_mono HO_14.out (fun _ hk => hk.1)⟩, ⟨pk BK204⟩, ⟨pk BK205⟩, ⟨pk BK206⟩, ⟨pk BK207⟩, ⟨pk BK212⟩, ⟨pbs HB⟩⟩
         ·replace c24 := Bool.eq_false_iff.mpr c24
          subst c24
          have H1 : (impl_Crowd_moved.l1 k2 a2 t208 (t208.length : Int) x16_1 (wrap64 (x20_2 + 1)) a0 a1_0 a1_1 a1_2 x208000_2 ((rd_T41 t208 x16_1).f0) ((rd_T41 t208 x16_1).f1)) = some r := by rw [if_neg (show ¬ (false = true) by decide)] at H; exact H
          clear H
          have H := H1
          clear H1
          have H' := Aside0.mk H
          clear H
          go_wp2_with (first | ((with_reducible refine gate_dst (N := 23) rfl ?_); refine wpList_run0 (v := .agg (mixA (Value.int .u16) [] a0)) rfl (load_mix_run (P := Tryd.prog) 28 (.tmp 3) rfl gb204 rfl (show World.rangeAt _ gb204 0 ([] ++ a0.l.map (Value.int .u16)) from mix_range (show (World.heap _)[gb204]? = some (.cells (mixA (Value.int .u16) [] a0) 28 (0, 0)) from by (with_reducible repeat (first | refine blk_drewN ?_ _ | refine blk_drew ?_ | refine blk_alloc ?_ _)); exact BK204.out)) Tryd.underlying28 rfl (by kernel_rfl) rfl) ?_; have hnb129 := NB212_204.out; have hnc129 := NB204_212.out; have hnb130 := NB212_205.out; have hnc130 := NB205_212.out; have hnb131 := NB212_206.out; have hnc131 := NB206_212.out; have hnb132 := NB212_207.out; have hnc132 := NB207_212.out; have hcz133_0 : wr.cell? ⟨gb212, 0, none⟩ = some (.int .i8 ((rd_T41 t208 x16_1).f0)) := (blk_cell BK212.out 0).trans rfl; have hcz133_1 : wr.cell? ⟨gb212, 1, none⟩ = some (.int .i8 ((rd_T41 t208 x16_1).f1)) := (blk_cell BK212.out 1).trans rfl; have hfz133_0 := blk_frozen BK212.out 0; have hfz133_1 := blk_frozen BK212.out 1) | ((with_reducible refine gate_callee (f := 57) rfl ?_); refine goesL_ (some 26) rfl rfl Tryd.func57 (by kernel_rfl) rfl #[.agg (mixA (Value.int .u16) [] a0), .agg #[.int .i8 ((rd_T41 t208 x16_1).f0), .int .i8 ((rd_T41 t208 x16_1).f1)], .int .i64 x20_2] rfl (by (try simp only [List.map_toArray, List.map_cons, List.map_nil]); first | done | rfl | (simp only [List.length_drop, List.length_take]; rfl)) ?_; (with_reducible refine (impl_Crowd_has.calls a0 ((rd_T41 t208 x16_1).f0) ((rd_T41 t208 x16_1).f1) x20_2 false _ A23.out).mono ?_); rintro e w134 ⟨rfl, hb⟩; refine ⟨_, rfl, ?_⟩; have n0_ := krb HO_14 hb; have n1_ := bkb BK204 hb; have n2_ := bkb BK205 hb; have n3_ := bkb BK206 hb; have n4_ := bkb BK207 hb; have n5_ := bkb BK212 hb; have n6_ := bst HB hb; clear HO_14; clear BK204; clear BK205; clear BK206; clear BK207; clear BK212; clear HB; have HO_14 := n0_; have BK204 := n1_; have BK205 := n2_; have BK206 := n3_; have BK207 := n4_; have BK212 := n5_; have HB := n6_; clear n0_ n1_ n2_ n3_ n4_ n5_ n6_; (try clear hb); (try clear hb2); (try clear hk); (try clear hi)))
          go_roundg k2
          case measure => have := HK1.out; have := HK2.out; omega
          case rel => exact ⟨(wrap64 (x20_2 + 1)), (x208000_2), (by first | rfl | (simp; done) | (simp [*]; done)), H', ⟨by have := HK1.out; have := HK2.out; omega⟩, ⟨by (with_reducible repeat (first | apply Kd.R_alloc | apply Kd.R_drewN | apply Kd.R_drew)); exact HO_14.out⟩, ⟨pk BK204⟩, ⟨pk BK205⟩, ⟨pk BK206⟩, ⟨pk BK207⟩, ⟨pk BK212⟩, ⟨pbs HB⟩⟩
        ·rw [if_neg c22] at H
         have c22b0 : decide (x20_2 < 4) = false := decide_eq_false c22
         clear c22
         have H' := Aside0.mk H
         clear H
         go_wp2
         go_roundg k2
         case measure => have := HK1.out; have := HK2.out; omega
         case rel => exact ⟨(wrap64 (x16_1 + 1)), (x208000_2), (by first | rfl | (simp; done) | (simp [*]; done)), H', ⟨by have := HK1.out; have := HK2.out; omega⟩, ⟨by (with_reducible repeat (first | apply Kd.R_alloc | apply Kd.R_drewN | apply Kd.R_drew)); exact Kd.R_mono HO_14.out (fun _ hk => trivial)⟩, ⟨pk BK204⟩, ⟨pk BK205⟩, ⟨pk BK206⟩, ⟨pk BK207⟩, ⟨pbs HB⟩⟩
     ·rw [if_neg c15] at H
      exact absurd H (by simp)
    ·rw [if_neg c14] at H
     exact absurd H (by simp)
   ·rw [if_neg c13] at H
    have c13b0 : decide (x16_1 < (t208.length : Int)) = false := decide_eq_false c13
    clear c13
    obtain rfl := Option.some.inj H
    go_wp2_with (first | ((with_reducible refine gate_dst (N := 72) rfl ?_); refine wpList_run0 (v := .agg (mixA (Value.int .u16) [] x208000_1)) rfl (load_mix_run (P := Tryd.prog) 28 (.tmp 7) rfl gb207 rfl (show World.rangeAt _ gb207 0 ([] ++ x208000_1.l.map (Value.int .u16)) from mix_range (show (World.heap _)[gb207]? = some (.cells (mixA (Value.int .u16) [] x208000_1) 28 (0, 0)) from by (with_reducible repeat (first | refine blk_drewN ?_ _ | refine blk_drew ?_ | refine blk_alloc ?_ _)); exact BK207.out)) Tryd.underlying28 rfl (by kernel_rfl) rfl) ?_) | ((with_reducible refine gate_store (p := 6) rfl ?_); refine wpList_store_lmix rfl 28 _ _ rfl gb206 (e := (Value.int .u16)) (cs' := []) (W' := x208000_1) (cs := []) (W := (LA.zero 40)) (T := 28) rfl rfl (pk BK206) rfl (by kernel_rfl) rfl (fun _ => rfl) rfl ?_; intro w136 hi hk hbl; have n0_ := Aside0.mk (Kd.R_mono (Kd.R_keep (Kd.R_types (by (with_reducible repeat (first | apply Kd.R_alloc | apply Kd.R_drewN | apply Kd.R_drew)); exact HO_14.out) (pk BK206) (by decide)) hk (fun _ h => h.2)) (fun _ h => h.1)); have n1_ := Aside0.mk (KeepBut.blk hk (g' := gb204) (o := .cells (mixA (Value.int .u16) [] a0) 28 (0, 0)) (pk BK204) NB204_206.out (by simp)); have n2_ := Aside0.mk (KeepBut.blk hk (g' := gb205) (o := .cells (mixA (Value.int .u16) [.int .i8 a1_0, .int .i8 a1_1] a1_2) 31 (0, 0)) (pk BK205) NB205_206.out (by simp)); have n3_ := Aside0.mk (KeepBut.blk hk (g' := gb207) (o := .cells (mixA (Value.int .u16) [] x208000_1) 28 (0, 0)) (pk BK207) NB207_206.out (by simp)); have n4_ := Aside0.mk (hbl _ _ (pbs HB) GE206.out); have n5_ := Aside0.mk (hi); clear HO_14; clear BK204; clear BK205; clear BK207; clear HB; clear BK206; have HO_14 := n0_; have BK204 := n1_; have BK205 := n2_; have BK207 := n3_; have HB := n4_; have BK206 := n5_; clear n0_ n1_ n2_ n3_ n4_ n5_; clear hi hk hbl))
    refine bodyPost_ret (results_cell_row rfl _ _ gb206 28 (mixA (Value.int .u16) [] x208000_1) (0, 0) _ rfl (pk BK206) Tryd.underlying28 rfl (by rw [mix_size]; kernel_rfl)) rfl ?_
    exact ⟨by first | rfl | (simp [errW_none, errW_some] <;> rfl) | (simp [*, errW_none, errW_some] <;> rfl), pbs HB⟩
end Go.Proofs.YtdedijjbdkoekaaDoor.PB
end
section
namespace Go.Proofs.YtdedijjbdkoekaaDoor.PB
open Go.RowKit Go.Proofs.YtdedijjbdkoekaaDoorW.PrintWords Go.Proofs.YtdedijjbdkoekaaDoorW.PrintLast Go.Proofs.YtdedijjbdkoekaaDoorW.PrintMore Go.Proofs.YtdedijjbdkoekaaDoor.La
attribute [local go_sem] max2_int min2_int max_two min_two max_three min_three max_four min_four   -- for this text's walks alone
set_option linter.unusedVariables false
set_option linter.unusedSimpArgs false
def impl_Crowd_movedBy.l0 : Nat → ByteArray → Int → Int → LA 40 → Int → Int → LA 10 → Option (LA 40)
 | 0, _, _, _, _, _, _, _ => none
 | k + 1, x2, x9, x10, x224000, x225000, x225001, x225002 => if x10 < x9 then (if 0 ≤ x10 then (if x10 < (x2.size : Int) then ((impl_Crowd_moved.f k x224000 x225000 x225001 x225002 (bt x2 x10)).bind fun t226 => (impl_Crowd_movedBy.l0 k x2 x9 (wrap64 (x10 + 1)) t226 x225000 x225001 x225002)) else (none)) else (none)) else (some x224000)
def impl_Crowd_movedBy.f (k : Nat) (a0 : LA 40) (a1_0 : Int) (a1_1 : Int) (a1_2 : LA 10) (a2 : ByteArray) : Option (LA 40) := impl_Crowd_movedBy.l0 k a2 (a2.size : Int) 0 a0 a1_0 a1_1 a1_2
theorem impl_Crowd_movedBy.mono_l : ∀ k, (∀ y0 y1 y2 y3 y4 y5 y6, LeO (impl_Crowd_movedBy.l0 k y0 y1 y2 y3 y4 y5 y6) (impl_Crowd_movedBy.l0 (k + 1) y0 y1 y2 y3 y4 y5 y6))
 | 0 => fun _ _ _ _ _ _ _ r h => by simp [impl_Crowd_movedBy.l0] at h
 | k + 1 => by
  have ih0 := impl_Crowd_movedBy.mono_l k
  ·intro y0 y1 y2 y3 y4 y5 y6
   unfold impl_Crowd_movedBy.l0
   repeat' first
   | (with_reducible exact ih0 _ _ _ _ _ _ _)
   | (with_reducible exact impl_Crowd_moved.mono _ _ _ _ _ _)
   | (with_reducible exact LeO.refl _)
   | (with_reducible exact LeO.none _)
   | (with_reducible refine LeO.ite ?_ ?_)
   | (with_reducible refine LeO.bind ?_ (fun _ => ?_))
   | exact ih0 _ _ _ _ _ _ _
   | exact impl_Crowd_moved.mono _ _ _ _ _ _
   | exact LeO.none _
   | refine LeO.ite ?_ ?_
   | refine LeO.bind ?_ (fun _ => ?_)
theorem impl_Crowd_movedBy.mono : ∀ a0 a1 a2 a3 a4 k, LeO (impl_Crowd_movedBy.f k a0 a1 a2 a3 a4) (impl_Crowd_movedBy.f (k + 1) a0 a1 a2 a3 a4) := by
 intro a0 a1 a2 a3 a4 k
 have ih0 := impl_Crowd_movedBy.mono_l k
 unfold impl_Crowd_movedBy.f
 repeat' first
   | (with_reducible exact ih0 _ _ _ _ _ _ _)
   | (with_reducible exact impl_Crowd_moved.mono _ _ _ _ _ _)
   | (with_reducible exact LeO.refl _)
   | (with_reducible exact LeO.none _)
   | (with_reducible refine LeO.ite ?_ ?_)
   | (with_reducible refine LeO.bind ?_ (fun _ => ?_))
   | exact ih0 _ _ _ _ _ _ _
   | exact impl_Crowd_moved.mono _ _ _ _ _ _
   | exact LeO.none _
   | refine LeO.ite ?_ ?_
   | refine LeO.bind ?_ (fun _ => ?_)
set_option maxHeartbeats 8000000 in
set_option maxRecDepth 100000 in
theorem impl_Crowd_movedBy.calls (k : Nat) (a0 : LA 40) (a1_0 : Int) (a1_1 : Int) (a1_2 : LA 10) (a2 : ByteArray) (r : LA 40) (w : World) (h : impl_Crowd_movedBy.f k a0 a1_0 a1_1 a1_2 a2 = some r) :
  Calls Tryd.prog 31 #[.agg (mixA (Value.int .u16) [] a0), .agg (mixA (Value.int .u16) [.int .i8 a1_0, .int .i8 a1_1] a1_2), .string a2] w fun e w' => e = .returned (.agg (mixA (Value.int .u16) [] r)) ∧ Below w.heap.size w w' := by
 have hu31 := Tryd.underlying31
 have HB := Aside0.mk (Below.refl w.heap.size w)
 have H : (impl_Crowd_movedBy.l0 k a2 (a2.size : Int) 0 a0 a1_0 a1_1 a1_2) = some r := h
 clear h
 have H' := Aside0.mk H
 clear H
 go_enter Tryd.func31, Tryd.ntmps31
 go_wp2_with (first | ((with_reducible refine gate_dst (N := 3) rfl ?_); refine box_event ?hg (N := 3) ?hd (cs := (mixA (Value.int .u16) [] a0)) (t := 28) ?hr ?_; (case hd => rfl); (case hg => rfl); (case hr => first | (go_simp; done) | (go_simp; rfl)); intro gb223 hg w4 hbox hb; have n0_ := bst HB hb; have n1_ := Aside0.mk (hbox); have n2_ := gwl HB hg; have n3_ := gwl HB hg; clear HB; have HB := n0_; have BK223 := n1_; have GW223 := n2_; have GE223 := n3_; clear n0_ n1_ n2_ n3_; clear hb hbox hg) | ((with_reducible refine gate_dst (N := 4) rfl ?_); refine box_event ?hg (N := 4) ?hd (cs := (mixA (Value.int .u16) [.int .i8 a1_0, .int .i8 a1_1] a1_2)) (t := 31) ?hr ?_; (case hd => rfl); (case hg => rfl); (case hr => first | (go_simp; done) | (go_simp; rfl)); intro gb224 hg w5 hbox hb; have n0_ := bkb BK223 hb; have n1_ := bst HB hb; have n2_ := Aside0.mk (hbox); have n3_ := gwl HB hg; have n4_ := gwl HB hg; have n5_ := nbl BK223 hg; have n6_ := nbg BK223 hg; clear BK223; clear HB; have BK223 := n0_; have HB := n1_; have BK224 := n2_; have GW224 := n3_; have GE224 := n4_; have NB223_224 := n5_; have NB224_223 := n6_; clear n0_ n1_ n2_ n3_ n4_ n5_ n6_; clear hb hbox hg) | ((with_reducible refine gate_dst (N := 6) rfl ?_); refine box_event ?hg (N := 6) ?hd (cs := (mixA (Value.int .u16) [] (LA.zero 40))) (t := 28) ?hr ?_; (case hd => rfl); (case hg => rfl); (case hr => first | (go_simp; done) | (go_simp; rfl)); intro gb225 hg w6 hbox hb; have n0_ := bkb BK223 hb; have n1_ := bkb BK224 hb; have n2_ := bst HB hb; have n3_ := Aside0.mk (hbox); have n4_ := gwl HB hg; have n5_ := gwl HB hg; have n6_ := nbl BK223 hg; have n7_ := nbg BK223 hg; have n8_ := nbl BK224 hg; have n9_ := nbg BK224 hg; clear BK223; clear BK224; clear HB; have BK223 := n0_; have BK224 := n1_; have HB := n2_; have BK225 := n3_; have GW225 := n4_; have GE225 := n5_; have NB223_225 := n6_; have NB225_223 := n7_; have NB224_225 := n8_; have NB225_224 := n9_; clear n0_ n1_ n2_ n3_ n4_ n5_ n6_ n7_ n8_ n9_; clear hb hbox hg))
 go_loopg [10] k (fun kq v10 w' => ∃ (x10_1 : Int) (x224000_1 : LA 40), v10 = .int .i64 x10_1 ∧ Aside0 (impl_Crowd_movedBy.l0 kq a2 (a2.size : Int) x10_1 x224000_1 a1_0 a1_1 a1_2 = some r) ∧ Aside0 (kq ≤ k) ∧ Aside0 (w'.heap[gb223]? = some (.cells (mixA (Value.int .u16) [] x224000_1) 28 (0, 0))) ∧ Aside0 (w'.heap[gb224]? = some (.cells (mixA (Value.int .u16) [.int .i8 a1_0, .int .i8 a1_1] a1_2) 31 (0, 0))) ∧ Aside0 (w'.heap[gb225]? = some (.cells (mixA (Value.int .u16) [] (LA.zero 40)) 28 (0, 0))) ∧ Aside0 (Below w.heap.size w w'))
 case atStart => exact ⟨(0), (a0), (by first | rfl | (simp; done) | (simp [*]; done)), H', ⟨Nat.le_refl _⟩, ⟨pk BK223⟩, ⟨pk BK224⟩, ⟨pk BK225⟩, ⟨pbs HB⟩⟩
 case round =>
  clear H'
  try clear p2
  try clear c3
  obtain ⟨x10_1, x224000_1, rfl, HA, HK1, BK223, BK224, BK225, HB⟩ := hrel
  cases gk with
  | zero => exact absurd HA.out (by simp [impl_Crowd_movedBy.l0])
  | succ k1 =>
   have H := HA.out
   clear HA
   simp only [impl_Crowd_movedBy.l0] at H
   by_cases c7 : x10_1 < (a2.size : Int)
   ·rw [if_pos c7] at H
    have c7b0 : decide (x10_1 < (a2.size : Int)) = true := decide_eq_true c7
    clear c7
    by_cases c8 : 0 ≤ x10_1
    ·rw [if_pos c8] at H
     have c8b0 : decide (0 ≤ x10_1) = true := decide_eq_true c8
     clear c8
     by_cases c9 : x10_1 < (a2.size : Int)
     ·rw [if_pos c9] at H
      have c9b0 : decide (x10_1 < (a2.size : Int)) = true := decide_eq_true c9
      clear c9
      replace H := Option.bind_eq_some_iff.mp H
      obtain ⟨t226, A110, H⟩ := H
      replace H : (impl_Crowd_movedBy.l0 k1 a2 (a2.size : Int) (wrap64 (x10_1 + 1)) t226 a1_0 a1_1 a1_2) = some r := H
      have A11 := Aside0.mk A110
      clear A110
      have H' := Aside0.mk H
      clear H
      try go_wp2
      have n0_ := Aside0.mk (blk_drew BK223.out)
      have n1_ := Aside0.mk (blk_drew BK224.out)
      have n2_ := Aside0.mk (blk_drew BK225.out)
      have n3_ := Aside0.mk (below_drew1 HB.out)
      clear BK223
      clear BK224
      clear BK225
      clear HB
      have BK223 := n0_
      have BK224 := n1_
      have BK225 := n2_
      have HB := n3_
      clear n0_ n1_ n2_ n3_
      have p10 : 0 ≤ (x10_1 : Int) := of_decide_eq_true (by first | (with_reducible assumption) | assumption)
      have q10 : x10_1 < (a2.size : Int) := of_decide_eq_true (by first | (with_reducible assumption) | assumption)
      have hx10 := bt_at a2 x10_1
      replace p10 := eq_true p10
      replace q10 := eq_true q10
      refine start_ (n := 7) (S := fun w' => World.rangeAt w' gb223 0 ([] ++ x224000_1.l.map (Value.int .u16)) ∧ World.rangeAt w' gb224 0 ([.int .i8 a1_0, .int .i8 a1_1] ++ a1_2.l.map (Value.int .u16))) (ds := [6]) #[false, false, false, false, false, false, false] (by kernel_rfl) rfl rfl ⟨mix_range BK223.out, mix_range BK224.out⟩ (fun hHeld => ?_)
      generalize wr.drew = w12 at BK223 BK224 BK225 HB hHeld ⊢
      refine pure_ (i := 2) (N := some 15) (v := ?_) (a' := ?_) #[false, false, true, false, false, false, false] rfl rfl (by kernel_rfl) (fun _ _ _ h => h) (Or.inl ⟨by rfl, ?_⟩) ?_ ?_
      rotate_left
      ·intro w'
       go_simp
       with_reducible rfl
      rotate_left
      ·simp only [Act.put, List.setIfInBounds_toArray, List.set_cons_zero, List.set_cons_succ, i64_w, i32_w]
       rfl
      refine pure_ (i := 3) (N := some 16) (v := ?_) (a' := ?_) #[false, false, true, true, false, false, false] rfl rfl (by kernel_rfl) (fun _ _ _ h => h) (Or.inl ⟨by rfl, ?_⟩) ?_ ?_
      rotate_left
      ·intro w'
       go_simp
       with_reducible rfl
      rotate_left
      ·simp only [Act.put, List.setIfInBounds_toArray, List.set_cons_zero, List.set_cons_succ, i64_w, i32_w]
       rfl
      refine take_ (i := 0) (N := some 13) (v := ?_) (a' := ?_) #[true, false, true, true, false, false, false] rfl rfl (by kernel_rfl) (fun _ _ _ h => h) (Or.inl ⟨by rfl, ?_⟩) hHeld ?_ ?_
      rotate_left
      ·rintro w' ⟨s0, s1⟩
       refine load_mix_run (P := Tryd.prog) 28 (.tmp 3) ?_ gb223 ?_ s0 Tryd.underlying28 rfl (by kernel_rfl) rfl
       all_goals rfl
      rotate_left
      ·simp only [Act.put, List.setIfInBounds_toArray, List.set_cons_zero, List.set_cons_succ, i64_w, i32_w]
       rfl
      refine take_ (i := 1) (N := some 14) (v := ?_) (a' := ?_) #[true, true, true, true, false, false, false] rfl rfl (by kernel_rfl) (fun _ _ _ h => h) (Or.inl ⟨by rfl, ?_⟩) hHeld ?_ ?_
      rotate_left
      ·rintro w' ⟨s0, s1⟩
       refine load_mix_run (P := Tryd.prog) 31 (.tmp 4) ?_ gb224 ?_ s1 Tryd.underlying31 rfl (by kernel_rfl) rfl
       all_goals rfl
      rotate_left
      ·simp only [Act.put, List.setIfInBounds_toArray, List.set_cons_zero, List.set_cons_succ, i64_w, i32_w]
       rfl
      refine take_ (i := 4) (N := some 17) (v := ?_) (a' := ?_) #[true, true, true, true, true, false, false] rfl rfl (by kernel_rfl) (fun _ _ _ h => h) (Or.inl ⟨by rfl, ?_⟩) hHeld ?_ ?_
      rotate_left
      ·rintro w' ⟨s0, s1⟩
       go_simp
       with_reducible rfl
      rotate_left
      ·simp only [Act.put, List.setIfInBounds_toArray, List.set_cons_zero, List.set_cons_succ, i64_w, i32_w]
       rfl
      refine one_ (i := 5) (N := some 18) #[true, true, true, true, true, true, false] rfl rfl (by kernel_rfl) (by decide) (fun K hK => ?_)
      refine goes_ Tryd.func53 (by kernel_rfl) rfl #[.agg (mixA (Value.int .u16) [] x224000_1), .agg (mixA (Value.int .u16) [.int .i8 a1_0, .int .i8 a1_1] a1_2), .int .u8 (bt a2 x10_1)] (by rfl) rfl rfl (by (try simp only [List.map_toArray, List.map_cons, List.map_nil]); first | done | rfl | (simp only [List.length_drop, List.length_take]; rfl)) ?_
      with_reducible refine (impl_Crowd_moved.calls k1 x224000_1 a1_0 a1_1 a1_2 (bt a2 x10_1) t226 _ A11.out).mono ?_
      rintro e w13 ⟨rfl, hb⟩
      refine ⟨_, rfl, ?_⟩
      have n0_ := bkb BK223 hb
      have n1_ := bkb BK224 hb
      have n2_ := bkb BK225 hb
      have n3_ := bst HB hb
      clear BK223
      clear BK224
      clear BK225
      clear HB
      have BK223 := n0_
      have BK224 := n1_
      have BK225 := n2_
      have HB := n3_
      clear n0_ n1_ n2_ n3_
      (try clear hb)
      (try clear hb2)
      (try clear hk)
      (try clear hi)
      refine hK.out _ _ ⟨mix_range BK223.out, mix_range BK224.out⟩ (fun hHeld => ?_)
      clear hK K
      refine norm_ (a' := ?_) ?_ ?_
      rotate_left
      ·show Act.put _ (some 18) _ = _
       simp only [Act.put, List.setIfInBounds_toArray, List.set_cons_zero, List.set_cons_succ, i64_w, i32_w]
       rfl
      refine last_ (i := 6) (N := none) #[true, true, true, true, true, true, true] rfl rfl (by kernel_rfl) (by decide) (fun K hK => ?_)
      refine step_store_lmix (by rfl) rfl 28 _ _ rfl gb223 (e := (Value.int .u16)) (cs' := []) (W' := t226) (cs := []) (W := x224000_1) (T := 28) (by (try simp only [List.map_toArray, List.map_cons, List.map_nil]); first | done | rfl | (simp only [List.length_drop, List.length_take]; rfl)) (by (try simp only [List.map_toArray, List.map_cons, List.map_nil]); first | done | rfl | (simp only [List.length_drop, List.length_take]; rfl)) (pk BK223) rfl (by kernel_rfl) rfl (fun _ => rfl) rfl ?_
      intro w14 hi hk hbl
      have n0_ := Aside0.mk (KeepBut.blk hk (g' := gb224) (o := .cells (mixA (Value.int .u16) [.int .i8 a1_0, .int .i8 a1_1] a1_2) 31 (0, 0)) (pk BK224) NB224_223.out (by simp))
      have n1_ := Aside0.mk (KeepBut.blk hk (g' := gb225) (o := .cells (mixA (Value.int .u16) [] (LA.zero 40)) 28 (0, 0)) (pk BK225) NB225_223.out (by simp))
      have n2_ := Aside0.mk (hbl _ _ (pbs HB) GE223.out)
      have n3_ := Aside0.mk (hi)
      clear BK224
      clear BK225
      clear HB
      clear BK223
      have BK224 := n0_
      have BK225 := n1_
      have HB := n2_
      have BK223 := n3_
      clear n0_ n1_ n2_ n3_
      clear hi hk hbl
      refine hK.out _ _ ?_
      clear hK K
      refine done_ (by kernel_rfl) ?_
      try go_wp2
      go_roundg k1
      case measure => have := HK1.out; omega
      case rel => exact ⟨(wrap64 (x10_1 + 1)), (t226), (by first | rfl | (simp; done) | (simp [*]; done)), H', ⟨by have := HK1.out; omega⟩, ⟨pk BK223⟩, ⟨pk BK224⟩, ⟨pk BK225⟩, ⟨pbs HB⟩⟩
     ·rw [if_neg c9] at H
      exact absurd H (by simp)
    ·rw [if_neg c8] at H
     exact absurd H (by simp)
   ·rw [if_neg c7] at H
    have c7b0 : decide (x10_1 < (a2.size : Int)) = false := decide_eq_false c7
    clear c7
    obtain rfl := Option.some.inj H
    go_wp2_with (first | ((with_reducible refine gate_dst (N := 20) rfl ?_); refine wpList_run0 (v := .agg (mixA (Value.int .u16) [] x224000_1)) rfl (load_mix_run (P := Tryd.prog) 28 (.tmp 3) rfl gb223 rfl (show World.rangeAt _ gb223 0 ([] ++ x224000_1.l.map (Value.int .u16)) from mix_range (show (World.heap _)[gb223]? = some (.cells (mixA (Value.int .u16) [] x224000_1) 28 (0, 0)) from by (with_reducible repeat (first | refine blk_drewN ?_ _ | refine blk_drew ?_ | refine blk_alloc ?_ _)); exact BK223.out)) Tryd.underlying28 rfl (by kernel_rfl) rfl) ?_) | ((with_reducible refine gate_store (p := 6) rfl ?_); refine wpList_store_lmix rfl 28 _ _ rfl gb225 (e := (Value.int .u16)) (cs' := []) (W' := x224000_1) (cs := []) (W := (LA.zero 40)) (T := 28) rfl rfl (pk BK225) rfl (by kernel_rfl) rfl (fun _ => rfl) rfl ?_; intro w18 hi hk hbl; have n0_ := Aside0.mk (KeepBut.blk hk (g' := gb223) (o := .cells (mixA (Value.int .u16) [] x224000_1) 28 (0, 0)) (pk BK223) NB223_225.out (by simp)); have n1_ := Aside0.mk (KeepBut.blk hk (g' := gb224) (o := .cells (mixA (Value.int .u16) [.int .i8 a1_0, .int .i8 a1_1] a1_2) 31 (0, 0)) (pk BK224) NB224_225.out (by simp)); have n2_ := Aside0.mk (hbl _ _ (pbs HB) GE225.out); have n3_ := Aside0.mk (hi); clear BK223; clear BK224; clear HB; clear BK225; have BK223 := n0_; have BK224 := n1_; have HB := n2_; have BK225 := n3_; clear n0_ n1_ n2_ n3_; clear hi hk hbl))
    refine bodyPost_ret (results_cell_row rfl _ _ gb225 28 (mixA (Value.int .u16) [] x224000_1) (0, 0) _ rfl (pk BK225) Tryd.underlying28 rfl (by rw [mix_size]; kernel_rfl)) rfl ?_
    exact ⟨by first | rfl | (simp [errW_none, errW_some] <;> rfl) | (simp [*, errW_none, errW_some] <;> rfl), pbs HB⟩
mutual
def impl_ValidRoom.j0 : Nat → Bool → Int → Int → LA 10 → Option (Bool)
 | 0, _, _, _, _ => none
 | k + 1, x16, x228000, x228001, x228002 => if x16 = true then (some false) else (impl_ValidRoom.l0 k x228002 0 x228000 x228001 x228002)
def impl_ValidRoom.l0 : Nat → LA 10 → Int → Int → Int → LA 10 → Option (Bool)
 | 0, _, _, _, _, _ => none
 | k + 1, x18, x19, x228000, x228001, x228002 => if x19 < 10 then (if 0 ≤ x19 then (if 0 ≤ x228000 then (if (shr .u16 (rd x18.l x19) x228000) = 0 then (if x19 ≥ (wrap64 (x228001)) then (if (rd x18.l x19) = 0 then (impl_ValidRoom.l0 k x18 (wrap64 (x19 + 1)) x228000 x228001 x228002) else (some false)) else (impl_ValidRoom.l0 k x18 (wrap64 (x19 + 1)) x228000 x228001 x228002)) else (some false)) else (none)) else (none)) else (some true)
end
def impl_ValidRoom.f (k : Nat) (a0_0 : Int) (a0_1 : Int) (a0_2 : LA 10) : Option (Bool) := (impl_within.f (wrap64 (a0_0)) 1 10).bind fun t228 => (if t228 = true then ((impl_within.f (wrap64 (a0_1)) 1 10).bind fun t229 => (impl_ValidRoom.j0 k (!t229) a0_0 a0_1 a0_2)) else (impl_ValidRoom.j0 k true a0_0 a0_1 a0_2))
theorem impl_ValidRoom.mono_l : ∀ k, (∀ y0 y1 y2 y3, LeO (impl_ValidRoom.j0 k y0 y1 y2 y3) (impl_ValidRoom.j0 (k + 1) y0 y1 y2 y3)) ∧ (∀ y0 y1 y2 y3 y4, LeO (impl_ValidRoom.l0 k y0 y1 y2 y3 y4) (impl_ValidRoom.l0 (k + 1) y0 y1 y2 y3 y4))
 | 0 => ⟨fun _ _ _ _ r h => by simp [impl_ValidRoom.j0] at h, fun _ _ _ _ _ r h => by simp [impl_ValidRoom.l0] at h⟩
 | k + 1 => by
  obtain ⟨ih0, ih1⟩ := impl_ValidRoom.mono_l k
  refine ⟨?_, ?_⟩
  ·intro y0 y1 y2 y3
   unfold impl_ValidRoom.j0
   repeat' first
   | (with_reducible exact ih0 _ _ _ _)
   | (with_reducible exact ih1 _ _ _ _ _)
   | (with_reducible exact LeO.refl _)
   | (with_reducible exact LeO.none _)
   | (with_reducible refine LeO.ite ?_ ?_)
   | (with_reducible refine LeO.bind ?_ (fun _ => ?_))
   | exact ih0 _ _ _ _
   | exact ih1 _ _ _ _ _
   | exact LeO.none _
   | refine LeO.ite ?_ ?_
   | refine LeO.bind ?_ (fun _ => ?_)
  ·intro y0 y1 y2 y3 y4
   unfold impl_ValidRoom.l0
   repeat' first
   | (with_reducible exact ih0 _ _ _ _)
   | (with_reducible exact ih1 _ _ _ _ _)
   | (with_reducible exact LeO.refl _)
   | (with_reducible exact LeO.none _)
   | (with_reducible refine LeO.ite ?_ ?_)
   | (with_reducible refine LeO.bind ?_ (fun _ => ?_))
   | exact ih0 _ _ _ _
   | exact ih1 _ _ _ _ _
   | exact LeO.none _
   | refine LeO.ite ?_ ?_
   | refine LeO.bind ?_ (fun _ => ?_)
theorem impl_ValidRoom.mono : ∀ a0 a1 a2 k, LeO (impl_ValidRoom.f k a0 a1 a2) (impl_ValidRoom.f (k + 1) a0 a1 a2) := by
 intro a0 a1 a2 k
 obtain ⟨ih0, ih1⟩ := impl_ValidRoom.mono_l k
 unfold impl_ValidRoom.f
 repeat' first
   | (with_reducible exact ih0 _ _ _ _)
   | (with_reducible exact ih1 _ _ _ _ _)
   | (with_reducible exact LeO.refl _)
   | (with_reducible exact LeO.none _)
   | (with_reducible refine LeO.ite ?_ ?_)
   | (with_reducible refine LeO.bind ?_ (fun _ => ?_))
   | exact ih0 _ _ _ _
   | exact ih1 _ _ _ _ _
   | exact LeO.none _
   | refine LeO.ite ?_ ?_
   | refine LeO.bind ?_ (fun _ => ?_)
set_option maxHeartbeats 8000000 in
set_option maxRecDepth 100000 in
theorem impl_ValidRoom.calls (k : Nat) (a0_0 : Int) (a0_1 : Int) (a0_2 : LA 10) (r : Bool) (w : World) (h : impl_ValidRoom.f k a0_0 a0_1 a0_2 = some r) :
  Calls Tryd.prog 26 #[.agg (mixA (Value.int .u16) [.int .i8 a0_0, .int .i8 a0_1] a0_2)] w fun e w' => e = .returned (.bool r) ∧ Below w.heap.size w w' := by
 have hu31 := Tryd.underlying31
 have HB := Aside0.mk (Below.refl w.heap.size w)
 have H : ((impl_within.f (wrap64 (a0_0)) 1 10).bind fun t228 => (if t228 = true then ((impl_within.f (wrap64 (a0_1)) 1 10).bind fun t229 => (impl_ValidRoom.j0 k (!t229) a0_0 a0_1 a0_2)) else (impl_ValidRoom.j0 k true a0_0 a0_1 a0_2))) = some r := h
 clear h
 have HC2 := Aside0.mk H
 clear H
 go_enter Tryd.func26, Tryd.ntmps26
 go_upto_region 1 with (first | ((with_reducible refine gate_dst (N := 1) rfl ?_); refine box_event ?hg (N := 1) ?hd (cs := (mixA (Value.int .u16) [.int .i8 a0_0, .int .i8 a0_1] a0_2)) (t := 31) ?hr ?_; (case hd => rfl); (case hg => rfl); (case hr => first | (go_simp; done) | (go_simp; rfl)); intro gb227 hg w3 hbox hb; have n0_ := bst HB hb; have n1_ := Aside0.mk (hbox); have n2_ := gwl HB hg; have n3_ := gwl HB hg; clear HB; have HB := n0_; have BK227 := n1_; have GW227 := n2_; have GE227 := n3_; clear n0_ n1_ n2_ n3_; clear hb hbox hg))
 (try simp only [Act.put, List.setIfInBounds_toArray, List.set_cons_zero, List.set_cons_succ])
 go_cut [16] (fun v16 wc => ∃ (kq : Nat) (x16_1 : Bool), v16 = .bool x16_1 ∧ Aside0 (impl_ValidRoom.j0 kq x16_1 a0_0 a0_1 a0_2 = some r) ∧ Aside0 (kq ≤ k) ∧ Aside0 (wc.heap[gb227]? = some (.cells (mixA (Value.int .u16) [.int .i8 a0_0, .int .i8 a0_1] a0_2) 31 (0, 0))) ∧ Aside0 (Below w.heap.size w wc))
 case first =>
  have H := HC2.out
  clear HC2
  replace H := Option.bind_eq_some_iff.mp H
  obtain ⟨t228, A40, H⟩ := H
  replace H : (if t228 = true then ((impl_within.f (wrap64 (a0_1)) 1 10).bind fun t229 => (impl_ValidRoom.j0 k (!t229) a0_0 a0_1 a0_2)) else (impl_ValidRoom.j0 k true a0_0 a0_1 a0_2)) = some r := H
  have A4 := Aside0.mk A40
  clear A40
  by_cases c5 : t228 = true
  ·subst c5
   have H1 : ((impl_within.f (wrap64 (a0_1)) 1 10).bind fun t229 => (impl_ValidRoom.j0 k (!t229) a0_0 a0_1 a0_2)) = some r := by rw [if_pos rfl] at H; exact H
   clear H
   have H := H1
   clear H1
   replace H := Option.bind_eq_some_iff.mp H
   obtain ⟨t229, A60, H⟩ := H
   replace H : (impl_ValidRoom.j0 k (!t229) a0_0 a0_1 a0_2) = some r := H
   have A6 := Aside0.mk A60
   clear A60
   have H' := Aside0.mk H
   clear H
   have hcz7_0 : w3.cell? ⟨gb227, 0, none⟩ = some (.int .i8 a0_0) := mix_cell0 BK227.out 0
   have hcz7_1 : w3.cell? ⟨gb227, 1, none⟩ = some (.int .i8 a0_1) := mix_cell0 BK227.out 1
   have hfz7_0 := blk_frozen BK227.out 0
   have hfz7_1 := blk_frozen BK227.out 1
   go_wp2_with (first | ((with_reducible refine gate_callee (f := 47) rfl ?_); refine goesL_ (some 8) rfl rfl Tryd.func47 (by kernel_rfl) rfl #[.int .i64 (wrap64 (a0_0)), .int .i64 1, .int .i64 10] rfl (by (try simp only [List.map_toArray, List.map_cons, List.map_nil]); first | done | rfl | (simp only [List.length_drop, List.length_take]; rfl)) ?_; (with_reducible refine (impl_within.calls (wrap64 (a0_0)) 1 10 true _ A4.out).mono ?_); rintro e w' ⟨rfl, ⟨nd, rfl⟩⟩; refine ⟨_, rfl, ?_⟩) | (go_at_call 47; (with_reducible refine (impl_within.calls (wrap64 (a0_1)) 1 10 t229 _ A6.out).mono ?_); rintro e w' ⟨rfl, ⟨nd, rfl⟩⟩))
   go_meet
   case rel => exact ⟨_, (!t229), (by first | rfl | (simp; done) | (simp [*]; done)), H', ⟨by first | omega | exact Nat.le_refl _⟩, ⟨pk BK227⟩, ⟨pbs HB⟩⟩
  ·replace c5 := Bool.eq_false_iff.mpr c5
   subst c5
   have H1 : (impl_ValidRoom.j0 k true a0_0 a0_1 a0_2) = some r := by rw [if_neg (show ¬ (false = true) by decide)] at H; exact H
   clear H
   have H := H1
   clear H1
   have H' := Aside0.mk H
   clear H
   have hcz8_0 : w3.cell? ⟨gb227, 0, none⟩ = some (.int .i8 a0_0) := mix_cell0 BK227.out 0
   have hcz8_1 : w3.cell? ⟨gb227, 1, none⟩ = some (.int .i8 a0_1) := mix_cell0 BK227.out 1
   have hfz8_0 := blk_frozen BK227.out 0
   have hfz8_1 := blk_frozen BK227.out 1
   go_wp2_with (first | ((with_reducible refine gate_callee (f := 47) rfl ?_); refine goesL_ (some 8) rfl rfl Tryd.func47 (by kernel_rfl) rfl #[.int .i64 (wrap64 (a0_0)), .int .i64 1, .int .i64 10] rfl (by (try simp only [List.map_toArray, List.map_cons, List.map_nil]); first | done | rfl | (simp only [List.length_drop, List.length_take]; rfl)) ?_; (with_reducible refine (impl_within.calls (wrap64 (a0_0)) 1 10 false _ A4.out).mono ?_); rintro e w' ⟨rfl, ⟨nd, rfl⟩⟩; refine ⟨_, rfl, ?_⟩))
   go_meet
   case rel => exact ⟨_, (true), (by first | rfl | (simp; done) | (simp [*]; done)), H', ⟨by first | omega | exact Nat.le_refl _⟩, ⟨pk BK227⟩, ⟨pbs HB⟩⟩
 case rest =>
  clear HC2
  try clear c2
  try clear p2
  try clear c4
  try clear c5
  try clear p6
  try clear hcz7_0
  try clear hcz7_1
  try clear hcz8_0
  try clear hcz8_1
  try clear hfz7_0
  try clear hfz7_1
  try clear hfz8_0
  try clear hfz8_1
  obtain ⟨kq, x16_1, rfl, HA, HJ1, BK227, HB⟩ := hcut
  cases kq with
  | zero => exact absurd HA.out (by simp [impl_ValidRoom.j0])
  | succ kj1 =>
   have H := HA.out
   clear HA
   simp only [impl_ValidRoom.j0] at H
   by_cases c9 : x16_1 = true
   ·subst c9
    have H1 : (some false) = some r := by rw [if_pos rfl] at H; exact H
    clear H
    have H := H1
    clear H1
    obtain rfl := Option.some.inj H
    go_wp2
    go_ret
    exact ⟨by first | rfl | (simp [errW_none, errW_some] <;> rfl) | (simp [*, errW_none, errW_some] <;> rfl), pbs HB⟩
   ·replace c9 := Bool.eq_false_iff.mpr c9
    subst c9
    have H1 : (impl_ValidRoom.l0 kj1 a0_2 0 a0_0 a0_1 a0_2) = some r := by rw [if_neg (show ¬ (false = true) by decide)] at H; exact H
    clear H
    have H := H1
    clear H1
    have H' := Aside0.mk H
    clear H
    go_wp2_with (first | ((with_reducible refine gate_dst (N := 18) rfl ?_); refine wpList_run0 (v := .agg (mixA (Value.int .u16) [] a0_2)) rfl (load_arr_run (P := Tryd.prog) 24 (.tmp 17) rfl gb227 2 rfl (show World.rangeAt _ gb227 2 (a0_2.l.map (Value.int .u16)) from mix_range_arr (show (World.heap _)[gb227]? = some (.cells (mixA (Value.int .u16) [.int .i8 a0_0, .int .i8 a0_1] a0_2) 31 (0, 0)) from by (with_reducible repeat (first | refine blk_drewN ?_ _ | refine blk_drew ?_ | refine blk_alloc ?_ _)); exact BK227.out) 2 rfl) Tryd.underlying24 rfl (by kernel_rfl)) ?_))
    go_loopg [19] kj1 (fun kq v19 w' => ∃ (x19_2 : Int), v19 = .int .i64 x19_2 ∧ Aside0 (impl_ValidRoom.l0 kq a0_2 x19_2 a0_0 a0_1 a0_2 = some r) ∧ Aside0 (kq ≤ kj1) ∧ Aside0 (w'.heap[gb227]? = some (.cells (mixA (Value.int .u16) [.int .i8 a0_0, .int .i8 a0_1] a0_2) 31 (0, 0))) ∧ Aside0 (Below w.heap.size w w'))
    case atStart => exact ⟨(0), (by first | rfl | (simp; done) | (simp [*]; done)), H', ⟨Nat.le_refl _⟩, ⟨pk BK227⟩, ⟨pbs HB⟩⟩
    case round =>
     clear H'
     try clear c2
     try clear p2
     try clear c4
     try clear c5
     try clear p6
     try clear c9
     try clear hcz7_0
     try clear hcz7_1
     try clear hcz8_0
     try clear hcz8_1
     try clear hfz7_0
     try clear hfz7_1
     try clear hfz8_0
     try clear hfz8_1
     try clear p2
     try clear p6
     obtain ⟨x19_2, rfl, HA, HK2, BK227, HB⟩ := hrel
     cases gk with
     | zero => exact absurd HA.out (by simp [impl_ValidRoom.l0])
     | succ k2 =>
      have H := HA.out
      clear HA
      simp only [impl_ValidRoom.l0] at H
      by_cases c11 : x19_2 < 10
      ·rw [if_pos c11] at H
       have c11b0 : decide (x19_2 < 10) = true := decide_eq_true c11
       clear c11
       by_cases c12 : 0 ≤ x19_2
       ·rw [if_pos c12] at H
        have c12b0 : decide (0 ≤ x19_2) = true := decide_eq_true c12
        clear c12
        by_cases c13 : 0 ≤ a0_0
        ·rw [if_pos c13] at H
         have c13b0 := eq_true c13
         have c13b1 : decide (0 ≤ a0_0) = true := decide_eq_true c13
         clear c13
         obtain ⟨ji14, hji14⟩ : ∃ j_ : Int, (shr .u16 (rd a0_2.l x19_2) a0_0) = j_ := ⟨_, rfl⟩
         replace H : (if (ji14) = 0 then (if x19_2 ≥ (wrap64 (a0_1)) then (if (rd a0_2.l x19_2) = 0 then (impl_ValidRoom.l0 k2 a0_2 (wrap64 (x19_2 + 1)) a0_0 a0_1 a0_2) else (some false)) else (impl_ValidRoom.l0 k2 a0_2 (wrap64 (x19_2 + 1)) a0_0 a0_1 a0_2)) else (some false)) = some r := by first | (rw [hji14] at H; exact H) | (simp only [hji14] at H ⊢; exact H)
         have hji14_ : ((rd a0_2.l x19_2) / 2 ^ min a0_0.toNat 16) = ji14 := hji14
         have hji14z : a0_0 ≤ 16 → ((rd a0_2.l x19_2) / 2 ^ a0_0.toNat) = ji14 := shr_small hji14
         by_cases c15 : (ji14) = 0
         ·rw [if_pos c15] at H
          have c15b0 : ((ji14) == 0) = true := beq_iff_eq.mpr c15
          have c15b1 : ((ji14) != 0) = false := bne_eq_false_iff_eq.mpr c15
          clear c15
          by_cases c16 : x19_2 ≥ (wrap64 (a0_1))
          ·rw [if_pos c16] at H
           have c16b0 : decide ((wrap64 (a0_1)) ≤ x19_2) = true := decide_eq_true c16
           clear c16
           by_cases c17 : (rd a0_2.l x19_2) = 0
           ·rw [if_pos c17] at H
            have c17b0 : ((rd a0_2.l x19_2) == 0) = true := beq_iff_eq.mpr c17
            have c17b1 : ((rd a0_2.l x19_2) != 0) = false := bne_eq_false_iff_eq.mpr c17
            clear c17
            have H' := Aside0.mk H
            clear H
            have hixd18 : ∀ W_ : World, (Instr.index 24 (.agg (mixA (Value.int .u16) [] a0_2)) (.int .i64 x19_2)).run Tryd.prog W_ = .ok (.int .u16 (rd a0_2.l x19_2)) W_ := fun W_ => idx_la (e := (Value.int .u16)) Tryd.underlying24 (fun _ => by kernel_rfl) (fun _ => by kernel_rfl) x19_2 (by first | omega | exact of_decide_eq_true (by first | (with_reducible assumption) | assumption)) (by first | omega | exact of_decide_eq_true (by first | (with_reducible assumption) | assumption)) W_
            have hcz19_0 : wr.cell? ⟨gb227, 0, none⟩ = some (.int .i8 a0_0) := mix_cell0 BK227.out 0
            have hcz19_1 : wr.cell? ⟨gb227, 1, none⟩ = some (.int .i8 a0_1) := mix_cell0 BK227.out 1
            have hfz19_0 := blk_frozen BK227.out 0
            have hfz19_1 := blk_frozen BK227.out 1
            go_wp2
            go_roundg k2
            case measure => have := HJ1.out; have := HK2.out; omega
            case rel => exact ⟨(wrap64 (x19_2 + 1)), (by first | rfl | (simp; done) | (simp [*]; done)), H', ⟨by have := HJ1.out; have := HK2.out; omega⟩, ⟨pk BK227⟩, ⟨pbs HB⟩⟩
           ·rw [if_neg c17] at H
            have c17b0 : ((rd a0_2.l x19_2) == 0) = false := beq_eq_false_iff_ne.mpr c17
            have c17b1 : ((rd a0_2.l x19_2) != 0) = true := bne_iff_ne.mpr c17
            obtain rfl := Option.some.inj H
            have hixd20 : ∀ W_ : World, (Instr.index 24 (.agg (mixA (Value.int .u16) [] a0_2)) (.int .i64 x19_2)).run Tryd.prog W_ = .ok (.int .u16 (rd a0_2.l x19_2)) W_ := fun W_ => idx_la (e := (Value.int .u16)) Tryd.underlying24 (fun _ => by kernel_rfl) (fun _ => by kernel_rfl) x19_2 (by first | omega | exact of_decide_eq_true (by first | (with_reducible assumption) | assumption)) (by first | omega | exact of_decide_eq_true (by first | (with_reducible assumption) | assumption)) W_
            have hcz21_0 : wr.cell? ⟨gb227, 0, none⟩ = some (.int .i8 a0_0) := mix_cell0 BK227.out 0
            have hcz21_1 : wr.cell? ⟨gb227, 1, none⟩ = some (.int .i8 a0_1) := mix_cell0 BK227.out 1
            have hfz21_0 := blk_frozen BK227.out 0
            have hfz21_1 := blk_frozen BK227.out 1
            go_wp2
            go_ret
            exact ⟨by first | rfl | (simp [errW_none, errW_some] <;> rfl) | (simp only [← hji14]; first | rfl | (simp [errW_none, errW_some] <;> rfl)) | (simp [*, errW_none, errW_some] <;> rfl), pbs HB⟩
          ·rw [if_neg c16] at H
           have c16b0 : decide ((wrap64 (a0_1)) ≤ x19_2) = false := decide_eq_false c16
           clear c16
           have H' := Aside0.mk H
           clear H
           have hixd22 : ∀ W_ : World, (Instr.index 24 (.agg (mixA (Value.int .u16) [] a0_2)) (.int .i64 x19_2)).run Tryd.prog W_ = .ok (.int .u16 (rd a0_2.l x19_2)) W_ := fun W_ => idx_la (e := (Value.int .u16)) Tryd.underlying24 (fun _ => by kernel_rfl) (fun _ => by kernel_rfl) x19_2 (by first | omega | exact of_decide_eq_true (by first | (with_reducible assumption) | assumption)) (by first | omega | exact of_decide_eq_true (by first | (with_reducible assumption) | assumption)) W_
           have hcz23_0 : wr.cell? ⟨gb227, 0, none⟩ = some (.int .i8 a0_0) := mix_cell0 BK227.out 0
           have hcz23_1 : wr.cell? ⟨gb227, 1, none⟩ = some (.int .i8 a0_1) := mix_cell0 BK227.out 1
           have hfz23_0 := blk_frozen BK227.out 0
           have hfz23_1 := blk_frozen BK227.out 1
           go_wp2
           go_roundg k2
           case measure => have := HJ1.out; have := HK2.out; omega
           case rel => exact ⟨(wrap64 (x19_2 + 1)), (by first | rfl | (simp; done) | (simp [*]; done)), H', ⟨by have := HJ1.out; have := HK2.out; omega⟩, ⟨pk BK227⟩, ⟨pbs HB⟩⟩
         ·rw [if_neg c15] at H
          have c15b0 : ((ji14) == 0) = false := beq_eq_false_iff_ne.mpr c15
          have c15b1 : ((ji14) != 0) = true := bne_iff_ne.mpr c15
          obtain rfl := Option.some.inj H
          have hixd24 : ∀ W_ : World, (Instr.index 24 (.agg (mixA (Value.int .u16) [] a0_2)) (.int .i64 x19_2)).run Tryd.prog W_ = .ok (.int .u16 (rd a0_2.l x19_2)) W_ := fun W_ => idx_la (e := (Value.int .u16)) Tryd.underlying24 (fun _ => by kernel_rfl) (fun _ => by kernel_rfl) x19_2 (by first | omega | exact of_decide_eq_true (by first | (with_reducible assumption) | assumption)) (by first | omega | exact of_decide_eq_true (by first | (with_reducible assumption) | assumption)) W_
          have hcz25_0 : wr.cell? ⟨gb227, 0, none⟩ = some (.int .i8 a0_0) := mix_cell0 BK227.out 0
          have hcz25_1 : wr.cell? ⟨gb227, 1, none⟩ = some (.int .i8 a0_1) := mix_cell0 BK227.out 1
          have hfz25_0 := blk_frozen BK227.out 0
          have hfz25_1 := blk_frozen BK227.out 1
          go_wp2
          go_ret
          exact ⟨by first | rfl | (simp [errW_none, errW_some] <;> rfl) | (simp only [← hji14]; first | rfl | (simp [errW_none, errW_some] <;> rfl)) | (simp [*, errW_none, errW_some] <;> rfl), pbs HB⟩
        ·rw [if_neg c13] at H
         exact absurd H (by simp)
       ·rw [if_neg c12] at H
        exact absurd H (by simp)
      ·rw [if_neg c11] at H
       have c11b0 : decide (x19_2 < 10) = false := decide_eq_false c11
       clear c11
       obtain rfl := Option.some.inj H
       go_wp2
       go_ret
       exact ⟨by first | rfl | (simp [errW_none, errW_some] <;> rfl) | (simp [*, errW_none, errW_some] <;> rfl), pbs HB⟩
end Go.Proofs.YtdedijjbdkoekaaDoor.PB
end
section
namespace Go.Proofs.YtdedijjbdkoekaaDoor.PB
open Go.RowKit Go.Proofs.YtdedijjbdkoekaaDoorW.PrintWords Go.Proofs.YtdedijjbdkoekaaDoorW.PrintLast Go.Proofs.YtdedijjbdkoekaaDoorW.PrintMore Go.Proofs.YtdedijjbdkoekaaDoor.La
attribute [local go_sem] max2_int min2_int max_two min_two max_three min_three max_four min_four   -- for this text's walks alone
set_option linter.unusedVariables false
set_option linter.unusedSimpArgs false
mutual
def spec_l06Move.l0 : Nat → Int → Int → Int → Int → LA 10 → LA 40 → LA 40 → Option (LA 40)
 | 0, _, _, _, _, _, _, _ => none
 | k + 1, x2, x8, x1000, x1001, x1002, x2000, x153000 => if x8 < 100 then (spec_l06Move.l1 k x2 x8 0 x1000 x1001 x1002 x2000 x153000) else (some x153000)
def spec_l06Move.l1 : Nat → Int → Int → Int → Int → Int → LA 10 → LA 40 → LA 40 → Option (LA 40)
 | 0, _, _, _, _, _, _, _, _ => none
 | k + 1, x2, x8, x9, x1000, x1001, x1002, x2000, x153000 => if x9 < 4 then ((spec_l06Spot.f x8).bind fun bt153 => ((spec_l06Has.f x2000 bt153.1 bt153.2 x9).bind fun t156 => (if t156 = true then ((spec_l06Can.f x1000 x1001 x1002 bt153.1 bt153.2 x9 x2).bind fun t157 => (spec_l06Move.j2 k x2 x8 x9 t157 x1000 x1001 x1002 x2000 x153000 bt153.1 bt153.2)) else (spec_l06Move.j2 k x2 x8 x9 false x1000 x1001 x1002 x2000 x153000 bt153.1 bt153.2)))) else (spec_l06Move.l0 k x2 (wrap64 (x8 + 1)) x1000 x1001 x1002 x2000 x153000)
def spec_l06Move.j2 : Nat → Int → Int → Int → Bool → Int → Int → LA 10 → LA 40 → LA 40 → Int → Int → Option (LA 40)
 | 0, _, _, _, _, _, _, _, _, _, _, _ => none
 | k + 1, x2, x8, x9, x34, x1000, x1001, x1002, x2000, x153000, x156000, x156001 => if x34 = true then ((spec_l06Made.f x156000 x156001 x9 x2).bind fun bt158 => ((spec_l06Put.f x153000 bt158.1 bt158.2.1 bt158.2.2).bind fun t162 => (spec_l06Move.l1 k x2 x8 (wrap64 (x9 + 1)) x1000 x1001 x1002 x2000 t162))) else (spec_l06Move.l1 k x2 x8 (wrap64 (x9 + 1)) x1000 x1001 x1002 x2000 x153000)
end
def spec_l06Move.f (k : Nat) (s0_0 : Int) (s0_1 : Int) (s0_2 : LA 10) (s1_0 : LA 40) (a2 : Int) : Option (LA 40) := spec_l06Move.l0 k a2 0 s0_0 s0_1 s0_2 s1_0 (LA.zero 40)
theorem spec_l06Move.mono_l : ∀ k, (∀ y0 y1 y2 y3 y4 y5 y6, LeO (spec_l06Move.l0 k y0 y1 y2 y3 y4 y5 y6) (spec_l06Move.l0 (k + 1) y0 y1 y2 y3 y4 y5 y6)) ∧ (∀ y0 y1 y2 y3 y4 y5 y6 y7, LeO (spec_l06Move.l1 k y0 y1 y2 y3 y4 y5 y6 y7) (spec_l06Move.l1 (k + 1) y0 y1 y2 y3 y4 y5 y6 y7)) ∧ (∀ y0 y1 y2 y3 y4 y5 y6 y7 y8 y9 y10, LeO (spec_l06Move.j2 k y0 y1 y2 y3 y4 y5 y6 y7 y8 y9 y10) (spec_l06Move.j2 (k + 1) y0 y1 y2 y3 y4 y5 y6 y7 y8 y9 y10))
 | 0 => ⟨fun _ _ _ _ _ _ _ r h => by simp [spec_l06Move.l0] at h, fun _ _ _ _ _ _ _ _ r h => by simp [spec_l06Move.l1] at h, fun _ _ _ _ _ _ _ _ _ _ _ r h => by simp [spec_l06Move.j2] at h⟩
 | k + 1 => by
  obtain ⟨ih0, ih1, ih2⟩ := spec_l06Move.mono_l k
  refine ⟨?_, ?_, ?_⟩
  ·intro y0 y1 y2 y3 y4 y5 y6
   unfold spec_l06Move.l0
   repeat' first
   | (with_reducible exact ih0 _ _ _ _ _ _ _)
   | (with_reducible exact ih1 _ _ _ _ _ _ _ _)
   | (with_reducible exact ih2 _ _ _ _ _ _ _ _ _ _ _)
   | (with_reducible exact LeO.refl _)
   | (with_reducible exact LeO.none _)
   | (with_reducible refine LeO.ite ?_ ?_)
   | (with_reducible refine LeO.bind ?_ (fun _ => ?_))
   | exact ih0 _ _ _ _ _ _ _
   | exact ih1 _ _ _ _ _ _ _ _
   | exact ih2 _ _ _ _ _ _ _ _ _ _ _
   | exact LeO.none _
   | refine LeO.ite ?_ ?_
   | refine LeO.bind ?_ (fun _ => ?_)
  ·intro y0 y1 y2 y3 y4 y5 y6 y7
   unfold spec_l06Move.l1
   repeat' first
   | (with_reducible exact ih0 _ _ _ _ _ _ _)
   | (with_reducible exact ih1 _ _ _ _ _ _ _ _)
   | (with_reducible exact ih2 _ _ _ _ _ _ _ _ _ _ _)
   | (with_reducible exact LeO.refl _)
   | (with_reducible exact LeO.none _)
   | (with_reducible refine LeO.ite ?_ ?_)
   | (with_reducible refine LeO.bind ?_ (fun _ => ?_))
   | exact ih0 _ _ _ _ _ _ _
   | exact ih1 _ _ _ _ _ _ _ _
   | exact ih2 _ _ _ _ _ _ _ _ _ _ _
   | exact LeO.none _
   | refine LeO.ite ?_ ?_
   | refine LeO.bind ?_ (fun _ => ?_)
  ·intro y0 y1 y2 y3 y4 y5 y6 y7 y8 y9 y10
   unfold spec_l06Move.j2
   repeat' first
   | (with_reducible exact ih0 _ _ _ _ _ _ _)
   | (with_reducible exact ih1 _ _ _ _ _ _ _ _)
   | (with_reducible exact ih2 _ _ _ _ _ _ _ _ _ _ _)
   | (with_reducible exact LeO.refl _)
   | (with_reducible exact LeO.none _)
   | (with_reducible refine LeO.ite ?_ ?_)
   | (with_reducible refine LeO.bind ?_ (fun _ => ?_))
   | exact ih0 _ _ _ _ _ _ _
   | exact ih1 _ _ _ _ _ _ _ _
   | exact ih2 _ _ _ _ _ _ _ _ _ _ _
   | exact LeO.none _
   | refine LeO.ite ?_ ?_
   | refine LeO.bind ?_ (fun _ => ?_)
theorem spec_l06Move.mono : ∀ a0 a1 a2 a3 a4 k, LeO (spec_l06Move.f k a0 a1 a2 a3 a4) (spec_l06Move.f (k + 1) a0 a1 a2 a3 a4) := by
 intro a0 a1 a2 a3 a4 k
 obtain ⟨ih0, ih1, ih2⟩ := spec_l06Move.mono_l k
 unfold spec_l06Move.f
 repeat' first
   | (with_reducible exact ih0 _ _ _ _ _ _ _)
   | (with_reducible exact ih1 _ _ _ _ _ _ _ _)
   | (with_reducible exact ih2 _ _ _ _ _ _ _ _ _ _ _)
   | (with_reducible exact LeO.refl _)
   | (with_reducible exact LeO.none _)
   | (with_reducible refine LeO.ite ?_ ?_)
   | (with_reducible refine LeO.bind ?_ (fun _ => ?_))
   | exact ih0 _ _ _ _ _ _ _
   | exact ih1 _ _ _ _ _ _ _ _
   | exact ih2 _ _ _ _ _ _ _ _ _ _ _
   | exact LeO.none _
   | refine LeO.ite ?_ ?_
   | refine LeO.bind ?_ (fun _ => ?_)
set_option maxHeartbeats 8000000 in
set_option maxRecDepth 100000 in
theorem spec_l06Move.calls (k : Nat) (g0 : Nat) (s0_0 : Int) (s0_1 : Int) (s0_2 : LA 10) (g1 : Nat) (s1_0 : LA 40) (a2 : Int) (r : LA 40) (w : World) (hb0 : w.heap[g0]? = some (.cells (mixA (Value.int .u16) [.int .i8 s0_0, .int .i8 s0_1] s0_2) 31 (0, 0))) (hb1 : w.heap[g1]? = some (.cells (mixA (Value.int .u16) [] s1_0) 28 (0, 0))) (h : spec_l06Move.f k s0_0 s0_1 s0_2 s1_0 a2 = some r) :
  Calls Tryd.prog 35 #[.pointer (some ⟨g0, 0, none⟩), .pointer (some ⟨g1, 0, none⟩), .int .u8 a2] w fun e w' => e = .returned (.agg (mixA (Value.int .u16) [] r)) ∧ Below w.heap.size w w' := by
 have hu41 := Tryd.underlying41
 have NB0_1 := Aside0.mk (show g0 ≠ g1 from fun e_ => by rw [e_, hb1] at hb0; injection hb0 with h_; injection h_ with _ ht_; exact absurd ht_ (by decide))
 have NB1_0 := Aside0.mk (show g1 ≠ g0 from fun e_ => by rw [e_, hb0] at hb1; injection hb1 with h_; injection h_ with _ ht_; exact absurd ht_ (by decide))
 have BK0 := Aside0.mk hb0
 clear hb0
 have BK1 := Aside0.mk hb1
 clear hb1
 have HB := Aside0.mk (Below.refl w.heap.size w)
 have H : (spec_l06Move.l0 k a2 0 s0_0 s0_1 s0_2 s1_0 (LA.zero 40)) = some r := h
 clear h
 have H' := Aside0.mk H
 clear H
 go_enter Tryd.func35, Tryd.ntmps35
 go_wp2_with (first | ((with_reducible refine gate_dst (N := 6) rfl ?_); refine box_event ?hg (N := 6) ?hd (cs := (mixA (Value.int .u16) [] (LA.zero 40))) (t := 28) ?hr ?_; (case hd => rfl); (case hg => rfl); (case hr => first | (go_simp; done) | (go_simp; rfl)); intro gb151 hg w4 hbox hb; have n0_ := bkb BK0 hb; have n1_ := bkb BK1 hb; have n2_ := bst HB hb; have n3_ := Aside0.mk (hbox); have n4_ := gwl HB hg; have n5_ := gwl HB hg; have n6_ := nbl BK0 hg; have n7_ := nbg BK0 hg; have n8_ := nbl BK1 hg; have n9_ := nbg BK1 hg; clear BK0; clear BK1; clear HB; have BK0 := n0_; have BK1 := n1_; have HB := n2_; have BK151 := n3_; have GW151 := n4_; have GE151 := n5_; have NB0_151 := n6_; have NB151_0 := n7_; have NB1_151 := n8_; have NB151_1 := n9_; clear n0_ n1_ n2_ n3_ n4_ n5_ n6_ n7_ n8_ n9_; clear hb hbox hg) | ((with_reducible refine gate_dst (N := 7) rfl ?_); refine box_event ?hg (N := 7) ?hd (cs := (mixA (Value.int .u16) [] (LA.zero 40))) (t := 28) ?hr ?_; (case hd => rfl); (case hg => rfl); (case hr => first | (go_simp; done) | (go_simp; rfl)); intro gb152 hg w5 hbox hb; have n0_ := bkb BK0 hb; have n1_ := bkb BK1 hb; have n2_ := bkb BK151 hb; have n3_ := bst HB hb; have n4_ := Aside0.mk (hbox); have n5_ := gwl HB hg; have n6_ := gwl HB hg; have n7_ := nbl BK0 hg; have n8_ := nbg BK0 hg; have n9_ := nbl BK1 hg; have n10_ := nbg BK1 hg; have n11_ := nbl BK151 hg; have n12_ := nbg BK151 hg; clear BK0; clear BK1; clear BK151; clear HB; have BK0 := n0_; have BK1 := n1_; have BK151 := n2_; have HB := n3_; have BK152 := n4_; have GW152 := n5_; have GE152 := n6_; have NB0_152 := n7_; have NB152_0 := n8_; have NB1_152 := n9_; have NB152_1 := n10_; have NB151_152 := n11_; have NB152_151 := n12_; clear n0_ n1_ n2_ n3_ n4_ n5_ n6_ n7_ n8_ n9_ n10_ n11_ n12_; clear hb hbox hg) | ((with_reducible refine gate_store (p := 7) rfl ?_); refine wpList_store_lmix rfl 28 _ _ rfl gb152 (e := (Value.int .u16)) (cs' := []) (W' := (LA.zero 40)) (cs := []) (W := (LA.zero 40)) (T := 28) rfl rfl (pk BK152) rfl (by kernel_rfl) rfl (fun _ => rfl) rfl ?_; intro w6 hi hk hbl; have n0_ := Aside0.mk (KeepBut.blk hk (g' := g0) (o := .cells (mixA (Value.int .u16) [.int .i8 s0_0, .int .i8 s0_1] s0_2) 31 (0, 0)) (pk BK0) NB0_152.out (by simp)); have n1_ := Aside0.mk (KeepBut.blk hk (g' := g1) (o := .cells (mixA (Value.int .u16) [] s1_0) 28 (0, 0)) (pk BK1) NB1_152.out (by simp)); have n2_ := Aside0.mk (KeepBut.blk hk (g' := gb151) (o := .cells (mixA (Value.int .u16) [] (LA.zero 40)) 28 (0, 0)) (pk BK151) NB151_152.out (by simp)); have n3_ := Aside0.mk (hbl _ _ (pbs HB) GE152.out); have n4_ := Aside0.mk (hi); clear BK0; clear BK1; clear BK151; clear HB; clear BK152; have BK0 := n0_; have BK1 := n1_; have BK151 := n2_; have HB := n3_; have BK152 := n4_; clear n0_ n1_ n2_ n3_ n4_; clear hi hk hbl))
 go_loopg [8] k (fun kq v8 w' => ∃ (x8_1 : Int) (x153000_1 : LA 40), v8 = .int .i64 x8_1 ∧ Aside0 (spec_l06Move.l0 kq a2 x8_1 s0_0 s0_1 s0_2 s1_0 x153000_1 = some r) ∧ Aside0 (kq ≤ k) ∧ Aside0 (w'.heap[g0]? = some (.cells (mixA (Value.int .u16) [.int .i8 s0_0, .int .i8 s0_1] s0_2) 31 (0, 0))) ∧ Aside0 (w'.heap[g1]? = some (.cells (mixA (Value.int .u16) [] s1_0) 28 (0, 0))) ∧ Aside0 (w'.heap[gb151]? = some (.cells (mixA (Value.int .u16) [] (LA.zero 40)) 28 (0, 0))) ∧ Aside0 (w'.heap[gb152]? = some (.cells (mixA (Value.int .u16) [] x153000_1) 28 (0, 0))) ∧ Aside0 (Below w.heap.size w w'))
 case atStart => exact ⟨(0), ((LA.zero 40)), (by first | rfl | (simp; done) | (simp [*]; done)), H', ⟨Nat.le_refl _⟩, ⟨pk BK0⟩, ⟨pk BK1⟩, ⟨pk BK151⟩, ⟨pk BK152⟩, ⟨pbs HB⟩⟩
 case round =>
  clear H'
  try clear p2
  try clear c3
  obtain ⟨x8_1, x153000_1, rfl, HA, HK1, BK0, BK1, BK151, BK152, HB⟩ := hrel
  cases gk with
  | zero => exact absurd HA.out (by simp [spec_l06Move.l0])
  | succ k1 =>
   have H := HA.out
   clear HA
   simp only [spec_l06Move.l0] at H
   by_cases c7 : x8_1 < 100
   ·rw [if_pos c7] at H
    have c7b0 : decide (x8_1 < 100) = true := decide_eq_true c7
    clear c7
    have H' := Aside0.mk H
    clear H
    go_wp2
    go_loopg [9] k1 (fun kq v9 w' => ∃ (x9_2 : Int) (x153000_2 : LA 40), v9 = .int .i64 x9_2 ∧ Aside0 (spec_l06Move.l1 kq a2 x8_1 x9_2 s0_0 s0_1 s0_2 s1_0 x153000_2 = some r) ∧ Aside0 (kq ≤ k1) ∧ Aside0 (w'.heap[g0]? = some (.cells (mixA (Value.int .u16) [.int .i8 s0_0, .int .i8 s0_1] s0_2) 31 (0, 0))) ∧ Aside0 (w'.heap[g1]? = some (.cells (mixA (Value.int .u16) [] s1_0) 28 (0, 0))) ∧ Aside0 (w'.heap[gb151]? = some (.cells (mixA (Value.int .u16) [] (LA.zero 40)) 28 (0, 0))) ∧ Aside0 (w'.heap[gb152]? = some (.cells (mixA (Value.int .u16) [] x153000_2) 28 (0, 0))) ∧ Aside0 (Below w.heap.size w w'))
    case atStart => exact ⟨(0), (x153000_1), (by first | rfl | (simp; done) | (simp [*]; done)), H', ⟨Nat.le_refl _⟩, ⟨pk BK0⟩, ⟨pk BK1⟩, ⟨pk BK151⟩, ⟨pk BK152⟩, ⟨pbs HB⟩⟩
    case round =>
     clear H'
     try clear p2
     try clear c3
     try clear c7
     try clear c7b0
     try clear p2
     obtain ⟨x9_2, x153000_2, rfl, HA, HK2, BK0, BK1, BK151, BK152, HB⟩ := hrel
     cases gk with
     | zero => exact absurd HA.out (by simp [spec_l06Move.l1])
     | succ k2 =>
      have H := HA.out
      clear HA
      simp only [spec_l06Move.l1] at H
      by_cases c8 : x9_2 < 4
      ·rw [if_pos c8] at H
       have c8b0 : decide (x9_2 < 4) = true := decide_eq_true c8
       clear c8
       replace H := Option.bind_eq_some_iff.mp H
       obtain ⟨⟨t153, t154⟩, A90, H⟩ := H
       replace H : ((spec_l06Has.f s1_0 t153 t154 x9_2).bind fun t156 => (if t156 = true then ((spec_l06Can.f s0_0 s0_1 s0_2 t153 t154 x9_2 a2).bind fun t157 => (spec_l06Move.j2 k2 a2 x8_1 x9_2 t157 s0_0 s0_1 s0_2 s1_0 x153000_2 t153 t154)) else (spec_l06Move.j2 k2 a2 x8_1 x9_2 false s0_0 s0_1 s0_2 s1_0 x153000_2 t153 t154))) = some r := H
       have A9 := Aside0.mk A90
       clear A90
       have HC10 := Aside0.mk H
       clear H
       go_upto_region 9 with (first | ((with_reducible refine gate_callee (f := 54) rfl ?_); refine goesL_ (some 23) rfl rfl Tryd.func54 (by kernel_rfl) rfl #[.int .i64 x8_1] rfl (by (try simp only [List.map_toArray, List.map_cons, List.map_nil]); first | done | rfl | (simp only [List.length_drop, List.length_take]; rfl)) ?_; (with_reducible refine (spec_l06Spot.calls x8_1 t153 t154 _ A9.out).mono ?_); rintro e w11 ⟨rfl, hb⟩; refine ⟨_, rfl, ?_⟩; have n0_ := bkb BK0 hb; have n1_ := bkb BK1 hb; have n2_ := bkb BK151 hb; have n3_ := bkb BK152 hb; have n4_ := bst HB hb; clear BK0; clear BK1; clear BK151; clear BK152; clear HB; have BK0 := n0_; have BK1 := n1_; have BK151 := n2_; have BK152 := n3_; have HB := n4_; clear n0_ n1_ n2_ n3_ n4_; (try clear hb); (try clear hb2); (try clear hk); (try clear hi)) | ((with_reducible refine gate_dst (N := 10) rfl ?_); refine box_event ?hg (N := 10) ?hd (cs := #[.int .i8 0, .int .i8 0]) (t := 41) ?hr ?_; (case hd => rfl); (case hg => rfl); (case hr => first | (go_simp; done) | (go_simp; rfl)); intro gb155 hg w12 hbox hb; have n0_ := bkb BK0 hb; have n1_ := bkb BK1 hb; have n2_ := bkb BK151 hb; have n3_ := bkb BK152 hb; have n4_ := bst HB hb; have n5_ := Aside0.mk (hbox); have n6_ := gwl HB hg; have n7_ := gwl HB hg; have n8_ := nbl BK0 hg; have n9_ := nbg BK0 hg; have n10_ := nbl BK1 hg; have n11_ := nbg BK1 hg; have n12_ := nbl BK151 hg; have n13_ := nbg BK151 hg; have n14_ := nbl BK152 hg; have n15_ := nbg BK152 hg; clear BK0; clear BK1; clear BK151; clear BK152; clear HB; have BK0 := n0_; have BK1 := n1_; have BK151 := n2_; have BK152 := n3_; have HB := n4_; have BK155 := n5_; have GW155 := n6_; have GE155 := n7_; have NB0_155 := n8_; have NB155_0 := n9_; have NB1_155 := n10_; have NB155_1 := n11_; have NB151_155 := n12_; have NB155_151 := n13_; have NB152_155 := n14_; have NB155_152 := n15_; clear n0_ n1_ n2_ n3_ n4_ n5_ n6_ n7_ n8_ n9_ n10_ n11_ n12_ n13_ n14_ n15_; clear hb hbox hg; have hnb13 := NB155_0.out; have hnc13 := NB0_155.out; have hnb14 := NB155_1.out; have hnc14 := NB1_155.out; have hnb15 := NB155_151.out; have hnc15 := NB151_155.out; have hnb16 := NB155_152.out; have hnc16 := NB152_155.out; have hcz17_0 : w12.cell? ⟨gb155, 0, none⟩ = some (.int .i8 0) := (blk_cell BK155.out 0).trans rfl; have hcz17_1 : w12.cell? ⟨gb155, 1, none⟩ = some (.int .i8 0) := (blk_cell BK155.out 1).trans rfl; have hfz17_0 := blk_frozen BK155.out 0; have hfz17_1 := blk_frozen BK155.out 1))
       (try simp only [Act.put, List.setIfInBounds_toArray, List.set_cons_zero, List.set_cons_succ])
       go_cut [34] (fun v34 wc => ∃ (kq : Nat) (x34_9 : Bool), v34 = .bool x34_9 ∧ Aside0 (spec_l06Move.j2 kq a2 x8_1 x9_2 x34_9 s0_0 s0_1 s0_2 s1_0 x153000_2 t153 t154 = some r) ∧ Aside0 (kq ≤ k2) ∧ Aside0 (wc.heap[g0]? = some (.cells (mixA (Value.int .u16) [.int .i8 s0_0, .int .i8 s0_1] s0_2) 31 (0, 0))) ∧ Aside0 (wc.heap[g1]? = some (.cells (mixA (Value.int .u16) [] s1_0) 28 (0, 0))) ∧ Aside0 (wc.heap[gb151]? = some (.cells (mixA (Value.int .u16) [] (LA.zero 40)) 28 (0, 0))) ∧ Aside0 (wc.heap[gb152]? = some (.cells (mixA (Value.int .u16) [] x153000_2) 28 (0, 0))) ∧ Aside0 (wc.heap[gb155]? = some (.cells #[.int .i8 t153, .int .i8 t154] 41 (0, 0))) ∧ Aside0 (Below w.heap.size w wc))
       case first =>
        have H := HC10.out
        clear HC10
        replace H := Option.bind_eq_some_iff.mp H
        obtain ⟨t156, A180, H⟩ := H
        replace H : (if t156 = true then ((spec_l06Can.f s0_0 s0_1 s0_2 t153 t154 x9_2 a2).bind fun t157 => (spec_l06Move.j2 k2 a2 x8_1 x9_2 t157 s0_0 s0_1 s0_2 s1_0 x153000_2 t153 t154)) else (spec_l06Move.j2 k2 a2 x8_1 x9_2 false s0_0 s0_1 s0_2 s1_0 x153000_2 t153 t154)) = some r := H
        have A18 := Aside0.mk A180
        clear A180
        by_cases c19 : t156 = true
        ·subst c19
         have H1 : ((spec_l06Can.f s0_0 s0_1 s0_2 t153 t154 x9_2 a2).bind fun t157 => (spec_l06Move.j2 k2 a2 x8_1 x9_2 t157 s0_0 s0_1 s0_2 s1_0 x153000_2 t153 t154)) = some r := by rw [if_pos rfl] at H; exact H
         clear H
         have H := H1
         clear H1
         replace H := Option.bind_eq_some_iff.mp H
         obtain ⟨t157, A200, H⟩ := H
         replace H : (spec_l06Move.j2 k2 a2 x8_1 x9_2 t157 s0_0 s0_1 s0_2 s1_0 x153000_2 t153 t154) = some r := H
         have A20 := Aside0.mk A200
         clear A200
         have H' := Aside0.mk H
         clear H
         have hnb21 := NB155_0.out
         have hnc21 := NB0_155.out
         have hnb22 := NB155_1.out
         have hnc22 := NB1_155.out
         have hnb23 := NB155_151.out
         have hnc23 := NB151_155.out
         have hnb24 := NB155_152.out
         have hnc24 := NB152_155.out
         have hcz25_0 : w12.cell? ⟨gb155, 0, none⟩ = some (.int .i8 0) := bc_ BK155.out 0
         have hcz25_1 : w12.cell? ⟨gb155, 1, none⟩ = some (.int .i8 0) := bc_ BK155.out 1
         have hfz25_0 := blk_frozen BK155.out 0
         have hfz25_1 := blk_frozen BK155.out 1
         go_wp2_with (first | ((with_reducible refine gate_callee (f := 40) rfl ?_); refine goesL_ (some 27) rfl rfl Tryd.func40 (by kernel_rfl) rfl #[.pointer (some ⟨g1, 0, none⟩), .agg #[.int .i8 t153, .int .i8 t154], .int .i64 x9_2] rfl (by (try simp only [List.map_toArray, List.map_cons, List.map_nil]); first | done | rfl | (simp only [List.length_drop, List.length_take]; rfl)) ?_; (with_reducible refine (spec_l06Has.calls g1 s1_0 t153 t154 x9_2 true _ ?side1 A18.out).mono ?_); (case side1 => exact (by (with_reducible repeat (first | refine blk_drewN ?_ _ | refine blk_drew ?_ | refine blk_alloc ?_ _)); refine blk_far ?_ NB1_155.out _; (with_reducible repeat (first | refine blk_drewN ?_ _ | refine blk_drew ?_ | refine blk_alloc ?_ _)); refine blk_far ?_ NB1_155.out _; (with_reducible repeat (first | refine blk_drewN ?_ _ | refine blk_drew ?_ | refine blk_alloc ?_ _)); exact BK1.out)); rintro e w26 ⟨rfl, hb⟩; refine ⟨_, rfl, ?_⟩; have n0_ := Aside0.mk (blk_below (g := g0) (o := .cells (mixA (Value.int .u16) [.int .i8 s0_0, .int .i8 s0_1] s0_2) 31 (0, 0)) (by (with_reducible repeat (first | refine blk_drewN ?_ _ | refine blk_drew ?_ | refine blk_alloc ?_ _)); refine blk_far ?_ NB0_155.out _; (with_reducible repeat (first | refine blk_drewN ?_ _ | refine blk_drew ?_ | refine blk_alloc ?_ _)); refine blk_far ?_ NB0_155.out _; (with_reducible repeat (first | refine blk_drewN ?_ _ | refine blk_drew ?_ | refine blk_alloc ?_ _)); exact BK0.out) hb); have n1_ := Aside0.mk (blk_below (g := g1) (o := .cells (mixA (Value.int .u16) [] s1_0) 28 (0, 0)) (by (with_reducible repeat (first | refine blk_drewN ?_ _ | refine blk_drew ?_ | refine blk_alloc ?_ _)); refine blk_far ?_ NB1_155.out _; (with_reducible repeat (first | refine blk_drewN ?_ _ | refine blk_drew ?_ | refine blk_alloc ?_ _)); refine blk_far ?_ NB1_155.out _; (with_reducible repeat (first | refine blk_drewN ?_ _ | refine blk_drew ?_ | refine blk_alloc ?_ _)); exact BK1.out) hb); have n2_ := Aside0.mk (blk_below (g := gb151) (o := .cells (mixA (Value.int .u16) [] (LA.zero 40)) 28 (0, 0)) (by (with_reducible repeat (first | refine blk_drewN ?_ _ | refine blk_drew ?_ | refine blk_alloc ?_ _)); refine blk_far ?_ NB151_155.out _; (with_reducible repeat (first | refine blk_drewN ?_ _ | refine blk_drew ?_ | refine blk_alloc ?_ _)); refine blk_far ?_ NB151_155.out _; (with_reducible repeat (first | refine blk_drewN ?_ _ | refine blk_drew ?_ | refine blk_alloc ?_ _)); exact BK151.out) hb); have n3_ := Aside0.mk (blk_below (g := gb152) (o := .cells (mixA (Value.int .u16) [] x153000_2) 28 (0, 0)) (by (with_reducible repeat (first | refine blk_drewN ?_ _ | refine blk_drew ?_ | refine blk_alloc ?_ _)); refine blk_far ?_ NB152_155.out _; (with_reducible repeat (first | refine blk_drewN ?_ _ | refine blk_drew ?_ | refine blk_alloc ?_ _)); refine blk_far ?_ NB152_155.out _; (with_reducible repeat (first | refine blk_drewN ?_ _ | refine blk_drew ?_ | refine blk_alloc ?_ _)); exact BK152.out) hb); have n4_ := Aside0.mk (blk_below (g := gb155) (o := .cells #[.int .i8 t153, .int .i8 t154] 41 (0, 0)) (by (with_reducible repeat (first | refine blk_drewN ?_ _ | refine blk_drew ?_ | refine blk_alloc ?_ _)); refine blk_put (cs := #[.int .i8 t153, .int .i8 0]) ?_ 1 _ rfl; (with_reducible repeat (first | refine blk_drewN ?_ _ | refine blk_drew ?_ | refine blk_alloc ?_ _)); refine blk_put (cs := #[.int .i8 0, .int .i8 0]) ?_ 0 _ rfl; (with_reducible repeat (first | refine blk_drewN ?_ _ | refine blk_drew ?_ | refine blk_alloc ?_ _)); exact BK155.out) hb); have n5_ := bst HB hb; clear BK0; clear BK1; clear BK151; clear BK152; clear BK155; clear HB; have BK0 := n0_; have BK1 := n1_; have BK151 := n2_; have BK152 := n3_; have BK155 := n4_; have HB := n5_; clear n0_ n1_ n2_ n3_ n4_ n5_; (try clear hb); (try clear hb2); (try clear hk); (try clear hi); have hcz27_0 : w26.cell? ⟨gb155, 0, none⟩ = some (.int .i8 t153) := (blk_cell BK155.out 0).trans rfl; have hcz27_1 : w26.cell? ⟨gb155, 1, none⟩ = some (.int .i8 t154) := (blk_cell BK155.out 1).trans rfl; have hfz27_0 := blk_frozen BK155.out 0; have hfz27_1 := blk_frozen BK155.out 1) | (go_at_call 22; (with_reducible refine (spec_l06Can.calls g0 s0_0 s0_1 s0_2 t153 t154 x9_2 a2 t157 _ ?side1 A20.out).mono ?_); (case side1 => exact (pk BK0)); rintro e w28 ⟨rfl, hb⟩; have n0_ := bkb BK0 hb; have n1_ := bkb BK1 hb; have n2_ := bkb BK151 hb; have n3_ := bkb BK152 hb; have n4_ := bkb BK155 hb; have n5_ := bst HB hb; clear BK0; clear BK1; clear BK151; clear BK152; clear BK155; clear HB; have BK0 := n0_; have BK1 := n1_; have BK151 := n2_; have BK152 := n3_; have BK155 := n4_; have HB := n5_; clear n0_ n1_ n2_ n3_ n4_ n5_; (try clear hb); (try clear hb2); (try clear hk); (try clear hi)))
         go_meet
         case rel => exact ⟨_, (t157), (by first | rfl | (simp; done) | (simp [*]; done)), H', ⟨by have := HK1.out; have := HK2.out; first | omega | exact Nat.le_refl _⟩, ⟨pk BK0⟩, ⟨pk BK1⟩, ⟨pk BK151⟩, ⟨pk BK152⟩, ⟨pk BK155⟩, ⟨pbs HB⟩⟩
        ·replace c19 := Bool.eq_false_iff.mpr c19
         subst c19
         have H1 : (spec_l06Move.j2 k2 a2 x8_1 x9_2 false s0_0 s0_1 s0_2 s1_0 x153000_2 t153 t154) = some r := by rw [if_neg (show ¬ (false = true) by decide)] at H; exact H
         clear H
         have H := H1
         clear H1
         have H' := Aside0.mk H
         clear H
         have hnb29 := NB155_0.out
         have hnc29 := NB0_155.out
         have hnb30 := NB155_1.out
         have hnc30 := NB1_155.out
         have hnb31 := NB155_151.out
         have hnc31 := NB151_155.out
         have hnb32 := NB155_152.out
         have hnc32 := NB152_155.out
         have hcz33_0 : w12.cell? ⟨gb155, 0, none⟩ = some (.int .i8 0) := bc_ BK155.out 0
         have hcz33_1 : w12.cell? ⟨gb155, 1, none⟩ = some (.int .i8 0) := bc_ BK155.out 1
         have hfz33_0 := blk_frozen BK155.out 0
         have hfz33_1 := blk_frozen BK155.out 1
         go_wp2_with (first | ((with_reducible refine gate_callee (f := 40) rfl ?_); refine goesL_ (some 27) rfl rfl Tryd.func40 (by kernel_rfl) rfl #[.pointer (some ⟨g1, 0, none⟩), .agg #[.int .i8 t153, .int .i8 t154], .int .i64 x9_2] rfl (by (try simp only [List.map_toArray, List.map_cons, List.map_nil]); first | done | rfl | (simp only [List.length_drop, List.length_take]; rfl)) ?_; (with_reducible refine (spec_l06Has.calls g1 s1_0 t153 t154 x9_2 false _ ?side1 A18.out).mono ?_); (case side1 => exact (by (with_reducible repeat (first | refine blk_drewN ?_ _ | refine blk_drew ?_ | refine blk_alloc ?_ _)); refine blk_far ?_ NB1_155.out _; (with_reducible repeat (first | refine blk_drewN ?_ _ | refine blk_drew ?_ | refine blk_alloc ?_ _)); refine blk_far ?_ NB1_155.out _; (with_reducible repeat (first | refine blk_drewN ?_ _ | refine blk_drew ?_ | refine blk_alloc ?_ _)); exact BK1.out)); rintro e w34 ⟨rfl, hb⟩; refine ⟨_, rfl, ?_⟩; have n0_ := Aside0.mk (blk_below (g := g0) (o := .cells (mixA (Value.int .u16) [.int .i8 s0_0, .int .i8 s0_1] s0_2) 31 (0, 0)) (by (with_reducible repeat (first | refine blk_drewN ?_ _ | refine blk_drew ?_ | refine blk_alloc ?_ _)); refine blk_far ?_ NB0_155.out _; (with_reducible repeat (first | refine blk_drewN ?_ _ | refine blk_drew ?_ | refine blk_alloc ?_ _)); refine blk_far ?_ NB0_155.out _; (with_reducible repeat (first | refine blk_drewN ?_ _ | refine blk_drew ?_ | refine blk_alloc ?_ _)); exact BK0.out) hb); have n1_ := Aside0.mk (blk_below (g := g1) (o := .cells (mixA (Value.int .u16) [] s1_0) 28 (0, 0)) (by (with_reducible repeat (first | refine blk_drewN ?_ _ | refine blk_drew ?_ | refine blk_alloc ?_ _)); refine blk_far ?_ NB1_155.out _; (with_reducible repeat (first | refine blk_drewN ?_ _ | refine blk_drew ?_ | refine blk_alloc ?_ _)); refine blk_far ?_ NB1_155.out _; (with_reducible repeat (first | refine blk_drewN ?_ _ | refine blk_drew ?_ | refine blk_alloc ?_ _)); exact BK1.out) hb); have n2_ := Aside0.mk (blk_below (g := gb151) (o := .cells (mixA (Value.int .u16) [] (LA.zero 40)) 28 (0, 0)) (by (with_reducible repeat (first | refine blk_drewN ?_ _ | refine blk_drew ?_ | refine blk_alloc ?_ _)); refine blk_far ?_ NB151_155.out _; (with_reducible repeat (first | refine blk_drewN ?_ _ | refine blk_drew ?_ | refine blk_alloc ?_ _)); refine blk_far ?_ NB151_155.out _; (with_reducible repeat (first | refine blk_drewN ?_ _ | refine blk_drew ?_ | refine blk_alloc ?_ _)); exact BK151.out) hb); have n3_ := Aside0.mk (blk_below (g := gb152) (o := .cells (mixA (Value.int .u16) [] x153000_2) 28 (0, 0)) (by (with_reducible repeat (first | refine blk_drewN ?_ _ | refine blk_drew ?_ | refine blk_alloc ?_ _)); refine blk_far ?_ NB152_155.out _; (with_reducible repeat (first | refine blk_drewN ?_ _ | refine blk_drew ?_ | refine blk_alloc ?_ _)); refine blk_far ?_ NB152_155.out _; (with_reducible repeat (first | refine blk_drewN ?_ _ | refine blk_drew ?_ | refine blk_alloc ?_ _)); exact BK152.out) hb); have n4_ := Aside0.mk (blk_below (g := gb155) (o := .cells #[.int .i8 t153, .int .i8 t154] 41 (0, 0)) (by (with_reducible repeat (first | refine blk_drewN ?_ _ | refine blk_drew ?_ | refine blk_alloc ?_ _)); refine blk_put (cs := #[.int .i8 t153, .int .i8 0]) ?_ 1 _ rfl; (with_reducible repeat (first | refine blk_drewN ?_ _ | refine blk_drew ?_ | refine blk_alloc ?_ _)); refine blk_put (cs := #[.int .i8 0, .int .i8 0]) ?_ 0 _ rfl; (with_reducible repeat (first | refine blk_drewN ?_ _ | refine blk_drew ?_ | refine blk_alloc ?_ _)); exact BK155.out) hb); have n5_ := bst HB hb; clear BK0; clear BK1; clear BK151; clear BK152; clear BK155; clear HB; have BK0 := n0_; have BK1 := n1_; have BK151 := n2_; have BK152 := n3_; have BK155 := n4_; have HB := n5_; clear n0_ n1_ n2_ n3_ n4_ n5_; (try clear hb); (try clear hb2); (try clear hk); (try clear hi)))
         go_meet
         case rel => exact ⟨_, (false), (by first | rfl | (simp; done) | (simp [*]; done)), H', ⟨by have := HK1.out; have := HK2.out; first | omega | exact Nat.le_refl _⟩, ⟨pk BK0⟩, ⟨pk BK1⟩, ⟨pk BK151⟩, ⟨pk BK152⟩, ⟨pk BK155⟩, ⟨pbs HB⟩⟩
       case rest =>
        clear HC10
        try clear c1
        try clear c2
        try clear p2
        try clear c3
        try clear c4
        try clear c5
        try clear c7
        try clear c7b0
        try clear c8
        try clear c8b0
        try clear c13
        try clear c14
        try clear c15
        try clear c16
        try clear c19
        try clear c21
        try clear c22
        try clear c23
        try clear c24
        try clear c29
        try clear c30
        try clear c31
        try clear c32
        try clear hcz17_0
        try clear hcz17_1
        try clear hcz25_0
        try clear hcz25_1
        try clear hcz27_0
        try clear hcz27_1
        try clear hcz33_0
        try clear hcz33_1
        try clear hfz17_0
        try clear hfz17_1
        try clear hfz25_0
        try clear hfz25_1
        try clear hfz27_0
        try clear hfz27_1
        try clear hfz33_0
        try clear hfz33_1
        try clear p2
        obtain ⟨kq, x34_9, rfl, HA, HJ9, BK0, BK1, BK151, BK152, BK155, HB⟩ := hcut
        cases kq with
        | zero => exact absurd HA.out (by simp [spec_l06Move.j2])
        | succ kj9 =>
         have H := HA.out
         clear HA
         simp only [spec_l06Move.j2] at H
         by_cases c35 : x34_9 = true
         ·subst c35
          have H1 : ((spec_l06Made.f t153 t154 x9_2 a2).bind fun bt158 => ((spec_l06Put.f x153000_2 bt158.1 bt158.2.1 bt158.2.2).bind fun t162 => (spec_l06Move.l1 kj9 a2 x8_1 (wrap64 (x9_2 + 1)) s0_0 s0_1 s0_2 s1_0 t162))) = some r := by rw [if_pos rfl] at H; exact H
          clear H
          have H := H1
          clear H1
          replace H := Option.bind_eq_some_iff.mp H
          obtain ⟨⟨t158, t159, t160⟩, A360, H⟩ := H
          replace H : ((spec_l06Put.f x153000_2 t158 t159 t160).bind fun t162 => (spec_l06Move.l1 kj9 a2 x8_1 (wrap64 (x9_2 + 1)) s0_0 s0_1 s0_2 s1_0 t162)) = some r := H
          have A36 := Aside0.mk A360
          clear A360
          replace H := Option.bind_eq_some_iff.mp H
          obtain ⟨t162, A370, H⟩ := H
          replace H : (spec_l06Move.l1 kj9 a2 x8_1 (wrap64 (x9_2 + 1)) s0_0 s0_1 s0_2 s1_0 t162) = some r := H
          have A37 := Aside0.mk A370
          clear A370
          have H' := Aside0.mk H
          clear H
          have hnb38 := NB155_0.out
          have hnc38 := NB0_155.out
          have hnb39 := NB155_1.out
          have hnc39 := NB1_155.out
          have hnb40 := NB155_151.out
          have hnc40 := NB151_155.out
          have hnb41 := NB155_152.out
          have hnc41 := NB152_155.out
          have hcz42_0 : wc.cell? ⟨gb155, 0, none⟩ = some (.int .i8 t153) := bc_ BK155.out 0
          have hcz42_1 : wc.cell? ⟨gb155, 1, none⟩ = some (.int .i8 t154) := bc_ BK155.out 1
          have hfz42_0 := blk_frozen BK155.out 0
          have hfz42_1 := blk_frozen BK155.out 1
          go_wp2_with (first | ((with_reducible refine gate_callee (f := 23) rfl ?_); refine goesL_ (some 39) rfl rfl Tryd.func23 (by kernel_rfl) rfl #[.agg #[.int .i8 t153, .int .i8 t154], .int .i64 x9_2, .int .u8 a2] rfl (by (try simp only [List.map_toArray, List.map_cons, List.map_nil]); first | done | rfl | (simp only [List.length_drop, List.length_take]; rfl)) ?_; (with_reducible refine (spec_l06Made.calls t153 t154 x9_2 a2 t158 t159 t160 _ A36.out).mono ?_); rintro e w43 ⟨rfl, hb⟩; refine ⟨_, rfl, ?_⟩; have n0_ := bkb BK0 hb; have n1_ := bkb BK1 hb; have n2_ := bkb BK151 hb; have n3_ := bkb BK152 hb; have n4_ := bkb BK155 hb; have n5_ := bst HB hb; clear BK0; clear BK1; clear BK151; clear BK152; clear BK155; clear HB; have BK0 := n0_; have BK1 := n1_; have BK151 := n2_; have BK152 := n3_; have BK155 := n4_; have HB := n5_; clear n0_ n1_ n2_ n3_ n4_ n5_; (try clear hb); (try clear hb2); (try clear hk); (try clear hi)) | ((with_reducible refine gate_dst (N := 11) rfl ?_); refine box_event ?hg (N := 11) ?hd (cs := #[.int .i8 0, .int .i8 0]) (t := 41) ?hr ?_; (case hd => rfl); (case hg => rfl); (case hr => first | (go_simp; done) | (go_simp; rfl)); intro gb161 hg w44 hbox hb; have n0_ := bkb BK0 hb; have n1_ := bkb BK1 hb; have n2_ := bkb BK151 hb; have n3_ := bkb BK152 hb; have n4_ := bkb BK155 hb; have n5_ := bst HB hb; have n6_ := Aside0.mk (hbox); have n7_ := gwl HB hg; have n8_ := gwl HB hg; have n9_ := nbl BK0 hg; have n10_ := nbg BK0 hg; have n11_ := nbl BK1 hg; have n12_ := nbg BK1 hg; have n13_ := nbl BK151 hg; have n14_ := nbg BK151 hg; have n15_ := nbl BK152 hg; have n16_ := nbg BK152 hg; have n17_ := nbl BK155 hg; have n18_ := nbg BK155 hg; clear BK0; clear BK1; clear BK151; clear BK152; clear BK155; clear HB; have BK0 := n0_; have BK1 := n1_; have BK151 := n2_; have BK152 := n3_; have BK155 := n4_; have HB := n5_; have BK161 := n6_; have GW161 := n7_; have GE161 := n8_; have NB0_161 := n9_; have NB161_0 := n10_; have NB1_161 := n11_; have NB161_1 := n12_; have NB151_161 := n13_; have NB161_151 := n14_; have NB152_161 := n15_; have NB161_152 := n16_; have NB155_161 := n17_; have NB161_155 := n18_; clear n0_ n1_ n2_ n3_ n4_ n5_ n6_ n7_ n8_ n9_ n10_ n11_ n12_ n13_ n14_ n15_ n16_ n17_ n18_; clear hb hbox hg; have hnb45 := NB161_0.out; have hnc45 := NB0_161.out; have hnb46 := NB161_1.out; have hnc46 := NB1_161.out; have hnb47 := NB161_151.out; have hnc47 := NB151_161.out; have hnb48 := NB161_152.out; have hnc48 := NB152_161.out; have hnb49 := NB161_155.out; have hnc49 := NB155_161.out; have hcz50_0 : w44.cell? ⟨gb161, 0, none⟩ = some (.int .i8 0) := (blk_cell BK161.out 0).trans rfl; have hcz50_1 : w44.cell? ⟨gb161, 1, none⟩ = some (.int .i8 0) := (blk_cell BK161.out 1).trans rfl; have hfz50_0 := blk_frozen BK161.out 0; have hfz50_1 := blk_frozen BK161.out 1) | ((with_reducible refine gate_callee (f := 24) rfl ?_); refine goesL_ (some 44) rfl rfl Tryd.func24 (by kernel_rfl) rfl #[.pointer (some ⟨gb152, 0, none⟩), .agg #[.int .i8 t158, .int .i8 t159], .int .i64 t160] rfl (by (try simp only [List.map_toArray, List.map_cons, List.map_nil]); first | done | rfl | (simp only [List.length_drop, List.length_take]; rfl)) ?_; (with_reducible refine (spec_l06Put.calls gb152 x153000_2 t158 t159 t160 t162 w _ ?side1 ?side2 A37.out).mono ?_); (case side1 => exact ⟨(by (with_reducible repeat (first | refine blk_drewN ?_ _ | refine blk_drew ?_ | refine blk_alloc ?_ _)); refine blk_far ?_ NB152_161.out _; (with_reducible repeat (first | refine blk_drewN ?_ _ | refine blk_drew ?_ | refine blk_alloc ?_ _)); refine blk_far ?_ NB152_161.out _; (with_reducible repeat (first | refine blk_drewN ?_ _ | refine blk_drew ?_ | refine blk_alloc ?_ _)); exact BK152.out), GE152.out⟩); (case side2 => repeat (first | (with_reducible first | exact HB.out | apply below_alloc | apply pw_below_drewN | apply below_drew1 | refine below_set ?_ GE0.out | refine below_set ?_ GE1.out | refine below_set ?_ GE151.out | refine below_set ?_ GE152.out | refine below_set ?_ GE155.out | refine below_set ?_ GE161.out) | exact HB.out)); rintro e w51 ⟨rfl, hi, hb, hk⟩; refine ⟨_, rfl, ?_⟩; have n0_ := Aside0.mk (KeepBut.blk hk (g' := g0) (o := .cells (mixA (Value.int .u16) [.int .i8 s0_0, .int .i8 s0_1] s0_2) 31 (0, 0)) (by (with_reducible repeat (first | refine blk_drewN ?_ _ | refine blk_drew ?_ | refine blk_alloc ?_ _)); refine blk_far ?_ NB0_161.out _; (with_reducible repeat (first | refine blk_drewN ?_ _ | refine blk_drew ?_ | refine blk_alloc ?_ _)); refine blk_far ?_ NB0_161.out _; (with_reducible repeat (first | refine blk_drewN ?_ _ | refine blk_drew ?_ | refine blk_alloc ?_ _)); exact BK0.out) NB0_152.out (by simp)); have n1_ := Aside0.mk (KeepBut.blk hk (g' := g1) (o := .cells (mixA (Value.int .u16) [] s1_0) 28 (0, 0)) (by (with_reducible repeat (first | refine blk_drewN ?_ _ | refine blk_drew ?_ | refine blk_alloc ?_ _)); refine blk_far ?_ NB1_161.out _; (with_reducible repeat (first | refine blk_drewN ?_ _ | refine blk_drew ?_ | refine blk_alloc ?_ _)); refine blk_far ?_ NB1_161.out _; (with_reducible repeat (first | refine blk_drewN ?_ _ | refine blk_drew ?_ | refine blk_alloc ?_ _)); exact BK1.out) NB1_152.out (by simp)); have n2_ := Aside0.mk (KeepBut.blk hk (g' := gb151) (o := .cells (mixA (Value.int .u16) [] (LA.zero 40)) 28 (0, 0)) (by (with_reducible repeat (first | refine blk_drewN ?_ _ | refine blk_drew ?_ | refine blk_alloc ?_ _)); refine blk_far ?_ NB151_161.out _; (with_reducible repeat (first | refine blk_drewN ?_ _ | refine blk_drew ?_ | refine blk_alloc ?_ _)); refine blk_far ?_ NB151_161.out _; (with_reducible repeat (first | refine blk_drewN ?_ _ | refine blk_drew ?_ | refine blk_alloc ?_ _)); exact BK151.out) NB151_152.out (by simp)); have n3_ := Aside0.mk (KeepBut.blk hk (g' := gb155) (o := .cells #[.int .i8 t153, .int .i8 t154] 41 (0, 0)) (by (with_reducible repeat (first | refine blk_drewN ?_ _ | refine blk_drew ?_ | refine blk_alloc ?_ _)); refine blk_far ?_ NB155_161.out _; (with_reducible repeat (first | refine blk_drewN ?_ _ | refine blk_drew ?_ | refine blk_alloc ?_ _)); refine blk_far ?_ NB155_161.out _; (with_reducible repeat (first | refine blk_drewN ?_ _ | refine blk_drew ?_ | refine blk_alloc ?_ _)); exact BK155.out) NB155_152.out (by simp)); have n4_ := Aside0.mk (KeepBut.blk hk (g' := gb161) (o := .cells #[.int .i8 t158, .int .i8 t159] 41 (0, 0)) (by (with_reducible repeat (first | refine blk_drewN ?_ _ | refine blk_drew ?_ | refine blk_alloc ?_ _)); refine blk_put (cs := #[.int .i8 t158, .int .i8 0]) ?_ 1 _ rfl; (with_reducible repeat (first | refine blk_drewN ?_ _ | refine blk_drew ?_ | refine blk_alloc ?_ _)); refine blk_put (cs := #[.int .i8 0, .int .i8 0]) ?_ 0 _ rfl; (with_reducible repeat (first | refine blk_drewN ?_ _ | refine blk_drew ?_ | refine blk_alloc ?_ _)); exact BK161.out) NB161_152.out (by simp)); have n5_ := Aside0.mk (hb); have n6_ := Aside0.mk (hi.1); clear BK0; clear BK1; clear BK151; clear BK155; clear BK161; clear HB; clear BK152; have BK0 := n0_; have BK1 := n1_; have BK151 := n2_; have BK155 := n3_; have BK161 := n4_; have HB := n5_; have BK152 := n6_; clear n0_ n1_ n2_ n3_ n4_ n5_ n6_; (try clear hb); (try clear hb2); (try clear hk); (try clear hi)))
          go_roundg kj9
          case measure => have := HK1.out; have := HK2.out; have := HJ9.out; omega
          case rel => exact ⟨(wrap64 (x9_2 + 1)), (t162), (by first | rfl | (simp; done) | (simp [*]; done)), H', ⟨by have := HK1.out; have := HK2.out; have := HJ9.out; omega⟩, ⟨pk BK0⟩, ⟨pk BK1⟩, ⟨pk BK151⟩, ⟨pk BK152⟩, ⟨pbs HB⟩⟩
         ·replace c35 := Bool.eq_false_iff.mpr c35
          subst c35
          have H1 : (spec_l06Move.l1 kj9 a2 x8_1 (wrap64 (x9_2 + 1)) s0_0 s0_1 s0_2 s1_0 x153000_2) = some r := by rw [if_neg (show ¬ (false = true) by decide)] at H; exact H
          clear H
          have H := H1
          clear H1
          have H' := Aside0.mk H
          clear H
          go_wp2
          go_roundg kj9
          case measure => have := HK1.out; have := HK2.out; have := HJ9.out; omega
          case rel => exact ⟨(wrap64 (x9_2 + 1)), (x153000_2), (by first | rfl | (simp; done) | (simp [*]; done)), H', ⟨by have := HK1.out; have := HK2.out; have := HJ9.out; omega⟩, ⟨pk BK0⟩, ⟨pk BK1⟩, ⟨pk BK151⟩, ⟨pk BK152⟩, ⟨pbs HB⟩⟩
      ·rw [if_neg c8] at H
       have c8b0 : decide (x9_2 < 4) = false := decide_eq_false c8
       clear c8
       have H' := Aside0.mk H
       clear H
       go_wp2
       go_roundg k2
       case measure => have := HK1.out; have := HK2.out; omega
       case rel => exact ⟨(wrap64 (x8_1 + 1)), (x153000_2), (by first | rfl | (simp; done) | (simp [*]; done)), H', ⟨by have := HK1.out; have := HK2.out; omega⟩, ⟨pk BK0⟩, ⟨pk BK1⟩, ⟨pk BK151⟩, ⟨pk BK152⟩, ⟨pbs HB⟩⟩
   ·rw [if_neg c7] at H
    have c7b0 : decide (x8_1 < 100) = false := decide_eq_false c7
    clear c7
    obtain rfl := Option.some.inj H
    go_wp2_with (first | ((with_reducible refine gate_dst (N := 45) rfl ?_); refine wpList_run0 (v := .agg (mixA (Value.int .u16) [] x153000_1)) rfl (load_mix_run (P := Tryd.prog) 28 (.tmp 7) rfl gb152 rfl (show World.rangeAt _ gb152 0 ([] ++ x153000_1.l.map (Value.int .u16)) from mix_range (show (World.heap _)[gb152]? = some (.cells (mixA (Value.int .u16) [] x153000_1) 28 (0, 0)) from by (with_reducible repeat (first | refine blk_drewN ?_ _ | refine blk_drew ?_ | refine blk_alloc ?_ _)); exact BK152.out)) Tryd.underlying28 rfl (by kernel_rfl) rfl) ?_) | ((with_reducible refine gate_store (p := 6) rfl ?_); refine wpList_store_lmix rfl 28 _ _ rfl gb151 (e := (Value.int .u16)) (cs' := []) (W' := x153000_1) (cs := []) (W := (LA.zero 40)) (T := 28) rfl rfl (pk BK151) rfl (by kernel_rfl) rfl (fun _ => rfl) rfl ?_; intro w53 hi hk hbl; have n0_ := Aside0.mk (KeepBut.blk hk (g' := g0) (o := .cells (mixA (Value.int .u16) [.int .i8 s0_0, .int .i8 s0_1] s0_2) 31 (0, 0)) (pk BK0) NB0_151.out (by simp)); have n1_ := Aside0.mk (KeepBut.blk hk (g' := g1) (o := .cells (mixA (Value.int .u16) [] s1_0) 28 (0, 0)) (pk BK1) NB1_151.out (by simp)); have n2_ := Aside0.mk (KeepBut.blk hk (g' := gb152) (o := .cells (mixA (Value.int .u16) [] x153000_1) 28 (0, 0)) (pk BK152) NB152_151.out (by simp)); have n3_ := Aside0.mk (hbl _ _ (pbs HB) GE151.out); have n4_ := Aside0.mk (hi); clear BK0; clear BK1; clear BK152; clear HB; clear BK151; have BK0 := n0_; have BK1 := n1_; have BK152 := n2_; have HB := n3_; have BK151 := n4_; clear n0_ n1_ n2_ n3_ n4_; clear hi hk hbl))
    refine bodyPost_ret (results_cell_row rfl _ _ gb151 28 (mixA (Value.int .u16) [] x153000_1) (0, 0) _ rfl (pk BK151) Tryd.underlying28 rfl (by rw [mix_size]; kernel_rfl)) rfl ?_
    exact ⟨by first | rfl | (simp [errW_none, errW_some] <;> rfl) | (simp [*, errW_none, errW_some] <;> rfl), pbs HB⟩
mutual
def impl_Crowd_isIn.l0 : Nat → LA 40 → Int → Int → Int → LA 10 → Option (Bool)
 | 0, _, _, _, _, _ => none
 | k + 1, x10, x11, x232000, x232001, x232002 => if x11 < 4 then (if 0 ≤ x11 then (impl_Crowd_isIn.l1 k x10 x11 (LA.row x10 10 x11) 0 x232000 x232001 x232002) else (none)) else (some true)
def impl_Crowd_isIn.l1 : Nat → LA 40 → Int → LA 10 → Int → Int → Int → LA 10 → Option (Bool)
 | 0, _, _, _, _, _, _, _ => none
 | k + 1, x10, x11, x14, x15, x232000, x232001, x232002 => if x15 < 10 then (if 0 ≤ x15 then (impl_Crowd_isIn.l2 k x15 (rd x14.l x15) x10 x11 x14 x15 0 x232000 x232001 x232002) else (none)) else (impl_Crowd_isIn.l0 k x10 (wrap64 (x11 + 1)) x232000 x232001 x232002)
def impl_Crowd_isIn.l2 : Nat → Int → Int → LA 40 → Int → LA 10 → Int → Int → Int → Int → LA 10 → Option (Bool)
 | 0, _, _, _, _, _, _, _, _, _, _ => none
 | k + 1, x7, x8, x10, x11, x14, x15, x19, x232000, x232001, x232002 => if x19 < 16 then (if 0 ≤ x19 then (if (Go.bits .and .u16 (shr .u16 x8 x19) 1) = 1 then ((impl_Room_isFree.f x232000 x232001 x232002 x19 (IntKind.i8.wrap (x7))).bind fun t233 => (if t233 = true then (impl_Crowd_isIn.l2 k x7 x8 x10 x11 x14 x15 (IntKind.i8.wrap (x19 + 1)) x232000 x232001 x232002) else (some false))) else (impl_Crowd_isIn.l2 k x7 x8 x10 x11 x14 x15 (IntKind.i8.wrap (x19 + 1)) x232000 x232001 x232002)) else (none)) else (impl_Crowd_isIn.l1 k x10 x11 x14 (wrap64 (x15 + 1)) x232000 x232001 x232002)
end
def impl_Crowd_isIn.f (k : Nat) (a0 : LA 40) (a1_0 : Int) (a1_1 : Int) (a1_2 : LA 10) : Option (Bool) := impl_Crowd_isIn.l0 k a0 0 a1_0 a1_1 a1_2
theorem impl_Crowd_isIn.mono_l : ∀ k, (∀ y0 y1 y2 y3 y4, LeO (impl_Crowd_isIn.l0 k y0 y1 y2 y3 y4) (impl_Crowd_isIn.l0 (k + 1) y0 y1 y2 y3 y4)) ∧ (∀ y0 y1 y2 y3 y4 y5 y6, LeO (impl_Crowd_isIn.l1 k y0 y1 y2 y3 y4 y5 y6) (impl_Crowd_isIn.l1 (k + 1) y0 y1 y2 y3 y4 y5 y6)) ∧ (∀ y0 y1 y2 y3 y4 y5 y6 y7 y8 y9, LeO (impl_Crowd_isIn.l2 k y0 y1 y2 y3 y4 y5 y6 y7 y8 y9) (impl_Crowd_isIn.l2 (k + 1) y0 y1 y2 y3 y4 y5 y6 y7 y8 y9))
 | 0 => ⟨fun _ _ _ _ _ r h => by simp [impl_Crowd_isIn.l0] at h, fun _ _ _ _ _ _ _ r h => by simp [impl_Crowd_isIn.l1] at h, fun _ _ _ _ _ _ _ _ _ _ r h => by simp [impl_Crowd_isIn.l2] at h⟩
 | k + 1 => by
  obtain ⟨ih0, ih1, ih2⟩ := impl_Crowd_isIn.mono_l k
  refine ⟨?_, ?_, ?_⟩
  ·intro y0 y1 y2 y3 y4
   unfold impl_Crowd_isIn.l0
   repeat' first
   | (with_reducible exact ih0 _ _ _ _ _)
   | (with_reducible exact ih1 _ _ _ _ _ _ _)
   | (with_reducible exact ih2 _ _ _ _ _ _ _ _ _ _)
   | (with_reducible exact LeO.refl _)
   | (with_reducible exact LeO.none _)
   | (with_reducible refine LeO.ite ?_ ?_)
   | (with_reducible refine LeO.bind ?_ (fun _ => ?_))
   | exact ih0 _ _ _ _ _
   | exact ih1 _ _ _ _ _ _ _
   | exact ih2 _ _ _ _ _ _ _ _ _ _
   | exact LeO.none _
   | refine LeO.ite ?_ ?_
   | refine LeO.bind ?_ (fun _ => ?_)
  ·intro y0 y1 y2 y3 y4 y5 y6
   unfold impl_Crowd_isIn.l1
   repeat' first
   | (with_reducible exact ih0 _ _ _ _ _)
   | (with_reducible exact ih1 _ _ _ _ _ _ _)
   | (with_reducible exact ih2 _ _ _ _ _ _ _ _ _ _)
   | (with_reducible exact LeO.refl _)
   | (with_reducible exact LeO.none _)
   | (with_reducible refine LeO.ite ?_ ?_)
   | (with_reducible refine LeO.bind ?_ (fun _ => ?_))
   | exact ih0 _ _ _ _ _
   | exact ih1 _ _ _ _ _ _ _
   | exact ih2 _ _ _ _ _ _ _ _ _ _
   | exact LeO.none _
   | refine LeO.ite ?_ ?_
   | refine LeO.bind ?_ (fun _ => ?_)
  ·intro y0 y1 y2 y3 y4 y5 y6 y7 y8 y9
   unfold impl_Crowd_isIn.l2
   repeat' first
   | (with_reducible exact ih0 _ _ _ _ _)
   | (with_reducible exact ih1 _ _ _ _ _ _ _)
   | (with_reducible exact ih2 _ _ _ _ _ _ _ _ _ _)
   | (with_reducible exact LeO.refl _)
   | (with_reducible exact LeO.none _)
   | (with_reducible refine LeO.ite ?_ ?_)
   | (with_reducible refine LeO.bind ?_ (fun _ => ?_))
   | exact ih0 _ _ _ _ _
   | exact ih1 _ _ _ _ _ _ _
   | exact ih2 _ _ _ _ _ _ _ _ _ _
   | exact LeO.none _
   | refine LeO.ite ?_ ?_
   | refine LeO.bind ?_ (fun _ => ?_)
theorem impl_Crowd_isIn.mono : ∀ a0 a1 a2 a3 k, LeO (impl_Crowd_isIn.f k a0 a1 a2 a3) (impl_Crowd_isIn.f (k + 1) a0 a1 a2 a3) := by
 intro a0 a1 a2 a3 k
 obtain ⟨ih0, ih1, ih2⟩ := impl_Crowd_isIn.mono_l k
 unfold impl_Crowd_isIn.f
 repeat' first
   | (with_reducible exact ih0 _ _ _ _ _)
   | (with_reducible exact ih1 _ _ _ _ _ _ _)
   | (with_reducible exact ih2 _ _ _ _ _ _ _ _ _ _)
   | (with_reducible exact LeO.refl _)
   | (with_reducible exact LeO.none _)
   | (with_reducible refine LeO.ite ?_ ?_)
   | (with_reducible refine LeO.bind ?_ (fun _ => ?_))
   | exact ih0 _ _ _ _ _
   | exact ih1 _ _ _ _ _ _ _
   | exact ih2 _ _ _ _ _ _ _ _ _ _
   | exact LeO.none _
   | refine LeO.ite ?_ ?_
   | refine LeO.bind ?_ (fun _ => ?_)
set_option maxHeartbeats 8000000 in
set_option maxRecDepth 100000 in
theorem impl_Crowd_isIn.calls (k : Nat) (a0 : LA 40) (a1_0 : Int) (a1_1 : Int) (a1_2 : LA 10) (r : Bool) (w : World) (h : impl_Crowd_isIn.f k a0 a1_0 a1_1 a1_2 = some r) :
  Calls Tryd.prog 55 #[.agg (mixA (Value.int .u16) [] a0), .agg (mixA (Value.int .u16) [.int .i8 a1_0, .int .i8 a1_1] a1_2)] w fun e w' => e = .returned (.bool r) ∧ Below w.heap.size w w' := by
 have hu31 := Tryd.underlying31
 have hu41 := Tryd.underlying41
 have HB := Aside0.mk (Below.refl w.heap.size w)
 have H : (impl_Crowd_isIn.l0 k a0 0 a1_0 a1_1 a1_2) = some r := h
 clear h
 have H' := Aside0.mk H
 clear H
 go_enter Tryd.func55, Tryd.ntmps55
 go_wp2_with (first | ((with_reducible refine gate_dst (N := 2) rfl ?_); refine box_event ?hg (N := 2) ?hd (cs := (mixA (Value.int .u16) [] a0)) (t := 28) ?hr ?_; (case hd => rfl); (case hg => rfl); (case hr => first | (go_simp; done) | (go_simp; rfl)); intro gb230 hg w3 hbox hb; have n0_ := bst HB hb; have n1_ := Aside0.mk (hbox); have n2_ := gwl HB hg; have n3_ := gwl HB hg; clear HB; have HB := n0_; have BK230 := n1_; have GW230 := n2_; have GE230 := n3_; clear n0_ n1_ n2_ n3_; clear hb hbox hg) | ((with_reducible refine gate_dst (N := 3) rfl ?_); refine box_event ?hg (N := 3) ?hd (cs := (mixA (Value.int .u16) [.int .i8 a1_0, .int .i8 a1_1] a1_2)) (t := 31) ?hr ?_; (case hd => rfl); (case hg => rfl); (case hr => first | (go_simp; done) | (go_simp; rfl)); intro gb231 hg w4 hbox hb; have n0_ := bkb BK230 hb; have n1_ := bst HB hb; have n2_ := Aside0.mk (hbox); have n3_ := gwl HB hg; have n4_ := gwl HB hg; have n5_ := nbl BK230 hg; have n6_ := nbg BK230 hg; clear BK230; clear HB; have BK230 := n0_; have HB := n1_; have BK231 := n2_; have GW231 := n3_; have GE231 := n4_; have NB230_231 := n5_; have NB231_230 := n6_; clear n0_ n1_ n2_ n3_ n4_ n5_ n6_; clear hb hbox hg) | ((with_reducible refine gate_dst (N := 10) rfl ?_); refine wpList_run0 (v := .agg (mixA (Value.int .u16) [] a0)) rfl (load_mix_run (P := Tryd.prog) 28 (.tmp 2) rfl gb230 rfl (show World.rangeAt _ gb230 0 ([] ++ a0.l.map (Value.int .u16)) from mix_range (show (World.heap _)[gb230]? = some (.cells (mixA (Value.int .u16) [] a0) 28 (0, 0)) from by (with_reducible repeat (first | refine blk_drewN ?_ _ | refine blk_drew ?_ | refine blk_alloc ?_ _)); exact BK230.out)) Tryd.underlying28 rfl (by kernel_rfl) rfl) ?_))
 go_loopg [11] k (fun kq v11 w' => ∃ (x11_1 : Int), v11 = .int .i64 x11_1 ∧ Aside0 (impl_Crowd_isIn.l0 kq a0 x11_1 a1_0 a1_1 a1_2 = some r) ∧ Aside0 (kq ≤ k) ∧ Aside0 (w'.heap[gb230]? = some (.cells (mixA (Value.int .u16) [] a0) 28 (0, 0))) ∧ Aside0 (w'.heap[gb231]? = some (.cells (mixA (Value.int .u16) [.int .i8 a1_0, .int .i8 a1_1] a1_2) 31 (0, 0))) ∧ Aside0 (Below w.heap.size w w'))
 case atStart => exact ⟨(0), (by first | rfl | (simp; done) | (simp [*]; done)), H', ⟨Nat.le_refl _⟩, ⟨pk BK230⟩, ⟨pk BK231⟩, ⟨pbs HB⟩⟩
 case round =>
  clear H'
  try clear p2
  try clear c5
  obtain ⟨x11_1, rfl, HA, HK1, BK230, BK231, HB⟩ := hrel
  cases gk with
  | zero => exact absurd HA.out (by simp [impl_Crowd_isIn.l0])
  | succ k1 =>
   have H := HA.out
   clear HA
   simp only [impl_Crowd_isIn.l0] at H
   by_cases c6 : x11_1 < 4
   ·rw [if_pos c6] at H
    have c6b0 : decide (x11_1 < 4) = true := decide_eq_true c6
    clear c6
    by_cases c7 : 0 ≤ x11_1
    ·rw [if_pos c7] at H
     have c7b0 : decide (0 ≤ x11_1) = true := decide_eq_true c7
     clear c7
     have H' := Aside0.mk H
     clear H
     have hixd8 : ∀ W_ : World, (Instr.index 28 (.agg (mixA (Value.int .u16) [] a0)) (.int .i64 x11_1)).run Tryd.prog W_ = .ok (.agg (mixA (Value.int .u16) [] (LA.row a0 10 x11_1))) W_ := fun W_ => idx_lar (c := 4) (m := 10) (e := (Value.int .u16)) Tryd.underlying28 (fun _ => by kernel_rfl) (fun _ => by kernel_rfl) rfl x11_1 (by first | omega | exact of_decide_eq_true (by first | (with_reducible assumption) | assumption)) (by first | omega | exact of_decide_eq_true (by first | (with_reducible assumption) | assumption)) W_
     go_wp2_with (first | ((with_reducible refine gate_dst (N := 6) rfl ?_); refine box_event ?hg (N := 6) ?hd (cs := (mixA (Value.int .u16) [] (LA.zero 10))) (t := 24) ?hr ?_; (case hd => rfl); (case hg => rfl); (case hr => first | (go_simp; done) | (go_simp; rfl)); intro gb232 hg w9 hbox hb; have n0_ := bkb BK230 hb; have n1_ := bkb BK231 hb; have n2_ := bst HB hb; have n3_ := Aside0.mk (hbox); have n4_ := gwl HB hg; have n5_ := gwl HB hg; have n6_ := nbl BK230 hg; have n7_ := nbg BK230 hg; have n8_ := nbl BK231 hg; have n9_ := nbg BK231 hg; clear BK230; clear BK231; clear HB; have BK230 := n0_; have BK231 := n1_; have HB := n2_; have BK232 := n3_; have GW232 := n4_; have GE232 := n5_; have NB230_232 := n6_; have NB232_230 := n7_; have NB231_232 := n8_; have NB232_231 := n9_; clear n0_ n1_ n2_ n3_ n4_ n5_ n6_ n7_ n8_ n9_; clear hb hbox hg) | ((with_reducible refine gate_store (p := 6) rfl ?_); refine wpList_store_lmix rfl 24 _ _ rfl gb232 (e := (Value.int .u16)) (cs' := []) (W' := (LA.row a0 10 x11_1)) (cs := []) (W := (LA.zero 10)) (T := 24) rfl rfl (pk BK232) rfl (by kernel_rfl) rfl (fun _ => rfl) rfl ?_; intro w10 hi hk hbl; have n0_ := Aside0.mk (KeepBut.blk hk (g' := gb230) (o := .cells (mixA (Value.int .u16) [] a0) 28 (0, 0)) (pk BK230) NB230_232.out (by simp)); have n1_ := Aside0.mk (KeepBut.blk hk (g' := gb231) (o := .cells (mixA (Value.int .u16) [.int .i8 a1_0, .int .i8 a1_1] a1_2) 31 (0, 0)) (pk BK231) NB231_232.out (by simp)); have n2_ := Aside0.mk (hbl _ _ (pbs HB) GE232.out); have n3_ := Aside0.mk (hi); clear BK230; clear BK231; clear HB; clear BK232; have BK230 := n0_; have BK231 := n1_; have HB := n2_; have BK232 := n3_; clear n0_ n1_ n2_ n3_; clear hi hk hbl) | ((with_reducible refine gate_dst (N := 14) rfl ?_); refine wpList_run0 (v := .agg (mixA (Value.int .u16) [] (LA.row a0 10 x11_1))) rfl (load_mix_run (P := Tryd.prog) 24 (.tmp 6) rfl gb232 rfl (show World.rangeAt _ gb232 0 ([] ++ (LA.row a0 10 x11_1).l.map (Value.int .u16)) from mix_range (show (World.heap _)[gb232]? = some (.cells (mixA (Value.int .u16) [] (LA.row a0 10 x11_1)) 24 (0, 0)) from by (with_reducible repeat (first | refine blk_drewN ?_ _ | refine blk_drew ?_ | refine blk_alloc ?_ _)); exact BK232.out)) Tryd.underlying24 rfl (by kernel_rfl) rfl) ?_))
     go_loopg [15] k1 (fun kq v15 w' => ∃ (x15_2 : Int), v15 = .int .i64 x15_2 ∧ Aside0 (impl_Crowd_isIn.l1 kq a0 x11_1 (LA.row a0 10 x11_1) x15_2 a1_0 a1_1 a1_2 = some r) ∧ Aside0 (kq ≤ k1) ∧ Aside0 (w'.heap[gb230]? = some (.cells (mixA (Value.int .u16) [] a0) 28 (0, 0))) ∧ Aside0 (w'.heap[gb231]? = some (.cells (mixA (Value.int .u16) [.int .i8 a1_0, .int .i8 a1_1] a1_2) 31 (0, 0))) ∧ Aside0 (w'.heap[gb232]? = some (.cells (mixA (Value.int .u16) [] (LA.row a0 10 x11_1)) 24 (0, 0))) ∧ Aside0 (Below w.heap.size w w'))
     case atStart => exact ⟨(0), (by first | rfl | (simp; done) | (simp [*]; done)), H', ⟨Nat.le_refl _⟩, ⟨pk BK230⟩, ⟨pk BK231⟩, ⟨pk BK232⟩, ⟨pbs HB⟩⟩
     case round =>
      clear H'
      try clear p2
      try clear c5
      try clear c6
      try clear c6b0
      try clear c7
      try clear c7b0
      try clear p2
      obtain ⟨x15_2, rfl, HA, HK2, BK230, BK231, BK232, HB⟩ := hrel
      cases gk with
      | zero => exact absurd HA.out (by simp [impl_Crowd_isIn.l1])
      | succ k2 =>
       have H := HA.out
       clear HA
       simp only [impl_Crowd_isIn.l1] at H
       by_cases c12 : x15_2 < 10
       ·rw [if_pos c12] at H
        have c12b0 : decide (x15_2 < 10) = true := decide_eq_true c12
        clear c12
        by_cases c13 : 0 ≤ x15_2
        ·rw [if_pos c13] at H
         have c13b0 : decide (0 ≤ x15_2) = true := decide_eq_true c13
         clear c13
         have H' := Aside0.mk H
         clear H
         have hixd14 : ∀ W_ : World, (Instr.index 24 (.agg (mixA (Value.int .u16) [] (LA.row a0 10 x11_1))) (.int .i64 x15_2)).run Tryd.prog W_ = .ok (.int .u16 (rd (LA.row a0 10 x11_1).l x15_2)) W_ := fun W_ => idx_la (e := (Value.int .u16)) Tryd.underlying24 (fun _ => by kernel_rfl) (fun _ => by kernel_rfl) x15_2 (by first | omega | exact of_decide_eq_true (by first | (with_reducible assumption) | assumption)) (by first | omega | exact of_decide_eq_true (by first | (with_reducible assumption) | assumption)) W_
         go_wp2
         go_loopg [19] k2 (fun kq v19 w' => ∃ (x19_3 : Int), v19 = .int .i8 x19_3 ∧ Aside0 (impl_Crowd_isIn.l2 kq x15_2 (rd (LA.row a0 10 x11_1).l x15_2) a0 x11_1 (LA.row a0 10 x11_1) x15_2 x19_3 a1_0 a1_1 a1_2 = some r) ∧ Aside0 (kq ≤ k2) ∧ Aside0 (w'.heap[gb230]? = some (.cells (mixA (Value.int .u16) [] a0) 28 (0, 0))) ∧ Aside0 (w'.heap[gb231]? = some (.cells (mixA (Value.int .u16) [.int .i8 a1_0, .int .i8 a1_1] a1_2) 31 (0, 0))) ∧ Aside0 (w'.heap[gb232]? = some (.cells (mixA (Value.int .u16) [] (LA.row a0 10 x11_1)) 24 (0, 0))) ∧ Aside0 (Below w.heap.size w w'))
         case atStart => exact ⟨(0), (by first | rfl | (simp; done) | (simp [*]; done)), H', ⟨Nat.le_refl _⟩, ⟨pk BK230⟩, ⟨pk BK231⟩, ⟨pk BK232⟩, ⟨pbs HB⟩⟩
         case round =>
          clear H'
          try clear c1
          try clear p2
          try clear c5
          try clear c6
          try clear c6b0
          try clear c7
          try clear c7b0
          try clear c12
          try clear c12b0
          try clear c13
          try clear c13b0
          try clear p2
          obtain ⟨x19_3, rfl, HA, HK3, BK230, BK231, BK232, HB⟩ := hrel
          cases gk with
          | zero => exact absurd HA.out (by simp [impl_Crowd_isIn.l2])
          | succ k3 =>
           have H := HA.out
           clear HA
           simp only [impl_Crowd_isIn.l2] at H
           by_cases c15 : x19_3 < 16
           ·rw [if_pos c15] at H
            have c15b0 : decide (x19_3 < 16) = true := decide_eq_true c15
            clear c15
            by_cases c16 : 0 ≤ x19_3
            ·rw [if_pos c16] at H
             have c16b0 := eq_true c16
             have c16b1 : decide (0 ≤ x19_3) = true := decide_eq_true c16
             clear c16
             obtain ⟨ji17, hji17⟩ : ∃ j_ : Int, (shr .u16 (rd (LA.row a0 10 x11_1).l x15_2) x19_3) = j_ := ⟨_, rfl⟩
             replace H : (if (Go.bits .and .u16 (ji17) 1) = 1 then ((impl_Room_isFree.f a1_0 a1_1 a1_2 x19_3 (IntKind.i8.wrap (x15_2))).bind fun t233 => (if t233 = true then (impl_Crowd_isIn.l2 k3 x15_2 (rd (LA.row a0 10 x11_1).l x15_2) a0 x11_1 (LA.row a0 10 x11_1) x15_2 (IntKind.i8.wrap (x19_3 + 1)) a1_0 a1_1 a1_2) else (some false))) else (impl_Crowd_isIn.l2 k3 x15_2 (rd (LA.row a0 10 x11_1).l x15_2) a0 x11_1 (LA.row a0 10 x11_1) x15_2 (IntKind.i8.wrap (x19_3 + 1)) a1_0 a1_1 a1_2)) = some r := by first | (rw [hji17] at H; exact H) | (simp only [hji17] at H ⊢; exact H)
             have hji17_ : ((rd (LA.row a0 10 x11_1).l x15_2) / 2 ^ min x19_3.toNat 16) = ji17 := hji17
             have hji17z : x19_3 ≤ 16 → ((rd (LA.row a0 10 x11_1).l x15_2) / 2 ^ x19_3.toNat) = ji17 := shr_small hji17
             by_cases c18 : (Go.bits .and .u16 (ji17) 1) = 1
             ·rw [if_pos c18] at H
              have c18b0 : ((Go.bits .and .u16 (ji17) 1) == 1) = true := beq_iff_eq.mpr c18
              have c18b1 : ((Go.bits .and .u16 (ji17) 1) != 1) = false := bne_eq_false_iff_eq.mpr c18
              clear c18
              replace H := Option.bind_eq_some_iff.mp H
              obtain ⟨t233, A190, H⟩ := H
              replace H : (if t233 = true then (impl_Crowd_isIn.l2 k3 x15_2 (rd (LA.row a0 10 x11_1).l x15_2) a0 x11_1 (LA.row a0 10 x11_1) x15_2 (IntKind.i8.wrap (x19_3 + 1)) a1_0 a1_1 a1_2) else (some false)) = some r := H
              have A19 := Aside0.mk A190
              clear A190
              by_cases c20 : t233 = true
              ·subst c20
               have H1 : (impl_Crowd_isIn.l2 k3 x15_2 (rd (LA.row a0 10 x11_1).l x15_2) a0 x11_1 (LA.row a0 10 x11_1) x15_2 (IntKind.i8.wrap (x19_3 + 1)) a1_0 a1_1 a1_2) = some r := by rw [if_pos rfl] at H; exact H
               clear H
               have H := H1
               clear H1
               have H' := Aside0.mk H
               clear H
               go_wp2_with (first | ((with_reducible refine gate_dst (N := 28) rfl ?_); refine wpList_run1 (v := .agg (mixA (Value.int .u16) [.int .i8 a1_0, .int .i8 a1_1] a1_2)) (by rfl) (load_mix_run (P := Tryd.prog) 31 (.tmp 3) rfl gb231 rfl (show World.rangeAt _ gb231 0 ([.int .i8 a1_0, .int .i8 a1_1] ++ a1_2.l.map (Value.int .u16)) from mix_range (show (World.heap _)[gb231]? = some (.cells (mixA (Value.int .u16) [.int .i8 a1_0, .int .i8 a1_1] a1_2) 31 (0, 0)) from by (with_reducible repeat (first | refine blk_drewN ?_ _ | refine blk_drew ?_ | refine blk_alloc ?_ _)); exact BK231.out)) Tryd.underlying31 rfl (by kernel_rfl) rfl) ?_) | (go_at_call 51; (with_reducible refine (impl_Room_isFree.calls a1_0 a1_1 a1_2 x19_3 (IntKind.i8.wrap (x15_2)) true _ A19.out).mono ?_); rintro e w22 ⟨rfl, hb⟩; have n0_ := bkb BK230 hb; have n1_ := bkb BK231 hb; have n2_ := bkb BK232 hb; have n3_ := bst HB hb; clear BK230; clear BK231; clear BK232; clear HB; have BK230 := n0_; have BK231 := n1_; have BK232 := n2_; have HB := n3_; clear n0_ n1_ n2_ n3_; (try clear hb); (try clear hb2); (try clear hk); (try clear hi)))
               go_roundg k3
               case measure => have := HK1.out; have := HK2.out; have := HK3.out; omega
               case rel => exact ⟨(IntKind.i8.wrap (x19_3 + 1)), (by first | rfl | (simp; done) | (simp [*]; done)), H', ⟨by have := HK1.out; have := HK2.out; have := HK3.out; omega⟩, ⟨pk BK230⟩, ⟨pk BK231⟩, ⟨pk BK232⟩, ⟨pbs HB⟩⟩
              ·replace c20 := Bool.eq_false_iff.mpr c20
               subst c20
               have H1 : (some false) = some r := by rw [if_neg (show ¬ (false = true) by decide)] at H; exact H
               clear H
               have H := H1
               clear H1
               obtain rfl := Option.some.inj H
               go_wp2_with (first | ((with_reducible refine gate_dst (N := 28) rfl ?_); refine wpList_run1 (v := .agg (mixA (Value.int .u16) [.int .i8 a1_0, .int .i8 a1_1] a1_2)) (by rfl) (load_mix_run (P := Tryd.prog) 31 (.tmp 3) rfl gb231 rfl (show World.rangeAt _ gb231 0 ([.int .i8 a1_0, .int .i8 a1_1] ++ a1_2.l.map (Value.int .u16)) from mix_range (show (World.heap _)[gb231]? = some (.cells (mixA (Value.int .u16) [.int .i8 a1_0, .int .i8 a1_1] a1_2) 31 (0, 0)) from by (with_reducible repeat (first | refine blk_drewN ?_ _ | refine blk_drew ?_ | refine blk_alloc ?_ _)); exact BK231.out)) Tryd.underlying31 rfl (by kernel_rfl) rfl) ?_) | (go_at_call 51; (with_reducible refine (impl_Room_isFree.calls a1_0 a1_1 a1_2 x19_3 (IntKind.i8.wrap (x15_2)) false _ A19.out).mono ?_); rintro e w24 ⟨rfl, hb⟩; have n0_ := bkb BK230 hb; have n1_ := bkb BK231 hb; have n2_ := bkb BK232 hb; have n3_ := bst HB hb; clear BK230; clear BK231; clear BK232; clear HB; have BK230 := n0_; have BK231 := n1_; have BK232 := n2_; have HB := n3_; clear n0_ n1_ n2_ n3_; (try clear hb); (try clear hb2); (try clear hk); (try clear hi)))
               go_ret
               exact ⟨by first | rfl | (simp [errW_none, errW_some] <;> rfl) | (simp only [← hji17]; first | rfl | (simp [errW_none, errW_some] <;> rfl)) | (simp [*, errW_none, errW_some] <;> rfl), pbs HB⟩
             ·rw [if_neg c18] at H
              have c18b0 : ((Go.bits .and .u16 (ji17) 1) == 1) = false := beq_eq_false_iff_ne.mpr c18
              have c18b1 : ((Go.bits .and .u16 (ji17) 1) != 1) = true := bne_iff_ne.mpr c18
              have H' := Aside0.mk H
              clear H
              go_wp2
              go_roundg k3
              case measure => have := HK1.out; have := HK2.out; have := HK3.out; omega
              case rel => exact ⟨(IntKind.i8.wrap (x19_3 + 1)), (by first | rfl | (simp; done) | (simp [*]; done)), H', ⟨by have := HK1.out; have := HK2.out; have := HK3.out; omega⟩, ⟨pk BK230⟩, ⟨pk BK231⟩, ⟨pk BK232⟩, ⟨pbs HB⟩⟩
            ·rw [if_neg c16] at H
             exact absurd H (by simp)
           ·rw [if_neg c15] at H
            have c15b0 : decide (x19_3 < 16) = false := decide_eq_false c15
            clear c15
            have H' := Aside0.mk H
            clear H
            go_wp2
            go_roundg k3
            case measure => have := HK1.out; have := HK2.out; have := HK3.out; omega
            case rel => exact ⟨(wrap64 (x15_2 + 1)), (by first | rfl | (simp; done) | (simp [*]; done)), H', ⟨by have := HK1.out; have := HK2.out; have := HK3.out; omega⟩, ⟨pk BK230⟩, ⟨pk BK231⟩, ⟨pk BK232⟩, ⟨pbs HB⟩⟩
        ·rw [if_neg c13] at H
         exact absurd H (by simp)
       ·rw [if_neg c12] at H
        have c12b0 : decide (x15_2 < 10) = false := decide_eq_false c12
        clear c12
        have H' := Aside0.mk H
        clear H
        go_wp2
        go_roundg k2
        case measure => have := HK1.out; have := HK2.out; omega
        case rel => exact ⟨(wrap64 (x11_1 + 1)), (by first | rfl | (simp; done) | (simp [*]; done)), H', ⟨by have := HK1.out; have := HK2.out; omega⟩, ⟨pk BK230⟩, ⟨pk BK231⟩, ⟨pbs HB⟩⟩
    ·rw [if_neg c7] at H
     exact absurd H (by simp)
   ·rw [if_neg c6] at H
    have c6b0 : decide (x11_1 < 4) = false := decide_eq_false c6
    clear c6
    obtain rfl := Option.some.inj H
    go_wp2
    go_ret
    exact ⟨by first | rfl | (simp [errW_none, errW_some] <;> rfl) | (simp [*, errW_none, errW_some] <;> rfl), pbs HB⟩
def impl_ValidCrowd.f (k : Nat) (a0_0 : Int) (a0_1 : Int) (a0_2 : LA 10) (a1 : LA 40) : Option (Bool) := (impl_ValidRoom.f k a0_0 a0_1 a0_2).bind fun t236 => (if t236 = true then ((impl_Crowd_isIn.f k a1 a0_0 a0_1 a0_2).bind fun t237 => (some t237)) else (some false))
theorem impl_ValidCrowd.mono : ∀ a0 a1 a2 a3 k, LeO (impl_ValidCrowd.f k a0 a1 a2 a3) (impl_ValidCrowd.f (k + 1) a0 a1 a2 a3) := by
 intro a0 a1 a2 a3 k
 unfold impl_ValidCrowd.f
 repeat' first
   | (with_reducible exact impl_Crowd_isIn.mono _ _ _ _ _)
   | (with_reducible exact impl_ValidRoom.mono _ _ _ _)
   | (with_reducible exact LeO.refl _)
   | (with_reducible exact LeO.none _)
   | (with_reducible refine LeO.ite ?_ ?_)
   | (with_reducible refine LeO.bind ?_ (fun _ => ?_))
   | exact impl_Crowd_isIn.mono _ _ _ _ _
   | exact impl_ValidRoom.mono _ _ _ _
   | exact LeO.none _
   | refine LeO.ite ?_ ?_
   | refine LeO.bind ?_ (fun _ => ?_)
set_option maxHeartbeats 8000000 in
set_option maxRecDepth 100000 in
theorem impl_ValidCrowd.calls (k : Nat) (a0_0 : Int) (a0_1 : Int) (a0_2 : LA 10) (a1 : LA 40) (r : Bool) (w : World) (h : impl_ValidCrowd.f k a0_0 a0_1 a0_2 a1 = some r) :
  Calls Tryd.prog 36 #[.agg (mixA (Value.int .u16) [.int .i8 a0_0, .int .i8 a0_1] a0_2), .agg (mixA (Value.int .u16) [] a1)] w fun e w' => e = .returned (.bool r) ∧ Below w.heap.size w w' := by
 have hu31 := Tryd.underlying31
 have HB := Aside0.mk (Below.refl w.heap.size w)
 have H : ((impl_ValidRoom.f k a0_0 a0_1 a0_2).bind fun t236 => (if t236 = true then ((impl_Crowd_isIn.f k a1 a0_0 a0_1 a0_2).bind fun t237 => (some t237)) else (some false))) = some r := h
 clear h
 replace H := Option.bind_eq_some_iff.mp H
 obtain ⟨t236, A30, H⟩ := H
 replace H : (if t236 = true then ((impl_Crowd_isIn.f k a1 a0_0 a0_1 a0_2).bind fun t237 => (some t237)) else (some false)) = some r := H
 have A3 := Aside0.mk A30
 clear A30
 by_cases c4 : t236 = true
 ·subst c4
  have H1 : ((impl_Crowd_isIn.f k a1 a0_0 a0_1 a0_2).bind fun t237 => (some t237)) = some r := by rw [if_pos rfl] at H; exact H
  clear H
  have H := H1
  clear H1
  replace H := Option.bind_eq_some_iff.mp H
  obtain ⟨t237, A50, H⟩ := H
  replace H : (some t237) = some r := H
  have A5 := Aside0.mk A50
  clear A50
  obtain rfl := Option.some.inj H
  go_enter Tryd.func36, Tryd.ntmps36
  go_wp2_with (first | ((with_reducible refine gate_dst (N := 2) rfl ?_); refine box_event ?hg (N := 2) ?hd (cs := (mixA (Value.int .u16) [.int .i8 a0_0, .int .i8 a0_1] a0_2)) (t := 31) ?hr ?_; (case hd => rfl); (case hg => rfl); (case hr => first | (go_simp; done) | (go_simp; rfl)); intro gb234 hg w6 hbox hb; have n0_ := bst HB hb; have n1_ := Aside0.mk (hbox); have n2_ := gwl HB hg; have n3_ := gwl HB hg; clear HB; have HB := n0_; have BK234 := n1_; have GW234 := n2_; have GE234 := n3_; clear n0_ n1_ n2_ n3_; clear hb hbox hg) | ((with_reducible refine gate_dst (N := 3) rfl ?_); refine box_event ?hg (N := 3) ?hd (cs := (mixA (Value.int .u16) [] a1)) (t := 28) ?hr ?_; (case hd => rfl); (case hg => rfl); (case hr => first | (go_simp; done) | (go_simp; rfl)); intro gb235 hg w7 hbox hb; have n0_ := bkb BK234 hb; have n1_ := bst HB hb; have n2_ := Aside0.mk (hbox); have n3_ := gwl HB hg; have n4_ := gwl HB hg; have n5_ := nbl BK234 hg; have n6_ := nbg BK234 hg; clear BK234; clear HB; have BK234 := n0_; have HB := n1_; have BK235 := n2_; have GW235 := n3_; have GE235 := n4_; have NB234_235 := n5_; have NB235_234 := n6_; clear n0_ n1_ n2_ n3_ n4_ n5_ n6_; clear hb hbox hg) | ((with_reducible refine gate_dst (N := 5) rfl ?_); refine wpList_run0 (v := .agg (mixA (Value.int .u16) [.int .i8 a0_0, .int .i8 a0_1] a0_2)) rfl (load_mix_run (P := Tryd.prog) 31 (.tmp 2) rfl gb234 rfl (show World.rangeAt _ gb234 0 ([.int .i8 a0_0, .int .i8 a0_1] ++ a0_2.l.map (Value.int .u16)) from mix_range (show (World.heap _)[gb234]? = some (.cells (mixA (Value.int .u16) [.int .i8 a0_0, .int .i8 a0_1] a0_2) 31 (0, 0)) from by (with_reducible repeat (first | refine blk_drewN ?_ _ | refine blk_drew ?_ | refine blk_alloc ?_ _)); exact BK234.out)) Tryd.underlying31 rfl (by kernel_rfl) rfl) ?_) | ((with_reducible refine gate_callee (f := 26) rfl ?_); refine goesL_ (some 6) rfl rfl Tryd.func26 (by kernel_rfl) rfl #[.agg (mixA (Value.int .u16) [.int .i8 a0_0, .int .i8 a0_1] a0_2)] rfl (by (try simp only [List.map_toArray, List.map_cons, List.map_nil]); first | done | rfl | (simp only [List.length_drop, List.length_take]; rfl)) ?_; (with_reducible refine (impl_ValidRoom.calls k a0_0 a0_1 a0_2 true _ A3.out).mono ?_); rintro e w9 ⟨rfl, hb⟩; refine ⟨_, rfl, ?_⟩; have n0_ := bkb BK234 hb; have n1_ := bkb BK235 hb; have n2_ := bst HB hb; clear BK234; clear BK235; clear HB; have BK234 := n0_; have BK235 := n1_; have HB := n2_; clear n0_ n1_ n2_; (try clear hb); (try clear hb2); (try clear hk); (try clear hi)) | ((with_reducible refine gate_dst (N := 8) rfl ?_); refine wpList_run1 (v := .agg (mixA (Value.int .u16) [] a1)) (by rfl) (load_mix_run (P := Tryd.prog) 28 (.tmp 3) rfl gb235 rfl (show World.rangeAt _ gb235 0 ([] ++ a1.l.map (Value.int .u16)) from mix_range (show (World.heap _)[gb235]? = some (.cells (mixA (Value.int .u16) [] a1) 28 (0, 0)) from by (with_reducible repeat (first | refine blk_drewN ?_ _ | refine blk_drew ?_ | refine blk_alloc ?_ _)); exact BK235.out)) Tryd.underlying28 rfl (by kernel_rfl) rfl) ?_) | ((with_reducible refine gate_dst (N := 9) rfl ?_); refine wpList_run1 (v := .agg (mixA (Value.int .u16) [.int .i8 a0_0, .int .i8 a0_1] a0_2)) (by rfl) (load_mix_run (P := Tryd.prog) 31 (.tmp 2) rfl gb234 rfl (show World.rangeAt _ gb234 0 ([.int .i8 a0_0, .int .i8 a0_1] ++ a0_2.l.map (Value.int .u16)) from mix_range (show (World.heap _)[gb234]? = some (.cells (mixA (Value.int .u16) [.int .i8 a0_0, .int .i8 a0_1] a0_2) 31 (0, 0)) from by (with_reducible repeat (first | refine blk_drewN ?_ _ | refine blk_drew ?_ | refine blk_alloc ?_ _)); exact BK234.out)) Tryd.underlying31 rfl (by kernel_rfl) rfl) ?_) | (go_at_call 55; (with_reducible refine (impl_Crowd_isIn.calls k a1 a0_0 a0_1 a0_2 t237 _ A5.out).mono ?_); rintro e w12 ⟨rfl, hb⟩; have n0_ := bkb BK234 hb; have n1_ := bkb BK235 hb; have n2_ := bst HB hb; clear BK234; clear BK235; clear HB; have BK234 := n0_; have BK235 := n1_; have HB := n2_; clear n0_ n1_ n2_; (try clear hb); (try clear hb2); (try clear hk); (try clear hi)))
  go_ret
  exact ⟨by first | rfl | (simp [errW_none, errW_some] <;> rfl) | (simp [*, errW_none, errW_some] <;> rfl), pbs HB⟩
 ·replace c4 := Bool.eq_false_iff.mpr c4
  subst c4
  have H1 : (some false) = some r := by rw [if_neg (show ¬ (false = true) by decide)] at H; exact H
  clear H
  have H := H1
  clear H1
  obtain rfl := Option.some.inj H
  go_enter Tryd.func36, Tryd.ntmps36
  go_wp2_with (first | ((with_reducible refine gate_dst (N := 2) rfl ?_); refine box_event ?hg (N := 2) ?hd (cs := (mixA (Value.int .u16) [.int .i8 a0_0, .int .i8 a0_1] a0_2)) (t := 31) ?hr ?_; (case hd => rfl); (case hg => rfl); (case hr => first | (go_simp; done) | (go_simp; rfl)); intro gb234 hg w13 hbox hb; have n0_ := bst HB hb; have n1_ := Aside0.mk (hbox); have n2_ := gwl HB hg; have n3_ := gwl HB hg; clear HB; have HB := n0_; have BK234 := n1_; have GW234 := n2_; have GE234 := n3_; clear n0_ n1_ n2_ n3_; clear hb hbox hg) | ((with_reducible refine gate_dst (N := 3) rfl ?_); refine box_event ?hg (N := 3) ?hd (cs := (mixA (Value.int .u16) [] a1)) (t := 28) ?hr ?_; (case hd => rfl); (case hg => rfl); (case hr => first | (go_simp; done) | (go_simp; rfl)); intro gb235 hg w14 hbox hb; have n0_ := bkb BK234 hb; have n1_ := bst HB hb; have n2_ := Aside0.mk (hbox); have n3_ := gwl HB hg; have n4_ := gwl HB hg; have n5_ := nbl BK234 hg; have n6_ := nbg BK234 hg; clear BK234; clear HB; have BK234 := n0_; have HB := n1_; have BK235 := n2_; have GW235 := n3_; have GE235 := n4_; have NB234_235 := n5_; have NB235_234 := n6_; clear n0_ n1_ n2_ n3_ n4_ n5_ n6_; clear hb hbox hg) | ((with_reducible refine gate_dst (N := 5) rfl ?_); refine wpList_run0 (v := .agg (mixA (Value.int .u16) [.int .i8 a0_0, .int .i8 a0_1] a0_2)) rfl (load_mix_run (P := Tryd.prog) 31 (.tmp 2) rfl gb234 rfl (show World.rangeAt _ gb234 0 ([.int .i8 a0_0, .int .i8 a0_1] ++ a0_2.l.map (Value.int .u16)) from mix_range (show (World.heap _)[gb234]? = some (.cells (mixA (Value.int .u16) [.int .i8 a0_0, .int .i8 a0_1] a0_2) 31 (0, 0)) from by (with_reducible repeat (first | refine blk_drewN ?_ _ | refine blk_drew ?_ | refine blk_alloc ?_ _)); exact BK234.out)) Tryd.underlying31 rfl (by kernel_rfl) rfl) ?_) | ((with_reducible refine gate_callee (f := 26) rfl ?_); refine goesL_ (some 6) rfl rfl Tryd.func26 (by kernel_rfl) rfl #[.agg (mixA (Value.int .u16) [.int .i8 a0_0, .int .i8 a0_1] a0_2)] rfl (by (try simp only [List.map_toArray, List.map_cons, List.map_nil]); first | done | rfl | (simp only [List.length_drop, List.length_take]; rfl)) ?_; (with_reducible refine (impl_ValidRoom.calls k a0_0 a0_1 a0_2 false _ A3.out).mono ?_); rintro e w16 ⟨rfl, hb⟩; refine ⟨_, rfl, ?_⟩; have n0_ := bkb BK234 hb; have n1_ := bkb BK235 hb; have n2_ := bst HB hb; clear BK234; clear BK235; clear HB; have BK234 := n0_; have BK235 := n1_; have HB := n2_; clear n0_ n1_ n2_; (try clear hb); (try clear hb2); (try clear hk); (try clear hi)))
  go_ret
  exact ⟨by first | rfl | (simp [errW_none, errW_some] <;> rfl) | (simp [*, errW_none, errW_some] <;> rfl), pbs HB⟩
end Go.Proofs.YtdedijjbdkoekaaDoor.PB
end
section
namespace Go.Proofs.YtdedijjbdkoekaaDoor.PB
open Go.RowKit Go.Proofs.YtdedijjbdkoekaaDoorW.PrintWords Go.Proofs.YtdedijjbdkoekaaDoorW.PrintLast Go.Proofs.YtdedijjbdkoekaaDoorW.PrintMore Go.Proofs.YtdedijjbdkoekaaDoor.La
attribute [local go_sem] max2_int min2_int max_two min_two max_three min_three max_four min_four   -- for this text's walks alone
set_option linter.unusedVariables false
set_option linter.unusedSimpArgs false
def impl_MovesCrowd.f (k : Nat) (a0_0 : Int) (a0_1 : Int) (a0_2 : LA 10) (a1 : LA 40) (a2 : ByteArray) : Option (LA 40 × Int) := (impl_ValidCrowd.f k a0_0 a0_1 a0_2 a1).bind fun t241 => (if t241 = true then ((impl_movesCode.f a2).bind fun t242 => (if t242 = 0 then ((impl_Crowd_movedBy.f k a1 a0_0 a0_1 a0_2 a2).bind fun t243 => (some (t243, 0))) else (some ((LA.zero 40), t242)))) else (some ((LA.zero 40), 1)))
theorem impl_MovesCrowd.mono : ∀ a0 a1 a2 a3 a4 k, LeO (impl_MovesCrowd.f k a0 a1 a2 a3 a4) (impl_MovesCrowd.f (k + 1) a0 a1 a2 a3 a4) := by
 intro a0 a1 a2 a3 a4 k
 unfold impl_MovesCrowd.f
 repeat' first
   | (with_reducible exact impl_Crowd_movedBy.mono _ _ _ _ _ _)
   | (with_reducible exact impl_ValidCrowd.mono _ _ _ _ _)
   | (with_reducible exact LeO.refl _)
   | (with_reducible exact LeO.none _)
   | (with_reducible refine LeO.ite ?_ ?_)
   | (with_reducible refine LeO.bind ?_ (fun _ => ?_))
   | exact impl_Crowd_movedBy.mono _ _ _ _ _ _
   | exact impl_ValidCrowd.mono _ _ _ _ _
   | exact LeO.none _
   | refine LeO.ite ?_ ?_
   | refine LeO.bind ?_ (fun _ => ?_)
set_option maxHeartbeats 8000000 in
set_option maxRecDepth 100000 in
theorem impl_MovesCrowd.calls (k : Nat) (a0_0 : Int) (a0_1 : Int) (a0_2 : LA 10) (a1 : LA 40) (a2 : ByteArray) (r1 : LA 40) (r2 : Int) (w : World) (h : impl_MovesCrowd.f k a0_0 a0_1 a0_2 a1 a2 = some (r1, r2)) :
  Calls Tryd.prog 15 #[.agg (mixA (Value.int .u16) [.int .i8 a0_0, .int .i8 a0_1] a0_2), .agg (mixA (Value.int .u16) [] a1), .string a2] w fun e w' => e = .returned (.tuple #[.agg (mixA (Value.int .u16) [] r1), .int .i64 r2]) ∧ Below w.heap.size w w' := by
 have hu31 := Tryd.underlying31
 have HB := Aside0.mk (Below.refl w.heap.size w)
 have H : ((impl_ValidCrowd.f k a0_0 a0_1 a0_2 a1).bind fun t241 => (if t241 = true then ((impl_movesCode.f a2).bind fun t242 => (if t242 = 0 then ((impl_Crowd_movedBy.f k a1 a0_0 a0_1 a0_2 a2).bind fun t243 => (some (t243, 0))) else (some ((LA.zero 40), t242)))) else (some ((LA.zero 40), 1)))) = some (r1, r2) := h
 clear h
 replace H := Option.bind_eq_some_iff.mp H
 obtain ⟨t241, A40, H⟩ := H
 replace H : (if t241 = true then ((impl_movesCode.f a2).bind fun t242 => (if t242 = 0 then ((impl_Crowd_movedBy.f k a1 a0_0 a0_1 a0_2 a2).bind fun t243 => (some (t243, 0))) else (some ((LA.zero 40), t242)))) else (some ((LA.zero 40), 1))) = some (r1, r2) := H
 have A4 := Aside0.mk A40
 clear A40
 by_cases c5 : t241 = true
 ·subst c5
  have H1 : ((impl_movesCode.f a2).bind fun t242 => (if t242 = 0 then ((impl_Crowd_movedBy.f k a1 a0_0 a0_1 a0_2 a2).bind fun t243 => (some (t243, 0))) else (some ((LA.zero 40), t242)))) = some (r1, r2) := by rw [if_pos rfl] at H; exact H
  clear H
  have H := H1
  clear H1
  replace H := Option.bind_eq_some_iff.mp H
  obtain ⟨t242, A60, H⟩ := H
  replace H : (if t242 = 0 then ((impl_Crowd_movedBy.f k a1 a0_0 a0_1 a0_2 a2).bind fun t243 => (some (t243, 0))) else (some ((LA.zero 40), t242))) = some (r1, r2) := H
  have A6 := Aside0.mk A60
  clear A60
  by_cases c7 : t242 = 0
  ·rw [if_pos c7] at H
   have c7b0 : (t242 == 0) = true := beq_iff_eq.mpr c7
   have c7b1 : (t242 != 0) = false := bne_eq_false_iff_eq.mpr c7
   clear c7
   replace H := Option.bind_eq_some_iff.mp H
   obtain ⟨t243, A80, H⟩ := H
   replace H : (some (t243, 0)) = some (r1, r2) := H
   have A8 := Aside0.mk A80
   clear A80
   simp only [Option.some.injEq, Prod.mk.injEq] at H
   obtain ⟨rfl, rfl⟩ := H
   go_enter Tryd.func15, Tryd.ntmps15
   go_wp2_with (first | ((with_reducible refine gate_dst (N := 3) rfl ?_); refine box_event ?hg (N := 3) ?hd (cs := (mixA (Value.int .u16) [.int .i8 a0_0, .int .i8 a0_1] a0_2)) (t := 31) ?hr ?_; (case hd => rfl); (case hg => rfl); (case hr => first | (go_simp; done) | (go_simp; rfl)); intro gb238 hg w9 hbox hb; have n0_ := bst HB hb; have n1_ := Aside0.mk (hbox); have n2_ := gwl HB hg; have n3_ := gwl HB hg; clear HB; have HB := n0_; have BK238 := n1_; have GW238 := n2_; have GE238 := n3_; clear n0_ n1_ n2_ n3_; clear hb hbox hg) | ((with_reducible refine gate_dst (N := 4) rfl ?_); refine box_event ?hg (N := 4) ?hd (cs := (mixA (Value.int .u16) [] a1)) (t := 28) ?hr ?_; (case hd => rfl); (case hg => rfl); (case hr => first | (go_simp; done) | (go_simp; rfl)); intro gb239 hg w10 hbox hb; have n0_ := bkb BK238 hb; have n1_ := bst HB hb; have n2_ := Aside0.mk (hbox); have n3_ := gwl HB hg; have n4_ := gwl HB hg; have n5_ := nbl BK238 hg; have n6_ := nbg BK238 hg; clear BK238; clear HB; have BK238 := n0_; have HB := n1_; have BK239 := n2_; have GW239 := n3_; have GE239 := n4_; have NB238_239 := n5_; have NB239_238 := n6_; clear n0_ n1_ n2_ n3_ n4_ n5_ n6_; clear hb hbox hg) | ((with_reducible refine gate_dst (N := 6) rfl ?_); refine box_event ?hg (N := 6) ?hd (cs := (mixA (Value.int .u16) [] (LA.zero 40))) (t := 28) ?hr ?_; (case hd => rfl); (case hg => rfl); (case hr => first | (go_simp; done) | (go_simp; rfl)); intro gb240 hg w11 hbox hb; have n0_ := bkb BK238 hb; have n1_ := bkb BK239 hb; have n2_ := bst HB hb; have n3_ := Aside0.mk (hbox); have n4_ := gwl HB hg; have n5_ := gwl HB hg; have n6_ := nbl BK238 hg; have n7_ := nbg BK238 hg; have n8_ := nbl BK239 hg; have n9_ := nbg BK239 hg; clear BK238; clear BK239; clear HB; have BK238 := n0_; have BK239 := n1_; have HB := n2_; have BK240 := n3_; have GW240 := n4_; have GE240 := n5_; have NB238_240 := n6_; have NB240_238 := n7_; have NB239_240 := n8_; have NB240_239 := n9_; clear n0_ n1_ n2_ n3_ n4_ n5_ n6_ n7_ n8_ n9_; clear hb hbox hg) | ((with_reducible refine gate_dst (N := 9) rfl ?_); refine wpList_run0 (v := .agg (mixA (Value.int .u16) [.int .i8 a0_0, .int .i8 a0_1] a0_2)) rfl (load_mix_run (P := Tryd.prog) 31 (.tmp 3) rfl gb238 rfl (show World.rangeAt _ gb238 0 ([.int .i8 a0_0, .int .i8 a0_1] ++ a0_2.l.map (Value.int .u16)) from mix_range (show (World.heap _)[gb238]? = some (.cells (mixA (Value.int .u16) [.int .i8 a0_0, .int .i8 a0_1] a0_2) 31 (0, 0)) from by (with_reducible repeat (first | refine blk_drewN ?_ _ | refine blk_drew ?_ | refine blk_alloc ?_ _)); exact BK238.out)) Tryd.underlying31 rfl (by kernel_rfl) rfl) ?_) | ((with_reducible refine gate_dst (N := 10) rfl ?_); refine wpList_run0 (v := .agg (mixA (Value.int .u16) [] a1)) rfl (load_mix_run (P := Tryd.prog) 28 (.tmp 4) rfl gb239 rfl (show World.rangeAt _ gb239 0 ([] ++ a1.l.map (Value.int .u16)) from mix_range (show (World.heap _)[gb239]? = some (.cells (mixA (Value.int .u16) [] a1) 28 (0, 0)) from by (with_reducible repeat (first | refine blk_drewN ?_ _ | refine blk_drew ?_ | refine blk_alloc ?_ _)); exact BK239.out)) Tryd.underlying28 rfl (by kernel_rfl) rfl) ?_) | ((with_reducible refine gate_callee (f := 36) rfl ?_); refine goesL_ (some 11) rfl rfl Tryd.func36 (by kernel_rfl) rfl #[.agg (mixA (Value.int .u16) [.int .i8 a0_0, .int .i8 a0_1] a0_2), .agg (mixA (Value.int .u16) [] a1)] rfl (by (try simp only [List.map_toArray, List.map_cons, List.map_nil]); first | done | rfl | (simp only [List.length_drop, List.length_take]; rfl)) ?_; (with_reducible refine (impl_ValidCrowd.calls k a0_0 a0_1 a0_2 a1 true _ A4.out).mono ?_); rintro e w14 ⟨rfl, hb⟩; refine ⟨_, rfl, ?_⟩; have n0_ := bkb BK238 hb; have n1_ := bkb BK239 hb; have n2_ := bkb BK240 hb; have n3_ := bst HB hb; clear BK238; clear BK239; clear BK240; clear HB; have BK238 := n0_; have BK239 := n1_; have BK240 := n2_; have HB := n3_; clear n0_ n1_ n2_ n3_; (try clear hb); (try clear hb2); (try clear hk); (try clear hi)) | ((with_reducible refine gate_callee (f := 27) rfl ?_); refine goesL_ (some 15) rfl rfl Tryd.func27 (by kernel_rfl) rfl #[.string a2] rfl (by (try simp only [List.map_toArray, List.map_cons, List.map_nil]); first | done | rfl | (simp only [List.length_drop, List.length_take]; rfl)) ?_; (with_reducible refine (impl_movesCode.calls a2 t242 _ A6.out).mono ?_); rintro e w15 ⟨rfl, hb⟩; refine ⟨_, rfl, ?_⟩; have n0_ := bkb BK238 hb; have n1_ := bkb BK239 hb; have n2_ := bkb BK240 hb; have n3_ := bst HB hb; clear BK238; clear BK239; clear BK240; clear HB; have BK238 := n0_; have BK239 := n1_; have BK240 := n2_; have HB := n3_; clear n0_ n1_ n2_ n3_; (try clear hb); (try clear hb2); (try clear hk); (try clear hi)) | ((with_reducible refine gate_dst (N := 20) rfl ?_); refine wpList_run0 (v := .agg (mixA (Value.int .u16) [] a1)) rfl (load_mix_run (P := Tryd.prog) 28 (.tmp 4) rfl gb239 rfl (show World.rangeAt _ gb239 0 ([] ++ a1.l.map (Value.int .u16)) from mix_range (show (World.heap _)[gb239]? = some (.cells (mixA (Value.int .u16) [] a1) 28 (0, 0)) from by (with_reducible repeat (first | refine blk_drewN ?_ _ | refine blk_drew ?_ | refine blk_alloc ?_ _)); exact BK239.out)) Tryd.underlying28 rfl (by kernel_rfl) rfl) ?_) | ((with_reducible refine gate_dst (N := 21) rfl ?_); refine wpList_run0 (v := .agg (mixA (Value.int .u16) [.int .i8 a0_0, .int .i8 a0_1] a0_2)) rfl (load_mix_run (P := Tryd.prog) 31 (.tmp 3) rfl gb238 rfl (show World.rangeAt _ gb238 0 ([.int .i8 a0_0, .int .i8 a0_1] ++ a0_2.l.map (Value.int .u16)) from mix_range (show (World.heap _)[gb238]? = some (.cells (mixA (Value.int .u16) [.int .i8 a0_0, .int .i8 a0_1] a0_2) 31 (0, 0)) from by (with_reducible repeat (first | refine blk_drewN ?_ _ | refine blk_drew ?_ | refine blk_alloc ?_ _)); exact BK238.out)) Tryd.underlying31 rfl (by kernel_rfl) rfl) ?_) | ((with_reducible refine gate_callee (f := 31) rfl ?_); refine goesL_ (some 23) rfl rfl Tryd.func31 (by kernel_rfl) rfl #[.agg (mixA (Value.int .u16) [] a1), .agg (mixA (Value.int .u16) [.int .i8 a0_0, .int .i8 a0_1] a0_2), .string a2] rfl (by (try simp only [List.map_toArray, List.map_cons, List.map_nil]); first | done | rfl | (simp only [List.length_drop, List.length_take]; rfl)) ?_; (with_reducible refine (impl_Crowd_movedBy.calls k a1 a0_0 a0_1 a0_2 a2 t243 _ A8.out).mono ?_); rintro e w18 ⟨rfl, hb⟩; refine ⟨_, rfl, ?_⟩; have n0_ := bkb BK238 hb; have n1_ := bkb BK239 hb; have n2_ := bkb BK240 hb; have n3_ := bst HB hb; clear BK238; clear BK239; clear BK240; clear HB; have BK238 := n0_; have BK239 := n1_; have BK240 := n2_; have HB := n3_; clear n0_ n1_ n2_ n3_; (try clear hb); (try clear hb2); (try clear hk); (try clear hi)) | ((with_reducible refine gate_store (p := 6) rfl ?_); refine wpList_store_lmix rfl 28 _ _ rfl gb240 (e := (Value.int .u16)) (cs' := []) (W' := t243) (cs := []) (W := (LA.zero 40)) (T := 28) rfl rfl (pk BK240) rfl (by kernel_rfl) rfl (fun _ => rfl) rfl ?_; intro w19 hi hk hbl; have n0_ := Aside0.mk (KeepBut.blk hk (g' := gb238) (o := .cells (mixA (Value.int .u16) [.int .i8 a0_0, .int .i8 a0_1] a0_2) 31 (0, 0)) (pk BK238) NB238_240.out (by simp)); have n1_ := Aside0.mk (KeepBut.blk hk (g' := gb239) (o := .cells (mixA (Value.int .u16) [] a1) 28 (0, 0)) (pk BK239) NB239_240.out (by simp)); have n2_ := Aside0.mk (hbl _ _ (pbs HB) GE240.out); have n3_ := Aside0.mk (hi); clear BK238; clear BK239; clear HB; clear BK240; have BK238 := n0_; have BK239 := n1_; have HB := n2_; have BK240 := n3_; clear n0_ n1_ n2_ n3_; clear hi hk hbl))
   refine bodyPost_ret (results_ct rfl _ _ gb240 28 (mixA (Value.int .u16) [] t243) (0, 0) _ rfl (pk BK240) Tryd.underlying28 rfl (by rw [mix_size]; kernel_rfl)) rfl ?_
   exact ⟨by first | rfl | (simp [errW_none, errW_some] <;> rfl) | (simp [*, errW_none, errW_some] <;> rfl), pbs HB⟩
  ·rw [if_neg c7] at H
   have c7b0 : (t242 == 0) = false := beq_eq_false_iff_ne.mpr c7
   have c7b1 : (t242 != 0) = true := bne_iff_ne.mpr c7
   simp only [Option.some.injEq, Prod.mk.injEq] at H
   obtain ⟨rfl, rfl⟩ := H
   go_enter Tryd.func15, Tryd.ntmps15
   go_wp2_with (first | ((with_reducible refine gate_dst (N := 3) rfl ?_); refine box_event ?hg (N := 3) ?hd (cs := (mixA (Value.int .u16) [.int .i8 a0_0, .int .i8 a0_1] a0_2)) (t := 31) ?hr ?_; (case hd => rfl); (case hg => rfl); (case hr => first | (go_simp; done) | (go_simp; rfl)); intro gb238 hg w20 hbox hb; have n0_ := bst HB hb; have n1_ := Aside0.mk (hbox); have n2_ := gwl HB hg; have n3_ := gwl HB hg; clear HB; have HB := n0_; have BK238 := n1_; have GW238 := n2_; have GE238 := n3_; clear n0_ n1_ n2_ n3_; clear hb hbox hg) | ((with_reducible refine gate_dst (N := 4) rfl ?_); refine box_event ?hg (N := 4) ?hd (cs := (mixA (Value.int .u16) [] a1)) (t := 28) ?hr ?_; (case hd => rfl); (case hg => rfl); (case hr => first | (go_simp; done) | (go_simp; rfl)); intro gb239 hg w21 hbox hb; have n0_ := bkb BK238 hb; have n1_ := bst HB hb; have n2_ := Aside0.mk (hbox); have n3_ := gwl HB hg; have n4_ := gwl HB hg; have n5_ := nbl BK238 hg; have n6_ := nbg BK238 hg; clear BK238; clear HB; have BK238 := n0_; have HB := n1_; have BK239 := n2_; have GW239 := n3_; have GE239 := n4_; have NB238_239 := n5_; have NB239_238 := n6_; clear n0_ n1_ n2_ n3_ n4_ n5_ n6_; clear hb hbox hg) | ((with_reducible refine gate_dst (N := 6) rfl ?_); refine box_event ?hg (N := 6) ?hd (cs := (mixA (Value.int .u16) [] (LA.zero 40))) (t := 28) ?hr ?_; (case hd => rfl); (case hg => rfl); (case hr => first | (go_simp; done) | (go_simp; rfl)); intro gb240 hg w22 hbox hb; have n0_ := bkb BK238 hb; have n1_ := bkb BK239 hb; have n2_ := bst HB hb; have n3_ := Aside0.mk (hbox); have n4_ := gwl HB hg; have n5_ := gwl HB hg; have n6_ := nbl BK238 hg; have n7_ := nbg BK238 hg; have n8_ := nbl BK239 hg; have n9_ := nbg BK239 hg; clear BK238; clear BK239; clear HB; have BK238 := n0_; have BK239 := n1_; have HB := n2_; have BK240 := n3_; have GW240 := n4_; have GE240 := n5_; have NB238_240 := n6_; have NB240_238 := n7_; have NB239_240 := n8_; have NB240_239 := n9_; clear n0_ n1_ n2_ n3_ n4_ n5_ n6_ n7_ n8_ n9_; clear hb hbox hg) | ((with_reducible refine gate_dst (N := 9) rfl ?_); refine wpList_run0 (v := .agg (mixA (Value.int .u16) [.int .i8 a0_0, .int .i8 a0_1] a0_2)) rfl (load_mix_run (P := Tryd.prog) 31 (.tmp 3) rfl gb238 rfl (show World.rangeAt _ gb238 0 ([.int .i8 a0_0, .int .i8 a0_1] ++ a0_2.l.map (Value.int .u16)) from mix_range (show (World.heap _)[gb238]? = some (.cells (mixA (Value.int .u16) [.int .i8 a0_0, .int .i8 a0_1] a0_2) 31 (0, 0)) from by (with_reducible repeat (first | refine blk_drewN ?_ _ | refine blk_drew ?_ | refine blk_alloc ?_ _)); exact BK238.out)) Tryd.underlying31 rfl (by kernel_rfl) rfl) ?_) | ((with_reducible refine gate_dst (N := 10) rfl ?_); refine wpList_run0 (v := .agg (mixA (Value.int .u16) [] a1)) rfl (load_mix_run (P := Tryd.prog) 28 (.tmp 4) rfl gb239 rfl (show World.rangeAt _ gb239 0 ([] ++ a1.l.map (Value.int .u16)) from mix_range (show (World.heap _)[gb239]? = some (.cells (mixA (Value.int .u16) [] a1) 28 (0, 0)) from by (with_reducible repeat (first | refine blk_drewN ?_ _ | refine blk_drew ?_ | refine blk_alloc ?_ _)); exact BK239.out)) Tryd.underlying28 rfl (by kernel_rfl) rfl) ?_) | ((with_reducible refine gate_callee (f := 36) rfl ?_); refine goesL_ (some 11) rfl rfl Tryd.func36 (by kernel_rfl) rfl #[.agg (mixA (Value.int .u16) [.int .i8 a0_0, .int .i8 a0_1] a0_2), .agg (mixA (Value.int .u16) [] a1)] rfl (by (try simp only [List.map_toArray, List.map_cons, List.map_nil]); first | done | rfl | (simp only [List.length_drop, List.length_take]; rfl)) ?_; (with_reducible refine (impl_ValidCrowd.calls k a0_0 a0_1 a0_2 a1 true _ A4.out).mono ?_); rintro e w25 ⟨rfl, hb⟩; refine ⟨_, rfl, ?_⟩; have n0_ := bkb BK238 hb; have n1_ := bkb BK239 hb; have n2_ := bkb BK240 hb; have n3_ := bst HB hb; clear BK238; clear BK239; clear BK240; clear HB; have BK238 := n0_; have BK239 := n1_; have BK240 := n2_; have HB := n3_; clear n0_ n1_ n2_ n3_; (try clear hb); (try clear hb2); (try clear hk); (try clear hi)) | ((with_reducible refine gate_callee (f := 27) rfl ?_); refine goesL_ (some 15) rfl rfl Tryd.func27 (by kernel_rfl) rfl #[.string a2] rfl (by (try simp only [List.map_toArray, List.map_cons, List.map_nil]); first | done | rfl | (simp only [List.length_drop, List.length_take]; rfl)) ?_; (with_reducible refine (impl_movesCode.calls a2 t242 _ A6.out).mono ?_); rintro e w26 ⟨rfl, hb⟩; refine ⟨_, rfl, ?_⟩; have n0_ := bkb BK238 hb; have n1_ := bkb BK239 hb; have n2_ := bkb BK240 hb; have n3_ := bst HB hb; clear BK238; clear BK239; clear BK240; clear HB; have BK238 := n0_; have BK239 := n1_; have BK240 := n2_; have HB := n3_; clear n0_ n1_ n2_ n3_; (try clear hb); (try clear hb2); (try clear hk); (try clear hi)) | ((with_reducible refine gate_store (p := 6) rfl ?_); refine wpList_store_lmix rfl 28 _ _ rfl gb240 (e := (Value.int .u16)) (cs' := []) (W' := (LA.zero 40)) (cs := []) (W := (LA.zero 40)) (T := 28) rfl rfl (pk BK240) rfl (by kernel_rfl) rfl (fun _ => rfl) rfl ?_; intro w27 hi hk hbl; have n0_ := Aside0.mk (KeepBut.blk hk (g' := gb238) (o := .cells (mixA (Value.int .u16) [.int .i8 a0_0, .int .i8 a0_1] a0_2) 31 (0, 0)) (pk BK238) NB238_240.out (by simp)); have n1_ := Aside0.mk (KeepBut.blk hk (g' := gb239) (o := .cells (mixA (Value.int .u16) [] a1) 28 (0, 0)) (pk BK239) NB239_240.out (by simp)); have n2_ := Aside0.mk (hbl _ _ (pbs HB) GE240.out); have n3_ := Aside0.mk (hi); clear BK238; clear BK239; clear HB; clear BK240; have BK238 := n0_; have BK239 := n1_; have HB := n2_; have BK240 := n3_; clear n0_ n1_ n2_ n3_; clear hi hk hbl))
   refine bodyPost_ret (results_ct rfl _ _ gb240 28 (mixA (Value.int .u16) [] (LA.zero 40)) (0, 0) _ rfl (pk BK240) Tryd.underlying28 rfl (by rw [mix_size]; kernel_rfl)) rfl ?_
   exact ⟨by first | rfl | (simp [errW_none, errW_some] <;> rfl) | (simp [*, errW_none, errW_some] <;> rfl), pbs HB⟩
 ·replace c5 := Bool.eq_false_iff.mpr c5
  subst c5
  have H1 : (some ((LA.zero 40), 1)) = some (r1, r2) := by rw [if_neg (show ¬ (false = true) by decide)] at H; exact H
  clear H
  have H := H1
  clear H1
  simp only [Option.some.injEq, Prod.mk.injEq] at H
  obtain ⟨rfl, rfl⟩ := H
  go_enter Tryd.func15, Tryd.ntmps15
  go_wp2_with (first | ((with_reducible refine gate_dst (N := 3) rfl ?_); refine box_event ?hg (N := 3) ?hd (cs := (mixA (Value.int .u16) [.int .i8 a0_0, .int .i8 a0_1] a0_2)) (t := 31) ?hr ?_; (case hd => rfl); (case hg => rfl); (case hr => first | (go_simp; done) | (go_simp; rfl)); intro gb238 hg w28 hbox hb; have n0_ := bst HB hb; have n1_ := Aside0.mk (hbox); have n2_ := gwl HB hg; have n3_ := gwl HB hg; clear HB; have HB := n0_; have BK238 := n1_; have GW238 := n2_; have GE238 := n3_; clear n0_ n1_ n2_ n3_; clear hb hbox hg) | ((with_reducible refine gate_dst (N := 4) rfl ?_); refine box_event ?hg (N := 4) ?hd (cs := (mixA (Value.int .u16) [] a1)) (t := 28) ?hr ?_; (case hd => rfl); (case hg => rfl); (case hr => first | (go_simp; done) | (go_simp; rfl)); intro gb239 hg w29 hbox hb; have n0_ := bkb BK238 hb; have n1_ := bst HB hb; have n2_ := Aside0.mk (hbox); have n3_ := gwl HB hg; have n4_ := gwl HB hg; have n5_ := nbl BK238 hg; have n6_ := nbg BK238 hg; clear BK238; clear HB; have BK238 := n0_; have HB := n1_; have BK239 := n2_; have GW239 := n3_; have GE239 := n4_; have NB238_239 := n5_; have NB239_238 := n6_; clear n0_ n1_ n2_ n3_ n4_ n5_ n6_; clear hb hbox hg) | ((with_reducible refine gate_dst (N := 6) rfl ?_); refine box_event ?hg (N := 6) ?hd (cs := (mixA (Value.int .u16) [] (LA.zero 40))) (t := 28) ?hr ?_; (case hd => rfl); (case hg => rfl); (case hr => first | (go_simp; done) | (go_simp; rfl)); intro gb240 hg w30 hbox hb; have n0_ := bkb BK238 hb; have n1_ := bkb BK239 hb; have n2_ := bst HB hb; have n3_ := Aside0.mk (hbox); have n4_ := gwl HB hg; have n5_ := gwl HB hg; have n6_ := nbl BK238 hg; have n7_ := nbg BK238 hg; have n8_ := nbl BK239 hg; have n9_ := nbg BK239 hg; clear BK238; clear BK239; clear HB; have BK238 := n0_; have BK239 := n1_; have HB := n2_; have BK240 := n3_; have GW240 := n4_; have GE240 := n5_; have NB238_240 := n6_; have NB240_238 := n7_; have NB239_240 := n8_; have NB240_239 := n9_; clear n0_ n1_ n2_ n3_ n4_ n5_ n6_ n7_ n8_ n9_; clear hb hbox hg) | ((with_reducible refine gate_dst (N := 9) rfl ?_); refine wpList_run0 (v := .agg (mixA (Value.int .u16) [.int .i8 a0_0, .int .i8 a0_1] a0_2)) rfl (load_mix_run (P := Tryd.prog) 31 (.tmp 3) rfl gb238 rfl (show World.rangeAt _ gb238 0 ([.int .i8 a0_0, .int .i8 a0_1] ++ a0_2.l.map (Value.int .u16)) from mix_range (show (World.heap _)[gb238]? = some (.cells (mixA (Value.int .u16) [.int .i8 a0_0, .int .i8 a0_1] a0_2) 31 (0, 0)) from by (with_reducible repeat (first | refine blk_drewN ?_ _ | refine blk_drew ?_ | refine blk_alloc ?_ _)); exact BK238.out)) Tryd.underlying31 rfl (by kernel_rfl) rfl) ?_) | ((with_reducible refine gate_dst (N := 10) rfl ?_); refine wpList_run0 (v := .agg (mixA (Value.int .u16) [] a1)) rfl (load_mix_run (P := Tryd.prog) 28 (.tmp 4) rfl gb239 rfl (show World.rangeAt _ gb239 0 ([] ++ a1.l.map (Value.int .u16)) from mix_range (show (World.heap _)[gb239]? = some (.cells (mixA (Value.int .u16) [] a1) 28 (0, 0)) from by (with_reducible repeat (first | refine blk_drewN ?_ _ | refine blk_drew ?_ | refine blk_alloc ?_ _)); exact BK239.out)) Tryd.underlying28 rfl (by kernel_rfl) rfl) ?_) | ((with_reducible refine gate_callee (f := 36) rfl ?_); refine goesL_ (some 11) rfl rfl Tryd.func36 (by kernel_rfl) rfl #[.agg (mixA (Value.int .u16) [.int .i8 a0_0, .int .i8 a0_1] a0_2), .agg (mixA (Value.int .u16) [] a1)] rfl (by (try simp only [List.map_toArray, List.map_cons, List.map_nil]); first | done | rfl | (simp only [List.length_drop, List.length_take]; rfl)) ?_; (with_reducible refine (impl_ValidCrowd.calls k a0_0 a0_1 a0_2 a1 false _ A4.out).mono ?_); rintro e w33 ⟨rfl, hb⟩; refine ⟨_, rfl, ?_⟩; have n0_ := bkb BK238 hb; have n1_ := bkb BK239 hb; have n2_ := bkb BK240 hb; have n3_ := bst HB hb; clear BK238; clear BK239; clear BK240; clear HB; have BK238 := n0_; have BK239 := n1_; have BK240 := n2_; have HB := n3_; clear n0_ n1_ n2_ n3_; (try clear hb); (try clear hb2); (try clear hk); (try clear hi)) | ((with_reducible refine gate_store (p := 6) rfl ?_); refine wpList_store_lmix rfl 28 _ _ rfl gb240 (e := (Value.int .u16)) (cs' := []) (W' := (LA.zero 40)) (cs := []) (W := (LA.zero 40)) (T := 28) rfl rfl (pk BK240) rfl (by kernel_rfl) rfl (fun _ => rfl) rfl ?_; intro w34 hi hk hbl; have n0_ := Aside0.mk (KeepBut.blk hk (g' := gb238) (o := .cells (mixA (Value.int .u16) [.int .i8 a0_0, .int .i8 a0_1] a0_2) 31 (0, 0)) (pk BK238) NB238_240.out (by simp)); have n1_ := Aside0.mk (KeepBut.blk hk (g' := gb239) (o := .cells (mixA (Value.int .u16) [] a1) 28 (0, 0)) (pk BK239) NB239_240.out (by simp)); have n2_ := Aside0.mk (hbl _ _ (pbs HB) GE240.out); have n3_ := Aside0.mk (hi); clear BK238; clear BK239; clear HB; clear BK240; have BK238 := n0_; have BK239 := n1_; have HB := n2_; have BK240 := n3_; clear n0_ n1_ n2_ n3_; clear hi hk hbl))
  refine bodyPost_ret (results_ct rfl _ _ gb240 28 (mixA (Value.int .u16) [] (LA.zero 40)) (0, 0) _ rfl (pk BK240) Tryd.underlying28 rfl (by rw [mix_size]; kernel_rfl)) rfl ?_
  exact ⟨by first | rfl | (simp [errW_none, errW_some] <;> rfl) | (simp [*, errW_none, errW_some] <;> rfl), pbs HB⟩
end Go.Proofs.YtdedijjbdkoekaaDoor.PB
end
