/- The statement FnExactGreedyCalls of this program: what its proof uses, part 11 of 13. The call returns true for all arguments. No condition of its own. -/
import Derived.Test.YtoiiabnnddlcbaaZFnExactGreedyCalls9
section
namespace Go.Proofs.Ytoiiabnnddlcbaa.PB
open Go.RowKit Go.Proofs.YtoiiabnnddlcbaaW.PrintWords Go.Proofs.YtoiiabnnddlcbaaW.PrintLast Go.Proofs.YtoiiabnnddlcbaaW.PrintMore Go.Proofs.Ytoiiabnnddlcbaa.La Go.Proofs.Ytoiiabnnddlcbaa.Mp
attribute [local go_sem] max2_int min2_int max_two min_two max_three min_three max_four min_four   -- for this text's walks alone
set_option linter.unusedVariables false
set_option linter.unusedSimpArgs false
def impl_NextSpot.f (a0_0 : Int) (a0_1 : Int) (a1 : Int) : Option (Int × Int) := if a1 = 0 then (some (a0_0, IntKind.i8.wrap (a0_1 - 1))) else (if a1 = 1 then (some (IntKind.i8.wrap (a0_0 + 1), a0_1)) else (if a1 = 2 then (some (a0_0, IntKind.i8.wrap (a0_1 + 1))) else (if a1 = 3 then (some (IntKind.i8.wrap (a0_0 - 1), a0_1)) else (some (a0_0, a0_1)))))
set_option maxHeartbeats 8000000 in
set_option maxRecDepth 100000 in
theorem impl_NextSpot.calls (a0_0 : Int) (a0_1 : Int) (a1 : Int) (r1 : Int) (r2 : Int) (w : World) (h : impl_NextSpot.f a0_0 a0_1 a1 = some (r1, r2)) :
  Calls Try.prog 123 #[.agg #[.int .i8 a0_0, .int .i8 a0_1], .int .i64 a1] w fun e w' => e = .returned (.agg #[.int .i8 r1, .int .i8 r2]) ∧ Below w.heap.size w w' := by
 have hu34 := Try.underlying34
 have HB := Aside0.mk (Below.refl w.heap.size w)
 have H : (if a1 = 0 then (some (a0_0, IntKind.i8.wrap (a0_1 - 1))) else (if a1 = 1 then (some (IntKind.i8.wrap (a0_0 + 1), a0_1)) else (if a1 = 2 then (some (a0_0, IntKind.i8.wrap (a0_1 + 1))) else (if a1 = 3 then (some (IntKind.i8.wrap (a0_0 - 1), a0_1)) else (some (a0_0, a0_1)))))) = some (r1, r2) := h
 clear h
 by_cases c3 : a1 = 0
 ·rw [if_pos c3] at H
  have c3b0 : (a1 == 0) = true := beq_iff_eq.mpr c3
  have c3b1 : (a1 != 0) = false := bne_eq_false_iff_eq.mpr c3
  clear c3
  simp only [Option.some.injEq, Prod.mk.injEq] at H
  obtain ⟨rfl, rfl⟩ := H
  go_enter Try.func123, Try.ntmps123
  go_wp2_with (first | ((with_reducible refine gate_dst (N := 2) rfl ?_); refine box_event ?hg (N := 2) ?hd (cs := #[.int .i8 a0_0, .int .i8 a0_1]) (t := 34) ?hr ?_; (case hd => rfl); (case hg => rfl); (case hr => first | (go_simp; done) | (go_simp; rfl)); intro gb231 hg w4 hbox hb; have n0_ := bst HB hb; have n1_ := Aside0.mk (hbox); have n2_ := gwl HB hg; have n3_ := gwl HB hg; clear HB; have HB := n0_; have BK231 := n1_; have GW231 := n2_; have GE231 := n3_; clear n0_ n1_ n2_ n3_; clear hb hbox hg) | ((with_reducible refine gate_dst (N := 4) rfl ?_); refine box_event ?hg (N := 4) ?hd (cs := #[.int .i8 0, .int .i8 0]) (t := 34) ?hr ?_; (case hd => rfl); (case hg => rfl); (case hr => first | (go_simp; done) | (go_simp; rfl)); intro gb232 hg w5 hbox hb; have n0_ := bkb BK231 hb; have n1_ := bst HB hb; have n2_ := Aside0.mk (hbox); have n3_ := gwl HB hg; have n4_ := gwl HB hg; have n5_ := nbl BK231 hg; have n6_ := nbg BK231 hg; clear BK231; clear HB; have BK231 := n0_; have HB := n1_; have BK232 := n2_; have GW232 := n3_; have GE232 := n4_; have NB231_232 := n5_; have NB232_231 := n6_; clear n0_ n1_ n2_ n3_ n4_ n5_ n6_; clear hb hbox hg; have hnb6 := NB231_232.out; have hnc6 := NB232_231.out; have hcz7_0 : w5.cell? ⟨gb231, 0, none⟩ = some (.int .i8 a0_0) := (blk_cell BK231.out 0).trans rfl; have hcz7_1 : w5.cell? ⟨gb231, 1, none⟩ = some (.int .i8 a0_1) := (blk_cell BK231.out 1).trans rfl; have hfz7_0 := blk_frozen BK231.out 0; have hfz7_1 := blk_frozen BK231.out 1; have hcz8_0 : w5.cell? ⟨gb232, 0, none⟩ = some (.int .i8 0) := (blk_cell BK232.out 0).trans rfl; have hcz8_1 : w5.cell? ⟨gb232, 1, none⟩ = some (.int .i8 0) := (blk_cell BK232.out 1).trans rfl; have hfz8_0 := blk_frozen BK232.out 0; have hfz8_1 := blk_frozen BK232.out 1))
  refine bodyPost_ret (results_cell_row rfl _ _ gb232 34 #[.int .i8 a0_0, .int .i8 (IntKind.i8.wrap (a0_1 - 1))] (0, 0) _ rfl (by (with_reducible repeat (first | refine blk_drewN ?_ _ | refine blk_drew ?_ | refine blk_alloc ?_ _)); refine blk_put (cs := #[.int .i8 a0_0, .int .i8 0]) ?_ 1 _ rfl; (with_reducible repeat (first | refine blk_drewN ?_ _ | refine blk_drew ?_ | refine blk_alloc ?_ _)); refine blk_put (cs := #[.int .i8 0, .int .i8 0]) ?_ 0 _ rfl; (with_reducible repeat (first | refine blk_drewN ?_ _ | refine blk_drew ?_ | refine blk_alloc ?_ _)); refine blk_far ?_ NB232_231.out _; (with_reducible repeat (first | refine blk_drewN ?_ _ | refine blk_drew ?_ | refine blk_alloc ?_ _)); exact BK232.out) Try.underlying34 rfl (by kernel_rfl)) rfl ?_
  exact ⟨by first | rfl | (simp [errW_none, errW_some] <;> rfl) | (simp [*, errW_none, errW_some] <;> rfl), pbs HB⟩
 ·rw [if_neg c3] at H
  have c3b0 : (a1 == 0) = false := beq_eq_false_iff_ne.mpr c3
  have c3b1 : (a1 != 0) = true := bne_iff_ne.mpr c3
  by_cases c9 : a1 = 1
  ·rw [if_pos c9] at H
   have c9b0 : (a1 == 1) = true := beq_iff_eq.mpr c9
   have c9b1 : (a1 != 1) = false := bne_eq_false_iff_eq.mpr c9
   clear c9
   simp only [Option.some.injEq, Prod.mk.injEq] at H
   obtain ⟨rfl, rfl⟩ := H
   go_enter Try.func123, Try.ntmps123
   go_wp2_with (first | ((with_reducible refine gate_dst (N := 2) rfl ?_); refine box_event ?hg (N := 2) ?hd (cs := #[.int .i8 a0_0, .int .i8 a0_1]) (t := 34) ?hr ?_; (case hd => rfl); (case hg => rfl); (case hr => first | (go_simp; done) | (go_simp; rfl)); intro gb231 hg w10 hbox hb; have n0_ := bst HB hb; have n1_ := Aside0.mk (hbox); have n2_ := gwl HB hg; have n3_ := gwl HB hg; clear HB; have HB := n0_; have BK231 := n1_; have GW231 := n2_; have GE231 := n3_; clear n0_ n1_ n2_ n3_; clear hb hbox hg) | ((with_reducible refine gate_dst (N := 4) rfl ?_); refine box_event ?hg (N := 4) ?hd (cs := #[.int .i8 0, .int .i8 0]) (t := 34) ?hr ?_; (case hd => rfl); (case hg => rfl); (case hr => first | (go_simp; done) | (go_simp; rfl)); intro gb232 hg w11 hbox hb; have n0_ := bkb BK231 hb; have n1_ := bst HB hb; have n2_ := Aside0.mk (hbox); have n3_ := gwl HB hg; have n4_ := gwl HB hg; have n5_ := nbl BK231 hg; have n6_ := nbg BK231 hg; clear BK231; clear HB; have BK231 := n0_; have HB := n1_; have BK232 := n2_; have GW232 := n3_; have GE232 := n4_; have NB231_232 := n5_; have NB232_231 := n6_; clear n0_ n1_ n2_ n3_ n4_ n5_ n6_; clear hb hbox hg; have hnb12 := NB231_232.out; have hnc12 := NB232_231.out; have hcz13_0 : w11.cell? ⟨gb231, 0, none⟩ = some (.int .i8 a0_0) := (blk_cell BK231.out 0).trans rfl; have hcz13_1 : w11.cell? ⟨gb231, 1, none⟩ = some (.int .i8 a0_1) := (blk_cell BK231.out 1).trans rfl; have hfz13_0 := blk_frozen BK231.out 0; have hfz13_1 := blk_frozen BK231.out 1; have hcz14_0 : w11.cell? ⟨gb232, 0, none⟩ = some (.int .i8 0) := (blk_cell BK232.out 0).trans rfl; have hcz14_1 : w11.cell? ⟨gb232, 1, none⟩ = some (.int .i8 0) := (blk_cell BK232.out 1).trans rfl; have hfz14_0 := blk_frozen BK232.out 0; have hfz14_1 := blk_frozen BK232.out 1))
   refine bodyPost_ret (results_cell_row rfl _ _ gb232 34 #[.int .i8 (IntKind.i8.wrap (a0_0 + 1)), .int .i8 a0_1] (0, 0) _ rfl (by (with_reducible repeat (first | refine blk_drewN ?_ _ | refine blk_drew ?_ | refine blk_alloc ?_ _)); refine blk_put (cs := #[.int .i8 (IntKind.i8.wrap (a0_0 + 1)), .int .i8 0]) ?_ 1 _ rfl; (with_reducible repeat (first | refine blk_drewN ?_ _ | refine blk_drew ?_ | refine blk_alloc ?_ _)); refine blk_put (cs := #[.int .i8 0, .int .i8 0]) ?_ 0 _ rfl; (with_reducible repeat (first | refine blk_drewN ?_ _ | refine blk_drew ?_ | refine blk_alloc ?_ _)); refine blk_far ?_ NB232_231.out _; (with_reducible repeat (first | refine blk_drewN ?_ _ | refine blk_drew ?_ | refine blk_alloc ?_ _)); exact BK232.out) Try.underlying34 rfl (by kernel_rfl)) rfl ?_
   exact ⟨by first | rfl | (simp [errW_none, errW_some] <;> rfl) | (simp [*, errW_none, errW_some] <;> rfl), pbs HB⟩
  ·rw [if_neg c9] at H
   have c9b0 : (a1 == 1) = false := beq_eq_false_iff_ne.mpr c9
   have c9b1 : (a1 != 1) = true := bne_iff_ne.mpr c9
   by_cases c15 : a1 = 2
   ·rw [if_pos c15] at H
    have c15b0 : (a1 == 2) = true := beq_iff_eq.mpr c15
    have c15b1 : (a1 != 2) = false := bne_eq_false_iff_eq.mpr c15
    clear c15
    simp only [Option.some.injEq, Prod.mk.injEq] at H
    obtain ⟨rfl, rfl⟩ := H
    go_enter Try.func123, Try.ntmps123
    go_wp2_with (first | ((with_reducible refine gate_dst (N := 2) rfl ?_); refine box_event ?hg (N := 2) ?hd (cs := #[.int .i8 a0_0, .int .i8 a0_1]) (t := 34) ?hr ?_; (case hd => rfl); (case hg => rfl); (case hr => first | (go_simp; done) | (go_simp; rfl)); intro gb231 hg w16 hbox hb; have n0_ := bst HB hb; have n1_ := Aside0.mk (hbox); have n2_ := gwl HB hg; have n3_ := gwl HB hg; clear HB; have HB := n0_; have BK231 := n1_; have GW231 := n2_; have GE231 := n3_; clear n0_ n1_ n2_ n3_; clear hb hbox hg) | ((with_reducible refine gate_dst (N := 4) rfl ?_); refine box_event ?hg (N := 4) ?hd (cs := #[.int .i8 0, .int .i8 0]) (t := 34) ?hr ?_; (case hd => rfl); (case hg => rfl); (case hr => first | (go_simp; done) | (go_simp; rfl)); intro gb232 hg w17 hbox hb; have n0_ := bkb BK231 hb; have n1_ := bst HB hb; have n2_ := Aside0.mk (hbox); have n3_ := gwl HB hg; have n4_ := gwl HB hg; have n5_ := nbl BK231 hg; have n6_ := nbg BK231 hg; clear BK231; clear HB; have BK231 := n0_; have HB := n1_; have BK232 := n2_; have GW232 := n3_; have GE232 := n4_; have NB231_232 := n5_; have NB232_231 := n6_; clear n0_ n1_ n2_ n3_ n4_ n5_ n6_; clear hb hbox hg; have hnb18 := NB231_232.out; have hnc18 := NB232_231.out; have hcz19_0 : w17.cell? ⟨gb231, 0, none⟩ = some (.int .i8 a0_0) := (blk_cell BK231.out 0).trans rfl; have hcz19_1 : w17.cell? ⟨gb231, 1, none⟩ = some (.int .i8 a0_1) := (blk_cell BK231.out 1).trans rfl; have hfz19_0 := blk_frozen BK231.out 0; have hfz19_1 := blk_frozen BK231.out 1; have hcz20_0 : w17.cell? ⟨gb232, 0, none⟩ = some (.int .i8 0) := (blk_cell BK232.out 0).trans rfl; have hcz20_1 : w17.cell? ⟨gb232, 1, none⟩ = some (.int .i8 0) := (blk_cell BK232.out 1).trans rfl; have hfz20_0 := blk_frozen BK232.out 0; have hfz20_1 := blk_frozen BK232.out 1))
    refine bodyPost_ret (results_cell_row rfl _ _ gb232 34 #[.int .i8 a0_0, .int .i8 (IntKind.i8.wrap (a0_1 + 1))] (0, 0) _ rfl (by (with_reducible repeat (first | refine blk_drewN ?_ _ | refine blk_drew ?_ | refine blk_alloc ?_ _)); refine blk_put (cs := #[.int .i8 a0_0, .int .i8 0]) ?_ 1 _ rfl; (with_reducible repeat (first | refine blk_drewN ?_ _ | refine blk_drew ?_ | refine blk_alloc ?_ _)); refine blk_put (cs := #[.int .i8 0, .int .i8 0]) ?_ 0 _ rfl; (with_reducible repeat (first | refine blk_drewN ?_ _ | refine blk_drew ?_ | refine blk_alloc ?_ _)); refine blk_far ?_ NB232_231.out _; (with_reducible repeat (first | refine blk_drewN ?_ _ | refine blk_drew ?_ | refine blk_alloc ?_ _)); exact BK232.out) Try.underlying34 rfl (by kernel_rfl)) rfl ?_
    exact ⟨by first | rfl | (simp [errW_none, errW_some] <;> rfl) | (simp [*, errW_none, errW_some] <;> rfl), pbs HB⟩
   ·rw [if_neg c15] at H
    have c15b0 : (a1 == 2) = false := beq_eq_false_iff_ne.mpr c15
    have c15b1 : (a1 != 2) = true := bne_iff_ne.mpr c15
    by_cases c21 : a1 = 3
    ·rw [if_pos c21] at H
     have c21b0 : (a1 == 3) = true := beq_iff_eq.mpr c21
     have c21b1 : (a1 != 3) = false := bne_eq_false_iff_eq.mpr c21
     clear c21
     simp only [Option.some.injEq, Prod.mk.injEq] at H
     obtain ⟨rfl, rfl⟩ := H
     go_enter Try.func123, Try.ntmps123
     go_wp2_with (first | ((with_reducible refine gate_dst (N := 2) rfl ?_); refine box_event ?hg (N := 2) ?hd (cs := #[.int .i8 a0_0, .int .i8 a0_1]) (t := 34) ?hr ?_; (case hd => rfl); (case hg => rfl); (case hr => first | (go_simp; done) | (go_simp; rfl)); intro gb231 hg w22 hbox hb; have n0_ := bst HB hb; have n1_ := Aside0.mk (hbox); have n2_ := gwl HB hg; have n3_ := gwl HB hg; clear HB; have HB := n0_; have BK231 := n1_; have GW231 := n2_; have GE231 := n3_; clear n0_ n1_ n2_ n3_; clear hb hbox hg) | ((with_reducible refine gate_dst (N := 4) rfl ?_); refine box_event ?hg (N := 4) ?hd (cs := #[.int .i8 0, .int .i8 0]) (t := 34) ?hr ?_; (case hd => rfl); (case hg => rfl); (case hr => first | (go_simp; done) | (go_simp; rfl)); intro gb232 hg w23 hbox hb; have n0_ := bkb BK231 hb; have n1_ := bst HB hb; have n2_ := Aside0.mk (hbox); have n3_ := gwl HB hg; have n4_ := gwl HB hg; have n5_ := nbl BK231 hg; have n6_ := nbg BK231 hg; clear BK231; clear HB; have BK231 := n0_; have HB := n1_; have BK232 := n2_; have GW232 := n3_; have GE232 := n4_; have NB231_232 := n5_; have NB232_231 := n6_; clear n0_ n1_ n2_ n3_ n4_ n5_ n6_; clear hb hbox hg; have hnb24 := NB231_232.out; have hnc24 := NB232_231.out; have hcz25_0 : w23.cell? ⟨gb231, 0, none⟩ = some (.int .i8 a0_0) := (blk_cell BK231.out 0).trans rfl; have hcz25_1 : w23.cell? ⟨gb231, 1, none⟩ = some (.int .i8 a0_1) := (blk_cell BK231.out 1).trans rfl; have hfz25_0 := blk_frozen BK231.out 0; have hfz25_1 := blk_frozen BK231.out 1; have hcz26_0 : w23.cell? ⟨gb232, 0, none⟩ = some (.int .i8 0) := (blk_cell BK232.out 0).trans rfl; have hcz26_1 : w23.cell? ⟨gb232, 1, none⟩ = some (.int .i8 0) := (blk_cell BK232.out 1).trans rfl; have hfz26_0 := blk_frozen BK232.out 0; have hfz26_1 := blk_frozen BK232.out 1))
     refine bodyPost_ret (results_cell_row rfl _ _ gb232 34 #[.int .i8 (IntKind.i8.wrap (a0_0 - 1)), .int .i8 a0_1] (0, 0) _ rfl (by (with_reducible repeat (first | refine blk_drewN ?_ _ | refine blk_drew ?_ | refine blk_alloc ?_ _)); refine blk_put (cs := #[.int .i8 (IntKind.i8.wrap (a0_0 - 1)), .int .i8 0]) ?_ 1 _ rfl; (with_reducible repeat (first | refine blk_drewN ?_ _ | refine blk_drew ?_ | refine blk_alloc ?_ _)); refine blk_put (cs := #[.int .i8 0, .int .i8 0]) ?_ 0 _ rfl; (with_reducible repeat (first | refine blk_drewN ?_ _ | refine blk_drew ?_ | refine blk_alloc ?_ _)); refine blk_far ?_ NB232_231.out _; (with_reducible repeat (first | refine blk_drewN ?_ _ | refine blk_drew ?_ | refine blk_alloc ?_ _)); exact BK232.out) Try.underlying34 rfl (by kernel_rfl)) rfl ?_
     exact ⟨by first | rfl | (simp [errW_none, errW_some] <;> rfl) | (simp [*, errW_none, errW_some] <;> rfl), pbs HB⟩
    ·rw [if_neg c21] at H
     have c21b0 : (a1 == 3) = false := beq_eq_false_iff_ne.mpr c21
     have c21b1 : (a1 != 3) = true := bne_iff_ne.mpr c21
     simp only [Option.some.injEq, Prod.mk.injEq] at H
     obtain ⟨rfl, rfl⟩ := H
     go_enter Try.func123, Try.ntmps123
     go_wp2_with (first | ((with_reducible refine gate_dst (N := 2) rfl ?_); refine box_event ?hg (N := 2) ?hd (cs := #[.int .i8 a0_0, .int .i8 a0_1]) (t := 34) ?hr ?_; (case hd => rfl); (case hg => rfl); (case hr => first | (go_simp; done) | (go_simp; rfl)); intro gb231 hg w27 hbox hb; have n0_ := bst HB hb; have n1_ := Aside0.mk (hbox); have n2_ := gwl HB hg; have n3_ := gwl HB hg; clear HB; have HB := n0_; have BK231 := n1_; have GW231 := n2_; have GE231 := n3_; clear n0_ n1_ n2_ n3_; clear hb hbox hg) | ((with_reducible refine gate_dst (N := 4) rfl ?_); refine box_event ?hg (N := 4) ?hd (cs := #[.int .i8 0, .int .i8 0]) (t := 34) ?hr ?_; (case hd => rfl); (case hg => rfl); (case hr => first | (go_simp; done) | (go_simp; rfl)); intro gb232 hg w28 hbox hb; have n0_ := bkb BK231 hb; have n1_ := bst HB hb; have n2_ := Aside0.mk (hbox); have n3_ := gwl HB hg; have n4_ := gwl HB hg; have n5_ := nbl BK231 hg; have n6_ := nbg BK231 hg; clear BK231; clear HB; have BK231 := n0_; have HB := n1_; have BK232 := n2_; have GW232 := n3_; have GE232 := n4_; have NB231_232 := n5_; have NB232_231 := n6_; clear n0_ n1_ n2_ n3_ n4_ n5_ n6_; clear hb hbox hg; have hnb29 := NB231_232.out; have hnc29 := NB232_231.out; have hcz30_0 : w28.cell? ⟨gb231, 0, none⟩ = some (.int .i8 a0_0) := (blk_cell BK231.out 0).trans rfl; have hcz30_1 : w28.cell? ⟨gb231, 1, none⟩ = some (.int .i8 a0_1) := (blk_cell BK231.out 1).trans rfl; have hfz30_0 := blk_frozen BK231.out 0; have hfz30_1 := blk_frozen BK231.out 1; have hcz31_0 : w28.cell? ⟨gb232, 0, none⟩ = some (.int .i8 0) := (blk_cell BK232.out 0).trans rfl; have hcz31_1 : w28.cell? ⟨gb232, 1, none⟩ = some (.int .i8 0) := (blk_cell BK232.out 1).trans rfl; have hfz31_0 := blk_frozen BK232.out 0; have hfz31_1 := blk_frozen BK232.out 1))
     refine bodyPost_ret (results_cell_row rfl _ _ gb232 34 #[.int .i8 a0_0, .int .i8 a0_1] (0, 0) _ rfl (by (with_reducible repeat (first | refine blk_drewN ?_ _ | refine blk_drew ?_ | refine blk_alloc ?_ _)); refine blk_put (cs := #[.int .i8 a0_0, .int .i8 0]) ?_ 1 _ rfl; (with_reducible repeat (first | refine blk_drewN ?_ _ | refine blk_drew ?_ | refine blk_alloc ?_ _)); refine blk_put (cs := #[.int .i8 0, .int .i8 0]) ?_ 0 _ rfl; (with_reducible repeat (first | refine blk_drewN ?_ _ | refine blk_drew ?_ | refine blk_alloc ?_ _)); exact BK232.out) Try.underlying34 rfl (by kernel_rfl)) rfl ?_
     exact ⟨by first | rfl | (simp [errW_none, errW_some] <;> rfl) | (simp [*, errW_none, errW_some] <;> rfl), pbs HB⟩
def impl_Room_beside.l0 : Nat → List (S34) → Int → Int → Int → LA 10 → Int → Int → Option ((List (S34)))
 | 0, _, _, _, _, _, _, _ => none
 | k + 1, x5, x9, x234000, x234001, x234002, x235000, x235001 => if x9 < 4 then ((impl_NextSpot.f x235000 x235001 x9).bind fun bt238 => ((impl_Room_isFree.f x234000 x234001 x234002 bt238.1 bt238.2).bind fun t241 => (if t241 = true then (if x5.length < 70368744177664 then (impl_Room_beside.l0 k (x5 ++ [(⟨bt238.1, bt238.2⟩ : S34)]) (wrap64 (x9 + 1)) x234000 x234001 x234002 x235000 x235001) else (none)) else (impl_Room_beside.l0 k x5 (wrap64 (x9 + 1)) x234000 x234001 x234002 x235000 x235001)))) else (some x5)
def impl_Room_beside.f (k : Nat) (a0_0 : Int) (a0_1 : Int) (a0_2 : LA 10) (a1_0 : Int) (a1_1 : Int) : Option ((List (S34))) := impl_Room_beside.l0 k (([] : List (S34))) 0 a0_0 a0_1 a0_2 a1_0 a1_1
theorem impl_Room_beside.mono_l : ∀ k, (∀ y0 y1 y2 y3 y4 y5 y6, LeO (impl_Room_beside.l0 k y0 y1 y2 y3 y4 y5 y6) (impl_Room_beside.l0 (k + 1) y0 y1 y2 y3 y4 y5 y6))
 | 0 => fun _ _ _ _ _ _ _ r h => by simp [impl_Room_beside.l0] at h
 | k + 1 => by
  have ih0 := impl_Room_beside.mono_l k
  ·intro y0 y1 y2 y3 y4 y5 y6
   unfold impl_Room_beside.l0
   repeat' first
   | (with_reducible exact ih0 _ _ _ _ _ _ _)
   | (with_reducible exact LeO.refl _)
   | (with_reducible exact LeO.none _)
   | (with_reducible refine LeO.ite ?_ ?_)
   | (with_reducible refine LeO.bind ?_ (fun _ => ?_))
   | exact ih0 _ _ _ _ _ _ _
   | exact LeO.none _
   | refine LeO.ite ?_ ?_
   | refine LeO.bind ?_ (fun _ => ?_)
theorem impl_Room_beside.mono : ∀ a0 a1 a2 a3 a4 k, LeO (impl_Room_beside.f k a0 a1 a2 a3 a4) (impl_Room_beside.f (k + 1) a0 a1 a2 a3 a4) := by
 intro a0 a1 a2 a3 a4 k
 have ih0 := impl_Room_beside.mono_l k
 unfold impl_Room_beside.f
 repeat' first
   | (with_reducible exact ih0 _ _ _ _ _ _ _)
   | (with_reducible exact LeO.refl _)
   | (with_reducible exact LeO.none _)
   | (with_reducible refine LeO.ite ?_ ?_)
   | (with_reducible refine LeO.bind ?_ (fun _ => ?_))
   | exact ih0 _ _ _ _ _ _ _
   | exact LeO.none _
   | refine LeO.ite ?_ ?_
   | refine LeO.bind ?_ (fun _ => ?_)
set_option maxHeartbeats 8000000 in
set_option maxRecDepth 100000 in
theorem impl_Room_beside.calls (k : Nat) (a0_0 : Int) (a0_1 : Int) (a0_2 : LA 10) (a1_0 : Int) (a1_1 : Int) (r : List (S34)) (w : World) (h : impl_Room_beside.f k a0_0 a0_1 a0_2 a1_0 a1_1 = some r) :
  Calls Try.prog 121 #[.agg (mixA (Value.int .u16) [.int .i8 a0_0, .int .i8 a0_1] a0_2), .agg #[.int .i8 a1_0, .int .i8 a1_1]] w fun e w' => ∃ v0_ : Value, e = .returned (v0_) ∧ Kd.R k34 34 w' w.heap.size (fun _ => True) v0_ r ∧ Below w.heap.size w w' := by
 have hu32 := Try.underlying32
 have hu34 := Try.underlying34
 have HB := Aside0.mk (Below.refl w.heap.size w)
 have H : (impl_Room_beside.l0 k (([] : List (S34))) 0 a0_0 a0_1 a0_2 a1_0 a1_1) = some r := h
 clear h
 obtain ⟨y235, hy235⟩ : ∃ y_ : List (S34), y_ = (([] : List (S34))) := ⟨_, rfl⟩
 replace H : (impl_Room_beside.l0 k y235 0 a0_0 a0_1 a0_2 a1_0 a1_1) = some r := by first | (rw [hy235]; with_reducible exact H) | (have H2_ := (Option.bind_some _ _).symm.trans H; rw [hy235]; with_reducible exact H2_) | (have H2_ := (Option.bind_some _ _).symm.trans H; with_reducible exact H2_) | with_reducible exact H | (rw [hy235]; exact H) | exact H
 have Ny235 := Aside0.mk hy235
 clear hy235
 have H' := Aside0.mk H
 clear H
 go_enter Try.func121, Try.ntmps121
 go_wp2_with (first | ((with_reducible refine gate_dst (N := 2) rfl ?_); refine box_event ?hg (N := 2) ?hd (cs := (mixA (Value.int .u16) [.int .i8 a0_0, .int .i8 a0_1] a0_2)) (t := 32) ?hr ?_; (case hd => rfl); (case hg => rfl); (case hr => first | (go_simp; done) | (go_simp; rfl)); intro gb233 hg w3 hbox hb; have n0_ := bst HB hb; have n1_ := Aside0.mk (hbox); have n2_ := gwl HB hg; have n3_ := gwl HB hg; clear HB; have HB := n0_; have BK233 := n1_; have GW233 := n2_; have GE233 := n3_; clear n0_ n1_ n2_ n3_; clear hb hbox hg) | ((with_reducible refine gate_dst (N := 3) rfl ?_); refine box_event ?hg (N := 3) ?hd (cs := #[.int .i8 a1_0, .int .i8 a1_1]) (t := 34) ?hr ?_; (case hd => rfl); (case hg => rfl); (case hr => first | (go_simp; done) | (go_simp; rfl)); intro gb234 hg w4 hbox hb; have n0_ := bkb BK233 hb; have n1_ := bst HB hb; have n2_ := Aside0.mk (hbox); have n3_ := gwl HB hg; have n4_ := gwl HB hg; have n5_ := nbl BK233 hg; have n6_ := nbg BK233 hg; clear BK233; clear HB; have BK233 := n0_; have HB := n1_; have BK234 := n2_; have GW234 := n3_; have GE234 := n4_; have NB233_234 := n5_; have NB234_233 := n6_; clear n0_ n1_ n2_ n3_ n4_ n5_ n6_; clear hb hbox hg) | ((with_reducible refine gate_dst (N := 8) rfl ?_); refine Kd.R_lit k34 _ 34 ?hg (N := 8) ?hd (xs := ([] : List (S34))) (inner := []) (ok := fun _ => True) (okp := fun _ => True) ?hr ?hp (fun _ hk => hk) trivial (Below.refl _ _) (Nat.le_refl _) (by simp) ?_; (case hd => rfl); (case hg => rfl); (case hr => first | (go_simp; done) | (go_simp; rfl)); (case hp => exact (Reps.none _ _)); intro v236 w5 ho6 hb hg_ hnew_; clear hg_ hnew_; (first | rw [← Ny235.out] at ho6 | (simp only [Int.reduceToNat] at ho6; rw [← Ny235.out] at ho6)); have n0_ := Aside0.mk (Kd.R_lower (Kd.R_newB ho6 (g := gb234) (o := .cells #[.int .i8 a1_0, .int .i8 a1_1] 34 (0, 0)) (pk BK234)) (below_size (by repeat (first | (with_reducible first | exact HB.out | apply below_alloc | apply pw_below_drewN | apply below_drew1 | refine below_set ?_ GE233.out | refine below_set ?_ GE234.out) | exact HB.out)))); have n1_ := bkb BK233 hb; have n2_ := bkb BK234 hb; have n3_ := bst HB hb; clear BK233; clear BK234; clear HB; have HO237 := n0_; have BK233 := n1_; have BK234 := n2_; have HB := n3_; clear n0_ n1_ n2_ n3_; clear hb ho6))
 go_loopg [5, 9] k (fun kq v5 v9 w' => ∃ (x5_1 : List (S34)) (x9_1 : Int), v9 = .int .i64 x9_1 ∧ Aside0 (impl_Room_beside.l0 kq x5_1 x9_1 a0_0 a0_1 a0_2 a1_0 a1_1 = some r) ∧ Aside0 (kq ≤ k) ∧ Aside0 (Kd.R k34 34 w' w.heap.size (fun k_ => k_ ≠ gb234) v5 x5_1) ∧ Aside0 (w'.heap[gb233]? = some (.cells (mixA (Value.int .u16) [.int .i8 a0_0, .int .i8 a0_1] a0_2) 32 (0, 0))) ∧ Aside0 (w'.heap[gb234]? = some (.cells #[.int .i8 a1_0, .int .i8 a1_1] 34 (0, 0))) ∧ Aside0 (Below w.heap.size w w'))
 case atStart => exact ⟨(y235), (0), (by first | rfl | (simp; done) | (simp [*]; done)), H', ⟨Nat.le_refl _⟩, ⟨by (with_reducible repeat (first | apply Kd.R_alloc | apply Kd.R_drewN | apply Kd.R_drew)); exact Kd.R_mono HO237.out (fun _ hk => hk.2)⟩, ⟨pk BK233⟩, ⟨pk BK234⟩, ⟨pbs HB⟩⟩
 case round =>
  clear H'
  try clear c1
  try clear p2
  obtain ⟨x5_1, x9_1, rfl, HA, HK1, HO_5, BK233, BK234, HB⟩ := hrel
  cases gk with
  | zero => exact absurd HA.out (by simp [impl_Room_beside.l0])
  | succ k1 =>
   have H := HA.out
   clear HA
   simp only [impl_Room_beside.l0] at H
   by_cases c7 : x9_1 < 4
   ·rw [if_pos c7] at H
    have c7b0 : decide (x9_1 < 4) = true := decide_eq_true c7
    clear c7
    replace H := Option.bind_eq_some_iff.mp H
    obtain ⟨⟨t238, t239⟩, A80, H⟩ := H
    replace H : ((impl_Room_isFree.f a0_0 a0_1 a0_2 t238 t239).bind fun t241 => (if t241 = true then (if x5_1.length < 70368744177664 then (impl_Room_beside.l0 k1 (x5_1 ++ [(⟨t238, t239⟩ : S34)]) (wrap64 (x9_1 + 1)) a0_0 a0_1 a0_2 a1_0 a1_1) else (none)) else (impl_Room_beside.l0 k1 x5_1 (wrap64 (x9_1 + 1)) a0_0 a0_1 a0_2 a1_0 a1_1))) = some r := H
    have A8 := Aside0.mk A80
    clear A80
    replace H := Option.bind_eq_some_iff.mp H
    obtain ⟨t241, A90, H⟩ := H
    replace H : (if t241 = true then (if x5_1.length < 70368744177664 then (impl_Room_beside.l0 k1 (x5_1 ++ [(⟨t238, t239⟩ : S34)]) (wrap64 (x9_1 + 1)) a0_0 a0_1 a0_2 a1_0 a1_1) else (none)) else (impl_Room_beside.l0 k1 x5_1 (wrap64 (x9_1 + 1)) a0_0 a0_1 a0_2 a1_0 a1_1)) = some r := H
    have A9 := Aside0.mk A90
    clear A90
    by_cases c10 : t241 = true
    ·subst c10
     have H1 : (if x5_1.length < 70368744177664 then (impl_Room_beside.l0 k1 (x5_1 ++ [(⟨t238, t239⟩ : S34)]) (wrap64 (x9_1 + 1)) a0_0 a0_1 a0_2 a1_0 a1_1) else (none)) = some r := by rw [if_pos rfl] at H; exact H
     clear H
     have H := H1
     clear H1
     by_cases c11 : x5_1.length < 70368744177664
     ·rw [if_pos c11] at H
      have LMc11 := Aside0.mk c11
      clear c11
      obtain ⟨y242, hy242⟩ : ∃ y_ : List (S34), y_ = (x5_1 ++ [(⟨t238, t239⟩ : S34)]) := ⟨_, rfl⟩
      replace H : (impl_Room_beside.l0 k1 y242 (wrap64 (x9_1 + 1)) a0_0 a0_1 a0_2 a1_0 a1_1) = some r := by first | (rw [hy242]; with_reducible exact H) | (have H2_ := (Option.bind_some _ _).symm.trans H; rw [hy242]; with_reducible exact H2_) | (have H2_ := (Option.bind_some _ _).symm.trans H; with_reducible exact H2_) | with_reducible exact H | (rw [hy242]; exact H) | exact H
      have Ny242 := Aside0.mk hy242
      clear hy242
      have H' := Aside0.mk H
      clear H
      have hnb12 := NB234_233.out
      have hnc12 := NB233_234.out
      have hcz13_0 : wr.cell? ⟨gb234, 0, none⟩ = some (.int .i8 a1_0) := bc_ BK234.out 0
      have hcz13_1 : wr.cell? ⟨gb234, 1, none⟩ = some (.int .i8 a1_1) := bc_ BK234.out 1
      have hfz13_0 := blk_frozen BK234.out 0
      have hfz13_1 := blk_frozen BK234.out 1
      go_wp2_with (first | ((with_reducible refine gate_callee (f := 123) rfl ?_); refine goesL_ (some 14) rfl rfl Try.func123 (by kernel_rfl) rfl #[.agg #[.int .i8 a1_0, .int .i8 a1_1], .int .i64 x9_1] rfl (by (try simp only [List.map_toArray, List.map_cons, List.map_nil]); first | done | rfl | (simp only [List.length_drop, List.length_take]; rfl)) ?_; (with_reducible refine (impl_NextSpot.calls a1_0 a1_1 x9_1 t238 t239 _ A8.out).mono ?_); rintro e w14 ⟨rfl, hb⟩; refine ⟨_, rfl, ?_⟩; have n0_ := krb HO_5 hb; have n1_ := bkb BK233 hb; have n2_ := bkb BK234 hb; have n3_ := bst HB hb; clear HO_5; clear BK233; clear BK234; clear HB; have HO_5 := n0_; have BK233 := n1_; have BK234 := n2_; have HB := n3_; clear n0_ n1_ n2_ n3_; (try clear hb); (try clear hb2); (try clear hk); (try clear hi)) | ((with_reducible refine gate_dst (N := 7) rfl ?_); refine box_event ?hg (N := 7) ?hd (cs := #[.int .i8 0, .int .i8 0]) (t := 34) ?hr ?_; (case hd => rfl); (case hg => rfl); (case hr => first | (go_simp; done) | (go_simp; rfl)); intro gb240 hg w15 hbox hb; have n0_ := Aside0.mk (Kd.R_below (Kd.R_elderB (by (with_reducible repeat (first | apply Kd.R_alloc | apply Kd.R_drewN | apply Kd.R_drew)); exact HO_5.out) gb240 (Nat.le_of_eq hg.symm)) hb); have n1_ := bkb BK233 hb; have n2_ := bkb BK234 hb; have n3_ := bst HB hb; have n4_ := Aside0.mk (hbox); have n5_ := gwl HB hg; have n6_ := gwl HB hg; have n7_ := nbl BK233 hg; have n8_ := nbg BK233 hg; have n9_ := nbl BK234 hg; have n10_ := nbg BK234 hg; clear HO_5; clear BK233; clear BK234; clear HB; have HO_5 := n0_; have BK233 := n1_; have BK234 := n2_; have HB := n3_; have BK240 := n4_; have GW240 := n5_; have GE240 := n6_; have NB233_240 := n7_; have NB240_233 := n8_; have NB234_240 := n9_; have NB240_234 := n10_; clear n0_ n1_ n2_ n3_ n4_ n5_ n6_ n7_ n8_ n9_ n10_; clear hb hbox hg; have hnb16 := NB240_233.out; have hnc16 := NB233_240.out; have hnb17 := NB240_234.out; have hnc17 := NB234_240.out; have hcz18_0 : w15.cell? ⟨gb240, 0, none⟩ = some (.int .i8 0) := (blk_cell BK240.out 0).trans rfl; have hcz18_1 : w15.cell? ⟨gb240, 1, none⟩ = some (.int .i8 0) := (blk_cell BK240.out 1).trans rfl; have hfz18_0 := blk_frozen BK240.out 0; have hfz18_1 := blk_frozen BK240.out 1) | ((with_reducible refine gate_dst (N := 15) rfl ?_); refine wpList_run0 (v := .agg (mixA (Value.int .u16) [.int .i8 a0_0, .int .i8 a0_1] a0_2)) rfl (load_mix_run (P := Try.prog) 32 (.tmp 2) rfl gb233 rfl (show World.rangeAt _ gb233 0 ([.int .i8 a0_0, .int .i8 a0_1] ++ a0_2.l.map (Value.int .u16)) from mix_range (show (World.heap _)[gb233]? = some (.cells (mixA (Value.int .u16) [.int .i8 a0_0, .int .i8 a0_1] a0_2) 32 (0, 0)) from by (with_reducible repeat (first | refine blk_drewN ?_ _ | refine blk_drew ?_ | refine blk_alloc ?_ _)); refine blk_far ?_ NB233_240.out _; (with_reducible repeat (first | refine blk_drewN ?_ _ | refine blk_drew ?_ | refine blk_alloc ?_ _)); refine blk_far ?_ NB233_240.out _; (with_reducible repeat (first | refine blk_drewN ?_ _ | refine blk_drew ?_ | refine blk_alloc ?_ _)); exact BK233.out)) Try.underlying32 rfl (by kernel_rfl) rfl) ?_) | ((with_reducible refine gate_callee (f := 64) rfl ?_); refine goesL_ (some 17) rfl rfl Try.func64 (by kernel_rfl) rfl #[.agg (mixA (Value.int .u16) [.int .i8 a0_0, .int .i8 a0_1] a0_2), .agg #[.int .i8 t238, .int .i8 t239]] rfl (by (try simp only [List.map_toArray, List.map_cons, List.map_nil]); first | done | rfl | (simp only [List.length_drop, List.length_take]; rfl)) ?_; (with_reducible refine (impl_Room_isFree.calls a0_0 a0_1 a0_2 t238 t239 true _ A9.out).mono ?_); rintro e w20 ⟨rfl, hb⟩; refine ⟨_, rfl, ?_⟩; have n0_ := Aside0.mk (Kd.R_below (by (with_reducible repeat (first | apply Kd.R_alloc | apply Kd.R_drewN | apply Kd.R_drew)); exact (Kd.R_mono (Kd.R_far (p := ⟨gb240, 1, none⟩) (Kd.R_far (p := ⟨gb240, 0, none⟩) (Kd.R_mono HO_5.out (fun k_ hk => (⟨hk, hk.2⟩ : _ ∧ k_ ≠ gb240))) (fun _ hk => hk.2) (.int .i8 t238)) (fun _ hk => hk.2) (.int .i8 t239)) (fun _ h_ => h_.1))) hb); have n1_ := Aside0.mk (blk_below (g := gb233) (o := .cells (mixA (Value.int .u16) [.int .i8 a0_0, .int .i8 a0_1] a0_2) 32 (0, 0)) (by (with_reducible repeat (first | refine blk_drewN ?_ _ | refine blk_drew ?_ | refine blk_alloc ?_ _)); refine blk_far ?_ NB233_240.out _; (with_reducible repeat (first | refine blk_drewN ?_ _ | refine blk_drew ?_ | refine blk_alloc ?_ _)); refine blk_far ?_ NB233_240.out _; (with_reducible repeat (first | refine blk_drewN ?_ _ | refine blk_drew ?_ | refine blk_alloc ?_ _)); exact BK233.out) hb); have n2_ := Aside0.mk (blk_below (g := gb234) (o := .cells #[.int .i8 a1_0, .int .i8 a1_1] 34 (0, 0)) (by (with_reducible repeat (first | refine blk_drewN ?_ _ | refine blk_drew ?_ | refine blk_alloc ?_ _)); refine blk_far ?_ NB234_240.out _; (with_reducible repeat (first | refine blk_drewN ?_ _ | refine blk_drew ?_ | refine blk_alloc ?_ _)); refine blk_far ?_ NB234_240.out _; (with_reducible repeat (first | refine blk_drewN ?_ _ | refine blk_drew ?_ | refine blk_alloc ?_ _)); exact BK234.out) hb); have n3_ := Aside0.mk (blk_below (g := gb240) (o := .cells #[.int .i8 t238, .int .i8 t239] 34 (0, 0)) (by (with_reducible repeat (first | refine blk_drewN ?_ _ | refine blk_drew ?_ | refine blk_alloc ?_ _)); refine blk_put (cs := #[.int .i8 t238, .int .i8 0]) ?_ 1 _ rfl; (with_reducible repeat (first | refine blk_drewN ?_ _ | refine blk_drew ?_ | refine blk_alloc ?_ _)); refine blk_put (cs := #[.int .i8 0, .int .i8 0]) ?_ 0 _ rfl; (with_reducible repeat (first | refine blk_drewN ?_ _ | refine blk_drew ?_ | refine blk_alloc ?_ _)); exact BK240.out) hb); have n4_ := bst HB hb; clear HO_5; clear BK233; clear BK234; clear BK240; clear HB; have HO_5 := n0_; have BK233 := n1_; have BK234 := n2_; have BK240 := n3_; have HB := n4_; clear n0_ n1_ n2_ n3_ n4_; (try clear hb); (try clear hb2); (try clear hk); (try clear hi); have hcz21_0 : w20.cell? ⟨gb240, 0, none⟩ = some (.int .i8 t238) := (blk_cell BK240.out 0).trans rfl; have hcz21_1 : w20.cell? ⟨gb240, 1, none⟩ = some (.int .i8 t239) := (blk_cell BK240.out 1).trans rfl; have hfz21_0 := blk_frozen BK240.out 0; have hfz21_1 := blk_frozen BK240.out 1) | ((with_reducible refine gate_builtin (b := .append) (xs := #[.tmp 18, .tmp 20]) rfl ?_); at_builtin; refine Kd.R_append k34 (w0 := w) w.heap.size rfl (.tmp 18) (.tmp 20) 29 34 (.agg #[(.int .i8 0), (.int .i8 0)]) 2 rfl Try.underlying29 info34 rfl (by decide) (by omega) u5 x5_1 (⟨t238, t239⟩ : S34) [.int .i8 t238, .int .i8 t239] (fun k_ => k_ ≠ gb234 ∧ k_ ≠ gb240) (fun _ => False) rfl rfl ?aP (fun _ hk => hk.elim) ?aF ?aO ?aB ?aS ?aL ?_; (case aP => exact k34_mkM _ _ _ (⟨t238, t239⟩ : S34)); (case aB => exact (pbs HB)); (case aF => exact (fun k_ hk => ⟨Kd.freshB (g := gb234) (o := .cells #[.int .i8 a1_0, .int .i8 a1_1] 34 (0, 0)) (pk BK234) k_ hk, Kd.freshB (g := gb240) (o := .cells #[.int .i8 t238, .int .i8 t239] 34 (0, 0)) (pk BK240) k_ hk⟩)); (case aO => exact (by (with_reducible repeat (first | apply Kd.R_alloc | apply Kd.R_drewN | apply Kd.R_drew)); exact HO_5.out)); (case aS => exact (below_size (by repeat (first | (with_reducible first | exact HB.out | apply below_alloc | apply pw_below_drewN | apply below_drew1 | refine below_set ?_ GE233.out | refine below_set ?_ GE234.out | refine below_set ?_ GE240.out) | exact HB.out)))); (case aL => have := LMc11.out; omega); intro v243 w22 ho hb hg hat; rw [← Ny242.out] at ho; have n0_ := Aside0.mk (blk_grown (g := gb233) (o := .cells (mixA (Value.int .u16) [.int .i8 a0_0, .int .i8 a0_1] a0_2) 32 (0, 0)) (pk BK233) hg (Kd.R_ne HO_5.out BK233.out (by decide))); have n1_ := Aside0.mk (blk_grown (g := gb234) (o := .cells #[.int .i8 a1_0, .int .i8 a1_1] 34 (0, 0)) (pk BK234) hg (Kd.R_away HO_5.out (fun _ hk => hk.1))); have n2_ := Aside0.mk (blk_grown (g := gb240) (o := .cells #[.int .i8 t238, .int .i8 t239] 34 (0, 0)) (pk BK240) hg (Kd.R_away HO_5.out (fun _ hk => hk.2))); have n3_ := Aside0.mk (hb); have n4_ := Aside0.mk (ho); clear BK233; clear BK234; clear BK240; clear HB; clear HO_5; have BK233 := n0_; have BK234 := n1_; have BK240 := n2_; have HB := n3_; have HO244 := n4_; clear n0_ n1_ n2_ n3_ n4_; clear ho hb hg hat))
      go_roundg k1
      case measure => have := HK1.out; omega
      case rel => exact ⟨(y242), (wrap64 (x9_1 + 1)), (by first | rfl | (simp; done) | (simp [*]; done)), H', ⟨by have := HK1.out; omega⟩, ⟨by (with_reducible repeat (first | apply Kd.R_alloc | apply Kd.R_drewN | apply Kd.R_drew)); exact Kd.R_mono HO244.out (fun _ hk => hk.1)⟩, ⟨pk BK233⟩, ⟨pk BK234⟩, ⟨pbs HB⟩⟩
     ·rw [if_neg c11] at H
      exact absurd H (by simp)
    ·replace c10 := Bool.eq_false_iff.mpr c10
     subst c10
     have H1 : (impl_Room_beside.l0 k1 x5_1 (wrap64 (x9_1 + 1)) a0_0 a0_1 a0_2 a1_0 a1_1) = some r := by rw [if_neg (show ¬ (false = true) by decide)] at H; exact H
     clear H
     have H := H1
     clear H1
     have H' := Aside0.mk H
     clear H
     have hnb23 := NB234_233.out
     have hnc23 := NB233_234.out
     have hcz24_0 : wr.cell? ⟨gb234, 0, none⟩ = some (.int .i8 a1_0) := bc_ BK234.out 0
     have hcz24_1 : wr.cell? ⟨gb234, 1, none⟩ = some (.int .i8 a1_1) := bc_ BK234.out 1
     have hfz24_0 := blk_frozen BK234.out 0
     have hfz24_1 := blk_frozen BK234.out 1
     go_wp2_with (first | ((with_reducible refine gate_callee (f := 123) rfl ?_); refine goesL_ (some 14) rfl rfl Try.func123 (by kernel_rfl) rfl #[.agg #[.int .i8 a1_0, .int .i8 a1_1], .int .i64 x9_1] rfl (by (try simp only [List.map_toArray, List.map_cons, List.map_nil]); first | done | rfl | (simp only [List.length_drop, List.length_take]; rfl)) ?_; (with_reducible refine (impl_NextSpot.calls a1_0 a1_1 x9_1 t238 t239 _ A8.out).mono ?_); rintro e w25 ⟨rfl, hb⟩; refine ⟨_, rfl, ?_⟩; have n0_ := krb HO_5 hb; have n1_ := bkb BK233 hb; have n2_ := bkb BK234 hb; have n3_ := bst HB hb; clear HO_5; clear BK233; clear BK234; clear HB; have HO_5 := n0_; have BK233 := n1_; have BK234 := n2_; have HB := n3_; clear n0_ n1_ n2_ n3_; (try clear hb); (try clear hb2); (try clear hk); (try clear hi)) | ((with_reducible refine gate_dst (N := 7) rfl ?_); refine box_event ?hg (N := 7) ?hd (cs := #[.int .i8 0, .int .i8 0]) (t := 34) ?hr ?_; (case hd => rfl); (case hg => rfl); (case hr => first | (go_simp; done) | (go_simp; rfl)); intro gb240 hg w26 hbox hb; have n0_ := Aside0.mk (Kd.R_below (Kd.R_elderB (by (with_reducible repeat (first | apply Kd.R_alloc | apply Kd.R_drewN | apply Kd.R_drew)); exact HO_5.out) gb240 (Nat.le_of_eq hg.symm)) hb); have n1_ := bkb BK233 hb; have n2_ := bkb BK234 hb; have n3_ := bst HB hb; have n4_ := Aside0.mk (hbox); have n5_ := gwl HB hg; have n6_ := gwl HB hg; have n7_ := nbl BK233 hg; have n8_ := nbg BK233 hg; have n9_ := nbl BK234 hg; have n10_ := nbg BK234 hg; clear HO_5; clear BK233; clear BK234; clear HB; have HO_5 := n0_; have BK233 := n1_; have BK234 := n2_; have HB := n3_; have BK240 := n4_; have GW240 := n5_; have GE240 := n6_; have NB233_240 := n7_; have NB240_233 := n8_; have NB234_240 := n9_; have NB240_234 := n10_; clear n0_ n1_ n2_ n3_ n4_ n5_ n6_ n7_ n8_ n9_ n10_; clear hb hbox hg; have hnb27 := NB240_233.out; have hnc27 := NB233_240.out; have hnb28 := NB240_234.out; have hnc28 := NB234_240.out; have hcz29_0 : w26.cell? ⟨gb240, 0, none⟩ = some (.int .i8 0) := (blk_cell BK240.out 0).trans rfl; have hcz29_1 : w26.cell? ⟨gb240, 1, none⟩ = some (.int .i8 0) := (blk_cell BK240.out 1).trans rfl; have hfz29_0 := blk_frozen BK240.out 0; have hfz29_1 := blk_frozen BK240.out 1) | ((with_reducible refine gate_dst (N := 15) rfl ?_); refine wpList_run0 (v := .agg (mixA (Value.int .u16) [.int .i8 a0_0, .int .i8 a0_1] a0_2)) rfl (load_mix_run (P := Try.prog) 32 (.tmp 2) rfl gb233 rfl (show World.rangeAt _ gb233 0 ([.int .i8 a0_0, .int .i8 a0_1] ++ a0_2.l.map (Value.int .u16)) from mix_range (show (World.heap _)[gb233]? = some (.cells (mixA (Value.int .u16) [.int .i8 a0_0, .int .i8 a0_1] a0_2) 32 (0, 0)) from by (with_reducible repeat (first | refine blk_drewN ?_ _ | refine blk_drew ?_ | refine blk_alloc ?_ _)); refine blk_far ?_ NB233_240.out _; (with_reducible repeat (first | refine blk_drewN ?_ _ | refine blk_drew ?_ | refine blk_alloc ?_ _)); refine blk_far ?_ NB233_240.out _; (with_reducible repeat (first | refine blk_drewN ?_ _ | refine blk_drew ?_ | refine blk_alloc ?_ _)); exact BK233.out)) Try.underlying32 rfl (by kernel_rfl) rfl) ?_) | ((with_reducible refine gate_callee (f := 64) rfl ?_); refine goesL_ (some 17) rfl rfl Try.func64 (by kernel_rfl) rfl #[.agg (mixA (Value.int .u16) [.int .i8 a0_0, .int .i8 a0_1] a0_2), .agg #[.int .i8 t238, .int .i8 t239]] rfl (by (try simp only [List.map_toArray, List.map_cons, List.map_nil]); first | done | rfl | (simp only [List.length_drop, List.length_take]; rfl)) ?_; (with_reducible refine (impl_Room_isFree.calls a0_0 a0_1 a0_2 t238 t239 false _ A9.out).mono ?_); rintro e w31 ⟨rfl, hb⟩; refine ⟨_, rfl, ?_⟩; have n0_ := Aside0.mk (Kd.R_below (by (with_reducible repeat (first | apply Kd.R_alloc | apply Kd.R_drewN | apply Kd.R_drew)); exact (Kd.R_mono (Kd.R_far (p := ⟨gb240, 1, none⟩) (Kd.R_far (p := ⟨gb240, 0, none⟩) (Kd.R_mono HO_5.out (fun k_ hk => (⟨hk, hk.2⟩ : _ ∧ k_ ≠ gb240))) (fun _ hk => hk.2) (.int .i8 t238)) (fun _ hk => hk.2) (.int .i8 t239)) (fun _ h_ => h_.1))) hb); have n1_ := Aside0.mk (blk_below (g := gb233) (o := .cells (mixA (Value.int .u16) [.int .i8 a0_0, .int .i8 a0_1] a0_2) 32 (0, 0)) (by (with_reducible repeat (first | refine blk_drewN ?_ _ | refine blk_drew ?_ | refine blk_alloc ?_ _)); refine blk_far ?_ NB233_240.out _; (with_reducible repeat (first | refine blk_drewN ?_ _ | refine blk_drew ?_ | refine blk_alloc ?_ _)); refine blk_far ?_ NB233_240.out _; (with_reducible repeat (first | refine blk_drewN ?_ _ | refine blk_drew ?_ | refine blk_alloc ?_ _)); exact BK233.out) hb); have n2_ := Aside0.mk (blk_below (g := gb234) (o := .cells #[.int .i8 a1_0, .int .i8 a1_1] 34 (0, 0)) (by (with_reducible repeat (first | refine blk_drewN ?_ _ | refine blk_drew ?_ | refine blk_alloc ?_ _)); refine blk_far ?_ NB234_240.out _; (with_reducible repeat (first | refine blk_drewN ?_ _ | refine blk_drew ?_ | refine blk_alloc ?_ _)); refine blk_far ?_ NB234_240.out _; (with_reducible repeat (first | refine blk_drewN ?_ _ | refine blk_drew ?_ | refine blk_alloc ?_ _)); exact BK234.out) hb); have n3_ := Aside0.mk (blk_below (g := gb240) (o := .cells #[.int .i8 t238, .int .i8 t239] 34 (0, 0)) (by (with_reducible repeat (first | refine blk_drewN ?_ _ | refine blk_drew ?_ | refine blk_alloc ?_ _)); refine blk_put (cs := #[.int .i8 t238, .int .i8 0]) ?_ 1 _ rfl; (with_reducible repeat (first | refine blk_drewN ?_ _ | refine blk_drew ?_ | refine blk_alloc ?_ _)); refine blk_put (cs := #[.int .i8 0, .int .i8 0]) ?_ 0 _ rfl; (with_reducible repeat (first | refine blk_drewN ?_ _ | refine blk_drew ?_ | refine blk_alloc ?_ _)); exact BK240.out) hb); have n4_ := bst HB hb; clear HO_5; clear BK233; clear BK234; clear BK240; clear HB; have HO_5 := n0_; have BK233 := n1_; have BK234 := n2_; have BK240 := n3_; have HB := n4_; clear n0_ n1_ n2_ n3_ n4_; (try clear hb); (try clear hb2); (try clear hk); (try clear hi)))
     go_roundg k1
     case measure => have := HK1.out; omega
     case rel => exact ⟨(x5_1), (wrap64 (x9_1 + 1)), (by first | rfl | (simp; done) | (simp [*]; done)), H', ⟨by have := HK1.out; omega⟩, ⟨by (with_reducible repeat (first | apply Kd.R_alloc | apply Kd.R_drewN | apply Kd.R_drew)); exact Kd.R_mono HO_5.out (fun _ hk => hk.1)⟩, ⟨pk BK233⟩, ⟨pk BK234⟩, ⟨pbs HB⟩⟩
   ·rw [if_neg c7] at H
    have c7b0 : decide (x9_1 < 4) = false := decide_eq_false c7
    clear c7
    obtain rfl := Option.some.inj H
    go_wp2
    go_ret
    exact ⟨_, by first | rfl | (simp [errW_none, errW_some] <;> rfl) | (simp [*, errW_none, errW_some] <;> rfl), by (with_reducible repeat (first | apply Kd.R_alloc | apply Kd.R_drewN | apply Kd.R_drew)); exact Kd.R_mono HO_5.out (fun _ hk => trivial), pbs HB⟩
end Go.Proofs.Ytoiiabnnddlcbaa.PB
end
section
namespace Go.Proofs.Ytoiiabnnddlcbaa.PB
open Go.RowKit Go.Proofs.YtoiiabnnddlcbaaW.PrintWords Go.Proofs.YtoiiabnnddlcbaaW.PrintLast Go.Proofs.YtoiiabnnddlcbaaW.PrintMore Go.Proofs.Ytoiiabnnddlcbaa.La Go.Proofs.Ytoiiabnnddlcbaa.Mp
attribute [local go_sem] max2_int min2_int max_two min_two max_three min_three max_four min_four   -- for this text's walks alone
set_option linter.unusedVariables false
set_option linter.unusedSimpArgs false
mutual
def impl_Room_steps.l0 : Nat → List (S34) → Int → Int → Int → LA 10 → MP → Option (MP)
 | 0, _, _, _, _, _, _ => none
 | k + 1, x6, x7, x246000, x246001, x246002, x248000 => if x7 < (x6.length : Int) then (if 0 ≤ x7 then ((impl_Room_beside.f k x246000 x246001 x246002 ((rd_T34 x6 x7).f0) ((rd_T34 x6 x7).f1)).bind fun t252 => (impl_Room_steps.l1 k x6 x7 t252 (t252.length : Int) 0 x246000 x246001 x246002 x248000)) else (none)) else (some x248000)
def impl_Room_steps.l1 : Nat → List (S34) → Int → List (S34) → Int → Int → Int → Int → LA 10 → MP → Option (MP)
 | 0, _, _, _, _, _, _, _, _, _ => none
 | k + 1, x6, x7, x28, x29, x30, x246000, x246001, x246002, x248000 => if x30 < x29 then (if 0 ≤ x30 then (if x30 < (x28.length : Int) then (if mhas x248000 ((rd_T34 x28 x30).f0) ((rd_T34 x28 x30).f1) = true then (impl_Room_steps.l1 k x6 x7 x28 x29 (wrap64 (x30 + 1)) x246000 x246001 x246002 x248000) else (if 0 ≤ x7 then (if x7 < (x6.length : Int) then (if x6.length < 70368744177664 then (impl_Room_steps.l1 k (x6 ++ [(⟨(rd_T34 x28 x30).f0, (rd_T34 x28 x30).f1⟩ : S34)]) x7 x28 x29 (wrap64 (x30 + 1)) x246000 x246001 x246002 (x248000 ++ [(((rd_T34 x28 x30).f0), ((rd_T34 x28 x30).f1), (wrap64 ((mval x248000 ((rd_T34 x6 x7).f0) ((rd_T34 x6 x7).f1)) + 1)))])) else (none)) else (none)) else (none))) else (none)) else (none)) else (impl_Room_steps.l0 k x6 (wrap64 (x7 + 1)) x246000 x246001 x246002 x248000)
end
def impl_Room_steps.f (k : Nat) (a0_0 : Int) (a0_1 : Int) (a0_2 : LA 10) (a1_0 : Int) (a1_1 : Int) : Option (MP) := impl_Room_steps.l0 k (([(⟨a1_0, a1_1⟩ : S34)] : List (S34))) 0 a0_0 a0_1 a0_2 ([(a1_0, a1_1, 0)] : MP)
theorem impl_Room_steps.mono_l : ∀ k, (∀ y0 y1 y2 y3 y4 y5, LeO (impl_Room_steps.l0 k y0 y1 y2 y3 y4 y5) (impl_Room_steps.l0 (k + 1) y0 y1 y2 y3 y4 y5)) ∧ (∀ y0 y1 y2 y3 y4 y5 y6 y7 y8, LeO (impl_Room_steps.l1 k y0 y1 y2 y3 y4 y5 y6 y7 y8) (impl_Room_steps.l1 (k + 1) y0 y1 y2 y3 y4 y5 y6 y7 y8))
 | 0 => ⟨fun _ _ _ _ _ _ r h => by simp [impl_Room_steps.l0] at h, fun _ _ _ _ _ _ _ _ _ r h => by simp [impl_Room_steps.l1] at h⟩
 | k + 1 => by
  obtain ⟨ih0, ih1⟩ := impl_Room_steps.mono_l k
  refine ⟨?_, ?_⟩
  ·intro y0 y1 y2 y3 y4 y5
   unfold impl_Room_steps.l0
   repeat' first
   | (with_reducible exact ih0 _ _ _ _ _ _)
   | (with_reducible exact ih1 _ _ _ _ _ _ _ _ _)
   | (with_reducible exact impl_Room_beside.mono _ _ _ _ _ _)
   | (with_reducible exact LeO.refl _)
   | (with_reducible exact LeO.none _)
   | (with_reducible refine LeO.ite ?_ ?_)
   | (with_reducible refine LeO.bind ?_ (fun _ => ?_))
   | exact ih0 _ _ _ _ _ _
   | exact ih1 _ _ _ _ _ _ _ _ _
   | exact impl_Room_beside.mono _ _ _ _ _ _
   | exact LeO.none _
   | refine LeO.ite ?_ ?_
   | refine LeO.bind ?_ (fun _ => ?_)
  ·intro y0 y1 y2 y3 y4 y5 y6 y7 y8
   unfold impl_Room_steps.l1
   repeat' first
   | (with_reducible exact ih0 _ _ _ _ _ _)
   | (with_reducible exact ih1 _ _ _ _ _ _ _ _ _)
   | (with_reducible exact impl_Room_beside.mono _ _ _ _ _ _)
   | (with_reducible exact LeO.refl _)
   | (with_reducible exact LeO.none _)
   | (with_reducible refine LeO.ite ?_ ?_)
   | (with_reducible refine LeO.bind ?_ (fun _ => ?_))
   | exact ih0 _ _ _ _ _ _
   | exact ih1 _ _ _ _ _ _ _ _ _
   | exact impl_Room_beside.mono _ _ _ _ _ _
   | exact LeO.none _
   | refine LeO.ite ?_ ?_
   | refine LeO.bind ?_ (fun _ => ?_)
theorem impl_Room_steps.mono : ∀ a0 a1 a2 a3 a4 k, LeO (impl_Room_steps.f k a0 a1 a2 a3 a4) (impl_Room_steps.f (k + 1) a0 a1 a2 a3 a4) := by
 intro a0 a1 a2 a3 a4 k
 obtain ⟨ih0, ih1⟩ := impl_Room_steps.mono_l k
 unfold impl_Room_steps.f
 repeat' first
   | (with_reducible exact ih0 _ _ _ _ _ _)
   | (with_reducible exact ih1 _ _ _ _ _ _ _ _ _)
   | (with_reducible exact impl_Room_beside.mono _ _ _ _ _ _)
   | (with_reducible exact LeO.refl _)
   | (with_reducible exact LeO.none _)
   | (with_reducible refine LeO.ite ?_ ?_)
   | (with_reducible refine LeO.bind ?_ (fun _ => ?_))
   | exact ih0 _ _ _ _ _ _
   | exact ih1 _ _ _ _ _ _ _ _ _
   | exact impl_Room_beside.mono _ _ _ _ _ _
   | exact LeO.none _
   | refine LeO.ite ?_ ?_
   | refine LeO.bind ?_ (fun _ => ?_)
def impl_Room_steps.T1 : Bool × List (List Nat × List Nat) := (true, [([], []), ([], []), ([0, 1], [0, 1]), ([0, 1, 2], [0]), ([], []), ([4], [4]), ([3, 0, 1, 2, 3], [3]), ([5, 6, 0, 1, 2, 3, 4, 5, 6], [5])])
def impl_Room_steps.B1 : List Nat := [0, 0, 3, 7, 0, 16, 15, 127]
theorem impl_Room_steps.tab1 : rtab .any (opsOf Try.f110 1) = impl_Room_steps.T1 := by kernel_rfl
theorem impl_Room_steps.bits1 : waitsOk impl_Room_steps.T1.2 impl_Room_steps.B1 = true := by kernel_rfl
def impl_Room_steps.T5 : Bool × List (List Nat × List Nat) := (true, [([], []), ([], []), ([], []), ([1, 2], [1, 2]), ([3], [3]), ([0, 4], [0, 4]), ([5], [5]), ([], [])])
def impl_Room_steps.B5 : List Nat := [0, 0, 0, 6, 14, 31, 63, 0]
theorem impl_Room_steps.tab5 : rtab .any (opsOf Try.f110 5) = impl_Room_steps.T5 := by kernel_rfl
theorem impl_Room_steps.bits5 : waitsOk impl_Room_steps.T5.2 impl_Room_steps.B5 = true := by kernel_rfl
def impl_Room_steps.T10 : Bool × List (List Nat × List Nat) := (true, [([], []), ([], []), ([], []), ([], []), ([], []), ([3, 4], [3, 4]), ([5], [5]), ([2, 6], [2, 6]), ([7], [7]), ([0, 1, 8, 0, 1, 2, 3, 4, 5, 6, 7, 8], [0, 1, 8])])
def impl_Room_steps.B10 : List Nat := [0, 0, 0, 0, 0, 24, 56, 124, 252, 511]
theorem impl_Room_steps.tab10 : rtab .any (opsOf Try.f110 10) = impl_Room_steps.T10 := by kernel_rfl
theorem impl_Room_steps.bits10 : waitsOk impl_Room_steps.T10.2 impl_Room_steps.B10 = true := by kernel_rfl
set_option maxHeartbeats 8000000 in
set_option maxRecDepth 100000 in
theorem impl_Room_steps.calls (k : Nat) (a0_0 : Int) (a0_1 : Int) (a0_2 : LA 10) (a1_0 : Int) (a1_1 : Int) (r : MP) (w : World) (h : impl_Room_steps.f k a0_0 a0_1 a0_2 a1_0 a1_1 = some r) :
  Calls Try.prog 110 #[.agg (mixA (Value.int .u16) [.int .i8 a0_0, .int .i8 a0_1] a0_2), .agg #[.int .i8 a1_0, .int .i8 a1_1]] w fun e w' => ∃ g_ : Nat, e = .returned (.map (some g_)) ∧ w'.heap[g_]? = some (obM r) ∧ w.heap.size ≤ g_ ∧ Below w.heap.size w w' := by
 have hu32 := Try.underlying32
 have hu34 := Try.underlying34
 have HB := Aside0.mk (Below.refl w.heap.size w)
 have H : (impl_Room_steps.l0 k (([(⟨a1_0, a1_1⟩ : S34)] : List (S34))) 0 a0_0 a0_1 a0_2 ([(a1_0, a1_1, 0)] : MP)) = some r := h
 clear h
 obtain ⟨y248, hy248⟩ : ∃ y_ : List (S34), y_ = (([(⟨a1_0, a1_1⟩ : S34)] : List (S34))) := ⟨_, rfl⟩
 replace H : (impl_Room_steps.l0 k y248 0 a0_0 a0_1 a0_2 ([(a1_0, a1_1, 0)] : MP)) = some r := by first | (rw [hy248]; with_reducible exact H) | (have H2_ := (Option.bind_some _ _).symm.trans H; rw [hy248]; with_reducible exact H2_) | (have H2_ := (Option.bind_some _ _).symm.trans H; with_reducible exact H2_) | with_reducible exact H | (rw [hy248]; exact H) | exact H
 have Ny248 := Aside0.mk hy248
 clear hy248
 have H' := Aside0.mk H
 clear H
 go_enter Try.func110, Try.ntmps110
 try go_wp2_with (first | ((with_reducible refine gate_dst (N := 2) rfl ?_); refine box_event ?hg (N := 2) ?hd (cs := (mixA (Value.int .u16) [.int .i8 a0_0, .int .i8 a0_1] a0_2)) (t := 32) ?hr ?_; (case hd => rfl); (case hg => rfl); (case hr => first | (go_simp; done) | (go_simp; rfl)); intro gb245 hg w3 hbox hb; have n0_ := bst HB hb; have n1_ := Aside0.mk (hbox); have n2_ := gwl HB hg; have n3_ := gwl HB hg; clear HB; have HB := n0_; have BK245 := n1_; have GW245 := n2_; have GE245 := n3_; clear n0_ n1_ n2_ n3_; clear hb hbox hg) | ((with_reducible refine gate_dst (N := 3) rfl ?_); refine box_event ?hg (N := 3) ?hd (cs := #[.int .i8 a1_0, .int .i8 a1_1]) (t := 34) ?hr ?_; (case hd => rfl); (case hg => rfl); (case hr => first | (go_simp; done) | (go_simp; rfl)); intro gb246 hg w4 hbox hb; have n0_ := bkb BK245 hb; have n1_ := bst HB hb; have n2_ := Aside0.mk (hbox); have n3_ := gwl HB hg; have n4_ := gwl HB hg; have n5_ := nbl BK245 hg; have n6_ := nbg BK245 hg; clear BK245; clear HB; have BK245 := n0_; have HB := n1_; have BK246 := n2_; have GW246 := n3_; have GE246 := n4_; have NB245_246 := n5_; have NB246_245 := n6_; clear n0_ n1_ n2_ n3_ n4_ n5_ n6_; clear hb hbox hg))
 have n0_ := Aside0.mk (blk_drew BK245.out)
 have n1_ := Aside0.mk (blk_drew BK246.out)
 have n2_ := Aside0.mk (below_drew1 HB.out)
 clear BK245
 clear BK246
 clear HB
 have BK245 := n0_
 have BK246 := n1_
 have HB := n2_
 clear n0_ n1_ n2_
 refine start_ (n := 8) (S := fun w' => True) (ds := []) #[false, false, false, false, false, false, false, false] (by kernel_rfl) rfl rfl trivial (fun hHeld => ?_); refine with_tabW impl_Room_steps.tab1 impl_Room_steps.bits1 (fun HT_ HW_ => ?_)
 generalize w4.drew = w5 at BK245 BK246 HB hHeld ⊢
 refine inv_at [0, 1, 2, 3, 4, 5, 6, 7] (fun a0_ b a w' => ∃ (gb247 : Nat) (v249 : Value) (m0_ : Value) (m3_ : Value) (m6_ : Value) (m7_ : Value), a = putSel a0_ b [(0, 12, m0_), (1, 13, .agg #[.int .i8 a1_0, .int .i8 a1_1]), (3, 14, m3_), (4, 15, .agg #[.int .i8 a1_0, .int .i8 a1_1]), (5, 16, v249), (6, 5, m6_), (7, 6, m7_)] ∧ (w'.heap[gb245]? = some (.cells (mixA (Value.int .u16) [.int .i8 a0_0, .int .i8 a0_1] a0_2) 32 (0, 0))) ∧ (w'.heap[gb246]? = some (.cells #[.int .i8 a1_0, .int .i8 a1_1] 34 (0, 0))) ∧ (Below w.heap.size w w') ∧ (b 0 = true → b 2 = false → w'.heap[gb247]? = some (obM ([] : MP))) ∧ (b 0 = true → w.heap.size ≤ gb247) ∧ (b 0 = true → w.heap.size ≤ gb247) ∧ (b 0 = true → gb245 ≠ gb247) ∧ (b 0 = true → gb247 ≠ gb245) ∧ (b 0 = true → gb246 ≠ gb247) ∧ (b 0 = true → gb247 ≠ gb246) ∧ (b 2 = true → w'.heap[gb247]? = some (obM ([(a1_0, a1_1, 0)] : MP))) ∧ (b 5 = true → Kd.R k34 34 w' w.heap.size (fun k_ => k_ ≠ gb246) v249 y248) ∧ (b 0 = true → (m0_ : Value) = .map (some gb247)) ∧ (b 3 = true → (m3_ : Value) = .map (some gb247)) ∧ (b 6 = true → (m6_ : Value) = .map (some gb247)) ∧ (b 7 = true → (m7_ : Value) = v249)) HT_.out HW_.out (by kernel_rfl) (by kernel_rfl) ?_ ?_ ?_
 ·exact ⟨0, .bool false, .bool false, .bool false, .bool false, .bool false, by simp only [putSel, Bool.false_eq_true, if_false], BK245.out, BK246.out, HB.out, fun h_ => absurd h_ (by decide), fun h_ => absurd h_ (by decide), fun h_ => absurd h_ (by decide), fun h_ => absurd h_ (by decide), fun h_ => absurd h_ (by decide), fun h_ => absurd h_ (by decide), fun h_ => absurd h_ (by decide), fun h_ => absurd h_ (by decide), fun h_ => absurd h_ (by decide), fun h_ => absurd h_ (by decide), fun h_ => absurd h_ (by decide), fun h_ => absurd h_ (by decide), fun h_ => absurd h_ (by decide)⟩
 ·skip
  clear BK245 BK246 HB
  refine steps_cons ?_ ?_
  ·rintro b a w' ⟨gb247, v249, m0_, m3_, m6_, m7_, ha, Q_BK245, Q_BK246, Q_HB, Q_BK247, Q_GW247, Q_GE247, Q_NB245_247, Q_NB247_245, Q_NB246_247, Q_NB247_246, Q_BK247_e2, Q_HO250, Q_X0_, Q_X3_, Q_X6_, Q_X7_⟩ hb_ hon hoff
   refine ⟨_, rfl, fun K hK => ?_⟩
   replace ha := Aside0.mk ha
   have BK245 := Aside0.mk Q_BK245
   have BK246 := Aside0.mk Q_BK246
   have HB := Aside0.mk Q_HB
   refine map_step ?hg (N := 12) ?hd ?hr ?_; (case hd => rfl); (case hg => rfl); (case hr => exact make_run rfl)
   intro gb247 hg w6 hbox hb
   have n0_ := bkb BK245 hb
   have n1_ := bkb BK246 hb
   have n2_ := bst HB hb
   have n3_ := Aside0.mk (hbox)
   have n4_ := gwl HB hg
   have n5_ := gwl HB hg
   have n6_ := nbl BK245 hg
   have n7_ := nbg BK245 hg
   have n8_ := nbl BK246 hg
   have n9_ := nbg BK246 hg
   have z_HO250 := fun (h0_ : b 5 = true) => (show Kd.R k34 34 w6 w.heap.size (fun k_ => k_ ≠ gb246) v249 y248 from by first | exact (Kd.R_below (by (with_reducible repeat (first | apply Kd.R_alloc | apply Kd.R_drewN | apply Kd.R_drew)); exact (Q_HO250 h0_)) hb) | exact Kd.R_mono (Kd.R_below (by (with_reducible repeat (first | apply Kd.R_alloc | apply Kd.R_drewN | apply Kd.R_drew)); exact (Q_HO250 h0_)) hb) (fun _ h_ => by first | trivial | exact h_ | exact h_.1))
   clear BK245
   clear BK246
   clear HB
   have BK245 := n0_
   have BK246 := n1_
   have HB := n2_
   have BK247 := n3_
   have GW247 := n4_
   have GE247 := n5_
   have NB245_247 := n6_
   have NB247_245 := n7_
   have NB246_247 := n8_
   have NB247_246 := n9_
   clear n0_ n1_ n2_ n3_ n4_ n5_ n6_ n7_ n8_ n9_
   clear hb hbox hg
   refine hK.out _ _ ⟨gb247, v249, (.map (some gb247)), m3_, m6_, m7_, (by rw [ha.out]; exact putSel_upk 0 hb_ rfl rfl rfl), (pk BK245), (pk BK246), (pbs HB), fun _ _ => (pk BK247), fun _ => GW247.out, fun _ => GE247.out, fun _ => NB245_247.out, fun _ => NB247_245.out, fun _ => NB246_247.out, fun _ => NB247_246.out, fun h0_ => absurd ((hoff 2 (by kernel_rfl)).symm.trans h0_) (by decide), z_HO250, fun _ => rfl, fun h0_ => absurd ((hoff 3 (by kernel_rfl)).symm.trans h0_) (by decide), fun h0_ => absurd ((hoff 6 (by kernel_rfl)).symm.trans h0_) (by decide), fun h0_ => absurd ((hoff 7 (by kernel_rfl)).symm.trans h0_) (by decide)⟩
  refine steps_cons ?_ ?_
  ·rintro b a w' ⟨gb247, v249, m0_, m3_, m6_, m7_, ha, Q_BK245, Q_BK246, Q_HB, Q_BK247, Q_GW247, Q_GE247, Q_NB245_247, Q_NB247_245, Q_NB246_247, Q_NB247_246, Q_BK247_e2, Q_HO250, Q_X0_, Q_X3_, Q_X6_, Q_X7_⟩ hb_ hon hoff
   refine ⟨_, rfl, fun K hK => ?_⟩
   have e3 : a.tmps[3]? = some (.pointer (some ⟨gb246, 0, none⟩)) := by rw [ha]; exact (putSel_off rfl).trans rfl
   replace ha := Aside0.mk ha
   have BK245 := Aside0.mk Q_BK245
   have BK246 := Aside0.mk Q_BK246
   have HB := Aside0.mk Q_HB
   have hc0_ : w'.cell? ⟨gb246, 0, none⟩ = some (.int .i8 a1_0) := bc_ BK246.out 0
   have hc1_ : w'.cell? ⟨gb246, 1, none⟩ = some (.int .i8 a1_1) := bc_ BK246.out 1
   refine value_ (w1 := w') (v := .agg #[.int .i8 a1_0, .int .i8 a1_1]) (by rfl) rfl ?_ ?_
   ·go_simp
    (try simp only [i64_w])
    try rfl
   refine hK.out _ _ ⟨gb247, v249, m0_, m3_, m6_, m7_, (by rw [ha.out]; exact putSel_upk 1 hb_ rfl rfl rfl), Q_BK245, Q_BK246, Q_HB, Q_BK247, Q_GW247, Q_GE247, Q_NB245_247, Q_NB247_245, Q_NB246_247, Q_NB247_246, fun h0_ => absurd ((hoff 2 (by kernel_rfl)).symm.trans h0_) (by decide), Q_HO250, Q_X0_, fun h0_ => absurd ((hoff 3 (by kernel_rfl)).symm.trans h0_) (by decide), fun h0_ => absurd ((hoff 6 (by kernel_rfl)).symm.trans h0_) (by decide), fun h0_ => absurd ((hoff 7 (by kernel_rfl)).symm.trans h0_) (by decide)⟩
  refine steps_cons ?_ ?_
  ·rintro b a w' ⟨gb247, v249, m0_, m3_, m6_, m7_, ha, Q_BK245, Q_BK246, Q_HB, Q_BK247, Q_GW247, Q_GE247, Q_NB245_247, Q_NB247_245, Q_NB246_247, Q_NB247_246, Q_BK247_e2, Q_HO250, Q_X0_, Q_X3_, Q_X6_, Q_X7_⟩ hb_ hon hoff
   refine ⟨_, rfl, fun K hK => ?_⟩
   have e12 : a.tmps[12]? = some (m0_) := by rw [ha]; exact putSel_on (e := (0, 12, m0_)) 0 rfl rfl (hon 0 (by kernel_rfl)) rfl
   rw [Q_X0_ (hon 0 (by kernel_rfl))] at e12
   have e13 : a.tmps[13]? = some (.agg #[.int .i8 a1_0, .int .i8 a1_1]) := by rw [ha]; exact putSel_on (e := (1, 13, .agg #[.int .i8 a1_0, .int .i8 a1_1])) 1 rfl rfl (hon 1 (by kernel_rfl)) rfl
   replace ha := Aside0.mk ha
   have BK245 := Aside0.mk Q_BK245
   have BK246 := Aside0.mk Q_BK246
   have HB := Aside0.mk Q_HB
   have BK247 := Aside0.mk (Q_BK247 (hon 0 (by kernel_rfl)) hb_)
   have GW247 := Aside0.mk (Q_GW247 (hon 0 (by kernel_rfl)))
   have GE247 := Aside0.mk (Q_GE247 (hon 0 (by kernel_rfl)))
   have NB245_247 := Aside0.mk (Q_NB245_247 (hon 0 (by kernel_rfl)))
   have NB247_245 := Aside0.mk (Q_NB247_245 (hon 0 (by kernel_rfl)))
   have NB246_247 := Aside0.mk (Q_NB246_247 (hon 0 (by kernel_rfl)))
   have NB247_246 := Aside0.mk (Q_NB247_246 (hon 0 (by kernel_rfl)))
   refine step_putM (by rfl) rfl (.tmp 12) (.tmp 13) (.const (.int .i64 0)) (.inr rfl) gb247 a1_0 a1_1 0 ([] : MP) (by first | (simp only [List.map_toArray, List.map_cons, List.map_nil, Act.eval, Array.getD_eq_getD_getElem?, Option.getD_some, e12, e13]; done) | (simp only [List.map_toArray, List.map_cons, List.map_nil, Act.eval, Array.getD_eq_getD_getElem?, Option.getD_some, e12, e13]; rfl)) (by first | (simp only [List.map_toArray, List.map_cons, List.map_nil, Act.eval, Array.getD_eq_getD_getElem?, Option.getD_some, e12, e13]; done) | (simp only [List.map_toArray, List.map_cons, List.map_nil, Act.eval, Array.getD_eq_getD_getElem?, Option.getD_some, e12, e13]; rfl)) (by first | (simp only [List.map_toArray, List.map_cons, List.map_nil, Act.eval, Array.getD_eq_getD_getElem?, Option.getD_some, e12, e13]; done) | (simp only [List.map_toArray, List.map_cons, List.map_nil, Act.eval, Array.getD_eq_getD_getElem?, Option.getD_some, e12, e13]; rfl)) (pk BK247) rfl ?_
   intro w8 hi hk hbl
   have n0_ := Aside0.mk (KeepBut.blk hk (g' := gb245) (o := .cells (mixA (Value.int .u16) [.int .i8 a0_0, .int .i8 a0_1] a0_2) 32 (0, 0)) (pk BK245) NB245_247.out (by simp))
   have n1_ := Aside0.mk (KeepBut.blk hk (g' := gb246) (o := .cells #[.int .i8 a1_0, .int .i8 a1_1] 34 (0, 0)) (pk BK246) NB246_247.out (by simp))
   have n2_ := Aside0.mk (hbl _ _ (pbs HB) GE247.out)
   have n3_ := Aside0.mk (hi)
   have z_HO250 := fun (h0_ : b 5 = true) => (show Kd.R k34 34 w8 w.heap.size (fun k_ => k_ ≠ gb246) v249 y248 from by first | exact (Kd.R_mono (Kd.R_keep (Kd.R_typesM (by (with_reducible repeat (first | apply Kd.R_alloc | apply Kd.R_drewN | apply Kd.R_drew)); exact (Q_HO250 h0_)) (pk BK247)) hk (fun _ h => h.2)) (fun _ h => h.1)) | exact Kd.R_mono (Kd.R_mono (Kd.R_keep (Kd.R_typesM (by (with_reducible repeat (first | apply Kd.R_alloc | apply Kd.R_drewN | apply Kd.R_drew)); exact (Q_HO250 h0_)) (pk BK247)) hk (fun _ h => h.2)) (fun _ h => h.1)) (fun _ h_ => by first | trivial | exact h_ | exact h_.1))
   clear BK245
   clear BK246
   clear HB
   clear BK247
   have BK245 := n0_
   have BK246 := n1_
   have HB := n2_
   have BK247 := n3_
   clear n0_ n1_ n2_ n3_
   clear hi hk hbl
   refine hK.out _ _ ⟨gb247, v249, m0_, m3_, m6_, m7_, (by rw [ha.out]; exact putSel_none (v := undef) rfl), (pk BK245), (pk BK246), (pbs HB), fun _ h1_ => absurd ((up_self b 2).symm.trans h1_) (by decide), fun _ => GW247.out, fun _ => GE247.out, fun _ => NB245_247.out, fun _ => NB247_245.out, fun _ => NB246_247.out, fun _ => NB247_246.out, fun _ => (pk BK247), z_HO250, Q_X0_, fun h0_ => absurd ((hoff 3 (by kernel_rfl)).symm.trans h0_) (by decide), fun h0_ => absurd ((hoff 6 (by kernel_rfl)).symm.trans h0_) (by decide), fun h0_ => absurd ((hoff 7 (by kernel_rfl)).symm.trans h0_) (by decide)⟩
  refine steps_cons ?_ ?_
  ·rintro b a w' ⟨gb247, v249, m0_, m3_, m6_, m7_, ha, Q_BK245, Q_BK246, Q_HB, Q_BK247, Q_GW247, Q_GE247, Q_NB245_247, Q_NB247_245, Q_NB246_247, Q_NB247_246, Q_BK247_e2, Q_HO250, Q_X0_, Q_X3_, Q_X6_, Q_X7_⟩ hb_ hon hoff
   refine ⟨_, rfl, fun K hK => ?_⟩
   have e12 : a.tmps[12]? = some (m0_) := by rw [ha]; exact putSel_on (e := (0, 12, m0_)) 0 rfl rfl (hon 0 (by kernel_rfl)) rfl
   rw [Q_X0_ (hon 0 (by kernel_rfl))] at e12
   replace ha := Aside0.mk ha
   have BK245 := Aside0.mk Q_BK245
   have BK246 := Aside0.mk Q_BK246
   have HB := Aside0.mk Q_HB
   have GW247 := Aside0.mk (Q_GW247 (hon 0 (by kernel_rfl)))
   have GE247 := Aside0.mk (Q_GE247 (hon 0 (by kernel_rfl)))
   have NB245_247 := Aside0.mk (Q_NB245_247 (hon 0 (by kernel_rfl)))
   have NB247_245 := Aside0.mk (Q_NB247_245 (hon 0 (by kernel_rfl)))
   have NB246_247 := Aside0.mk (Q_NB246_247 (hon 0 (by kernel_rfl)))
   have NB247_246 := Aside0.mk (Q_NB247_246 (hon 0 (by kernel_rfl)))
   have BK247 := Aside0.mk (Q_BK247_e2 (hon 2 (by kernel_rfl)))
   refine value_ (w1 := w') (v := .map (some gb247)) (by rfl) rfl ?_ ?_
   ·go_simp
    (try simp only [i64_w])
    try rfl
   refine hK.out _ _ ⟨gb247, v249, m0_, (.map (some gb247)), m6_, m7_, (by rw [ha.out]; exact putSel_upk 2 hb_ rfl rfl rfl), Q_BK245, Q_BK246, Q_HB, fun _ h1_ => absurd ((hon 2 (by kernel_rfl)).symm.trans h1_) (by decide), Q_GW247, Q_GE247, Q_NB245_247, Q_NB247_245, Q_NB246_247, Q_NB247_246, Q_BK247_e2, Q_HO250, Q_X0_, fun _ => rfl, fun h0_ => absurd ((hoff 6 (by kernel_rfl)).symm.trans h0_) (by decide), fun h0_ => absurd ((hoff 7 (by kernel_rfl)).symm.trans h0_) (by decide)⟩
  refine steps_cons ?_ ?_
  ·rintro b a w' ⟨gb247, v249, m0_, m3_, m6_, m7_, ha, Q_BK245, Q_BK246, Q_HB, Q_BK247, Q_GW247, Q_GE247, Q_NB245_247, Q_NB247_245, Q_NB246_247, Q_NB247_246, Q_BK247_e2, Q_HO250, Q_X0_, Q_X3_, Q_X6_, Q_X7_⟩ hb_ hon hoff
   refine ⟨_, rfl, fun K hK => ?_⟩
   have e3 : a.tmps[3]? = some (.pointer (some ⟨gb246, 0, none⟩)) := by rw [ha]; exact (putSel_off rfl).trans rfl
   replace ha := Aside0.mk ha
   have BK245 := Aside0.mk Q_BK245
   have BK246 := Aside0.mk Q_BK246
   have HB := Aside0.mk Q_HB
   have hc0_ : w'.cell? ⟨gb246, 0, none⟩ = some (.int .i8 a1_0) := bc_ BK246.out 0
   have hc1_ : w'.cell? ⟨gb246, 1, none⟩ = some (.int .i8 a1_1) := bc_ BK246.out 1
   refine value_ (w1 := w') (v := .agg #[.int .i8 a1_0, .int .i8 a1_1]) (by rfl) rfl ?_ ?_
   ·go_simp
    (try simp only [i64_w])
    try rfl
   refine hK.out _ _ ⟨gb247, v249, m0_, m3_, m6_, m7_, (by rw [ha.out]; exact putSel_upk 3 hb_ rfl rfl rfl), Q_BK245, Q_BK246, Q_HB, Q_BK247, Q_GW247, Q_GE247, Q_NB245_247, Q_NB247_245, Q_NB246_247, Q_NB247_246, Q_BK247_e2, fun h0_ => absurd ((hoff 5 (by kernel_rfl)).symm.trans h0_) (by decide), Q_X0_, Q_X3_, Q_X6_, fun h0_ => absurd ((hoff 7 (by kernel_rfl)).symm.trans h0_) (by decide)⟩
  refine steps_cons ?_ ?_
  ·rintro b a w' ⟨gb247, v249, m0_, m3_, m6_, m7_, ha, Q_BK245, Q_BK246, Q_HB, Q_BK247, Q_GW247, Q_GE247, Q_NB245_247, Q_NB247_245, Q_NB246_247, Q_NB247_246, Q_BK247_e2, Q_HO250, Q_X0_, Q_X3_, Q_X6_, Q_X7_⟩ hb_ hon hoff
   refine ⟨_, rfl, fun K hK => ?_⟩
   have e15 : a.tmps[15]? = some (.agg #[.int .i8 a1_0, .int .i8 a1_1]) := by rw [ha]; exact putSel_on (e := (4, 15, .agg #[.int .i8 a1_0, .int .i8 a1_1])) 3 rfl rfl (hon 4 (by kernel_rfl)) rfl
   replace ha := Aside0.mk ha
   have BK245 := Aside0.mk Q_BK245
   have BK246 := Aside0.mk Q_BK246
   have HB := Aside0.mk Q_HB
   refine Kd.R_lit_step k34 _ 34 ?hg (N := 16) ?hd (xs := ([(⟨a1_0, a1_1⟩ : S34)] : List (S34))) (inner := [.int .i8 a1_0, .int .i8 a1_1]) (ok := fun _ => True) (okp := fun _ => True) ?hr ?hp (fun _ hk => hk) trivial (Below.refl _ _) (Nat.le_refl _) (by simp) ?_; (case hd => rfl); (case hg => rfl); (case hr => first | (go_simp; done) | (go_simp; rfl)); (case hp => exact (Reps.c2 (show Kd.M k34 _ _ _ (⟨a1_0, a1_1⟩ : S34) [.int .i8 a1_0, .int .i8 a1_1] from (k34_mkM _ _ _ (⟨a1_0, a1_1⟩ : S34) )) (Reps.none _ _)))
   intro v249 w6 ho7 hb hg_ hnew_
   clear hg_ hnew_
   (first | rw [← Ny248.out] at ho7 | (simp only [Int.reduceToNat] at ho7; rw [← Ny248.out] at ho7))
   have n0_ := Aside0.mk (Kd.R_lower (Kd.R_newB ho7 (g := gb246) (o := .cells #[.int .i8 a1_0, .int .i8 a1_1] 34 (0, 0)) (pk BK246)) (below_size (by repeat (first | (with_reducible first | exact HB.out | apply below_alloc | apply pw_below_drewN | apply below_drew1 | refine below_set ?_ GE245.out | refine below_set ?_ GE246.out) | exact HB.out))))
   have n1_ := bkb BK245 hb
   have n2_ := bkb BK246 hb
   have n3_ := bst HB hb
   have z_BK247 := fun (h0_ : b 0 = true) (h1_ : b 2 = false) => (show w6.heap[gb247]? = some (obM ([] : MP)) from by first | exact (blk_below (g := gb247) (o := obM ([] : MP)) (by (with_reducible repeat (first | refine blk_drewN ?_ _ | refine blk_drew ?_ | refine blk_alloc ?_ _)); exact (Q_BK247 h0_ h1_)) hb))
   have z_BK247_e2 := fun (h0_ : b 2 = true) => (show w6.heap[gb247]? = some (obM ([(a1_0, a1_1, 0)] : MP)) from by first | exact (blk_below (g := gb247) (o := obM ([(a1_0, a1_1, 0)] : MP)) (by (with_reducible repeat (first | refine blk_drewN ?_ _ | refine blk_drew ?_ | refine blk_alloc ?_ _)); exact (Q_BK247_e2 h0_)) hb))
   clear BK245
   clear BK246
   clear HB
   have HO250 := n0_
   have BK245 := n1_
   have BK246 := n2_
   have HB := n3_
   clear n0_ n1_ n2_ n3_
   clear hb ho7
   refine hK.out _ _ ⟨gb247, v249, m0_, m3_, m6_, m7_, (by rw [ha.out]; exact putSel_upk 4 hb_ rfl rfl rfl), (pk BK245), (pk BK246), (pbs HB), z_BK247, Q_GW247, Q_GE247, Q_NB245_247, Q_NB247_245, Q_NB246_247, Q_NB247_246, z_BK247_e2, fun _ => (by (with_reducible repeat (first | apply Kd.R_alloc | apply Kd.R_drewN | apply Kd.R_drew)); exact Kd.R_mono HO250.out (fun _ hk => hk.2)), Q_X0_, Q_X3_, Q_X6_, fun h0_ => absurd ((hoff 7 (by kernel_rfl)).symm.trans h0_) (by decide)⟩
  refine steps_cons ?_ ?_
  ·rintro b a w' ⟨gb247, v249, m0_, m3_, m6_, m7_, ha, Q_BK245, Q_BK246, Q_HB, Q_BK247, Q_GW247, Q_GE247, Q_NB245_247, Q_NB247_245, Q_NB246_247, Q_NB247_246, Q_BK247_e2, Q_HO250, Q_X0_, Q_X3_, Q_X6_, Q_X7_⟩ hb_ hon hoff
   refine ⟨_, rfl, fun K hK => ?_⟩
   have e14 : a.tmps[14]? = some (m3_) := by rw [ha]; exact putSel_on (e := (3, 14, m3_)) 2 rfl rfl (hon 3 (by kernel_rfl)) rfl
   rw [Q_X3_ (hon 3 (by kernel_rfl))] at e14
   replace ha := Aside0.mk ha
   have BK245 := Aside0.mk Q_BK245
   have BK246 := Aside0.mk Q_BK246
   have HB := Aside0.mk Q_HB
   have GW247 := Aside0.mk (Q_GW247 (hon 0 (by kernel_rfl)))
   have GE247 := Aside0.mk (Q_GE247 (hon 0 (by kernel_rfl)))
   have NB245_247 := Aside0.mk (Q_NB245_247 (hon 0 (by kernel_rfl)))
   have NB247_245 := Aside0.mk (Q_NB247_245 (hon 0 (by kernel_rfl)))
   have NB246_247 := Aside0.mk (Q_NB246_247 (hon 0 (by kernel_rfl)))
   have NB247_246 := Aside0.mk (Q_NB247_246 (hon 0 (by kernel_rfl)))
   have BK247 := Aside0.mk (Q_BK247_e2 (hon 2 (by kernel_rfl)))
   refine value_ (w1 := w') (v := .map (some gb247)) (by rfl) rfl ?_ ?_
   ·go_simp
    (try simp only [i64_w])
    try rfl
   refine hK.out _ _ ⟨gb247, v249, m0_, m3_, (.map (some gb247)), m7_, (by rw [ha.out]; exact putSel_upk 5 hb_ rfl rfl rfl), Q_BK245, Q_BK246, Q_HB, fun _ h1_ => absurd ((hon 2 (by kernel_rfl)).symm.trans h1_) (by decide), Q_GW247, Q_GE247, Q_NB245_247, Q_NB247_245, Q_NB246_247, Q_NB247_246, Q_BK247_e2, Q_HO250, Q_X0_, Q_X3_, fun _ => rfl, fun h0_ => absurd ((hoff 7 (by kernel_rfl)).symm.trans h0_) (by decide)⟩
  refine steps_cons ?_ ?_
  ·rintro b a w' ⟨gb247, v249, m0_, m3_, m6_, m7_, ha, Q_BK245, Q_BK246, Q_HB, Q_BK247, Q_GW247, Q_GE247, Q_NB245_247, Q_NB247_245, Q_NB246_247, Q_NB247_246, Q_BK247_e2, Q_HO250, Q_X0_, Q_X3_, Q_X6_, Q_X7_⟩ hb_ hon hoff
   refine ⟨_, rfl, fun K hK => ?_⟩
   have e16 : a.tmps[16]? = some (v249) := by rw [ha]; exact putSel_on (e := (5, 16, v249)) 4 rfl rfl (hon 5 (by kernel_rfl)) rfl
   replace ha := Aside0.mk ha
   have BK245 := Aside0.mk Q_BK245
   have BK246 := Aside0.mk Q_BK246
   have HB := Aside0.mk Q_HB
   have GW247 := Aside0.mk (Q_GW247 (hon 0 (by kernel_rfl)))
   have GE247 := Aside0.mk (Q_GE247 (hon 0 (by kernel_rfl)))
   have NB245_247 := Aside0.mk (Q_NB245_247 (hon 0 (by kernel_rfl)))
   have NB247_245 := Aside0.mk (Q_NB247_245 (hon 0 (by kernel_rfl)))
   have NB246_247 := Aside0.mk (Q_NB246_247 (hon 0 (by kernel_rfl)))
   have NB247_246 := Aside0.mk (Q_NB247_246 (hon 0 (by kernel_rfl)))
   have BK247 := Aside0.mk (Q_BK247_e2 (hon 2 (by kernel_rfl)))
   have HO250 := Aside0.mk (Q_HO250 (hon 5 (by kernel_rfl)))
   refine value_ (w1 := w') (v := v249) (by rfl) rfl ?_ ?_
   ·go_simp
    (try simp only [i64_w])
    try rfl
   refine hK.out _ _ ⟨gb247, v249, m0_, m3_, m6_, (v249), (by rw [ha.out]; exact putSel_upk 6 hb_ rfl rfl rfl), Q_BK245, Q_BK246, Q_HB, fun _ h1_ => absurd ((hon 2 (by kernel_rfl)).symm.trans h1_) (by decide), Q_GW247, Q_GE247, Q_NB245_247, Q_NB247_245, Q_NB246_247, Q_NB247_246, Q_BK247_e2, Q_HO250, Q_X0_, Q_X3_, Q_X6_, fun _ => rfl⟩
  exact steps_nil
 rintro b a w10 hall ⟨gb247, v249, m0_, m3_, m6_, m7_, ha, Q_BK245, Q_BK246, Q_HB, Q_BK247, Q_GW247, Q_GE247, Q_NB245_247, Q_NB247_245, Q_NB246_247, Q_NB247_246, Q_BK247_e2, Q_HO250, Q_X0_, Q_X3_, Q_X6_, Q_X7_⟩
 clear BK245 BK246 HB
 have hb0_ := hall 0 (by kernel_rfl)
 have hb1_ := hall 1 (by kernel_rfl)
 have hb2_ := hall 2 (by kernel_rfl)
 have hb3_ := hall 3 (by kernel_rfl)
 have hb4_ := hall 4 (by kernel_rfl)
 have hb5_ := hall 5 (by kernel_rfl)
 have hb6_ := hall 6 (by kernel_rfl)
 have hb7_ := hall 7 (by kernel_rfl)
 subst ha
 obtain rfl := (Q_X0_ hb0_).symm
 obtain rfl := (Q_X3_ hb3_).symm
 obtain rfl := (Q_X6_ hb6_).symm
 obtain rfl := (Q_X7_ hb7_).symm
 simp only [putSel, hb0_, hb1_, hb2_, hb3_, hb4_, hb5_, hb6_, hb7_, if_true, Act.put, List.setIfInBounds_toArray, List.set_cons_zero, List.set_cons_succ]
 have BK245 := Aside0.mk Q_BK245
 clear Q_BK245
 have BK246 := Aside0.mk Q_BK246
 clear Q_BK246
 have HB := Aside0.mk Q_HB
 clear Q_HB
 clear Q_BK247
 have GW247 := Aside0.mk (Q_GW247 hb0_)
 clear Q_GW247
 have GE247 := Aside0.mk (Q_GE247 hb0_)
 clear Q_GE247
 have NB245_247 := Aside0.mk (Q_NB245_247 hb0_)
 clear Q_NB245_247
 have NB247_245 := Aside0.mk (Q_NB247_245 hb0_)
 clear Q_NB247_245
 have NB246_247 := Aside0.mk (Q_NB246_247 hb0_)
 clear Q_NB246_247
 have NB247_246 := Aside0.mk (Q_NB247_246 hb0_)
 clear Q_NB247_246
 have BK247 := Aside0.mk (Q_BK247_e2 hb2_)
 clear Q_BK247_e2
 have HO250 := Aside0.mk (Q_HO250 hb5_)
 clear Q_HO250
 clear hall hb0_ hb1_ hb2_ hb3_ hb4_ hb5_ hb6_ hb7_
 try go_wp2
 go_loopg [6, 7] k (fun kq v6 v7 w' => ∃ (x6_1 : List (S34)) (x7_1 : Int) (x248000_1 : MP), v7 = .int .i64 x7_1 ∧ Aside0 (impl_Room_steps.l0 kq x6_1 x7_1 a0_0 a0_1 a0_2 x248000_1 = some r) ∧ Aside0 (kq ≤ k) ∧ Aside0 (Kd.R k34 34 w' w.heap.size (fun k_ => k_ ≠ gb246) v6 x6_1) ∧ Aside0 (w'.heap[gb245]? = some (.cells (mixA (Value.int .u16) [.int .i8 a0_0, .int .i8 a0_1] a0_2) 32 (0, 0))) ∧ Aside0 (w'.heap[gb246]? = some (.cells #[.int .i8 a1_0, .int .i8 a1_1] 34 (0, 0))) ∧ Aside0 (w'.heap[gb247]? = some (obM x248000_1)) ∧ Aside0 (Below w.heap.size w w'))
 case atStart => exact ⟨(y248), (0), (([(a1_0, a1_1, 0)] : MP)), (by first | rfl | (simp; done) | (simp [*]; done)), H', ⟨Nat.le_refl _⟩, ⟨by (with_reducible repeat (first | apply Kd.R_alloc | apply Kd.R_drewN | apply Kd.R_drew)); exact HO250.out⟩, ⟨pk BK245⟩, ⟨pk BK246⟩, ⟨pk BK247⟩, ⟨pbs HB⟩⟩
 case round =>
  clear H'
  try clear c1
  try clear c2
  try clear p2
  obtain ⟨x6_1, x7_1, x248000_1, rfl, HA, HK1, HO_6, BK245, BK246, BK247, HB⟩ := hrel
  cases gk with
  | zero => exact absurd HA.out (by simp [impl_Room_steps.l0])
  | succ k1 =>
   have H := HA.out
   clear HA
   simp only [impl_Room_steps.l0] at H
   by_cases c11 : x7_1 < (x6_1.length : Int)
   ·rw [if_pos c11] at H
    have c11b0 : decide (x7_1 < (x6_1.length : Int)) = true := decide_eq_true c11
    clear c11
    by_cases c12 : 0 ≤ x7_1
    ·rw [if_pos c12] at H
     have c12b0 : decide (0 ≤ x7_1) = true := decide_eq_true c12
     clear c12
     replace H := Option.bind_eq_some_iff.mp H
     obtain ⟨t252, A130, H⟩ := H
     replace H : (impl_Room_steps.l1 k1 x6_1 x7_1 t252 (t252.length : Int) 0 a0_0 a0_1 a0_2 x248000_1) = some r := H
     have A13 := Aside0.mk A130
     clear A130
     have H' := Aside0.mk H
     clear H
     obtain ⟨Ao14, co14, eo14⟩ := Kd.R_slice HO_6.out
     subst eo14
     try go_wp2
     have n0_ := Aside0.mk (Kd.R_drew HO_6.out)
     have n1_ := Aside0.mk (blk_drew BK245.out)
     have n2_ := Aside0.mk (blk_drew BK246.out)
     have n3_ := Aside0.mk (blk_drew BK247.out)
     have n4_ := Aside0.mk (below_drew1 HB.out)
     clear HO_6
     clear BK245
     clear BK246
     clear BK247
     clear HB
     have HO_6 := n0_
     have BK245 := n1_
     have BK246 := n2_
     have BK247 := n3_
     have HB := n4_
     clear n0_ n1_ n2_ n3_ n4_
     have p251 : 0 ≤ (x7_1 : Int) := of_decide_eq_true (by first | (with_reducible assumption) | assumption)
     have q251 : x7_1 < (x6_1.length : Int) := of_decide_eq_true (by first | (with_reducible assumption) | assumption)
     obtain ⟨ad251, e251, hx251_0, hx251_1⟩ := at_T34 (Kd.R_reads' HO_6.out).2.2 x7_1 p251 q251
     cases e251
     replace p251 := eq_true p251
     replace q251 := eq_true q251
     refine start_ (n := 8) (S := fun w' => World.rangeAt w' gb245 0 ([.int .i8 a0_0, .int .i8 a0_1] ++ a0_2.l.map (Value.int .u16)) ∧ w'.cell? (ad251.add ((x7_1).toNat * 2)) = some (.int .i8 ((rd_T34 x6_1 x7_1).f0)) ∧ w'.cell? ⟨(ad251.add ((x7_1).toNat * 2)).block, (ad251.add ((x7_1).toNat * 2)).off + 1, none⟩ = some (.int .i8 ((rd_T34 x6_1 x7_1).f1))) (ds := []) #[false, false, false, false, false, false, false, false] (by kernel_rfl) rfl rfl ⟨mix_range BK245.out, hx251_0, hx251_1⟩ (fun hHeld => ?_); refine with_tabW impl_Room_steps.tab5 impl_Room_steps.bits5 (fun HT_ HW_ => ?_)
     generalize wr.drew = w15 at HO_6 BK245 BK246 BK247 HB hx251_0 hx251_1 hHeld ⊢
     refine pure_ (i := 1) (N := some 24) (v := ?_) (a' := ?_) #[false, true, false, false, false, false, false, false] rfl rfl (any_of HT_.out (by kernel_rfl)) (fun _ _ _ h => h) (Or.inl ⟨by rfl, ?_⟩) ?_ ?_
     rotate_left
     ·intro w'
      go_simp
      with_reducible rfl
     rotate_left
     ·simp only [Act.put, List.setIfInBounds_toArray, List.set_cons_zero, List.set_cons_succ, i64_w, i32_w]
      rfl
     refine pure_ (i := 2) (N := some 25) (v := ?_) (a' := ?_) #[false, true, true, false, false, false, false, false] rfl rfl (any_of HT_.out (by kernel_rfl)) (fun _ _ _ h => h) (Or.inl ⟨by rfl, ?_⟩) ?_ ?_
     rotate_left
     ·intro w'
      go_simp
      with_reducible rfl
     rotate_left
     ·simp only [Act.put, List.setIfInBounds_toArray, List.set_cons_zero, List.set_cons_succ, i64_w, i32_w]
      rfl
     refine pure_ (i := 3) (N := some 26) (v := ?_) (a' := ?_) #[false, true, true, true, false, false, false, false] rfl rfl (any_of HT_.out (by kernel_rfl)) (fun _ _ _ h => h) (Or.inl ⟨by rfl, ?_⟩) ?_ ?_
     rotate_left
     ·intro w'
      go_simp
      with_reducible rfl
     rotate_left
     ·simp only [Act.put, List.setIfInBounds_toArray, List.set_cons_zero, List.set_cons_succ, i64_w, i32_w]
      rfl
     refine pure_ (i := 7) (N := some 30) (v := ?_) (a' := ?_) #[false, true, true, true, false, false, false, true] rfl rfl (any_of HT_.out (by kernel_rfl)) (fun _ _ _ h => h) (Or.inl ⟨by rfl, ?_⟩) ?_ ?_
     rotate_left
     ·intro w'
      go_simp
      with_reducible rfl
     rotate_left
     ·simp only [Act.put, List.setIfInBounds_toArray, List.set_cons_zero, List.set_cons_succ, i64_w, i32_w]
      rfl
     refine take_ (i := 0) (N := some 23) (v := ?_) (a' := ?_) #[true, true, true, true, false, false, false, true] rfl rfl (take_ofW HT_.out HW_.out (by kernel_rfl)) (fun _ _ _ h => h) (Or.inl ⟨by rfl, ?_⟩) hHeld ?_ ?_
     rotate_left
     ·rintro w' ⟨s0, s1, s2⟩
      refine load_mix_run (P := Try.prog) 32 (.tmp 2) ?_ gb245 ?_ s0 Try.underlying32 rfl (by kernel_rfl) rfl
      all_goals rfl
     rotate_left
     ·simp only [Act.put, List.setIfInBounds_toArray, List.set_cons_zero, List.set_cons_succ, i64_w, i32_w]
      rfl
     refine take_ (i := 4) (N := some 27) (v := ?_) (a' := ?_) #[true, true, true, true, true, false, false, true] rfl rfl (take_ofW HT_.out HW_.out (by kernel_rfl)) (fun _ _ _ h => h) (Or.inl ⟨by rfl, ?_⟩) hHeld ?_ ?_
     rotate_left
     ·rintro w' ⟨s0, s1, s2⟩
      go_simp
      with_reducible rfl
     rotate_left
     ·simp only [Act.put, List.setIfInBounds_toArray, List.set_cons_zero, List.set_cons_succ, i64_w, i32_w]
      rfl
     refine one_ (i := 5) (N := some 28) #[true, true, true, true, true, true, false, true] rfl rfl (one_of HT_.out (by kernel_rfl)) (by decide) (fun K hK => ?_)
     refine goes_ Try.func121 (by kernel_rfl) rfl #[.agg (mixA (Value.int .u16) [.int .i8 a0_0, .int .i8 a0_1] a0_2), .agg #[.int .i8 ((rd_T34 x6_1 x7_1).f0), .int .i8 ((rd_T34 x6_1 x7_1).f1)]] (by rfl) rfl rfl (by (try simp only [List.map_toArray, List.map_cons, List.map_nil]); first | done | rfl | (simp only [List.length_drop, List.length_take]; rfl)) ?_
     with_reducible refine (impl_Room_beside.calls k1 a0_0 a0_1 a0_2 ((rd_T34 x6_1 x7_1).f0) ((rd_T34 x6_1 x7_1).f1) t252 _ A13.out).mono ?_
     rintro e w16 ⟨v253, rfl, ho0, hb⟩
     have HS1_ := (hb.cell (World.block_lt_of_cell? _ _ (hHeld.2.1))).trans (hHeld.2.1)
     have HS2_ := (hb.cell (World.block_lt_of_cell? _ _ (hHeld.2.2))).trans (hHeld.2.2)
     refine ⟨_, rfl, ?_⟩
     have n0_ := Aside0.mk (Kd.R_elder' (by (with_reducible repeat (first | apply Kd.R_alloc | apply Kd.R_drewN | apply Kd.R_drew)); exact HO_6.out) (Kd.R_base ho0) hb)
     have n1_ := Aside0.mk (Kd.R_lower (Kd.R_newB (Kd.R_new' ho0 (Kd.R_lt (by (with_reducible repeat (first | apply Kd.R_alloc | apply Kd.R_drewN | apply Kd.R_drew)); exact HO_6.out))) (g := gb246) (o := .cells #[.int .i8 a1_0, .int .i8 a1_1] 34 (0, 0)) (pk BK246)) (below_size (by repeat (first | (with_reducible first | exact HB.out | apply below_alloc | apply pw_below_drewN | apply below_drew1 | refine below_set ?_ GE245.out | refine below_set ?_ GE246.out | refine below_set ?_ GE247.out) | exact HB.out))))
     have n2_ := bkb BK245 hb
     have n3_ := bkb BK246 hb
     have n4_ := bkb BK247 hb
     have n5_ := bst HB hb
     clear HO_6
     clear BK245
     clear BK246
     clear BK247
     clear HB
     have HO_6 := n0_
     have HO254 := n1_
     have BK245 := n2_
     have BK246 := n3_
     have BK247 := n4_
     have HB := n5_
     clear n0_ n1_ n2_ n3_ n4_ n5_
     (try clear hb)
     (try clear hb2)
     (try clear hk)
     (try clear hi)
     (try clear ho0)
     obtain ⟨Ao17, co17, eo17⟩ := Kd.R_slice HO254.out
     (first | subst eo17 | (injection eo17 with f1_ f2_ f3_; have f4_ := f1_.symm; have f5_ := f3_.symm; clear f1_ f2_ f3_; subst f4_; subst f5_))
     refine hK.out _ _ ⟨mix_range BK245.out, HS1_, HS2_⟩ (fun hHeld => ?_)
     clear hK K
     refine norm_ (a' := ?_) ?_ ?_
     rotate_left
     ·show Act.put _ (some 28) _ = _
      simp only [Act.put, List.setIfInBounds_toArray, List.set_cons_zero, List.set_cons_succ, i64_w, i32_w]
      rfl
     refine pure_ (i := 6) (N := some 29) (v := ?_) (a' := ?_) #[true, true, true, true, true, true, true, true] rfl rfl (any_of HT_.out (by kernel_rfl)) (fun _ _ _ h => h) (Or.inl ⟨by rfl, ?_⟩) ?_ ?_
     rotate_left
     ·intro w'
      go_simp
      with_reducible rfl
     rotate_left
     ·simp only [Act.put, List.setIfInBounds_toArray, List.set_cons_zero, List.set_cons_succ, i64_w, i32_w]
      rfl
     refine done_ (done_of HT_.out (by kernel_rfl)) ?_
     try go_wp2
     go_loopg [6, 30] k1 (fun kq v6 v30 w' => ∃ (x6_2 : List (S34)) (x30_2 : Int) (x248000_2 : MP), v30 = .int .i64 x30_2 ∧ Aside0 (impl_Room_steps.l1 kq x6_2 x7_1 t252 (t252.length : Int) x30_2 a0_0 a0_1 a0_2 x248000_2 = some r) ∧ Aside0 (kq ≤ k1) ∧ Aside0 (Kd.R k34 34 w' w.heap.size (fun k_ => some k_ ≠ ((.slice Ao17 t252.length co17) : Value).ownBlock ∧ k_ ≠ gb246) v6 x6_2) ∧ Aside0 (Kd.R k34 34 w' w.heap.size (fun k_ => some k_ ≠ (v6 : Value).ownBlock ∧ k_ ≠ gb246) (.slice Ao17 t252.length co17) t252) ∧ Aside0 (w'.heap[gb245]? = some (.cells (mixA (Value.int .u16) [.int .i8 a0_0, .int .i8 a0_1] a0_2) 32 (0, 0))) ∧ Aside0 (w'.heap[gb246]? = some (.cells #[.int .i8 a1_0, .int .i8 a1_1] 34 (0, 0))) ∧ Aside0 (w'.heap[gb247]? = some (obM x248000_2)) ∧ Aside0 (Below w.heap.size w w'))
     case atStart => exact ⟨(x6_1), (0), (x248000_1), (by first | rfl | (simp; done) | (simp [*]; done)), H', ⟨Nat.le_refl _⟩, ⟨by (with_reducible repeat (first | apply Kd.R_alloc | apply Kd.R_drewN | apply Kd.R_drew)); exact Kd.R_mono HO_6.out (fun _ hk => ⟨hk.2, hk.1⟩)⟩, ⟨by (with_reducible repeat (first | apply Kd.R_alloc | apply Kd.R_drewN | apply Kd.R_drew)); exact Kd.R_mono HO254.out (fun _ hk => ⟨hk.1.2, hk.2⟩)⟩, ⟨pk BK245⟩, ⟨pk BK246⟩, ⟨pk BK247⟩, ⟨pbs HB⟩⟩
     case round =>
      clear H'
      try clear c1
      try clear c2
      try clear p2
      try clear q2
      try clear hx2
      try clear c11
      try clear c11b0
      try clear c12
      try clear c12b0
      try clear hx251_0
      try clear hx251_1
      try clear p2
      try clear p251
      try clear q251
      obtain ⟨x6_2, x30_2, x248000_2, rfl, HA, HK2, HO_6, HO_28, BK245, BK246, BK247, HB⟩ := hrel
      cases gk with
      | zero => exact absurd HA.out (by simp [impl_Room_steps.l1])
      | succ k2 =>
       have H := HA.out
       clear HA
       simp only [impl_Room_steps.l1] at H
       by_cases c19 : x30_2 < (t252.length : Int)
       ·rw [if_pos c19] at H
        have c19b0 : decide (x30_2 < (t252.length : Int)) = true := decide_eq_true c19
        clear c19
        by_cases c20 : 0 ≤ x30_2
        ·rw [if_pos c20] at H
         have c20b0 : decide (0 ≤ x30_2) = true := decide_eq_true c20
         clear c20
         by_cases c21 : x30_2 < (t252.length : Int)
         ·rw [if_pos c21] at H
          have c21b0 : decide (x30_2 < (t252.length : Int)) = true := decide_eq_true c21
          clear c21
          by_cases c22 : mhas x248000_2 ((rd_T34 t252 x30_2).f0) ((rd_T34 t252 x30_2).f1) = true
          ·rw [if_pos c22] at H
           have c22b0 : mhas x248000_2 ((rd_T34 t252 x30_2).f0) ((rd_T34 t252 x30_2).f1) = true := c22
           clear c22
           have H' := Aside0.mk H
           clear H
           have p255 : 0 ≤ (x30_2 : Int) := of_decide_eq_true (by first | (with_reducible assumption) | assumption)
           have q255 : x30_2 < (t252.length : Int) := of_decide_eq_true (by first | (with_reducible assumption) | assumption)
           obtain ⟨ad255, e255, hx255_0, hx255_1⟩ := at_T34 (Kd.R_reads' HO_28.out).2.2 x30_2 p255 q255
           cases e255
           replace p255 := eq_true p255
           replace q255 := eq_true q255
           go_wp2_with (first | ((with_reducible refine gate_dst (N := 9) rfl ?_); refine box_event ?hg (N := 9) ?hd (cs := #[.int .i8 0, .int .i8 0]) (t := 34) ?hr ?_; (case hd => rfl); (case hg => rfl); (case hr => first | (go_simp; done) | (go_simp; rfl)); intro gb256 hg w23 hbox hb; have n0_ := Aside0.mk (Kd.R_below (Kd.R_elderB (by (with_reducible repeat (first | apply Kd.R_alloc | apply Kd.R_drewN | apply Kd.R_drew)); exact HO_6.out) gb256 (Nat.le_of_eq hg.symm)) hb); have n1_ := Aside0.mk (Kd.R_below (Kd.R_elderB (by (with_reducible repeat (first | apply Kd.R_alloc | apply Kd.R_drewN | apply Kd.R_drew)); exact HO_28.out) gb256 (Nat.le_of_eq hg.symm)) hb); have n2_ := bkb BK245 hb; have n3_ := bkb BK246 hb; have n4_ := bkb BK247 hb; have n5_ := bst HB hb; have n6_ := Aside0.mk (hbox); have n7_ := gwl HB hg; have n8_ := gwl HB hg; have n9_ := nbl BK245 hg; have n10_ := nbg BK245 hg; have n11_ := nbl BK246 hg; have n12_ := nbg BK246 hg; have n13_ := nbl BK247 hg; have n14_ := nbg BK247 hg; clear HO_6; clear HO_28; clear BK245; clear BK246; clear BK247; clear HB; have HO_6 := n0_; have HO_28 := n1_; have BK245 := n2_; have BK246 := n3_; have BK247 := n4_; have HB := n5_; have BK256 := n6_; have GW256 := n7_; have GE256 := n8_; have NB245_256 := n9_; have NB256_245 := n10_; have NB246_256 := n11_; have NB256_246 := n12_; have NB247_256 := n13_; have NB256_247 := n14_; clear n0_ n1_ n2_ n3_ n4_ n5_ n6_ n7_ n8_ n9_ n10_ n11_ n12_ n13_ n14_; clear hb hbox hg; have hnb24 := NB256_245.out; have hnc24 := NB245_256.out; have hnb25 := NB256_246.out; have hnc25 := NB246_256.out; have hnb26 := NB256_247.out; have hnc26 := NB247_256.out; have hcz27_0 : w23.cell? ⟨gb256, 0, none⟩ = some (.int .i8 0) := (blk_cell BK256.out 0).trans rfl; have hcz27_1 : w23.cell? ⟨gb256, 1, none⟩ = some (.int .i8 0) := (blk_cell BK256.out 1).trans rfl; have hfz27_0 := blk_frozen BK256.out 0; have hfz27_1 := blk_frozen BK256.out 1) | ((with_reducible refine gate_dst (N := 37) rfl ?_); refine wpList_run0 (v := .tuple #[.int .i64 (mval x248000_2 ((rd_T34 t252 x30_2).f0) ((rd_T34 t252 x30_2).f1)), .bool (mhas x248000_2 ((rd_T34 t252 x30_2).f0) ((rd_T34 t252 x30_2).f1))]) rfl (look_run1 (.tmp 35) (.tmp 36) rfl gb247 rfl ((rd_T34 t252 x30_2).f0) ((rd_T34 t252 x30_2).f1) rfl x248000_2 (show (World.heap _)[gb247]? = some (obM x248000_2) from (show (World.heap _)[gb247]? = some (obM x248000_2) from by (with_reducible repeat (first | refine blk_drewN ?_ _ | refine blk_drew ?_ | refine blk_alloc ?_ _)); refine blk_farO ?_ NB247_256.out _; (with_reducible repeat (first | refine blk_drewN ?_ _ | refine blk_drew ?_ | refine blk_alloc ?_ _)); refine blk_farO ?_ NB247_256.out _; (with_reducible repeat (first | refine blk_drewN ?_ _ | refine blk_drew ?_ | refine blk_alloc ?_ _)); exact BK247.out))) ?_))
           go_roundg k2
           case measure => have := HK1.out; have := HK2.out; omega
           case rel => exact ⟨(x6_2), (wrap64 (x30_2 + 1)), (x248000_2), (by first | rfl | (simp; done) | (simp [*]; done)), H', ⟨by have := HK1.out; have := HK2.out; omega⟩, ⟨by (with_reducible repeat (first | apply Kd.R_alloc | apply Kd.R_drewN | apply Kd.R_drew)); exact Kd.R_mono (Kd.R_far (p := ⟨gb256, 1, none⟩) (Kd.R_far (p := ⟨gb256, 0, none⟩) (Kd.R_mono HO_6.out (fun k_ hk => (⟨hk, hk.2⟩ : _ ∧ k_ ≠ gb256))) (fun _ hk => hk.2) (.int .i8 ((rd_T34 t252 x30_2).f0))) (fun _ hk => hk.2) (.int .i8 ((rd_T34 t252 x30_2).f1))) (fun _ hk => ⟨hk.1.1.1, hk.1.1.2⟩)⟩, ⟨by (with_reducible repeat (first | apply Kd.R_alloc | apply Kd.R_drewN | apply Kd.R_drew)); exact Kd.R_mono (Kd.R_far (p := ⟨gb256, 1, none⟩) (Kd.R_far (p := ⟨gb256, 0, none⟩) (Kd.R_mono HO_28.out (fun k_ hk => (⟨hk, hk.2⟩ : _ ∧ k_ ≠ gb256))) (fun _ hk => hk.2) (.int .i8 ((rd_T34 t252 x30_2).f0))) (fun _ hk => hk.2) (.int .i8 ((rd_T34 t252 x30_2).f1))) (fun _ hk => ⟨hk.1.1.1, hk.1.1.2⟩)⟩, ⟨by (with_reducible repeat (first | refine blk_drewN ?_ _ | refine blk_drew ?_ | refine blk_alloc ?_ _)); refine blk_far ?_ NB245_256.out _; (with_reducible repeat (first | refine blk_drewN ?_ _ | refine blk_drew ?_ | refine blk_alloc ?_ _)); refine blk_far ?_ NB245_256.out _; (with_reducible repeat (first | refine blk_drewN ?_ _ | refine blk_drew ?_ | refine blk_alloc ?_ _)); exact BK245.out⟩, ⟨by (with_reducible repeat (first | refine blk_drewN ?_ _ | refine blk_drew ?_ | refine blk_alloc ?_ _)); refine blk_far ?_ NB246_256.out _; (with_reducible repeat (first | refine blk_drewN ?_ _ | refine blk_drew ?_ | refine blk_alloc ?_ _)); refine blk_far ?_ NB246_256.out _; (with_reducible repeat (first | refine blk_drewN ?_ _ | refine blk_drew ?_ | refine blk_alloc ?_ _)); exact BK246.out⟩, ⟨by (with_reducible repeat (first | refine blk_drewN ?_ _ | refine blk_drew ?_ | refine blk_alloc ?_ _)); refine blk_farO ?_ NB247_256.out _; (with_reducible repeat (first | refine blk_drewN ?_ _ | refine blk_drew ?_ | refine blk_alloc ?_ _)); refine blk_farO ?_ NB247_256.out _; (with_reducible repeat (first | refine blk_drewN ?_ _ | refine blk_drew ?_ | refine blk_alloc ?_ _)); exact BK247.out⟩, ⟨pbs HB⟩⟩
          ·rw [if_neg c22] at H
           have c22b0 : mhas x248000_2 ((rd_T34 t252 x30_2).f0) ((rd_T34 t252 x30_2).f1) = false := by simpa using c22
           clear c22
           by_cases c29 : 0 ≤ x7_1
           ·rw [if_pos c29] at H
            have c29b0 : decide (0 ≤ x7_1) = true := decide_eq_true c29
            clear c29
            by_cases c30 : x7_1 < (x6_2.length : Int)
            ·rw [if_pos c30] at H
             have c30b0 : decide (x7_1 < (x6_2.length : Int)) = true := decide_eq_true c30
             clear c30
             by_cases c31 : x6_2.length < 70368744177664
             ·rw [if_pos c31] at H
              have LMc31 := Aside0.mk c31
              clear c31
              obtain ⟨y258, hy258⟩ : ∃ y_ : List (S34), y_ = (x6_2 ++ [(⟨(rd_T34 t252 x30_2).f0, (rd_T34 t252 x30_2).f1⟩ : S34)]) := ⟨_, rfl⟩
              replace H : (impl_Room_steps.l1 k2 y258 x7_1 t252 (t252.length : Int) (wrap64 (x30_2 + 1)) a0_0 a0_1 a0_2 (x248000_2 ++ [(((rd_T34 t252 x30_2).f0), ((rd_T34 t252 x30_2).f1), (wrap64 ((mval x248000_2 ((rd_T34 x6_2 x7_1).f0) ((rd_T34 x6_2 x7_1).f1)) + 1)))])) = some r := by first | (rw [hy258]; with_reducible exact H) | (have H2_ := (Option.bind_some _ _).symm.trans H; rw [hy258]; with_reducible exact H2_) | (have H2_ := (Option.bind_some _ _).symm.trans H; with_reducible exact H2_) | with_reducible exact H | (rw [hy258]; exact H) | exact H
              have Ny258 := Aside0.mk hy258
              clear hy258
              have H' := Aside0.mk H
              clear H
              have p255 : 0 ≤ (x30_2 : Int) := of_decide_eq_true (by first | (with_reducible assumption) | assumption)
              have q255 : x30_2 < (t252.length : Int) := of_decide_eq_true (by first | (with_reducible assumption) | assumption)
              obtain ⟨ad255, e255, hx255_0, hx255_1⟩ := at_T34 (Kd.R_reads' HO_28.out).2.2 x30_2 p255 q255
              cases e255
              replace p255 := eq_true p255
              replace q255 := eq_true q255
              try go_wp2_with (first | ((with_reducible refine gate_dst (N := 9) rfl ?_); refine box_event ?hg (N := 9) ?hd (cs := #[.int .i8 0, .int .i8 0]) (t := 34) ?hr ?_; (case hd => rfl); (case hg => rfl); (case hr => first | (go_simp; done) | (go_simp; rfl)); intro gb256 hg w32 hbox hb; have n0_ := Aside0.mk (Kd.R_below (Kd.R_elderB (by (with_reducible repeat (first | apply Kd.R_alloc | apply Kd.R_drewN | apply Kd.R_drew)); exact HO_6.out) gb256 (Nat.le_of_eq hg.symm)) hb); have n1_ := Aside0.mk (Kd.R_below (Kd.R_elderB (by (with_reducible repeat (first | apply Kd.R_alloc | apply Kd.R_drewN | apply Kd.R_drew)); exact HO_28.out) gb256 (Nat.le_of_eq hg.symm)) hb); have n2_ := bkb BK245 hb; have n3_ := bkb BK246 hb; have n4_ := bkb BK247 hb; have n5_ := bst HB hb; have n6_ := Aside0.mk (hbox); have n7_ := gwl HB hg; have n8_ := gwl HB hg; have n9_ := nbl BK245 hg; have n10_ := nbg BK245 hg; have n11_ := nbl BK246 hg; have n12_ := nbg BK246 hg; have n13_ := nbl BK247 hg; have n14_ := nbg BK247 hg; clear HO_6; clear HO_28; clear BK245; clear BK246; clear BK247; clear HB; have HO_6 := n0_; have HO_28 := n1_; have BK245 := n2_; have BK246 := n3_; have BK247 := n4_; have HB := n5_; have BK256 := n6_; have GW256 := n7_; have GE256 := n8_; have NB245_256 := n9_; have NB256_245 := n10_; have NB246_256 := n11_; have NB256_246 := n12_; have NB247_256 := n13_; have NB256_247 := n14_; clear n0_ n1_ n2_ n3_ n4_ n5_ n6_ n7_ n8_ n9_ n10_ n11_ n12_ n13_ n14_; clear hb hbox hg; have hnb33 := NB256_245.out; have hnc33 := NB245_256.out; have hnb34 := NB256_246.out; have hnc34 := NB246_256.out; have hnb35 := NB256_247.out; have hnc35 := NB247_256.out; have hcz36_0 : w32.cell? ⟨gb256, 0, none⟩ = some (.int .i8 0) := (blk_cell BK256.out 0).trans rfl; have hcz36_1 : w32.cell? ⟨gb256, 1, none⟩ = some (.int .i8 0) := (blk_cell BK256.out 1).trans rfl; have hfz36_0 := blk_frozen BK256.out 0; have hfz36_1 := blk_frozen BK256.out 1) | ((with_reducible refine gate_dst (N := 37) rfl ?_); refine wpList_run0 (v := .tuple #[.int .i64 (mval x248000_2 ((rd_T34 t252 x30_2).f0) ((rd_T34 t252 x30_2).f1)), .bool (mhas x248000_2 ((rd_T34 t252 x30_2).f0) ((rd_T34 t252 x30_2).f1))]) rfl (look_run1 (.tmp 35) (.tmp 36) rfl gb247 rfl ((rd_T34 t252 x30_2).f0) ((rd_T34 t252 x30_2).f1) rfl x248000_2 (show (World.heap _)[gb247]? = some (obM x248000_2) from (show (World.heap _)[gb247]? = some (obM x248000_2) from by (with_reducible repeat (first | refine blk_drewN ?_ _ | refine blk_drew ?_ | refine blk_alloc ?_ _)); refine blk_farO ?_ NB247_256.out _; (with_reducible repeat (first | refine blk_drewN ?_ _ | refine blk_drew ?_ | refine blk_alloc ?_ _)); refine blk_farO ?_ NB247_256.out _; (with_reducible repeat (first | refine blk_drewN ?_ _ | refine blk_drew ?_ | refine blk_alloc ?_ _)); exact BK247.out))) ?_))
              have n0_ : Aside0 (Kd.R k34 34 ((w32.setCell ⟨gb256, 0, none⟩ (.int .i8 ((rd_T34 t252 x30_2).f0))).setCell ⟨gb256, 1, none⟩ (.int .i8 ((rd_T34 t252 x30_2).f1))) w.heap.size (fun k_ => some k_ ≠ (.slice (some ad255) t252.length co17 : Value).ownBlock ∧ k_ ≠ gb246 ∧ k_ ≠ gb256) u6 x6_2) := ⟨by (with_reducible repeat (first | apply Kd.R_alloc | apply Kd.R_drewN | apply Kd.R_drew)); exact Kd.R_mono (Kd.R_far (p := ⟨gb256, 1, none⟩) (Kd.R_far (p := ⟨gb256, 0, none⟩) (Kd.R_mono HO_6.out (fun k_ hk => (⟨hk, hk.2⟩ : _ ∧ k_ ≠ gb256))) (fun _ hk => hk.2) (.int .i8 ((rd_T34 t252 x30_2).f0))) (fun _ hk => hk.2) (.int .i8 ((rd_T34 t252 x30_2).f1))) (fun _ hk => ⟨hk.1.1.1, ⟨hk.1.1.2, hk.1.2⟩⟩)⟩
              have n1_ : Aside0 (Kd.R k34 34 ((w32.setCell ⟨gb256, 0, none⟩ (.int .i8 ((rd_T34 t252 x30_2).f0))).setCell ⟨gb256, 1, none⟩ (.int .i8 ((rd_T34 t252 x30_2).f1))) w.heap.size (fun k_ => some k_ ≠ (u6 : Value).ownBlock ∧ k_ ≠ gb246 ∧ k_ ≠ gb256) (.slice (some ad255) t252.length co17) t252) := ⟨by (with_reducible repeat (first | apply Kd.R_alloc | apply Kd.R_drewN | apply Kd.R_drew)); exact Kd.R_mono (Kd.R_far (p := ⟨gb256, 1, none⟩) (Kd.R_far (p := ⟨gb256, 0, none⟩) (Kd.R_mono HO_28.out (fun k_ hk => (⟨hk, hk.2⟩ : _ ∧ k_ ≠ gb256))) (fun _ hk => hk.2) (.int .i8 ((rd_T34 t252 x30_2).f0))) (fun _ hk => hk.2) (.int .i8 ((rd_T34 t252 x30_2).f1))) (fun _ hk => ⟨hk.1.1.1, ⟨hk.1.1.2, hk.1.2⟩⟩)⟩
              have n2_ : Aside0 (((w32.setCell ⟨gb256, 0, none⟩ (.int .i8 ((rd_T34 t252 x30_2).f0))).setCell ⟨gb256, 1, none⟩ (.int .i8 ((rd_T34 t252 x30_2).f1))).heap[gb245]? = some (.cells (mixA (Value.int .u16) [.int .i8 a0_0, .int .i8 a0_1] a0_2) 32 (0, 0))) := ⟨by (with_reducible repeat (first | refine blk_drewN ?_ _ | refine blk_drew ?_ | refine blk_alloc ?_ _)); refine blk_far ?_ NB245_256.out _; (with_reducible repeat (first | refine blk_drewN ?_ _ | refine blk_drew ?_ | refine blk_alloc ?_ _)); refine blk_far ?_ NB245_256.out _; (with_reducible repeat (first | refine blk_drewN ?_ _ | refine blk_drew ?_ | refine blk_alloc ?_ _)); exact BK245.out⟩
              have n3_ : Aside0 (((w32.setCell ⟨gb256, 0, none⟩ (.int .i8 ((rd_T34 t252 x30_2).f0))).setCell ⟨gb256, 1, none⟩ (.int .i8 ((rd_T34 t252 x30_2).f1))).heap[gb246]? = some (.cells #[.int .i8 a1_0, .int .i8 a1_1] 34 (0, 0))) := ⟨by (with_reducible repeat (first | refine blk_drewN ?_ _ | refine blk_drew ?_ | refine blk_alloc ?_ _)); refine blk_far ?_ NB246_256.out _; (with_reducible repeat (first | refine blk_drewN ?_ _ | refine blk_drew ?_ | refine blk_alloc ?_ _)); refine blk_far ?_ NB246_256.out _; (with_reducible repeat (first | refine blk_drewN ?_ _ | refine blk_drew ?_ | refine blk_alloc ?_ _)); exact BK246.out⟩
              have n4_ : Aside0 (((w32.setCell ⟨gb256, 0, none⟩ (.int .i8 ((rd_T34 t252 x30_2).f0))).setCell ⟨gb256, 1, none⟩ (.int .i8 ((rd_T34 t252 x30_2).f1))).heap[gb247]? = some (obM x248000_2)) := ⟨by (with_reducible repeat (first | refine blk_drewN ?_ _ | refine blk_drew ?_ | refine blk_alloc ?_ _)); refine blk_farO ?_ NB247_256.out _; (with_reducible repeat (first | refine blk_drewN ?_ _ | refine blk_drew ?_ | refine blk_alloc ?_ _)); refine blk_farO ?_ NB247_256.out _; (with_reducible repeat (first | refine blk_drewN ?_ _ | refine blk_drew ?_ | refine blk_alloc ?_ _)); exact BK247.out⟩
              have n5_ : Aside0 (((w32.setCell ⟨gb256, 0, none⟩ (.int .i8 ((rd_T34 t252 x30_2).f0))).setCell ⟨gb256, 1, none⟩ (.int .i8 ((rd_T34 t252 x30_2).f1))).heap[gb256]? = some (.cells #[.int .i8 ((rd_T34 t252 x30_2).f0), .int .i8 ((rd_T34 t252 x30_2).f1)] 34 (0, 0))) := ⟨by (with_reducible repeat (first | refine blk_drewN ?_ _ | refine blk_drew ?_ | refine blk_alloc ?_ _)); refine blk_put (cs := #[.int .i8 ((rd_T34 t252 x30_2).f0), .int .i8 0]) ?_ 1 _ rfl; (with_reducible repeat (first | refine blk_drewN ?_ _ | refine blk_drew ?_ | refine blk_alloc ?_ _)); refine blk_put (cs := #[.int .i8 0, .int .i8 0]) ?_ 0 _ rfl; (with_reducible repeat (first | refine blk_drewN ?_ _ | refine blk_drew ?_ | refine blk_alloc ?_ _)); exact BK256.out⟩
              have n6_ : Aside0 (Below w.heap.size w ((w32.setCell ⟨gb256, 0, none⟩ (.int .i8 ((rd_T34 t252 x30_2).f0))).setCell ⟨gb256, 1, none⟩ (.int .i8 ((rd_T34 t252 x30_2).f1)))) := ⟨pbs HB⟩
              (try clear HO_6)
              (try clear HO_28)
              (try clear BK245)
              (try clear BK246)
              (try clear BK247)
              (try clear BK256)
              (try clear HB)
              generalize ((w32.setCell ⟨gb256, 0, none⟩ (.int .i8 ((rd_T34 t252 x30_2).f0))).setCell ⟨gb256, 1, none⟩ (.int .i8 ((rd_T34 t252 x30_2).f1))) = w38 at n0_ n1_ n2_ n3_ n4_ n5_ n6_ ⊢
              have HO_6 := n0_
              have HO_28 := n1_
              have BK245 := n2_
              have BK246 := n3_
              have BK247 := n4_
              have BK256 := n5_
              have HB := n6_
              clear n0_ n1_ n2_ n3_ n4_ n5_ n6_
              have n0_ := Aside0.mk (Kd.R_drew HO_6.out)
              have n1_ := Aside0.mk (Kd.R_drew HO_28.out)
              have n2_ := Aside0.mk (blk_drew BK245.out)
              have n3_ := Aside0.mk (blk_drew BK246.out)
              have n4_ := Aside0.mk (blk_drew BK247.out)
              have n5_ := Aside0.mk (blk_drew BK256.out)
              have n6_ := Aside0.mk (below_drew1 HB.out)
              clear HO_6
              clear HO_28
              clear BK245
              clear BK246
              clear BK247
              clear BK256
              clear HB
              have HO_6 := n0_
              have HO_28 := n1_
              have BK245 := n2_
              have BK246 := n3_
              have BK247 := n4_
              have BK256 := n5_
              have HB := n6_
              clear n0_ n1_ n2_ n3_ n4_ n5_ n6_
              obtain ⟨Ao40, co40, eo40⟩ := Kd.R_slice HO_6.out
              (first | subst eo40 | (injection eo40 with f1_ f2_ f3_; have f4_ := f1_.symm; have f5_ := f3_.symm; clear f1_ f2_ f3_; subst f4_; subst f5_))
              have p257 : 0 ≤ (x7_1 : Int) := of_decide_eq_true (by first | (with_reducible assumption) | assumption)
              have q257 : x7_1 < (x6_2.length : Int) := of_decide_eq_true (by first | (with_reducible assumption) | assumption)
              obtain ⟨ad257, e257, hx257_0, hx257_1⟩ := at_T34 (Kd.R_reads' HO_6.out).2.2 x7_1 p257 q257
              cases e257
              replace p257 := eq_true p257
              replace q257 := eq_true q257
              refine start_ (n := 10) (S := fun w' => w'.cell? ⟨gb256, 0, none⟩ = some (.int .i8 ((rd_T34 t252 x30_2).f0)) ∧ w'.cell? ⟨gb256, 1, none⟩ = some (.int .i8 ((rd_T34 t252 x30_2).f1)) ∧ (World.heap w')[gb247]? = some (obM x248000_2) ∧ w'.cell? (ad257.add ((x7_1).toNat * 2)) = some (.int .i8 ((rd_T34 x6_2 x7_1).f0)) ∧ w'.cell? ⟨(ad257.add ((x7_1).toNat * 2)).block, (ad257.add ((x7_1).toNat * 2)).off + 1, none⟩ = some (.int .i8 ((rd_T34 x6_2 x7_1).f1))) (ds := [9]) #[false, false, false, false, false, false, false, false, false, false] (by kernel_rfl) rfl rfl ⟨(blk_cell BK256.out 0).trans rfl, (blk_cell BK256.out 1).trans rfl, BK247.out, hx257_0, hx257_1⟩ (fun hHeld => ?_); refine with_tabW impl_Room_steps.tab10 impl_Room_steps.bits10 (fun HT_ HW_ => ?_)
              generalize w38.drew = w39 at HO_6 HO_28 BK245 BK246 BK247 BK256 HB hx257_0 hx257_1 hHeld ⊢
              refine pure_ (i := 0) (N := some 42) (v := ?_) (a' := ?_) #[true, false, false, false, false, false, false, false, false, false] rfl rfl (any_of HT_.out (by kernel_rfl)) (fun _ _ _ h => h) (Or.inl ⟨by rfl, ?_⟩) ?_ ?_
              rotate_left
              ·intro w'
               go_simp
               with_reducible rfl
              rotate_left
              ·simp only [Act.put, List.setIfInBounds_toArray, List.set_cons_zero, List.set_cons_succ, i64_w, i32_w]
               rfl
              refine pure_ (i := 2) (N := some 44) (v := ?_) (a' := ?_) #[true, false, true, false, false, false, false, false, false, false] rfl rfl (any_of HT_.out (by kernel_rfl)) (fun _ _ _ h => h) (Or.inl ⟨by rfl, ?_⟩) ?_ ?_
              rotate_left
              ·intro w'
               go_simp
               with_reducible rfl
              rotate_left
              ·simp only [Act.put, List.setIfInBounds_toArray, List.set_cons_zero, List.set_cons_succ, i64_w, i32_w]
               rfl
              refine pure_ (i := 3) (N := some 45) (v := ?_) (a' := ?_) #[true, false, true, true, false, false, false, false, false, false] rfl rfl (any_of HT_.out (by kernel_rfl)) (fun _ _ _ h => h) (Or.inl ⟨by rfl, ?_⟩) ?_ ?_
              rotate_left
              ·intro w'
               go_simp
               with_reducible rfl
              rotate_left
              ·simp only [Act.put, List.setIfInBounds_toArray, List.set_cons_zero, List.set_cons_succ, i64_w, i32_w]
               rfl
              refine pure_ (i := 4) (N := some 46) (v := ?_) (a' := ?_) #[true, false, true, true, true, false, false, false, false, false] rfl rfl (any_of HT_.out (by kernel_rfl)) (fun _ _ _ h => h) (Or.inl ⟨by rfl, ?_⟩) ?_ ?_
              rotate_left
              ·intro w'
               go_simp
               with_reducible rfl
              rotate_left
              ·simp only [Act.put, List.setIfInBounds_toArray, List.set_cons_zero, List.set_cons_succ, i64_w, i32_w]
               rfl
              refine pure_ (i := 5) (N := some 47) (v := ?_) (a' := ?_) #[true, false, true, true, true, true, false, false, false, false] rfl rfl (any_of HT_.out (by kernel_rfl)) (fun _ _ _ h => h) (Or.inl ⟨by rfl, ?_⟩) ?_ ?_
              rotate_left
              ·intro w'
               go_simp
               with_reducible rfl
              rotate_left
              ·simp only [Act.put, List.setIfInBounds_toArray, List.set_cons_zero, List.set_cons_succ, i64_w, i32_w]
               rfl
              refine take_ (i := 1) (N := some 43) (v := ?_) (a' := ?_) #[true, true, true, true, true, true, false, false, false, false] rfl rfl (take_ofW HT_.out HW_.out (by kernel_rfl)) (fun _ _ _ h => h) (Or.inl ⟨by rfl, ?_⟩) hHeld ?_ ?_
              rotate_left
              ·rintro w' ⟨s0, s1, s2, s3, s4⟩
               go_simp
               with_reducible rfl
              rotate_left
              ·simp only [Act.put, List.setIfInBounds_toArray, List.set_cons_zero, List.set_cons_succ, i64_w, i32_w]
               rfl
              refine take_ (i := 6) (N := some 48) (v := ?_) (a' := ?_) #[true, true, true, true, true, true, true, false, false, false] rfl rfl (take_ofW HT_.out HW_.out (by kernel_rfl)) (fun _ _ _ h => h) (Or.inl ⟨by rfl, ?_⟩) hHeld ?_ ?_
              rotate_left
              ·rintro w' ⟨s0, s1, s2, s3, s4⟩
               go_simp
               with_reducible rfl
              rotate_left
              ·simp only [Act.put, List.setIfInBounds_toArray, List.set_cons_zero, List.set_cons_succ, i64_w, i32_w]
               rfl
              refine take_ (i := 7) (N := some 49) (v := ?_) (a' := ?_) #[true, true, true, true, true, true, true, true, false, false] rfl rfl (take_ofW HT_.out HW_.out (by kernel_rfl)) (fun _ _ _ h => h) (Or.inl ⟨by rfl, ?_⟩) hHeld ?_ ?_
              rotate_left
              ·rintro w' ⟨s0, s1, s2, s3, s4⟩
               refine look_run0 (.tmp 44) (.tmp 48) ?_ gb247 ?_ ((rd_T34 x6_2 x7_1).f0) ((rd_T34 x6_2 x7_1).f1) ?_ x248000_2 s2
               all_goals rfl
              rotate_left
              ·simp only [Act.put, List.setIfInBounds_toArray, List.set_cons_zero, List.set_cons_succ, i64_w, i32_w]
               rfl
              refine pure_ (i := 8) (N := some 50) (v := ?_) (a' := ?_) #[true, true, true, true, true, true, true, true, true, false] rfl rfl (any_of HT_.out (by kernel_rfl)) (fun _ _ _ h => h) (Or.inl ⟨by rfl, ?_⟩) ?_ ?_
              rotate_left
              ·intro w'
               go_simp
               with_reducible rfl
              rotate_left
              ·simp only [Act.put, List.setIfInBounds_toArray, List.set_cons_zero, List.set_cons_succ, i64_w, i32_w]
               rfl
              refine last_ (i := 9) (N := none) #[true, true, true, true, true, true, true, true, true, true] rfl rfl (one_of HT_.out (by kernel_rfl)) (by decide) (fun K hK => ?_)
              refine step_putM (by rfl) rfl (.tmp 42) (.tmp 43) (.tmp 50) (.inl rfl) gb247 ((rd_T34 t252 x30_2).f0) ((rd_T34 t252 x30_2).f1) (wrap64 ((mval x248000_2 ((rd_T34 x6_2 x7_1).f0) ((rd_T34 x6_2 x7_1).f1)) + 1)) x248000_2 (by (try simp only [List.map_toArray, List.map_cons, List.map_nil]); first | done | rfl | (simp only [List.length_drop, List.length_take]; rfl)) (by (try simp only [List.map_toArray, List.map_cons, List.map_nil]); first | done | rfl | (simp only [List.length_drop, List.length_take]; rfl)) (by (try simp only [List.map_toArray, List.map_cons, List.map_nil]); first | done | rfl | (simp only [List.length_drop, List.length_take]; rfl)) (pk BK247) (by first | assumption | (simp only [Bool.not_eq_true] at *; assumption)) ?_
              intro w41 hi hk hbl
              have n0_ := Aside0.mk (Kd.R_mono (Kd.R_keep (Kd.R_typesM (by (with_reducible repeat (first | apply Kd.R_alloc | apply Kd.R_drewN | apply Kd.R_drew)); exact HO_6.out) (pk BK247)) hk (fun _ h => h.2)) (fun _ h => h.1))
              have n1_ := Aside0.mk (Kd.R_mono (Kd.R_keep (Kd.R_typesM (by (with_reducible repeat (first | apply Kd.R_alloc | apply Kd.R_drewN | apply Kd.R_drew)); exact HO_28.out) (pk BK247)) hk (fun _ h => h.2)) (fun _ h => h.1))
              have n2_ := Aside0.mk (KeepBut.blk hk (g' := gb245) (o := .cells (mixA (Value.int .u16) [.int .i8 a0_0, .int .i8 a0_1] a0_2) 32 (0, 0)) (pk BK245) NB245_247.out (by simp))
              have n3_ := Aside0.mk (KeepBut.blk hk (g' := gb246) (o := .cells #[.int .i8 a1_0, .int .i8 a1_1] 34 (0, 0)) (pk BK246) NB246_247.out (by simp))
              have n4_ := Aside0.mk (KeepBut.blk hk (g' := gb256) (o := .cells #[.int .i8 ((rd_T34 t252 x30_2).f0), .int .i8 ((rd_T34 t252 x30_2).f1)] 34 (0, 0)) (pk BK256) NB256_247.out (by simp))
              have n5_ := Aside0.mk (hbl _ _ (pbs HB) GE247.out)
              have n6_ := Aside0.mk (hi)
              clear HO_6
              clear HO_28
              clear BK245
              clear BK246
              clear BK256
              clear HB
              clear BK247
              have HO_6 := n0_
              have HO_28 := n1_
              have BK245 := n2_
              have BK246 := n3_
              have BK256 := n4_
              have HB := n5_
              have BK247 := n6_
              clear n0_ n1_ n2_ n3_ n4_ n5_ n6_
              clear hi hk hbl
              refine hK.out _ _ ?_
              clear hK K
              refine done_ (done_of HT_.out (by kernel_rfl)) ?_
              have hcz43_0 : w41.cell? ⟨gb256, 0, none⟩ = some (.int .i8 ((rd_T34 t252 x30_2).f0)) := bc_ BK256.out 0
              have hcz43_1 : w41.cell? ⟨gb256, 1, none⟩ = some (.int .i8 ((rd_T34 t252 x30_2).f1)) := bc_ BK256.out 1
              have hfz43_0 := blk_frozen BK256.out 0
              have hfz43_1 := blk_frozen BK256.out 1
              try go_wp2_with (first | ((with_reducible refine gate_builtin (b := .append) (xs := #[.tmp 51, .tmp 53]) rfl ?_); at_builtin; refine Kd.R_append k34 (w0 := w) w.heap.size rfl (.tmp 51) (.tmp 53) 29 34 (.agg #[(.int .i8 0), (.int .i8 0)]) 2 rfl Try.underlying29 info34 rfl (by decide) (by omega) (.slice (some ad257) x6_2.length co40) x6_2 (⟨(rd_T34 t252 x30_2).f0, (rd_T34 t252 x30_2).f1⟩ : S34) [.int .i8 ((rd_T34 t252 x30_2).f0), .int .i8 ((rd_T34 t252 x30_2).f1)] (fun k_ => some k_ ≠ (.slice (some ad255) t252.length co17 : Value).ownBlock ∧ k_ ≠ gb246 ∧ k_ ≠ gb256) (fun _ => False) rfl rfl ?aP (fun _ hk => hk.elim) ?aF ?aO ?aB ?aS ?aL ?_; (case aP => exact k34_mkM _ _ _ (⟨(rd_T34 t252 x30_2).f0, (rd_T34 t252 x30_2).f1⟩ : S34)); (case aB => exact (pbs HB)); (case aF => exact (fun k_ hk => ⟨Kd.fresh' (Kd.R_lt (by (with_reducible repeat (first | apply Kd.R_alloc | apply Kd.R_drewN | apply Kd.R_drew)); exact HO_28.out)) k_ hk, Kd.freshB (g := gb246) (o := .cells #[.int .i8 a1_0, .int .i8 a1_1] 34 (0, 0)) (pk BK246) k_ hk, Kd.freshB (g := gb256) (o := .cells #[.int .i8 ((rd_T34 t252 x30_2).f0), .int .i8 ((rd_T34 t252 x30_2).f1)] 34 (0, 0)) (pk BK256) k_ hk⟩)); (case aO => exact (by (with_reducible repeat (first | apply Kd.R_alloc | apply Kd.R_drewN | apply Kd.R_drew)); exact HO_6.out)); (case aS => exact (below_size (by repeat (first | (with_reducible first | exact HB.out | apply below_alloc | apply pw_below_drewN | apply below_drew1 | refine below_set ?_ GE245.out | refine below_set ?_ GE246.out | refine below_set ?_ GE247.out | refine below_set ?_ GE256.out) | exact HB.out)))); (case aL => have := LMc31.out; omega); intro v259 w44 ho hb hg hat; rw [← Ny258.out] at ho; have n0_ := Aside0.mk (Kd.R_after (ok := (fun k_ => k_ ≠ gb246 ∧ k_ ≠ gb256)) (by (with_reducible repeat (first | apply Kd.R_alloc | apply Kd.R_drewN | apply Kd.R_drew)); exact Kd.R_mono HO_28.out (fun _ hk => ⟨⟨hk.2.1, hk.2.2⟩, hk.1⟩)) hg hat); have n1_ := Aside0.mk (blk_grown (g := gb245) (o := .cells (mixA (Value.int .u16) [.int .i8 a0_0, .int .i8 a0_1] a0_2) 32 (0, 0)) (pk BK245) hg (Kd.R_ne HO_6.out BK245.out (by decide))); have n2_ := Aside0.mk (blk_grown (g := gb246) (o := .cells #[.int .i8 a1_0, .int .i8 a1_1] 34 (0, 0)) (pk BK246) hg (Kd.R_away HO_6.out (fun _ hk => hk.2.1))); have n3_ := Aside0.mk (blk_grown (g := gb247) (o := obM (x248000_2 ++ [(((rd_T34 t252 x30_2).f0), ((rd_T34 t252 x30_2).f1), (wrap64 ((mval x248000_2 ((rd_T34 x6_2 x7_1).f0) ((rd_T34 x6_2 x7_1).f1)) + 1)))])) (pk BK247) hg (Kd.R_neM HO_6.out BK247.out)); have n4_ := Aside0.mk (blk_grown (g := gb256) (o := .cells #[.int .i8 ((rd_T34 t252 x30_2).f0), .int .i8 ((rd_T34 t252 x30_2).f1)] 34 (0, 0)) (pk BK256) hg (Kd.R_away HO_6.out (fun _ hk => hk.2.2))); have n5_ := Aside0.mk (hb); have n6_ := Aside0.mk (ho); clear HO_28; clear BK245; clear BK246; clear BK247; clear BK256; clear HB; clear HO_6; have HO_28 := n0_; have BK245 := n1_; have BK246 := n2_; have BK247 := n3_; have BK256 := n4_; have HB := n5_; have HO260 := n6_; clear n0_ n1_ n2_ n3_ n4_ n5_ n6_; clear ho hb hg hat))
              go_roundg k2
              case measure => have := HK1.out; have := HK2.out; omega
              case rel => exact ⟨(y258), (wrap64 (x30_2 + 1)), ((x248000_2 ++ [(((rd_T34 t252 x30_2).f0), ((rd_T34 t252 x30_2).f1), (wrap64 ((mval x248000_2 ((rd_T34 x6_2 x7_1).f0) ((rd_T34 x6_2 x7_1).f1)) + 1)))])), (by first | rfl | (simp; done) | (simp [*]; done)), H', ⟨by have := HK1.out; have := HK2.out; omega⟩, ⟨by (with_reducible repeat (first | apply Kd.R_alloc | apply Kd.R_drewN | apply Kd.R_drew)); exact Kd.R_mono HO260.out (fun _ hk => ⟨hk.1, hk.2.1⟩)⟩, ⟨by (with_reducible repeat (first | apply Kd.R_alloc | apply Kd.R_drewN | apply Kd.R_drew)); exact Kd.R_mono HO_28.out (fun _ hk => ⟨hk.2, hk.1.1⟩)⟩, ⟨pk BK245⟩, ⟨pk BK246⟩, ⟨pk BK247⟩, ⟨pbs HB⟩⟩
             ·rw [if_neg c31] at H
              exact absurd H (by simp)
            ·rw [if_neg c30] at H
             exact absurd H (by simp)
           ·rw [if_neg c29] at H
            exact absurd H (by simp)
         ·rw [if_neg c21] at H
          exact absurd H (by simp)
        ·rw [if_neg c20] at H
         exact absurd H (by simp)
       ·rw [if_neg c19] at H
        have c19b0 : decide (x30_2 < (t252.length : Int)) = false := decide_eq_false c19
        clear c19
        have H' := Aside0.mk H
        clear H
        go_wp2
        go_roundg k2
        case measure => have := HK1.out; have := HK2.out; omega
        case rel => exact ⟨(x6_2), (wrap64 (x7_1 + 1)), (x248000_2), (by first | rfl | (simp; done) | (simp [*]; done)), H', ⟨by have := HK1.out; have := HK2.out; omega⟩, ⟨by (with_reducible repeat (first | apply Kd.R_alloc | apply Kd.R_drewN | apply Kd.R_drew)); exact Kd.R_mono HO_6.out (fun _ hk => hk.2)⟩, ⟨pk BK245⟩, ⟨pk BK246⟩, ⟨pk BK247⟩, ⟨pbs HB⟩⟩
    ·rw [if_neg c12] at H
     exact absurd H (by simp)
   ·rw [if_neg c11] at H
    have c11b0 : decide (x7_1 < (x6_1.length : Int)) = false := decide_eq_false c11
    clear c11
    obtain rfl := Option.some.inj H
    obtain ⟨Ao45, co45, eo45⟩ := Kd.R_slice HO_6.out
    subst eo45
    go_wp2
    go_ret
    exact ⟨_, rfl, (pk BK247), GW247.out, pbs HB⟩
end Go.Proofs.Ytoiiabnnddlcbaa.PB
end
section
namespace Go.Proofs.Ytoiiabnnddlcbaa.PB
open Go.RowKit Go.Proofs.YtoiiabnnddlcbaaW.PrintWords Go.Proofs.YtoiiabnnddlcbaaW.PrintLast Go.Proofs.YtoiiabnnddlcbaaW.PrintMore Go.Proofs.Ytoiiabnnddlcbaa.La Go.Proofs.Ytoiiabnnddlcbaa.Mp
attribute [local go_sem] max2_int min2_int max_two min_two max_three min_three max_four min_four   -- for this text's walks alone
set_option linter.unusedVariables false
set_option linter.unusedSimpArgs false
mutual
def impl_Room_calls.l0 : Nat → List (S34) → Int → List Int → List (S34) → Int → Int → Int → Int → LA 10 → Option (List Int)
 | 0, _, _, _, _, _, _, _, _, _ => none
 | k + 1, x1, x2, x7, x18, x19, x20, x425000, x425001, x425002 => if x20 < x19 then (if 0 ≤ x20 then (if x20 < (x18.length : Int) then ((impl_Room_steps.f k x425000 x425001 x425002 ((rd_T34 x18 x20).f0) ((rd_T34 x18 x20).f1)).bind fun t433 => (impl_Room_calls.l1 k x1 x2 x7 0 x18 x19 x20 x1 (x1.length : Int) 0 x425000 x425001 x425002 t433)) else (none)) else (none)) else (some x7)
def impl_Room_calls.l1 : Nat → List (S34) → Int → List Int → Int → List (S34) → Int → Int → List (S34) → Int → Int → Int → Int → LA 10 → MP → Option (List Int)
 | 0, _, _, _, _, _, _, _, _, _, _, _, _, _, _ => none
 | k + 1, x1, x2, x7, x11, x18, x19, x20, x27, x28, x29, x425000, x425001, x425002, x435000 => if x29 < x28 then (if 0 ≤ x29 then (if x29 < (x27.length : Int) then (if mhas x435000 ((rd_T34 x27 x29).f0) ((rd_T34 x27 x29).f1) = true then (if (mval x435000 ((rd_T34 x27 x29).f0) ((rd_T34 x27 x29).f1)) ≤ x2 then (impl_Room_calls.l1 k x1 x2 x7 (Go.bits .or .u32 x11 (shl .u32 1 x29)) x18 x19 x20 x27 x28 (wrap64 (x29 + 1)) x425000 x425001 x425002 x435000) else (impl_Room_calls.l1 k x1 x2 x7 x11 x18 x19 x20 x27 x28 (wrap64 (x29 + 1)) x425000 x425001 x425002 x435000)) else (impl_Room_calls.l1 k x1 x2 x7 x11 x18 x19 x20 x27 x28 (wrap64 (x29 + 1)) x425000 x425001 x425002 x435000)) else (none)) else (none)) else (if x7.length < 35184372088832 then (impl_Room_calls.l0 k x1 x2 (x7 ++ [x11]) x18 x19 (wrap64 (x20 + 1)) x425000 x425001 x425002) else (none))
end
def impl_Room_calls.f (k : Nat) (a0_0 : Int) (a0_1 : Int) (a0_2 : LA 10) (l1 : List (S34)) (a2 : Int) : Option (List Int) := (impl_Room_free.f k a0_0 a0_1 a0_2).bind fun t428 => (impl_Room_calls.l0 k l1 a2 (([] : List Int)) t428 (t428.length : Int) 0 a0_0 a0_1 a0_2)
theorem impl_Room_calls.mono_l : ∀ k, (∀ y0 y1 y2 y3 y4 y5 y6 y7 y8, LeO (impl_Room_calls.l0 k y0 y1 y2 y3 y4 y5 y6 y7 y8) (impl_Room_calls.l0 (k + 1) y0 y1 y2 y3 y4 y5 y6 y7 y8)) ∧ (∀ y0 y1 y2 y3 y4 y5 y6 y7 y8 y9 y10 y11 y12 y13, LeO (impl_Room_calls.l1 k y0 y1 y2 y3 y4 y5 y6 y7 y8 y9 y10 y11 y12 y13) (impl_Room_calls.l1 (k + 1) y0 y1 y2 y3 y4 y5 y6 y7 y8 y9 y10 y11 y12 y13))
 | 0 => ⟨fun _ _ _ _ _ _ _ _ _ r h => by simp [impl_Room_calls.l0] at h, fun _ _ _ _ _ _ _ _ _ _ _ _ _ _ r h => by simp [impl_Room_calls.l1] at h⟩
 | k + 1 => by
  obtain ⟨ih0, ih1⟩ := impl_Room_calls.mono_l k
  refine ⟨?_, ?_⟩
  ·intro y0 y1 y2 y3 y4 y5 y6 y7 y8
   unfold impl_Room_calls.l0
   repeat' first
   | (with_reducible exact ih0 _ _ _ _ _ _ _ _ _)
   | (with_reducible exact ih1 _ _ _ _ _ _ _ _ _ _ _ _ _ _)
   | (with_reducible exact impl_Room_free.mono _ _ _ _)
   | (with_reducible exact impl_Room_steps.mono _ _ _ _ _ _)
   | (with_reducible exact LeO.refl _)
   | (with_reducible exact LeO.none _)
   | (with_reducible refine LeO.ite ?_ ?_)
   | (with_reducible refine LeO.bind ?_ (fun _ => ?_))
   | exact ih0 _ _ _ _ _ _ _ _ _
   | exact ih1 _ _ _ _ _ _ _ _ _ _ _ _ _ _
   | exact impl_Room_free.mono _ _ _ _
   | exact impl_Room_steps.mono _ _ _ _ _ _
   | exact LeO.none _
   | refine LeO.ite ?_ ?_
   | refine LeO.bind ?_ (fun _ => ?_)
  ·intro y0 y1 y2 y3 y4 y5 y6 y7 y8 y9 y10 y11 y12 y13
   unfold impl_Room_calls.l1
   repeat' first
   | (with_reducible exact ih0 _ _ _ _ _ _ _ _ _)
   | (with_reducible exact ih1 _ _ _ _ _ _ _ _ _ _ _ _ _ _)
   | (with_reducible exact impl_Room_free.mono _ _ _ _)
   | (with_reducible exact impl_Room_steps.mono _ _ _ _ _ _)
   | (with_reducible exact LeO.refl _)
   | (with_reducible exact LeO.none _)
   | (with_reducible refine LeO.ite ?_ ?_)
   | (with_reducible refine LeO.bind ?_ (fun _ => ?_))
   | exact ih0 _ _ _ _ _ _ _ _ _
   | exact ih1 _ _ _ _ _ _ _ _ _ _ _ _ _ _
   | exact impl_Room_free.mono _ _ _ _
   | exact impl_Room_steps.mono _ _ _ _ _ _
   | exact LeO.none _
   | refine LeO.ite ?_ ?_
   | refine LeO.bind ?_ (fun _ => ?_)
theorem impl_Room_calls.mono : ∀ a0 a1 a2 a3 a4 k, LeO (impl_Room_calls.f k a0 a1 a2 a3 a4) (impl_Room_calls.f (k + 1) a0 a1 a2 a3 a4) := by
 intro a0 a1 a2 a3 a4 k
 obtain ⟨ih0, ih1⟩ := impl_Room_calls.mono_l k
 unfold impl_Room_calls.f
 repeat' first
   | (with_reducible exact ih0 _ _ _ _ _ _ _ _ _)
   | (with_reducible exact ih1 _ _ _ _ _ _ _ _ _ _ _ _ _ _)
   | (with_reducible exact impl_Room_free.mono _ _ _ _)
   | (with_reducible exact impl_Room_steps.mono _ _ _ _ _ _)
   | (with_reducible exact LeO.refl _)
   | (with_reducible exact LeO.none _)
   | (with_reducible refine LeO.ite ?_ ?_)
   | (with_reducible refine LeO.bind ?_ (fun _ => ?_))
   | exact ih0 _ _ _ _ _ _ _ _ _
   | exact ih1 _ _ _ _ _ _ _ _ _ _ _ _ _ _
   | exact impl_Room_free.mono _ _ _ _
   | exact impl_Room_steps.mono _ _ _ _ _ _
   | exact LeO.none _
   | refine LeO.ite ?_ ?_
   | refine LeO.bind ?_ (fun _ => ?_)
set_option maxHeartbeats 8000000 in
set_option maxRecDepth 100000 in
theorem impl_Room_calls.calls (k : Nat) (a0_0 : Int) (a0_1 : Int) (a0_2 : LA 10) (A1 : Option Addr) (c1 : Nat) (l1 : List (S34)) (a2 : Int) (r : List Int) (w : World) (hr1 : Kd.C k34 w A1 l1.length l1) (hc1 : l1.length ≤ c1) (h : impl_Room_calls.f k a0_0 a0_1 a0_2 l1 a2 = some r) :
  Calls Try.prog 76 #[.agg (mixA (Value.int .u16) [.int .i8 a0_0, .int .i8 a0_1] a0_2), .slice A1 l1.length c1, .int .i64 a2] w fun e w' => ∃ v0_ : Value, e = .returned (v0_) ∧ Kd.R (Kd.int .u32) 86 w' w.heap.size (fun _ => True) v0_ r ∧ Below w.heap.size w w' := by
 have hu32 := Try.underlying32
 have hu34 := Try.underlying34
 have HR1 := Aside0.mk hr1
 have HC1 := Aside0.mk hc1
 clear hr1 hc1
 have HB := Aside0.mk (Below.refl w.heap.size w)
 have H : ((impl_Room_free.f k a0_0 a0_1 a0_2).bind fun t428 => (impl_Room_calls.l0 k l1 a2 (([] : List Int)) t428 (t428.length : Int) 0 a0_0 a0_1 a0_2)) = some r := h
 clear h
 obtain ⟨y425, hy425⟩ : ∃ y_ : List Int, y_ = (([] : List Int)) := ⟨_, rfl⟩
 replace H : ((impl_Room_free.f k a0_0 a0_1 a0_2).bind fun t428 => (impl_Room_calls.l0 k l1 a2 y425 t428 (t428.length : Int) 0 a0_0 a0_1 a0_2)) = some r := by first | (rw [hy425]; with_reducible exact H) | (have H2_ := (Option.bind_some _ _).symm.trans H; rw [hy425]; with_reducible exact H2_) | (have H2_ := (Option.bind_some _ _).symm.trans H; with_reducible exact H2_) | with_reducible exact H | (rw [hy425]; exact H) | exact H
 have Ny425 := Aside0.mk hy425
 clear hy425
 replace H := Option.bind_eq_some_iff.mp H
 obtain ⟨t428, A40, H⟩ := H
 replace H : (impl_Room_calls.l0 k l1 a2 y425 t428 (t428.length : Int) 0 a0_0 a0_1 a0_2) = some r := H
 have A4 := Aside0.mk A40
 clear A40
 have H' := Aside0.mk H
 clear H
 go_enter Try.func76, Try.ntmps76
 go_wp2_with (first | ((with_reducible refine gate_dst (N := 3) rfl ?_); refine box_event ?hg (N := 3) ?hd (cs := (mixA (Value.int .u16) [.int .i8 a0_0, .int .i8 a0_1] a0_2)) (t := 32) ?hr ?_; (case hd => rfl); (case hg => rfl); (case hr => first | (go_simp; done) | (go_simp; rfl)); intro gb424 hg w5 hbox hb; have n0_ := bst HB hb; have n1_ := Aside0.mk (hbox); have n2_ := gwl HB hg; have n3_ := gwl HB hg; clear HB; have HB := n0_; have BK424 := n1_; have GW424 := n2_; have GE424 := n3_; clear n0_ n1_ n2_ n3_; clear hb hbox hg) | ((with_reducible refine gate_dst (N := 16) rfl ?_); refine Kd.R_lit (Kd.int .u32) _ 86 ?hg (N := 16) ?hd (xs := ([] : List Int)) (inner := []) (ok := fun _ => True) (okp := fun _ => True) ?hr ?hp (fun _ hk => hk) trivial (Below.refl _ _) (Nat.le_refl _) (by simp) ?_; (case hd => rfl); (case hg => rfl); (case hr => first | (go_simp; done) | (go_simp; rfl)); (case hp => exact (Reps.none _ _)); intro v426 w6 ho7 hb hg_ hnew_; clear hg_ hnew_; (first | rw [← Ny425.out] at ho7 | (simp only [Int.reduceToNat] at ho7; rw [← Ny425.out] at ho7)); have n0_ := Aside0.mk (Kd.R_lower ho7 (below_size (by repeat (first | (with_reducible first | exact HB.out | apply below_alloc | apply pw_below_drewN | apply below_drew1 | refine below_set ?_ GE424.out) | exact HB.out)))); have n1_ := bkb BK424 hb; have n2_ := bst HB hb; clear BK424; clear HB; have HO427 := n0_; have BK424 := n1_; have HB := n2_; clear n0_ n1_ n2_; clear hb ho7) | ((with_reducible refine gate_dst (N := 17) rfl ?_); refine wpList_run0 (v := .agg (mixA (Value.int .u16) [.int .i8 a0_0, .int .i8 a0_1] a0_2)) rfl (load_mix_run (P := Try.prog) 32 (.tmp 3) rfl gb424 rfl (show World.rangeAt _ gb424 0 ([.int .i8 a0_0, .int .i8 a0_1] ++ a0_2.l.map (Value.int .u16)) from mix_range (show (World.heap _)[gb424]? = some (.cells (mixA (Value.int .u16) [.int .i8 a0_0, .int .i8 a0_1] a0_2) 32 (0, 0)) from by (with_reducible repeat (first | refine blk_drewN ?_ _ | refine blk_drew ?_ | refine blk_alloc ?_ _)); exact BK424.out)) Try.underlying32 rfl (by kernel_rfl) rfl) ?_) | ((with_reducible refine gate_callee (f := 77) rfl ?_); refine goesL_ (some 18) rfl rfl Try.func77 (by kernel_rfl) rfl #[.agg (mixA (Value.int .u16) [.int .i8 a0_0, .int .i8 a0_1] a0_2)] rfl (by (try simp only [List.map_toArray, List.map_cons, List.map_nil]); first | done | rfl | (simp only [List.length_drop, List.length_take]; rfl)) ?_; (with_reducible refine (impl_Room_free.calls k a0_0 a0_1 a0_2 t428 _ A4.out).mono ?_); rintro e w9 ⟨v429, rfl, ho0, hb⟩; refine ⟨_, rfl, ?_⟩; have n0_ := krb HO427 hb; have n1_ := Aside0.mk (Kd.R_lower ho0 (below_size (by repeat (first | (with_reducible first | exact HB.out | apply below_alloc | apply pw_below_drewN | apply below_drew1 | refine below_set ?_ GE424.out) | exact HB.out)))); have n2_ := bkb BK424 hb; have n3_ := bst HB hb; clear HO427; clear BK424; clear HB; have HO427 := n0_; have HO430 := n1_; have BK424 := n2_; have HB := n3_; clear n0_ n1_ n2_ n3_; (try clear hb); (try clear hb2); (try clear hk); (try clear hi); (try clear ho0); obtain ⟨Ao10, co10, eo10⟩ := Kd.R_slice HO430.out; subst eo10))
 go_loopg [7, 20] k (fun kq v7 v20 w' => ∃ (x7_1 : List Int) (x20_1 : Int), v20 = .int .i64 x20_1 ∧ Aside0 (impl_Room_calls.l0 kq l1 a2 x7_1 t428 (t428.length : Int) x20_1 a0_0 a0_1 a0_2 = some r) ∧ Aside0 (kq ≤ k) ∧ Aside0 (Kd.R (Kd.int .u32) 86 w' w.heap.size (fun _ => True) v7 x7_1) ∧ Aside0 (Kd.R k34 34 w' w.heap.size (fun _ => True) (.slice Ao10 t428.length co10) t428) ∧ Aside0 (w'.heap[gb424]? = some (.cells (mixA (Value.int .u16) [.int .i8 a0_0, .int .i8 a0_1] a0_2) 32 (0, 0))) ∧ Aside0 (Below w.heap.size w w'))
 case atStart => exact ⟨(y425), (0), (by first | rfl | (simp; done) | (simp [*]; done)), H', ⟨Nat.le_refl _⟩, ⟨by (with_reducible repeat (first | apply Kd.R_alloc | apply Kd.R_drewN | apply Kd.R_drew)); exact HO427.out⟩, ⟨by (with_reducible repeat (first | apply Kd.R_alloc | apply Kd.R_drewN | apply Kd.R_drew)); exact HO430.out⟩, ⟨pk BK424⟩, ⟨pbs HB⟩⟩
 case round =>
  clear H'
  try clear c1
  try clear p2
  try clear c7
  obtain ⟨x7_1, x20_1, rfl, HA, HK1, HO_7, HO_18, BK424, HB⟩ := hrel
  cases gk with
  | zero => exact absurd HA.out (by simp [impl_Room_calls.l0])
  | succ k1 =>
   have H := HA.out
   clear HA
   simp only [impl_Room_calls.l0] at H
   by_cases c11 : x20_1 < (t428.length : Int)
   ·rw [if_pos c11] at H
    have c11b0 : decide (x20_1 < (t428.length : Int)) = true := decide_eq_true c11
    clear c11
    by_cases c12 : 0 ≤ x20_1
    ·rw [if_pos c12] at H
     have c12b0 : decide (0 ≤ x20_1) = true := decide_eq_true c12
     clear c12
     by_cases c13 : x20_1 < (t428.length : Int)
     ·rw [if_pos c13] at H
      have c13b0 : decide (x20_1 < (t428.length : Int)) = true := decide_eq_true c13
      clear c13
      replace H := Option.bind_eq_some_iff.mp H
      obtain ⟨t433, A140, H⟩ := H
      replace H : (impl_Room_calls.l1 k1 l1 a2 x7_1 0 t428 (t428.length : Int) x20_1 l1 (l1.length : Int) 0 a0_0 a0_1 a0_2 t433) = some r := H
      have A14 := Aside0.mk A140
      clear A140
      have H' := Aside0.mk H
      clear H
      have p431 : 0 ≤ (x20_1 : Int) := of_decide_eq_true (by first | (with_reducible assumption) | assumption)
      have q431 : x20_1 < (t428.length : Int) := of_decide_eq_true (by first | (with_reducible assumption) | assumption)
      obtain ⟨ad431, e431, hx431_0, hx431_1⟩ := at_T34 (Kd.R_reads' HO_18.out).2.2 x20_1 p431 q431
      cases e431
      replace p431 := eq_true p431
      replace q431 := eq_true q431
      go_wp2_with (first | ((with_reducible refine gate_dst (N := 9) rfl ?_); refine box_event ?hg (N := 9) ?hd (cs := #[.int .i8 0, .int .i8 0]) (t := 34) ?hr ?_; (case hd => rfl); (case hg => rfl); (case hr => first | (go_simp; done) | (go_simp; rfl)); intro gb432 hg w15 hbox hb; have n0_ := krb HO_7 hb; have n1_ := Aside0.mk (Kd.R_below (Kd.R_elderB (by (with_reducible repeat (first | apply Kd.R_alloc | apply Kd.R_drewN | apply Kd.R_drew)); exact HO_18.out) gb432 (Nat.le_of_eq hg.symm)) hb); have n2_ := bkb BK424 hb; have n3_ := bst HB hb; have n4_ := Aside0.mk (hbox); have n5_ := gwl HB hg; have n6_ := gwl HB hg; have n7_ := nbl BK424 hg; have n8_ := nbg BK424 hg; clear HO_7; clear HO_18; clear BK424; clear HB; have HO_7 := n0_; have HO_18 := n1_; have BK424 := n2_; have HB := n3_; have BK432 := n4_; have GW432 := n5_; have GE432 := n6_; have NB424_432 := n7_; have NB432_424 := n8_; clear n0_ n1_ n2_ n3_ n4_ n5_ n6_ n7_ n8_; clear hb hbox hg; have hnb16 := NB432_424.out; have hnc16 := NB424_432.out; have hcz17_0 : w15.cell? ⟨gb432, 0, none⟩ = some (.int .i8 0) := (blk_cell BK432.out 0).trans rfl; have hcz17_1 : w15.cell? ⟨gb432, 1, none⟩ = some (.int .i8 0) := (blk_cell BK432.out 1).trans rfl; have hfz17_0 := blk_frozen BK432.out 0; have hfz17_1 := blk_frozen BK432.out 1) | ((with_reducible refine gate_dst (N := 24) rfl ?_); refine wpList_run0 (v := .agg (mixA (Value.int .u16) [.int .i8 a0_0, .int .i8 a0_1] a0_2)) rfl (load_mix_run (P := Try.prog) 32 (.tmp 3) rfl gb424 rfl (show World.rangeAt _ gb424 0 ([.int .i8 a0_0, .int .i8 a0_1] ++ a0_2.l.map (Value.int .u16)) from mix_range (show (World.heap _)[gb424]? = some (.cells (mixA (Value.int .u16) [.int .i8 a0_0, .int .i8 a0_1] a0_2) 32 (0, 0)) from by (with_reducible repeat (first | refine blk_drewN ?_ _ | refine blk_drew ?_ | refine blk_alloc ?_ _)); refine blk_far ?_ NB424_432.out _; (with_reducible repeat (first | refine blk_drewN ?_ _ | refine blk_drew ?_ | refine blk_alloc ?_ _)); refine blk_far ?_ NB424_432.out _; (with_reducible repeat (first | refine blk_drewN ?_ _ | refine blk_drew ?_ | refine blk_alloc ?_ _)); exact BK424.out)) Try.underlying32 rfl (by kernel_rfl) rfl) ?_) | ((with_reducible refine gate_callee (f := 110) rfl ?_); refine goesL_ (some 26) rfl rfl Try.func110 (by kernel_rfl) rfl #[.agg (mixA (Value.int .u16) [.int .i8 a0_0, .int .i8 a0_1] a0_2), .agg #[.int .i8 ((rd_T34 t428 x20_1).f0), .int .i8 ((rd_T34 t428 x20_1).f1)]] rfl (by (try simp only [List.map_toArray, List.map_cons, List.map_nil]); first | done | rfl | (simp only [List.length_drop, List.length_take]; rfl)) ?_; (with_reducible refine (impl_Room_steps.calls k1 a0_0 a0_1 a0_2 ((rd_T34 t428 x20_1).f0) ((rd_T34 t428 x20_1).f1) t433 _ A14.out).mono ?_); rintro e w19 ⟨gb434, rfl, hbox, hg, hb⟩; refine ⟨_, rfl, ?_⟩; have n0_ := Aside0.mk (Kd.R_below (by (with_reducible repeat (first | apply Kd.R_alloc | apply Kd.R_drewN | apply Kd.R_drew)); exact (Kd.R_mono (Kd.R_far (p := ⟨gb432, 1, none⟩) (Kd.R_far (p := ⟨gb432, 0, none⟩) (Kd.R_types HO_7.out BK432.out (by decide)) (fun _ hk => hk.2) (.int .i8 ((rd_T34 t428 x20_1).f0))) (fun _ hk => hk.2) (.int .i8 ((rd_T34 t428 x20_1).f1))) (fun _ h_ => h_.1))) hb); have n1_ := Aside0.mk (Kd.R_below (by (with_reducible repeat (first | apply Kd.R_alloc | apply Kd.R_drewN | apply Kd.R_drew)); exact (Kd.R_mono (Kd.R_far (p := ⟨gb432, 1, none⟩) (Kd.R_far (p := ⟨gb432, 0, none⟩) (Kd.R_mono HO_18.out (fun k_ hk => (⟨hk, hk.2⟩ : _ ∧ k_ ≠ gb432))) (fun _ hk => hk.2) (.int .i8 ((rd_T34 t428 x20_1).f0))) (fun _ hk => hk.2) (.int .i8 ((rd_T34 t428 x20_1).f1))) (fun _ h_ => h_.1))) hb); have n2_ := Aside0.mk (blk_below (g := gb424) (o := .cells (mixA (Value.int .u16) [.int .i8 a0_0, .int .i8 a0_1] a0_2) 32 (0, 0)) (by (with_reducible repeat (first | refine blk_drewN ?_ _ | refine blk_drew ?_ | refine blk_alloc ?_ _)); refine blk_far ?_ NB424_432.out _; (with_reducible repeat (first | refine blk_drewN ?_ _ | refine blk_drew ?_ | refine blk_alloc ?_ _)); refine blk_far ?_ NB424_432.out _; (with_reducible repeat (first | refine blk_drewN ?_ _ | refine blk_drew ?_ | refine blk_alloc ?_ _)); exact BK424.out) hb); have n3_ := Aside0.mk (blk_below (g := gb432) (o := .cells #[.int .i8 ((rd_T34 t428 x20_1).f0), .int .i8 ((rd_T34 t428 x20_1).f1)] 34 (0, 0)) (by (with_reducible repeat (first | refine blk_drewN ?_ _ | refine blk_drew ?_ | refine blk_alloc ?_ _)); refine blk_put (cs := #[.int .i8 ((rd_T34 t428 x20_1).f0), .int .i8 0]) ?_ 1 _ rfl; (with_reducible repeat (first | refine blk_drewN ?_ _ | refine blk_drew ?_ | refine blk_alloc ?_ _)); refine blk_put (cs := #[.int .i8 0, .int .i8 0]) ?_ 0 _ rfl; (with_reducible repeat (first | refine blk_drewN ?_ _ | refine blk_drew ?_ | refine blk_alloc ?_ _)); exact BK432.out) hb); have n4_ := bst HB hb; have n5_ := Aside0.mk (hbox); have n6_ := gwm HB hg; have n7_ := gwm HB hg; have n8_ := Aside0.mk ((Nat.ne_of_lt (Nat.lt_of_lt_of_le (blk_lt (g := gb424) (o := .cells (mixA (Value.int .u16) [.int .i8 a0_0, .int .i8 a0_1] a0_2) 32 (0, 0)) (by (with_reducible repeat (first | refine blk_drewN ?_ _ | refine blk_drew ?_ | refine blk_alloc ?_ _)); refine blk_far ?_ NB424_432.out _; (with_reducible repeat (first | refine blk_drewN ?_ _ | refine blk_drew ?_ | refine blk_alloc ?_ _)); refine blk_far ?_ NB424_432.out _; (with_reducible repeat (first | refine blk_drewN ?_ _ | refine blk_drew ?_ | refine blk_alloc ?_ _)); exact BK424.out)) hg) : gb424 ≠ gb434)); have n9_ := Aside0.mk ((Nat.ne_of_gt (Nat.lt_of_lt_of_le (blk_lt (g := gb424) (o := .cells (mixA (Value.int .u16) [.int .i8 a0_0, .int .i8 a0_1] a0_2) 32 (0, 0)) (by (with_reducible repeat (first | refine blk_drewN ?_ _ | refine blk_drew ?_ | refine blk_alloc ?_ _)); refine blk_far ?_ NB424_432.out _; (with_reducible repeat (first | refine blk_drewN ?_ _ | refine blk_drew ?_ | refine blk_alloc ?_ _)); refine blk_far ?_ NB424_432.out _; (with_reducible repeat (first | refine blk_drewN ?_ _ | refine blk_drew ?_ | refine blk_alloc ?_ _)); exact BK424.out)) hg) : gb434 ≠ gb424)); have n10_ := Aside0.mk ((Nat.ne_of_lt (Nat.lt_of_lt_of_le (blk_lt (g := gb432) (o := .cells #[.int .i8 ((rd_T34 t428 x20_1).f0), .int .i8 ((rd_T34 t428 x20_1).f1)] 34 (0, 0)) (by (with_reducible repeat (first | refine blk_drewN ?_ _ | refine blk_drew ?_ | refine blk_alloc ?_ _)); refine blk_put (cs := #[.int .i8 ((rd_T34 t428 x20_1).f0), .int .i8 0]) ?_ 1 _ rfl; (with_reducible repeat (first | refine blk_drewN ?_ _ | refine blk_drew ?_ | refine blk_alloc ?_ _)); refine blk_put (cs := #[.int .i8 0, .int .i8 0]) ?_ 0 _ rfl; (with_reducible repeat (first | refine blk_drewN ?_ _ | refine blk_drew ?_ | refine blk_alloc ?_ _)); exact BK432.out)) hg) : gb432 ≠ gb434)); have n11_ := Aside0.mk ((Nat.ne_of_gt (Nat.lt_of_lt_of_le (blk_lt (g := gb432) (o := .cells #[.int .i8 ((rd_T34 t428 x20_1).f0), .int .i8 ((rd_T34 t428 x20_1).f1)] 34 (0, 0)) (by (with_reducible repeat (first | refine blk_drewN ?_ _ | refine blk_drew ?_ | refine blk_alloc ?_ _)); refine blk_put (cs := #[.int .i8 ((rd_T34 t428 x20_1).f0), .int .i8 0]) ?_ 1 _ rfl; (with_reducible repeat (first | refine blk_drewN ?_ _ | refine blk_drew ?_ | refine blk_alloc ?_ _)); refine blk_put (cs := #[.int .i8 0, .int .i8 0]) ?_ 0 _ rfl; (with_reducible repeat (first | refine blk_drewN ?_ _ | refine blk_drew ?_ | refine blk_alloc ?_ _)); exact BK432.out)) hg) : gb434 ≠ gb432)); clear HO_7; clear HO_18; clear BK424; clear BK432; clear HB; have HO_7 := n0_; have HO_18 := n1_; have BK424 := n2_; have BK432 := n3_; have HB := n4_; have BK434 := n5_; have GW434 := n6_; have GE434 := n7_; have NB424_434 := n8_; have NB434_424 := n9_; have NB432_434 := n10_; have NB434_432 := n11_; clear n0_ n1_ n2_ n3_ n4_ n5_ n6_ n7_ n8_ n9_ n10_ n11_; (try clear hb); (try clear hbox); (try clear hg)))
      go_loopg [11, 29] k1 (fun kq v11 v29 w' => ∃ (x11_2 : Int) (x29_2 : Int), v11 = .int .u32 x11_2 ∧ v29 = .int .i64 x29_2 ∧ Aside0 (impl_Room_calls.l1 kq l1 a2 x7_1 x11_2 t428 (t428.length : Int) x20_1 l1 (l1.length : Int) x29_2 a0_0 a0_1 a0_2 t433 = some r) ∧ Aside0 (kq ≤ k1) ∧ Aside0 (Kd.R (Kd.int .u32) 86 w' w.heap.size (fun _ => True) u7 x7_1) ∧ Aside0 (Kd.R k34 34 w' w.heap.size (fun k_ => k_ ≠ gb432) (.slice (some ad431) t428.length co10) t428) ∧ Aside0 (w'.heap[gb424]? = some (.cells (mixA (Value.int .u16) [.int .i8 a0_0, .int .i8 a0_1] a0_2) 32 (0, 0))) ∧ Aside0 (w'.heap[gb432]? = some (.cells #[.int .i8 ((rd_T34 t428 x20_1).f0), .int .i8 ((rd_T34 t428 x20_1).f1)] 34 (0, 0))) ∧ Aside0 (w'.heap[gb434]? = some (obM t433)) ∧ Aside0 (Below w.heap.size w w'))
      case atStart => exact ⟨(0), (0), (by first | rfl | (simp; done) | (simp [*]; done)), (by first | rfl | (simp; done) | (simp [*]; done)), H', ⟨Nat.le_refl _⟩, ⟨by (with_reducible repeat (first | apply Kd.R_alloc | apply Kd.R_drewN | apply Kd.R_drew)); exact HO_7.out⟩, ⟨by (with_reducible repeat (first | apply Kd.R_alloc | apply Kd.R_drewN | apply Kd.R_drew)); exact Kd.R_mono HO_18.out (fun _ hk => hk.2)⟩, ⟨pk BK424⟩, ⟨pk BK432⟩, ⟨pk BK434⟩, ⟨pbs HB⟩⟩
      case round =>
       clear H'
       try clear c1
       try clear p2
       try clear p4
       try clear q4
       try clear hx4
       try clear c7
       try clear c11
       try clear c11b0
       try clear c12
       try clear c12b0
       try clear c13
       try clear c13b0
       try clear c16
       try clear hcz17_0
       try clear hcz17_1
       try clear hfz17_0
       try clear hfz17_1
       try clear hx431_0
       try clear hx431_1
       try clear p2
       try clear p431
       try clear q431
       obtain ⟨x11_2, x29_2, rfl, rfl, HA, HK2, HO_7, HO_18, BK424, BK432, BK434, HB⟩ := hrel
       cases gk with
       | zero => exact absurd HA.out (by simp [impl_Room_calls.l1])
       | succ k2 =>
        have H := HA.out
        clear HA
        simp only [impl_Room_calls.l1] at H
        by_cases c20 : x29_2 < (l1.length : Int)
        ·rw [if_pos c20] at H
         have c20b0 : decide (x29_2 < (l1.length : Int)) = true := decide_eq_true c20
         clear c20
         by_cases c21 : 0 ≤ x29_2
         ·rw [if_pos c21] at H
          have c21b0 : decide (0 ≤ x29_2) = true := decide_eq_true c21
          clear c21
          by_cases c22 : x29_2 < (l1.length : Int)
          ·rw [if_pos c22] at H
           have c22b0 : decide (x29_2 < (l1.length : Int)) = true := decide_eq_true c22
           clear c22
           by_cases c23 : mhas t433 ((rd_T34 l1 x29_2).f0) ((rd_T34 l1 x29_2).f1) = true
           ·rw [if_pos c23] at H
            have c23b0 : mhas t433 ((rd_T34 l1 x29_2).f0) ((rd_T34 l1 x29_2).f1) = true := c23
            clear c23
            by_cases c24 : (mval t433 ((rd_T34 l1 x29_2).f0) ((rd_T34 l1 x29_2).f1)) ≤ a2
            ·rw [if_pos c24] at H
             have c24b0 : decide ((mval t433 ((rd_T34 l1 x29_2).f0) ((rd_T34 l1 x29_2).f1)) ≤ a2) = true := decide_eq_true c24
             clear c24
             have c25b0 := eq_true (of_decide_eq_true (by first | (with_reducible assumption) | assumption) : 0 ≤ x29_2)
             obtain ⟨ji26, hji26⟩ : ∃ j_ : Int, (shl .u32 1 x29_2) = j_ := ⟨_, rfl⟩
             replace H : (impl_Room_calls.l1 k2 l1 a2 x7_1 (Go.bits .or .u32 x11_2 (ji26)) t428 (t428.length : Int) x20_1 l1 (l1.length : Int) (wrap64 (x29_2 + 1)) a0_0 a0_1 a0_2 t433) = some r := by first | (rw [hji26] at H; exact H) | (simp only [hji26] at H ⊢; exact H)
             have hji26_ : (IntKind.u32.wrap (1 * 2 ^ min x29_2.toNat 32)) = ji26 := hji26
             have hji26z : x29_2 ≤ 32 → (IntKind.u32.wrap (1 * 2 ^ x29_2.toNat)) = ji26 := shl_small hji26
             have hji26u : (IntKind.u32.wrap (2 ^ min x29_2.toNat 32)) = ji26 := by have h_ := hji26_; rw [Int.one_mul] at h_; exact h_
             have hji26v : x29_2 ≤ 32 → (IntKind.u32.wrap (2 ^ x29_2.toNat)) = ji26 := fun hle_ => by have h_ := hji26z hle_; rw [Int.one_mul] at h_; exact h_
             have H' := Aside0.mk H
             clear H
             have p435 : 0 ≤ (x29_2 : Int) := of_decide_eq_true (by first | (with_reducible assumption) | assumption)
             have q435 : x29_2 < (l1.length : Int) := of_decide_eq_true (by first | (with_reducible assumption) | assumption)
             obtain ⟨ad435, e435, hx435_0, hx435_1⟩ := at_T34 HR1.out x29_2 p435 q435
             cases e435
             replace hx435_0 := (HB.out.cell (World.block_lt_of_cell? w _ hx435_0)).trans hx435_0
             replace hx435_1 := (HB.out.cell (World.block_lt_of_cell? w _ hx435_1)).trans hx435_1
             replace p435 := eq_true p435
             replace q435 := eq_true q435
             go_wp2_with (first | ((with_reducible refine gate_dst (N := 13) rfl ?_); refine box_event ?hg (N := 13) ?hd (cs := #[.int .i8 0, .int .i8 0]) (t := 34) ?hr ?_; (case hd => rfl); (case hg => rfl); (case hr => first | (go_simp; done) | (go_simp; rfl)); intro gb436 hg w27 hbox hb; have n0_ := krb HO_7 hb; have n1_ := Aside0.mk (Kd.R_below (Kd.R_elderB (by (with_reducible repeat (first | apply Kd.R_alloc | apply Kd.R_drewN | apply Kd.R_drew)); exact HO_18.out) gb436 (Nat.le_of_eq hg.symm)) hb); have n2_ := bkb BK424 hb; have n3_ := bkb BK432 hb; have n4_ := bkb BK434 hb; have n5_ := bst HB hb; have n6_ := Aside0.mk (hbox); have n7_ := gwl HB hg; have n8_ := gwl HB hg; have n9_ := nbl BK424 hg; have n10_ := nbg BK424 hg; have n11_ := nbl BK432 hg; have n12_ := nbg BK432 hg; have n13_ := nbl BK434 hg; have n14_ := nbg BK434 hg; clear HO_7; clear HO_18; clear BK424; clear BK432; clear BK434; clear HB; have HO_7 := n0_; have HO_18 := n1_; have BK424 := n2_; have BK432 := n3_; have BK434 := n4_; have HB := n5_; have BK436 := n6_; have GW436 := n7_; have GE436 := n8_; have NB424_436 := n9_; have NB436_424 := n10_; have NB432_436 := n11_; have NB436_432 := n12_; have NB434_436 := n13_; have NB436_434 := n14_; clear n0_ n1_ n2_ n3_ n4_ n5_ n6_ n7_ n8_ n9_ n10_ n11_ n12_ n13_ n14_; clear hb hbox hg; have hnb28 := NB436_424.out; have hnc28 := NB424_436.out; have hnb29 := NB436_432.out; have hnc29 := NB432_436.out; have hnb30 := NB436_434.out; have hnc30 := NB434_436.out; have hcz31_0 : w27.cell? ⟨gb436, 0, none⟩ = some (.int .i8 0) := (blk_cell BK436.out 0).trans rfl; have hcz31_1 : w27.cell? ⟨gb436, 1, none⟩ = some (.int .i8 0) := (blk_cell BK436.out 1).trans rfl; have hfz31_0 := blk_frozen BK436.out 0; have hfz31_1 := blk_frozen BK436.out 1) | ((with_reducible refine gate_dst (N := 37) rfl ?_); refine wpList_run0 (v := .tuple #[.int .i64 (mval t433 ((rd_T34 l1 x29_2).f0) ((rd_T34 l1 x29_2).f1)), .bool (mhas t433 ((rd_T34 l1 x29_2).f0) ((rd_T34 l1 x29_2).f1))]) rfl (look_run1 (.tmp 35) (.tmp 36) rfl gb434 rfl ((rd_T34 l1 x29_2).f0) ((rd_T34 l1 x29_2).f1) rfl t433 (show (World.heap _)[gb434]? = some (obM t433) from (show (World.heap _)[gb434]? = some (obM t433) from by (with_reducible repeat (first | refine blk_drewN ?_ _ | refine blk_drew ?_ | refine blk_alloc ?_ _)); refine blk_farO ?_ NB434_436.out _; (with_reducible repeat (first | refine blk_drewN ?_ _ | refine blk_drew ?_ | refine blk_alloc ?_ _)); refine blk_farO ?_ NB434_436.out _; (with_reducible repeat (first | refine blk_drewN ?_ _ | refine blk_drew ?_ | refine blk_alloc ?_ _)); exact BK434.out))) ?_))
             go_roundg k2
             case measure => have := HK1.out; have := HK2.out; omega
             case rel => exact ⟨(Go.bits .or .u32 x11_2 (ji26)), (wrap64 (x29_2 + 1)), (by first | rfl | (simp; done) | (simp only [← hji26] <;> (first | rfl | simp)) | (simp [*]; done)), (by first | rfl | (simp; done) | (simp [*]; done)), H', ⟨by have := HK1.out; have := HK2.out; omega⟩, ⟨by (with_reducible repeat (first | apply Kd.R_alloc | apply Kd.R_drewN | apply Kd.R_drew)); exact Kd.R_mono (Kd.R_far (p := ⟨gb436, 1, none⟩) (Kd.R_far (p := ⟨gb436, 0, none⟩) (Kd.R_types HO_7.out BK436.out (by decide)) (fun _ hk => hk.2) (.int .i8 ((rd_T34 l1 x29_2).f0))) (fun _ hk => hk.2) (.int .i8 ((rd_T34 l1 x29_2).f1))) (fun _ hk => trivial)⟩, ⟨by (with_reducible repeat (first | apply Kd.R_alloc | apply Kd.R_drewN | apply Kd.R_drew)); exact Kd.R_mono (Kd.R_far (p := ⟨gb436, 1, none⟩) (Kd.R_far (p := ⟨gb436, 0, none⟩) (Kd.R_mono HO_18.out (fun k_ hk => (⟨hk, hk.2⟩ : _ ∧ k_ ≠ gb436))) (fun _ hk => hk.2) (.int .i8 ((rd_T34 l1 x29_2).f0))) (fun _ hk => hk.2) (.int .i8 ((rd_T34 l1 x29_2).f1))) (fun _ hk => hk.1.1)⟩, ⟨by (with_reducible repeat (first | refine blk_drewN ?_ _ | refine blk_drew ?_ | refine blk_alloc ?_ _)); refine blk_far ?_ NB424_436.out _; (with_reducible repeat (first | refine blk_drewN ?_ _ | refine blk_drew ?_ | refine blk_alloc ?_ _)); refine blk_far ?_ NB424_436.out _; (with_reducible repeat (first | refine blk_drewN ?_ _ | refine blk_drew ?_ | refine blk_alloc ?_ _)); exact BK424.out⟩, ⟨by (with_reducible repeat (first | refine blk_drewN ?_ _ | refine blk_drew ?_ | refine blk_alloc ?_ _)); refine blk_far ?_ NB432_436.out _; (with_reducible repeat (first | refine blk_drewN ?_ _ | refine blk_drew ?_ | refine blk_alloc ?_ _)); refine blk_far ?_ NB432_436.out _; (with_reducible repeat (first | refine blk_drewN ?_ _ | refine blk_drew ?_ | refine blk_alloc ?_ _)); exact BK432.out⟩, ⟨by (with_reducible repeat (first | refine blk_drewN ?_ _ | refine blk_drew ?_ | refine blk_alloc ?_ _)); refine blk_farO ?_ NB434_436.out _; (with_reducible repeat (first | refine blk_drewN ?_ _ | refine blk_drew ?_ | refine blk_alloc ?_ _)); refine blk_farO ?_ NB434_436.out _; (with_reducible repeat (first | refine blk_drewN ?_ _ | refine blk_drew ?_ | refine blk_alloc ?_ _)); exact BK434.out⟩, ⟨pbs HB⟩⟩
            ·rw [if_neg c24] at H
             have c24b0 : decide ((mval t433 ((rd_T34 l1 x29_2).f0) ((rd_T34 l1 x29_2).f1)) ≤ a2) = false := decide_eq_false c24
             clear c24
             have H' := Aside0.mk H
             clear H
             have p435 : 0 ≤ (x29_2 : Int) := of_decide_eq_true (by first | (with_reducible assumption) | assumption)
             have q435 : x29_2 < (l1.length : Int) := of_decide_eq_true (by first | (with_reducible assumption) | assumption)
             obtain ⟨ad435, e435, hx435_0, hx435_1⟩ := at_T34 HR1.out x29_2 p435 q435
             cases e435
             replace hx435_0 := (HB.out.cell (World.block_lt_of_cell? w _ hx435_0)).trans hx435_0
             replace hx435_1 := (HB.out.cell (World.block_lt_of_cell? w _ hx435_1)).trans hx435_1
             replace p435 := eq_true p435
             replace q435 := eq_true q435
             go_wp2_with (first | ((with_reducible refine gate_dst (N := 13) rfl ?_); refine box_event ?hg (N := 13) ?hd (cs := #[.int .i8 0, .int .i8 0]) (t := 34) ?hr ?_; (case hd => rfl); (case hg => rfl); (case hr => first | (go_simp; done) | (go_simp; rfl)); intro gb436 hg w33 hbox hb; have n0_ := krb HO_7 hb; have n1_ := Aside0.mk (Kd.R_below (Kd.R_elderB (by (with_reducible repeat (first | apply Kd.R_alloc | apply Kd.R_drewN | apply Kd.R_drew)); exact HO_18.out) gb436 (Nat.le_of_eq hg.symm)) hb); have n2_ := bkb BK424 hb; have n3_ := bkb BK432 hb; have n4_ := bkb BK434 hb; have n5_ := bst HB hb; have n6_ := Aside0.mk (hbox); have n7_ := gwl HB hg; have n8_ := gwl HB hg; have n9_ := nbl BK424 hg; have n10_ := nbg BK424 hg; have n11_ := nbl BK432 hg; have n12_ := nbg BK432 hg; have n13_ := nbl BK434 hg; have n14_ := nbg BK434 hg; clear HO_7; clear HO_18; clear BK424; clear BK432; clear BK434; clear HB; have HO_7 := n0_; have HO_18 := n1_; have BK424 := n2_; have BK432 := n3_; have BK434 := n4_; have HB := n5_; have BK436 := n6_; have GW436 := n7_; have GE436 := n8_; have NB424_436 := n9_; have NB436_424 := n10_; have NB432_436 := n11_; have NB436_432 := n12_; have NB434_436 := n13_; have NB436_434 := n14_; clear n0_ n1_ n2_ n3_ n4_ n5_ n6_ n7_ n8_ n9_ n10_ n11_ n12_ n13_ n14_; clear hb hbox hg; have hnb34 := NB436_424.out; have hnc34 := NB424_436.out; have hnb35 := NB436_432.out; have hnc35 := NB432_436.out; have hnb36 := NB436_434.out; have hnc36 := NB434_436.out; have hcz37_0 : w33.cell? ⟨gb436, 0, none⟩ = some (.int .i8 0) := (blk_cell BK436.out 0).trans rfl; have hcz37_1 : w33.cell? ⟨gb436, 1, none⟩ = some (.int .i8 0) := (blk_cell BK436.out 1).trans rfl; have hfz37_0 := blk_frozen BK436.out 0; have hfz37_1 := blk_frozen BK436.out 1) | ((with_reducible refine gate_dst (N := 37) rfl ?_); refine wpList_run0 (v := .tuple #[.int .i64 (mval t433 ((rd_T34 l1 x29_2).f0) ((rd_T34 l1 x29_2).f1)), .bool (mhas t433 ((rd_T34 l1 x29_2).f0) ((rd_T34 l1 x29_2).f1))]) rfl (look_run1 (.tmp 35) (.tmp 36) rfl gb434 rfl ((rd_T34 l1 x29_2).f0) ((rd_T34 l1 x29_2).f1) rfl t433 (show (World.heap _)[gb434]? = some (obM t433) from (show (World.heap _)[gb434]? = some (obM t433) from by (with_reducible repeat (first | refine blk_drewN ?_ _ | refine blk_drew ?_ | refine blk_alloc ?_ _)); refine blk_farO ?_ NB434_436.out _; (with_reducible repeat (first | refine blk_drewN ?_ _ | refine blk_drew ?_ | refine blk_alloc ?_ _)); refine blk_farO ?_ NB434_436.out _; (with_reducible repeat (first | refine blk_drewN ?_ _ | refine blk_drew ?_ | refine blk_alloc ?_ _)); exact BK434.out))) ?_))
             go_roundg k2
             case measure => have := HK1.out; have := HK2.out; omega
             case rel => exact ⟨(x11_2), (wrap64 (x29_2 + 1)), (by first | rfl | (simp; done) | (simp [*]; done)), (by first | rfl | (simp; done) | (simp [*]; done)), H', ⟨by have := HK1.out; have := HK2.out; omega⟩, ⟨by (with_reducible repeat (first | apply Kd.R_alloc | apply Kd.R_drewN | apply Kd.R_drew)); exact Kd.R_mono (Kd.R_far (p := ⟨gb436, 1, none⟩) (Kd.R_far (p := ⟨gb436, 0, none⟩) (Kd.R_types HO_7.out BK436.out (by decide)) (fun _ hk => hk.2) (.int .i8 ((rd_T34 l1 x29_2).f0))) (fun _ hk => hk.2) (.int .i8 ((rd_T34 l1 x29_2).f1))) (fun _ hk => trivial)⟩, ⟨by (with_reducible repeat (first | apply Kd.R_alloc | apply Kd.R_drewN | apply Kd.R_drew)); exact Kd.R_mono (Kd.R_far (p := ⟨gb436, 1, none⟩) (Kd.R_far (p := ⟨gb436, 0, none⟩) (Kd.R_mono HO_18.out (fun k_ hk => (⟨hk, hk.2⟩ : _ ∧ k_ ≠ gb436))) (fun _ hk => hk.2) (.int .i8 ((rd_T34 l1 x29_2).f0))) (fun _ hk => hk.2) (.int .i8 ((rd_T34 l1 x29_2).f1))) (fun _ hk => hk.1.1)⟩, ⟨by (with_reducible repeat (first | refine blk_drewN ?_ _ | refine blk_drew ?_ | refine blk_alloc ?_ _)); refine blk_far ?_ NB424_436.out _; (with_reducible repeat (first | refine blk_drewN ?_ _ | refine blk_drew ?_ | refine blk_alloc ?_ _)); refine blk_far ?_ NB424_436.out _; (with_reducible repeat (first | refine blk_drewN ?_ _ | refine blk_drew ?_ | refine blk_alloc ?_ _)); exact BK424.out⟩, ⟨by (with_reducible repeat (first | refine blk_drewN ?_ _ | refine blk_drew ?_ | refine blk_alloc ?_ _)); refine blk_far ?_ NB432_436.out _; (with_reducible repeat (first | refine blk_drewN ?_ _ | refine blk_drew ?_ | refine blk_alloc ?_ _)); refine blk_far ?_ NB432_436.out _; (with_reducible repeat (first | refine blk_drewN ?_ _ | refine blk_drew ?_ | refine blk_alloc ?_ _)); exact BK432.out⟩, ⟨by (with_reducible repeat (first | refine blk_drewN ?_ _ | refine blk_drew ?_ | refine blk_alloc ?_ _)); refine blk_farO ?_ NB434_436.out _; (with_reducible repeat (first | refine blk_drewN ?_ _ | refine blk_drew ?_ | refine blk_alloc ?_ _)); refine blk_farO ?_ NB434_436.out _; (with_reducible repeat (first | refine blk_drewN ?_ _ | refine blk_drew ?_ | refine blk_alloc ?_ _)); exact BK434.out⟩, ⟨pbs HB⟩⟩
           ·rw [if_neg c23] at H
            have c23b0 : mhas t433 ((rd_T34 l1 x29_2).f0) ((rd_T34 l1 x29_2).f1) = false := by simpa using c23
            clear c23
            have H' := Aside0.mk H
            clear H
            have p435 : 0 ≤ (x29_2 : Int) := of_decide_eq_true (by first | (with_reducible assumption) | assumption)
            have q435 : x29_2 < (l1.length : Int) := of_decide_eq_true (by first | (with_reducible assumption) | assumption)
            obtain ⟨ad435, e435, hx435_0, hx435_1⟩ := at_T34 HR1.out x29_2 p435 q435
            cases e435
            replace hx435_0 := (HB.out.cell (World.block_lt_of_cell? w _ hx435_0)).trans hx435_0
            replace hx435_1 := (HB.out.cell (World.block_lt_of_cell? w _ hx435_1)).trans hx435_1
            replace p435 := eq_true p435
            replace q435 := eq_true q435
            go_wp2_with (first | ((with_reducible refine gate_dst (N := 13) rfl ?_); refine box_event ?hg (N := 13) ?hd (cs := #[.int .i8 0, .int .i8 0]) (t := 34) ?hr ?_; (case hd => rfl); (case hg => rfl); (case hr => first | (go_simp; done) | (go_simp; rfl)); intro gb436 hg w39 hbox hb; have n0_ := krb HO_7 hb; have n1_ := Aside0.mk (Kd.R_below (Kd.R_elderB (by (with_reducible repeat (first | apply Kd.R_alloc | apply Kd.R_drewN | apply Kd.R_drew)); exact HO_18.out) gb436 (Nat.le_of_eq hg.symm)) hb); have n2_ := bkb BK424 hb; have n3_ := bkb BK432 hb; have n4_ := bkb BK434 hb; have n5_ := bst HB hb; have n6_ := Aside0.mk (hbox); have n7_ := gwl HB hg; have n8_ := gwl HB hg; have n9_ := nbl BK424 hg; have n10_ := nbg BK424 hg; have n11_ := nbl BK432 hg; have n12_ := nbg BK432 hg; have n13_ := nbl BK434 hg; have n14_ := nbg BK434 hg; clear HO_7; clear HO_18; clear BK424; clear BK432; clear BK434; clear HB; have HO_7 := n0_; have HO_18 := n1_; have BK424 := n2_; have BK432 := n3_; have BK434 := n4_; have HB := n5_; have BK436 := n6_; have GW436 := n7_; have GE436 := n8_; have NB424_436 := n9_; have NB436_424 := n10_; have NB432_436 := n11_; have NB436_432 := n12_; have NB434_436 := n13_; have NB436_434 := n14_; clear n0_ n1_ n2_ n3_ n4_ n5_ n6_ n7_ n8_ n9_ n10_ n11_ n12_ n13_ n14_; clear hb hbox hg; have hnb40 := NB436_424.out; have hnc40 := NB424_436.out; have hnb41 := NB436_432.out; have hnc41 := NB432_436.out; have hnb42 := NB436_434.out; have hnc42 := NB434_436.out; have hcz43_0 : w39.cell? ⟨gb436, 0, none⟩ = some (.int .i8 0) := (blk_cell BK436.out 0).trans rfl; have hcz43_1 : w39.cell? ⟨gb436, 1, none⟩ = some (.int .i8 0) := (blk_cell BK436.out 1).trans rfl; have hfz43_0 := blk_frozen BK436.out 0; have hfz43_1 := blk_frozen BK436.out 1) | ((with_reducible refine gate_dst (N := 37) rfl ?_); refine wpList_run0 (v := .tuple #[.int .i64 (mval t433 ((rd_T34 l1 x29_2).f0) ((rd_T34 l1 x29_2).f1)), .bool (mhas t433 ((rd_T34 l1 x29_2).f0) ((rd_T34 l1 x29_2).f1))]) rfl (look_run1 (.tmp 35) (.tmp 36) rfl gb434 rfl ((rd_T34 l1 x29_2).f0) ((rd_T34 l1 x29_2).f1) rfl t433 (show (World.heap _)[gb434]? = some (obM t433) from (show (World.heap _)[gb434]? = some (obM t433) from by (with_reducible repeat (first | refine blk_drewN ?_ _ | refine blk_drew ?_ | refine blk_alloc ?_ _)); refine blk_farO ?_ NB434_436.out _; (with_reducible repeat (first | refine blk_drewN ?_ _ | refine blk_drew ?_ | refine blk_alloc ?_ _)); refine blk_farO ?_ NB434_436.out _; (with_reducible repeat (first | refine blk_drewN ?_ _ | refine blk_drew ?_ | refine blk_alloc ?_ _)); exact BK434.out))) ?_))
            go_roundg k2
            case measure => have := HK1.out; have := HK2.out; omega
            case rel => exact ⟨(x11_2), (wrap64 (x29_2 + 1)), (by first | rfl | (simp; done) | (simp [*]; done)), (by first | rfl | (simp; done) | (simp [*]; done)), H', ⟨by have := HK1.out; have := HK2.out; omega⟩, ⟨by (with_reducible repeat (first | apply Kd.R_alloc | apply Kd.R_drewN | apply Kd.R_drew)); exact Kd.R_mono (Kd.R_far (p := ⟨gb436, 1, none⟩) (Kd.R_far (p := ⟨gb436, 0, none⟩) (Kd.R_types HO_7.out BK436.out (by decide)) (fun _ hk => hk.2) (.int .i8 ((rd_T34 l1 x29_2).f0))) (fun _ hk => hk.2) (.int .i8 ((rd_T34 l1 x29_2).f1))) (fun _ hk => trivial)⟩, ⟨by (with_reducible repeat (first | apply Kd.R_alloc | apply Kd.R_drewN | apply Kd.R_drew)); exact Kd.R_mono (Kd.R_far (p := ⟨gb436, 1, none⟩) (Kd.R_far (p := ⟨gb436, 0, none⟩) (Kd.R_mono HO_18.out (fun k_ hk => (⟨hk, hk.2⟩ : _ ∧ k_ ≠ gb436))) (fun _ hk => hk.2) (.int .i8 ((rd_T34 l1 x29_2).f0))) (fun _ hk => hk.2) (.int .i8 ((rd_T34 l1 x29_2).f1))) (fun _ hk => hk.1.1)⟩, ⟨by (with_reducible repeat (first | refine blk_drewN ?_ _ | refine blk_drew ?_ | refine blk_alloc ?_ _)); refine blk_far ?_ NB424_436.out _; (with_reducible repeat (first | refine blk_drewN ?_ _ | refine blk_drew ?_ | refine blk_alloc ?_ _)); refine blk_far ?_ NB424_436.out _; (with_reducible repeat (first | refine blk_drewN ?_ _ | refine blk_drew ?_ | refine blk_alloc ?_ _)); exact BK424.out⟩, ⟨by (with_reducible repeat (first | refine blk_drewN ?_ _ | refine blk_drew ?_ | refine blk_alloc ?_ _)); refine blk_far ?_ NB432_436.out _; (with_reducible repeat (first | refine blk_drewN ?_ _ | refine blk_drew ?_ | refine blk_alloc ?_ _)); refine blk_far ?_ NB432_436.out _; (with_reducible repeat (first | refine blk_drewN ?_ _ | refine blk_drew ?_ | refine blk_alloc ?_ _)); exact BK432.out⟩, ⟨by (with_reducible repeat (first | refine blk_drewN ?_ _ | refine blk_drew ?_ | refine blk_alloc ?_ _)); refine blk_farO ?_ NB434_436.out _; (with_reducible repeat (first | refine blk_drewN ?_ _ | refine blk_drew ?_ | refine blk_alloc ?_ _)); refine blk_farO ?_ NB434_436.out _; (with_reducible repeat (first | refine blk_drewN ?_ _ | refine blk_drew ?_ | refine blk_alloc ?_ _)); exact BK434.out⟩, ⟨pbs HB⟩⟩
          ·rw [if_neg c22] at H
           exact absurd H (by simp)
         ·rw [if_neg c21] at H
          exact absurd H (by simp)
        ·rw [if_neg c20] at H
         have c20b0 : decide (x29_2 < (l1.length : Int)) = false := decide_eq_false c20
         clear c20
         by_cases c45 : x7_1.length < 35184372088832
         ·rw [if_pos c45] at H
          have LMc45 := Aside0.mk c45
          clear c45
          obtain ⟨y437, hy437⟩ : ∃ y_ : List Int, y_ = (x7_1 ++ [x11_2]) := ⟨_, rfl⟩
          replace H : (impl_Room_calls.l0 k2 l1 a2 y437 t428 (t428.length : Int) (wrap64 (x20_1 + 1)) a0_0 a0_1 a0_2) = some r := by first | (rw [hy437]; with_reducible exact H) | (have H2_ := (Option.bind_some _ _).symm.trans H; rw [hy437]; with_reducible exact H2_) | (have H2_ := (Option.bind_some _ _).symm.trans H; with_reducible exact H2_) | with_reducible exact H | (rw [hy437]; exact H) | exact H
          have Ny437 := Aside0.mk hy437
          clear hy437
          have H' := Aside0.mk H
          clear H
          go_wp2_with (first | ((with_reducible refine gate_builtin (b := .append) (xs := #[.tmp 51, .tmp 53]) rfl ?_); at_builtin; refine Kd.R_append (Kd.int .u32) (w0 := w) w.heap.size rfl (.tmp 51) (.tmp 53) 84 86 (.int .u32 0) 4 rfl Try.underlying84 info86 rfl (by decide) (by omega) u7 x7_1 x11_2 [.int .u32 x11_2] (fun _ => True) (fun _ => False) rfl rfl ?aP (fun _ hk => hk.elim) ?aF ?aO ?aB ?aS ?aL ?_; (case aP => exact rfl); (case aB => exact (pbs HB)); (case aF => exact (fun _ _ => trivial)); (case aO => exact (by (with_reducible repeat (first | apply Kd.R_alloc | apply Kd.R_drewN | apply Kd.R_drew)); exact HO_7.out)); (case aS => exact (below_size (by repeat (first | (with_reducible first | exact HB.out | apply below_alloc | apply pw_below_drewN | apply below_drew1 | refine below_set ?_ GE424.out | refine below_set ?_ GE432.out | refine below_set ?_ GE434.out) | exact HB.out)))); (case aL => have := LMc45.out; omega); intro v438 w46 ho hb hg hat; rw [← Ny437.out] at ho; have n0_ := Aside0.mk (Kd.R_over' (by (with_reducible repeat (first | apply Kd.R_alloc | apply Kd.R_drewN | apply Kd.R_drew)); exact HO_18.out) (Kd.R_typed (by (with_reducible repeat (first | apply Kd.R_alloc | apply Kd.R_drewN | apply Kd.R_drew)); exact HO_7.out)) (by decide) hg); have n1_ := Aside0.mk (blk_grown (g := gb424) (o := .cells (mixA (Value.int .u16) [.int .i8 a0_0, .int .i8 a0_1] a0_2) 32 (0, 0)) (pk BK424) hg (Kd.R_ne HO_7.out BK424.out (by decide))); have n2_ := Aside0.mk (blk_grown (g := gb432) (o := .cells #[.int .i8 ((rd_T34 t428 x20_1).f0), .int .i8 ((rd_T34 t428 x20_1).f1)] 34 (0, 0)) (pk BK432) hg (Kd.R_ne HO_7.out BK432.out (by decide))); have n3_ := Aside0.mk (blk_grown (g := gb434) (o := obM t433) (pk BK434) hg (Kd.R_neM HO_7.out BK434.out)); have n4_ := Aside0.mk (hb); have n5_ := Aside0.mk (ho); clear HO_18; clear BK424; clear BK432; clear BK434; clear HB; clear HO_7; have HO_18 := n0_; have BK424 := n1_; have BK432 := n2_; have BK434 := n3_; have HB := n4_; have HO439 := n5_; clear n0_ n1_ n2_ n3_ n4_ n5_; clear ho hb hg hat))
          go_roundg k2
          case measure => have := HK1.out; have := HK2.out; omega
          case rel => exact ⟨(y437), (wrap64 (x20_1 + 1)), (by first | rfl | (simp; done) | (simp [*]; done)), H', ⟨by have := HK1.out; have := HK2.out; omega⟩, ⟨by (with_reducible repeat (first | apply Kd.R_alloc | apply Kd.R_drewN | apply Kd.R_drew)); exact HO439.out⟩, ⟨by (with_reducible repeat (first | apply Kd.R_alloc | apply Kd.R_drewN | apply Kd.R_drew)); exact Kd.R_mono HO_18.out (fun _ hk => trivial)⟩, ⟨pk BK424⟩, ⟨pbs HB⟩⟩
         ·rw [if_neg c45] at H
          exact absurd H (by simp)
     ·rw [if_neg c13] at H
      exact absurd H (by simp)
    ·rw [if_neg c12] at H
     exact absurd H (by simp)
   ·rw [if_neg c11] at H
    have c11b0 : decide (x20_1 < (t428.length : Int)) = false := decide_eq_false c11
    clear c11
    obtain rfl := Option.some.inj H
    go_wp2
    go_ret
    exact ⟨_, by first | rfl | (simp [errW_none, errW_some] <;> rfl) | (simp [*, errW_none, errW_some] <;> rfl), by (with_reducible repeat (first | apply Kd.R_alloc | apply Kd.R_drewN | apply Kd.R_drew)); exact HO_7.out, pbs HB⟩
end Go.Proofs.Ytoiiabnnddlcbaa.PB
end
section
namespace Go.Proofs.Ytoiiabnnddlcbaa.PB
open Go.RowKit Go.Proofs.YtoiiabnnddlcbaaW.PrintWords Go.Proofs.YtoiiabnnddlcbaaW.PrintLast Go.Proofs.YtoiiabnnddlcbaaW.PrintMore Go.Proofs.Ytoiiabnnddlcbaa.La Go.Proofs.Ytoiiabnnddlcbaa.Mp
attribute [local go_sem] max2_int min2_int max_two min_two max_three min_three max_four min_four   -- for this text's walks alone
set_option linter.unusedVariables false
set_option linter.unusedSimpArgs false
mutual
def impl_GreedyCalls.l0 : Nat → List Int → List (S34) → List (S34) → Int → Option ((List (S34)) × Int)
 | 0, _, _, _, _ => none
 | k + 1, x9, x10, x11, x12 => if x12 = 0 then (some (x11, 0)) else (impl_GreedyCalls.l1 k x9 x10 x11 x12 0 (x9.length : Int) 0)
def impl_GreedyCalls.l1 : Nat → List Int → List (S34) → List (S34) → Int → Int → Int → Int → Option ((List (S34)) × Int)
 | 0, _, _, _, _, _, _, _ => none
 | k + 1, x9, x10, x11, x12, x13, x36, x37 => if x37 < x36 then (if 0 ≤ x37 then (if x37 < (x9.length : Int) then ((bits_OnesCount32.f (Go.bits .and .u32 (rd x9 x37) x12)).bind fun t553 => (if 0 ≤ x13 then (if x13 < (x9.length : Int) then ((bits_OnesCount32.f (Go.bits .and .u32 (rd x9 x13) x12)).bind fun t555 => (if t553 > t555 then (impl_GreedyCalls.l1 k x9 x10 x11 x12 x37 x36 (wrap64 (x37 + 1))) else (impl_GreedyCalls.l1 k x9 x10 x11 x12 x13 x36 (wrap64 (x37 + 1))))) else (none)) else (none))) else (none)) else (none)) else (if 0 ≤ x13 then (if x13 < (x10.length : Int) then (if x11.length < 70368744177664 then (if x13 < (x9.length : Int) then (impl_GreedyCalls.l0 k x9 x10 (x11 ++ [(⟨(rd_T34 x10 x13).f0, (rd_T34 x10 x13).f1⟩ : S34)]) (Go.bits .andNot .u32 x12 (rd x9 x13))) else (none)) else (none)) else (none)) else (none))
end
def impl_GreedyCalls.f (k : Nat) (a0_0 : Int) (a0_1 : Int) (a0_2 : LA 10) (l1 : List (S34)) (a2 : Int) : Option ((List (S34)) × Int) := (impl_callCode.f k a0_0 a0_1 a0_2 l1 a2).bind fun t537 => (if t537 = 0 then ((impl_Room_calls.f k a0_0 a0_1 a0_2 l1 a2).bind fun t538 => ((impl_Room_free.f k a0_0 a0_1 a0_2).bind fun t541 => (impl_GreedyCalls.l0 k t538 t541 (([] : List (S34))) (((shl .u32 1 (l1.length : Int)) - 1) % 4294967296)))) else (some (([] : List (S34)), t537)))
theorem impl_GreedyCalls.mono_l : ∀ k, (∀ y0 y1 y2 y3, LeO (impl_GreedyCalls.l0 k y0 y1 y2 y3) (impl_GreedyCalls.l0 (k + 1) y0 y1 y2 y3)) ∧ (∀ y0 y1 y2 y3 y4 y5 y6, LeO (impl_GreedyCalls.l1 k y0 y1 y2 y3 y4 y5 y6) (impl_GreedyCalls.l1 (k + 1) y0 y1 y2 y3 y4 y5 y6))
 | 0 => ⟨fun _ _ _ _ r h => by simp [impl_GreedyCalls.l0] at h, fun _ _ _ _ _ _ _ r h => by simp [impl_GreedyCalls.l1] at h⟩
 | k + 1 => by
  obtain ⟨ih0, ih1⟩ := impl_GreedyCalls.mono_l k
  refine ⟨?_, ?_⟩
  ·intro y0 y1 y2 y3
   unfold impl_GreedyCalls.l0
   repeat' first
   | (with_reducible exact ih0 _ _ _ _)
   | (with_reducible exact ih1 _ _ _ _ _ _ _)
   | (with_reducible exact impl_Room_calls.mono _ _ _ _ _ _)
   | (with_reducible exact impl_Room_free.mono _ _ _ _)
   | (with_reducible exact impl_callCode.mono _ _ _ _ _ _)
   | (with_reducible exact LeO.refl _)
   | (with_reducible exact LeO.none _)
   | (with_reducible refine LeO.ite ?_ ?_)
   | (with_reducible refine LeO.bind ?_ (fun _ => ?_))
   | exact ih0 _ _ _ _
   | exact ih1 _ _ _ _ _ _ _
   | exact impl_Room_calls.mono _ _ _ _ _ _
   | exact impl_Room_free.mono _ _ _ _
   | exact impl_callCode.mono _ _ _ _ _ _
   | exact LeO.none _
   | refine LeO.ite ?_ ?_
   | refine LeO.bind ?_ (fun _ => ?_)
  ·intro y0 y1 y2 y3 y4 y5 y6
   unfold impl_GreedyCalls.l1
   repeat' first
   | (with_reducible exact ih0 _ _ _ _)
   | (with_reducible exact ih1 _ _ _ _ _ _ _)
   | (with_reducible exact impl_Room_calls.mono _ _ _ _ _ _)
   | (with_reducible exact impl_Room_free.mono _ _ _ _)
   | (with_reducible exact impl_callCode.mono _ _ _ _ _ _)
   | (with_reducible exact LeO.refl _)
   | (with_reducible exact LeO.none _)
   | (with_reducible refine LeO.ite ?_ ?_)
   | (with_reducible refine LeO.bind ?_ (fun _ => ?_))
   | exact ih0 _ _ _ _
   | exact ih1 _ _ _ _ _ _ _
   | exact impl_Room_calls.mono _ _ _ _ _ _
   | exact impl_Room_free.mono _ _ _ _
   | exact impl_callCode.mono _ _ _ _ _ _
   | exact LeO.none _
   | refine LeO.ite ?_ ?_
   | refine LeO.bind ?_ (fun _ => ?_)
theorem impl_GreedyCalls.mono : ∀ a0 a1 a2 a3 a4 k, LeO (impl_GreedyCalls.f k a0 a1 a2 a3 a4) (impl_GreedyCalls.f (k + 1) a0 a1 a2 a3 a4) := by
 intro a0 a1 a2 a3 a4 k
 obtain ⟨ih0, ih1⟩ := impl_GreedyCalls.mono_l k
 unfold impl_GreedyCalls.f
 repeat' first
   | (with_reducible exact ih0 _ _ _ _)
   | (with_reducible exact ih1 _ _ _ _ _ _ _)
   | (with_reducible exact impl_Room_calls.mono _ _ _ _ _ _)
   | (with_reducible exact impl_Room_free.mono _ _ _ _)
   | (with_reducible exact impl_callCode.mono _ _ _ _ _ _)
   | (with_reducible exact LeO.refl _)
   | (with_reducible exact LeO.none _)
   | (with_reducible refine LeO.ite ?_ ?_)
   | (with_reducible refine LeO.bind ?_ (fun _ => ?_))
   | exact ih0 _ _ _ _
   | exact ih1 _ _ _ _ _ _ _
   | exact impl_Room_calls.mono _ _ _ _ _ _
   | exact impl_Room_free.mono _ _ _ _
   | exact impl_callCode.mono _ _ _ _ _ _
   | exact LeO.none _
   | refine LeO.ite ?_ ?_
   | refine LeO.bind ?_ (fun _ => ?_)
def impl_GreedyCalls.T4 : Bool × List (List Nat × List Nat) := (true, [([], []), ([], []), ([], []), ([0, 1, 2], [0, 1, 2]), ([], []), ([4, 3], [4]), ([], []), ([3, 5, 0, 1, 2, 3], [3]), ([5, 7, 0, 1, 2, 3, 4, 5, 7], [5]), ([6, 8, 0, 1, 2, 3, 4, 5, 6, 7, 8], [6])])
def impl_GreedyCalls.B4 : List Nat := [0, 0, 0, 7, 0, 31, 0, 63, 191, 511]
theorem impl_GreedyCalls.tab4 : rtab .any (opsOf Try.f30 4) = impl_GreedyCalls.T4 := by kernel_rfl
theorem impl_GreedyCalls.bits4 : waitsOk impl_GreedyCalls.T4.2 impl_GreedyCalls.B4 = true := by kernel_rfl
def impl_GreedyCalls.T11 : Bool × List (List Nat × List Nat) := (true, [([], []), ([], []), ([0, 1], [0, 1]), ([2], [2]), ([], []), ([3, 4], [3, 4]), ([5], [5]), ([], []), ([], []), ([7, 8], [7, 8]), ([9], [9]), ([], []), ([10, 11], [10, 11]), ([12, 6], [12]), ([6, 13], [6, 13])])
def impl_GreedyCalls.B11 : List Nat := [0, 0, 3, 7, 0, 31, 63, 0, 0, 384, 896, 0, 3968, 8191, 16383]
theorem impl_GreedyCalls.tab11 : rtab .any (opsOf Try.f30 11) = impl_GreedyCalls.T11 := by kernel_rfl
theorem impl_GreedyCalls.bits11 : waitsOk impl_GreedyCalls.T11.2 impl_GreedyCalls.B11 = true := by kernel_rfl
def impl_GreedyCalls.T14 : Bool × List (List Nat × List Nat) := (true, [([], []), ([], []), ([], []), ([1, 2], [1, 2]), ([3], [3]), ([4], [4]), ([0, 5], [0, 5]), ([], []), ([], []), ([], []), ([8, 9], [8, 9]), ([10], [10]), ([7, 11], [7, 11]), ([6, 6, 0, 1, 2, 3, 4, 5, 6], [0, 6]), ([12, 13, 0, 1, 2, 3, 4, 5, 6, 7, 8, 9, 10, 11, 12, 13], [7, 12])])
def impl_GreedyCalls.B14 : List Nat := [0, 0, 0, 6, 14, 30, 63, 0, 0, 0, 768, 1792, 3968, 127, 16383]
theorem impl_GreedyCalls.tab14 : rtab .any (opsOf Try.f30 14) = impl_GreedyCalls.T14 := by kernel_rfl
theorem impl_GreedyCalls.bits14 : waitsOk impl_GreedyCalls.T14.2 impl_GreedyCalls.B14 = true := by kernel_rfl
set_option maxHeartbeats 8000000 in
set_option maxRecDepth 100000 in
theorem impl_GreedyCalls.calls (k : Nat) (a0_0 : Int) (a0_1 : Int) (a0_2 : LA 10) (A1 : Option Addr) (c1 : Nat) (l1 : List (S34)) (a2 : Int) (r1 : List (S34)) (r2 : Int) (w : World) (hr1 : Kd.C k34 w A1 l1.length l1) (hc1 : l1.length ≤ c1) (h : impl_GreedyCalls.f k a0_0 a0_1 a0_2 l1 a2 = some (r1, r2)) :
  Calls Try.prog 30 #[.agg (mixA (Value.int .u16) [.int .i8 a0_0, .int .i8 a0_1] a0_2), .slice A1 l1.length c1, .int .i64 a2] w fun e w' => ∃ v0_ : Value, e = .returned (.tuple #[v0_, .int .i64 r2]) ∧ Kd.R k34 34 w' w.heap.size (fun _ => True) v0_ r1 ∧ Below w.heap.size w w' := by
 have hu32 := Try.underlying32
 have hu34 := Try.underlying34
 have HR1 := Aside0.mk hr1
 have HC1 := Aside0.mk hc1
 clear hr1 hc1
 have HB := Aside0.mk (Below.refl w.heap.size w)
 have H : ((impl_callCode.f k a0_0 a0_1 a0_2 l1 a2).bind fun t537 => (if t537 = 0 then ((impl_Room_calls.f k a0_0 a0_1 a0_2 l1 a2).bind fun t538 => ((impl_Room_free.f k a0_0 a0_1 a0_2).bind fun t541 => (impl_GreedyCalls.l0 k t538 t541 (([] : List (S34))) (((shl .u32 1 (l1.length : Int)) - 1) % 4294967296)))) else (some (([] : List (S34)), t537)))) = some (r1, r2) := h
 clear h
 replace H := Option.bind_eq_some_iff.mp H
 obtain ⟨t537, A40, H⟩ := H
 replace H : (if t537 = 0 then ((impl_Room_calls.f k a0_0 a0_1 a0_2 l1 a2).bind fun t538 => ((impl_Room_free.f k a0_0 a0_1 a0_2).bind fun t541 => (impl_GreedyCalls.l0 k t538 t541 (([] : List (S34))) (((shl .u32 1 (l1.length : Int)) - 1) % 4294967296)))) else (some (([] : List (S34)), t537))) = some (r1, r2) := H
 have A4 := Aside0.mk A40
 clear A40
 by_cases c5 : t537 = 0
 ·rw [if_pos c5] at H
  have c5b0 : (t537 == 0) = true := beq_iff_eq.mpr c5
  have c5b1 : (t537 != 0) = false := bne_eq_false_iff_eq.mpr c5
  clear c5
  replace H := Option.bind_eq_some_iff.mp H
  obtain ⟨t538, A60, H⟩ := H
  replace H : ((impl_Room_free.f k a0_0 a0_1 a0_2).bind fun t541 => (impl_GreedyCalls.l0 k t538 t541 (([] : List (S34))) (((shl .u32 1 (l1.length : Int)) - 1) % 4294967296))) = some (r1, r2) := H
  have A6 := Aside0.mk A60
  clear A60
  replace H := Option.bind_eq_some_iff.mp H
  obtain ⟨t541, A70, H⟩ := H
  replace H : (impl_GreedyCalls.l0 k t538 t541 (([] : List (S34))) (((shl .u32 1 (l1.length : Int)) - 1) % 4294967296)) = some (r1, r2) := H
  have A7 := Aside0.mk A70
  clear A70
  obtain ⟨y544, hy544⟩ : ∃ y_ : List (S34), y_ = (([] : List (S34))) := ⟨_, rfl⟩
  replace H : (impl_GreedyCalls.l0 k t538 t541 y544 (((shl .u32 1 (l1.length : Int)) - 1) % 4294967296)) = some (r1, r2) := by first | (rw [hy544]; with_reducible exact H) | (have H2_ := (Option.bind_some _ _).symm.trans H; rw [hy544]; with_reducible exact H2_) | (have H2_ := (Option.bind_some _ _).symm.trans H; with_reducible exact H2_) | with_reducible exact H | (rw [hy544]; exact H) | exact H
  have Ny544 := Aside0.mk hy544
  clear hy544
  obtain ⟨ji8, hji8⟩ : ∃ j_ : Int, (shl .u32 1 (l1.length : Int)) = j_ := ⟨_, rfl⟩
  replace H : (impl_GreedyCalls.l0 k t538 t541 y544 (((ji8) - 1) % 4294967296)) = some (r1, r2) := by first | (rw [hji8] at H; exact H) | (simp only [hji8] at H ⊢; exact H)
  (try rw [hji8] at A4)
  (try rw [hji8] at A6)
  (try rw [hji8] at A7)
  have hji8_ : (IntKind.u32.wrap (1 * 2 ^ min (l1.length : Int).toNat 32)) = ji8 := hji8
  have hji8z : (l1.length : Int) ≤ 32 → (IntKind.u32.wrap (1 * 2 ^ (l1.length : Int).toNat)) = ji8 := shl_small hji8
  have hji8p : (IntKind.u32.wrap (1 * 2 ^ min l1.length 32)) = ji8 := hji8_
  have hji8q : (l1.length : Int) ≤ 32 → (IntKind.u32.wrap (1 * 2 ^ l1.length)) = ji8 := hji8z
  have hji8r : (IntKind.u32.wrap (2 ^ min l1.length 32)) = ji8 := by have h_ := hji8p; rw [Int.one_mul] at h_; exact h_
  have hji8s : (l1.length : Int) ≤ 32 → (IntKind.u32.wrap (2 ^ l1.length)) = ji8 := fun hle_ => by have h_ := hji8q hle_; rw [Int.one_mul] at h_; exact h_
  have hji8u : (IntKind.u32.wrap (2 ^ min (l1.length : Int).toNat 32)) = ji8 := by have h_ := hji8_; rw [Int.one_mul] at h_; exact h_
  have hji8v : (l1.length : Int) ≤ 32 → (IntKind.u32.wrap (2 ^ (l1.length : Int).toNat)) = ji8 := fun hle_ => by have h_ := hji8z hle_; rw [Int.one_mul] at h_; exact h_
  have H' := Aside0.mk H
  clear H
  go_enter Try.func30, Try.ntmps30
  try go_wp2_with (first | ((with_reducible refine gate_dst (N := 3) rfl ?_); refine box_event ?hg (N := 3) ?hd (cs := (mixA (Value.int .u16) [.int .i8 a0_0, .int .i8 a0_1] a0_2)) (t := 32) ?hr ?_; (case hd => rfl); (case hg => rfl); (case hr => first | (go_simp; done) | (go_simp; rfl)); intro gb536 hg w9 hbox hb; have n0_ := bst HB hb; have n1_ := Aside0.mk (hbox); have n2_ := gwl HB hg; have n3_ := gwl HB hg; clear HB; have HB := n0_; have BK536 := n1_; have GW536 := n2_; have GE536 := n3_; clear n0_ n1_ n2_ n3_; clear hb hbox hg) | ((with_reducible refine gate_dst (N := 15) rfl ?_); refine wpList_run0 (v := .agg (mixA (Value.int .u16) [.int .i8 a0_0, .int .i8 a0_1] a0_2)) rfl (load_mix_run (P := Try.prog) 32 (.tmp 3) rfl gb536 rfl (show World.rangeAt _ gb536 0 ([.int .i8 a0_0, .int .i8 a0_1] ++ a0_2.l.map (Value.int .u16)) from mix_range (show (World.heap _)[gb536]? = some (.cells (mixA (Value.int .u16) [.int .i8 a0_0, .int .i8 a0_1] a0_2) 32 (0, 0)) from by (with_reducible repeat (first | refine blk_drewN ?_ _ | refine blk_drew ?_ | refine blk_alloc ?_ _)); exact BK536.out)) Try.underlying32 rfl (by kernel_rfl) rfl) ?_) | ((with_reducible refine gate_callee (f := 75) rfl ?_); refine goesL_ (some 18) rfl rfl Try.func75 (by kernel_rfl) rfl #[.agg (mixA (Value.int .u16) [.int .i8 a0_0, .int .i8 a0_1] a0_2), .slice A1 l1.length c1, .int .i64 a2] rfl (by (try simp only [List.map_toArray, List.map_cons, List.map_nil]); first | done | rfl | (simp only [List.length_drop, List.length_take]; rfl)) ?_; (with_reducible refine (impl_callCode.calls k a0_0 a0_1 a0_2 _ _ l1 a2 t537 _ ?side1 ?side2 A4.out).mono ?_); (case side1 => repeat (first | exact (Kd.C_below HR1.out HB.out) | (with_reducible refine Kd.C_alloc ?_ _) | (with_reducible refine Kd.C_drewN ?_ _) | (with_reducible refine Kd.C_drew ?_))); (case side2 => exact HC1.out); rintro e w11 ⟨rfl, hb⟩; refine ⟨_, rfl, ?_⟩; have n0_ := bkb BK536 hb; have n1_ := bst HB hb; clear BK536; clear HB; have BK536 := n0_; have HB := n1_; clear n0_ n1_; (try clear hb); (try clear hb2); (try clear hk); (try clear hi)))
  have n0_ := Aside0.mk (blk_drew BK536.out)
  have n1_ := Aside0.mk (below_drew1 HB.out)
  clear BK536
  clear HB
  have BK536 := n0_
  have HB := n1_
  clear n0_ n1_
  refine start_ (n := 10) (S := fun w' => True) (ds := []) #[false, false, false, false, false, false, false, false, false, false] (by kernel_rfl) rfl rfl trivial (fun hHeld => ?_); refine with_tabW impl_GreedyCalls.tab4 impl_GreedyCalls.bits4 (fun HT_ HW_ => ?_)
  generalize w11.drew = w12 at BK536 HB hHeld ⊢
  refine pure_ (i := 1) (N := some 23) (v := ?_) (a' := ?_) #[false, true, false, false, false, false, false, false, false, false] rfl rfl (any_of HT_.out (by kernel_rfl)) (fun _ _ _ h => h) (Or.inl ⟨by rfl, ?_⟩) ?_ ?_
  rotate_left
  ·intro w'
   go_simp
   with_reducible rfl
  rotate_left
  ·simp only [Act.put, List.setIfInBounds_toArray, List.set_cons_zero, List.set_cons_succ, i64_w, i32_w]
   rfl
  refine pure_ (i := 2) (N := some 24) (v := ?_) (a' := ?_) #[false, true, true, false, false, false, false, false, false, false] rfl rfl (any_of HT_.out (by kernel_rfl)) (fun _ _ _ h => h) (Or.inl ⟨by rfl, ?_⟩) ?_ ?_
  rotate_left
  ·intro w'
   go_simp
   with_reducible rfl
  rotate_left
  ·simp only [Act.put, List.setIfInBounds_toArray, List.set_cons_zero, List.set_cons_succ, i64_w, i32_w]
   rfl
  refine inv_at [0, 3, 4, 5, 6, 7, 8, 9] (fun a0_ b a w' => ∃ (v539 : Value) (v542 : Value) (v545 : Value) (m7_ : Value) (m8_ : Value) (m9_ : Value), a = putSel a0_ b [(0, 22, .agg (mixA (Value.int .u16) [.int .i8 a0_0, .int .i8 a0_1] a0_2)), (3, 25, v539), (4, 26, .agg (mixA (Value.int .u16) [.int .i8 a0_0, .int .i8 a0_1] a0_2)), (5, 27, v542), (6, 28, v545), (7, 9, m7_), (8, 10, m8_), (9, 11, m9_)] ∧ (w'.heap[gb536]? = some (.cells (mixA (Value.int .u16) [.int .i8 a0_0, .int .i8 a0_1] a0_2) 32 (0, 0))) ∧ (Below w.heap.size w w') ∧ (b 3 = true → Kd.R (Kd.int .u32) 86 w' w.heap.size (fun _ => True) v539 t538) ∧ (b 5 = true → Kd.R k34 34 w' w.heap.size (fun _ => True) v542 t541) ∧ (b 6 = true → Kd.R k34 34 w' w.heap.size (fun _ => True) v545 y544) ∧ (b 5 = true → b 6 = true → ∀ k_, v542.ownBlock = some k_ → some k_ ≠ v545.ownBlock) ∧ (b 7 = true → (m7_ : Value) = v539) ∧ (b 8 = true → (m8_ : Value) = v542) ∧ (b 9 = true → (m9_ : Value) = v545)) HT_.out HW_.out (by kernel_rfl) (by kernel_rfl) ?_ ?_ ?_
  ·exact ⟨.bool false, .bool false, .bool false, .bool false, .bool false, .bool false, by simp only [putSel, Bool.false_eq_true, if_false], BK536.out, HB.out, fun h_ => absurd h_ (by decide), fun h_ => absurd h_ (by decide), fun h_ => absurd h_ (by decide), fun h_ => absurd h_ (by decide), fun h_ => absurd h_ (by decide), fun h_ => absurd h_ (by decide), fun h_ => absurd h_ (by decide)⟩
  ·skip
   clear BK536 HB
   refine steps_cons ?_ ?_
   ·rintro b a w' ⟨v539, v542, v545, m7_, m8_, m9_, ha, Q_BK536, Q_HB, Q_HO540, Q_HO543, Q_HO546, Q_APv542_v545, Q_X7_, Q_X8_, Q_X9_⟩ hb_ hon hoff
    refine ⟨_, rfl, fun K hK => ?_⟩
    have e3 : a.tmps[3]? = some (.pointer (some ⟨gb536, 0, none⟩)) := by rw [ha]; exact (putSel_off rfl).trans rfl
    replace ha := Aside0.mk ha
    have BK536 := Aside0.mk Q_BK536
    have HB := Aside0.mk Q_HB
    have hL_ : World.rangeAt w' gb536 0 ([.int .i8 a0_0, .int .i8 a0_1] ++ a0_2.l.map (Value.int .u16)) := mix_range BK536.out
    refine value_ (w1 := w') (v := .agg (mixA (Value.int .u16) [.int .i8 a0_0, .int .i8 a0_1] a0_2)) (by rfl) rfl ?_ ?_
    ·exact load_mix_run (P := Try.prog) 32 (.tmp 3) rfl gb536 (by simp only [Act.eval, Array.getD_eq_getD_getElem?, e3, Option.getD_some]) hL_ Try.underlying32 rfl (by kernel_rfl) rfl
    refine hK.out _ _ ⟨v539, v542, v545, m7_, m8_, m9_, (by rw [ha.out]; exact putSel_upk 0 hb_ rfl rfl rfl), Q_BK536, Q_HB, fun h0_ => absurd ((hoff 3 (by kernel_rfl)).symm.trans h0_) (by decide), fun h0_ => absurd ((hoff 5 (by kernel_rfl)).symm.trans h0_) (by decide), Q_HO546, fun h0_ _ => absurd ((hoff 5 (by kernel_rfl)).symm.trans h0_) (by decide), fun h0_ => absurd ((hoff 7 (by kernel_rfl)).symm.trans h0_) (by decide), fun h0_ => absurd ((hoff 8 (by kernel_rfl)).symm.trans h0_) (by decide), fun h0_ => absurd ((hoff 9 (by kernel_rfl)).symm.trans h0_) (by decide)⟩
   refine steps_cons ?_ ?_
   ·rintro b a w' ⟨v539, v542, v545, m7_, m8_, m9_, ha, Q_BK536, Q_HB, Q_HO540, Q_HO543, Q_HO546, Q_APv542_v545, Q_X7_, Q_X8_, Q_X9_⟩ hb_ hon hoff
    refine ⟨_, rfl, fun K hK => ?_⟩
    have e22 : a.tmps[22]? = some (.agg (mixA (Value.int .u16) [.int .i8 a0_0, .int .i8 a0_1] a0_2)) := by rw [ha]; exact putSel_on (e := (0, 22, .agg (mixA (Value.int .u16) [.int .i8 a0_0, .int .i8 a0_1] a0_2))) 0 rfl rfl (hon 0 (by kernel_rfl)) rfl
    have e23 : a.tmps[23]? = some (.slice A1 l1.length c1) := by rw [ha]; exact (putSel_off rfl).trans rfl
    have e24 : a.tmps[24]? = some (.int .i64 a2) := by rw [ha]; exact (putSel_off rfl).trans rfl
    replace ha := Aside0.mk ha
    have BK536 := Aside0.mk Q_BK536
    have HB := Aside0.mk Q_HB
    refine goes_ Try.func76 (by kernel_rfl) rfl #[.agg (mixA (Value.int .u16) [.int .i8 a0_0, .int .i8 a0_1] a0_2), .slice A1 l1.length c1, .int .i64 a2] (by rfl) rfl rfl (by first | (simp only [List.map_toArray, List.map_cons, List.map_nil, Act.eval, Array.getD_eq_getD_getElem?, Option.getD_some, e22, e23, e24]; done) | (simp only [List.map_toArray, List.map_cons, List.map_nil, Act.eval, Array.getD_eq_getD_getElem?, Option.getD_some, e22, e23, e24]; rfl)) ?_
    with_reducible refine (impl_Room_calls.calls k a0_0 a0_1 a0_2 _ _ l1 a2 t538 _ ?side1 ?side2 A6.out).mono ?_
    (case side1 => repeat (first | exact (Kd.C_below HR1.out HB.out) | (with_reducible refine Kd.C_alloc ?_ _) | (with_reducible refine Kd.C_drewN ?_ _) | (with_reducible refine Kd.C_drew ?_)))
    (case side2 => exact HC1.out)
    rintro e w13 ⟨v539, rfl, ho0, hb⟩
    refine ⟨_, rfl, ?_⟩
    have n0_ := Aside0.mk (Kd.R_lower ho0 (below_size (by repeat (first | (with_reducible first | exact HB.out | apply below_alloc | apply pw_below_drewN | apply below_drew1 | refine below_set ?_ GE536.out) | exact HB.out))))
    have n1_ := bkb BK536 hb
    have n2_ := bst HB hb
    have z_HO546 := fun (h0_ : b 6 = true) => (show Kd.R k34 34 w13 w.heap.size (fun _ => True) v545 y544 from by first | exact (Kd.R_below (by (with_reducible repeat (first | apply Kd.R_alloc | apply Kd.R_drewN | apply Kd.R_drew)); exact (Q_HO546 h0_)) hb) | exact Kd.R_mono (Kd.R_below (by (with_reducible repeat (first | apply Kd.R_alloc | apply Kd.R_drewN | apply Kd.R_drew)); exact (Q_HO546 h0_)) hb) (fun _ h_ => by first | trivial | exact h_ | exact h_.1))
    clear BK536
    clear HB
    have HO540 := n0_
    have BK536 := n1_
    have HB := n2_
    clear n0_ n1_ n2_
    (try clear hb)
    (try clear hb2)
    (try clear hk)
    (try clear hi)
    (try clear ho0)
    refine hK.out _ _ ⟨v539, v542, v545, m7_, m8_, m9_, (by rw [ha.out]; exact putSel_upk 1 hb_ rfl rfl rfl), (pk BK536), (pbs HB), fun _ => (by (with_reducible repeat (first | apply Kd.R_alloc | apply Kd.R_drewN | apply Kd.R_drew)); exact HO540.out), fun h0_ => absurd ((hoff 5 (by kernel_rfl)).symm.trans h0_) (by decide), z_HO546, fun h0_ _ => absurd ((hoff 5 (by kernel_rfl)).symm.trans h0_) (by decide), fun h0_ => absurd ((hoff 7 (by kernel_rfl)).symm.trans h0_) (by decide), fun h0_ => absurd ((hoff 8 (by kernel_rfl)).symm.trans h0_) (by decide), fun h0_ => absurd ((hoff 9 (by kernel_rfl)).symm.trans h0_) (by decide)⟩
   refine steps_cons ?_ ?_
   ·rintro b a w' ⟨v539, v542, v545, m7_, m8_, m9_, ha, Q_BK536, Q_HB, Q_HO540, Q_HO543, Q_HO546, Q_APv542_v545, Q_X7_, Q_X8_, Q_X9_⟩ hb_ hon hoff
    refine ⟨_, rfl, fun K hK => ?_⟩
    have e3 : a.tmps[3]? = some (.pointer (some ⟨gb536, 0, none⟩)) := by rw [ha]; exact (putSel_off rfl).trans rfl
    replace ha := Aside0.mk ha
    have BK536 := Aside0.mk Q_BK536
    have HB := Aside0.mk Q_HB
    have hL_ : World.rangeAt w' gb536 0 ([.int .i8 a0_0, .int .i8 a0_1] ++ a0_2.l.map (Value.int .u16)) := mix_range BK536.out
    refine value_ (w1 := w') (v := .agg (mixA (Value.int .u16) [.int .i8 a0_0, .int .i8 a0_1] a0_2)) (by rfl) rfl ?_ ?_
    ·exact load_mix_run (P := Try.prog) 32 (.tmp 3) rfl gb536 (by simp only [Act.eval, Array.getD_eq_getD_getElem?, e3, Option.getD_some]) hL_ Try.underlying32 rfl (by kernel_rfl) rfl
    refine hK.out _ _ ⟨v539, v542, v545, m7_, m8_, m9_, (by rw [ha.out]; exact putSel_upk 2 hb_ rfl rfl rfl), Q_BK536, Q_HB, Q_HO540, fun h0_ => absurd ((hoff 5 (by kernel_rfl)).symm.trans h0_) (by decide), Q_HO546, fun h0_ _ => absurd ((hoff 5 (by kernel_rfl)).symm.trans h0_) (by decide), fun h0_ => absurd ((hoff 7 (by kernel_rfl)).symm.trans h0_) (by decide), fun h0_ => absurd ((hoff 8 (by kernel_rfl)).symm.trans h0_) (by decide), fun h0_ => absurd ((hoff 9 (by kernel_rfl)).symm.trans h0_) (by decide)⟩
   refine steps_cons ?_ ?_
   ·rintro b a w' ⟨v539, v542, v545, m7_, m8_, m9_, ha, Q_BK536, Q_HB, Q_HO540, Q_HO543, Q_HO546, Q_APv542_v545, Q_X7_, Q_X8_, Q_X9_⟩ hb_ hon hoff
    refine ⟨_, rfl, fun K hK => ?_⟩
    have e26 : a.tmps[26]? = some (.agg (mixA (Value.int .u16) [.int .i8 a0_0, .int .i8 a0_1] a0_2)) := by rw [ha]; exact putSel_on (e := (4, 26, .agg (mixA (Value.int .u16) [.int .i8 a0_0, .int .i8 a0_1] a0_2))) 2 rfl rfl (hon 4 (by kernel_rfl)) rfl
    replace ha := Aside0.mk ha
    have BK536 := Aside0.mk Q_BK536
    have HB := Aside0.mk Q_HB
    have HO540 := Aside0.mk (Q_HO540 (hon 3 (by kernel_rfl)))
    refine goes_ Try.func77 (by kernel_rfl) rfl #[.agg (mixA (Value.int .u16) [.int .i8 a0_0, .int .i8 a0_1] a0_2)] (by rfl) rfl rfl (by first | (simp only [List.map_toArray, List.map_cons, List.map_nil, Act.eval, Array.getD_eq_getD_getElem?, Option.getD_some, e26]; done) | (simp only [List.map_toArray, List.map_cons, List.map_nil, Act.eval, Array.getD_eq_getD_getElem?, Option.getD_some, e26]; rfl)) ?_
    with_reducible refine (impl_Room_free.calls k a0_0 a0_1 a0_2 t541 _ A7.out).mono ?_
    rintro e w15 ⟨v542, rfl, ho0, hb⟩
    have ap_ := Kd.R_base ho0
    refine ⟨_, rfl, ?_⟩
    have n0_ := krb HO540 hb
    have n1_ := Aside0.mk (Kd.R_lower ho0 (below_size (by repeat (first | (with_reducible first | exact HB.out | apply below_alloc | apply pw_below_drewN | apply below_drew1 | refine below_set ?_ GE536.out) | exact HB.out))))
    have n2_ := bkb BK536 hb
    have n3_ := bst HB hb
    have z_HO546 := fun (h0_ : b 6 = true) => (show Kd.R k34 34 w15 w.heap.size (fun _ => True) v545 y544 from by first | exact (Kd.R_elder' (by (with_reducible repeat (first | apply Kd.R_alloc | apply Kd.R_drewN | apply Kd.R_drew)); exact (Q_HO546 h0_)) (Kd.R_base ho0) hb) | exact Kd.R_mono (Kd.R_elder' (by (with_reducible repeat (first | apply Kd.R_alloc | apply Kd.R_drewN | apply Kd.R_drew)); exact (Q_HO546 h0_)) (Kd.R_base ho0) hb) (fun _ h_ => by first | trivial | exact h_ | exact h_.1))
    clear HO540
    clear BK536
    clear HB
    have HO540 := n0_
    have HO543 := n1_
    have BK536 := n2_
    have HB := n3_
    clear n0_ n1_ n2_ n3_
    (try clear hb)
    (try clear hb2)
    (try clear hk)
    (try clear hi)
    (try clear ho0)
    refine hK.out _ _ ⟨v539, v542, v545, m7_, m8_, m9_, (by rw [ha.out]; exact putSel_upk 3 hb_ rfl rfl rfl), (pk BK536), (pbs HB), fun _ => (by (with_reducible repeat (first | apply Kd.R_alloc | apply Kd.R_drewN | apply Kd.R_drew)); exact HO540.out), fun _ => (by (with_reducible repeat (first | apply Kd.R_alloc | apply Kd.R_drewN | apply Kd.R_drew)); exact HO543.out), z_HO546, fun _ h1_ => fun k_ hk_ he_ => absurd (Kd.R_lt (Q_HO546 h1_) _ he_.symm) (Nat.not_lt.2 (ap_ k_ hk_)), fun h0_ => absurd ((hoff 7 (by kernel_rfl)).symm.trans h0_) (by decide), fun h0_ => absurd ((hoff 8 (by kernel_rfl)).symm.trans h0_) (by decide), fun h0_ => absurd ((hoff 9 (by kernel_rfl)).symm.trans h0_) (by decide)⟩
   refine steps_cons ?_ ?_
   ·rintro b a w' ⟨v539, v542, v545, m7_, m8_, m9_, ha, Q_BK536, Q_HB, Q_HO540, Q_HO543, Q_HO546, Q_APv542_v545, Q_X7_, Q_X8_, Q_X9_⟩ hb_ hon hoff
    refine ⟨_, rfl, fun K hK => ?_⟩
    replace ha := Aside0.mk ha
    have BK536 := Aside0.mk Q_BK536
    have HB := Aside0.mk Q_HB
    refine Kd.R_lit_step k34 _ 34 ?hg (N := 28) ?hd (xs := ([] : List (S34))) (inner := []) (ok := fun _ => True) (okp := fun _ => True) ?hr ?hp (fun _ hk => hk) trivial (Below.refl _ _) (Nat.le_refl _) (by simp) ?_; (case hd => rfl); (case hg => rfl); (case hr => first | (go_simp; done) | (go_simp; rfl)); (case hp => exact (Reps.none _ _))
    intro v545 w13 ho14 hb hg_ hnew_
    have ap_ : ∀ k, v545.ownBlock = some k → w'.heap.size ≤ k := fun k hk => (by obtain ⟨b_, h1_, h2_⟩ := hnew_; rw [hk] at h1_; obtain rfl := Option.some.inj h1_; exact h2_)
    clear hg_ hnew_
    (first | rw [← Ny544.out] at ho14 | (simp only [Int.reduceToNat] at ho14; rw [← Ny544.out] at ho14))
    have n0_ := Aside0.mk (Kd.R_lower ho14 (below_size (by repeat (first | (with_reducible first | exact HB.out | apply below_alloc | apply pw_below_drewN | apply below_drew1 | refine below_set ?_ GE536.out) | exact HB.out))))
    have n1_ := bkb BK536 hb
    have n2_ := bst HB hb
    have z_HO540 := fun (h0_ : b 3 = true) => (show Kd.R (Kd.int .u32) 86 w13 w.heap.size (fun _ => True) v539 t538 from by first | exact (Kd.R_below (by (with_reducible repeat (first | apply Kd.R_alloc | apply Kd.R_drewN | apply Kd.R_drew)); exact (Q_HO540 h0_)) hb) | exact Kd.R_mono (Kd.R_below (by (with_reducible repeat (first | apply Kd.R_alloc | apply Kd.R_drewN | apply Kd.R_drew)); exact (Q_HO540 h0_)) hb) (fun _ h_ => by first | trivial | exact h_ | exact h_.1))
    have z_HO543 := fun (h0_ : b 5 = true) => (show Kd.R k34 34 w13 w.heap.size (fun _ => True) v542 t541 from by first | exact (Kd.R_elder' (by (with_reducible repeat (first | apply Kd.R_alloc | apply Kd.R_drewN | apply Kd.R_drew)); exact (Q_HO543 h0_)) (Kd.R_base ho14) hb) | exact Kd.R_mono (Kd.R_elder' (by (with_reducible repeat (first | apply Kd.R_alloc | apply Kd.R_drewN | apply Kd.R_drew)); exact (Q_HO543 h0_)) (Kd.R_base ho14) hb) (fun _ h_ => by first | trivial | exact h_ | exact h_.1))
    clear BK536
    clear HB
    have HO546 := n0_
    have BK536 := n1_
    have HB := n2_
    clear n0_ n1_ n2_
    clear hb ho14
    refine hK.out _ _ ⟨v539, v542, v545, m7_, m8_, m9_, (by rw [ha.out]; exact putSel_upk 4 hb_ rfl rfl rfl), (pk BK536), (pbs HB), z_HO540, z_HO543, fun _ => (by (with_reducible repeat (first | apply Kd.R_alloc | apply Kd.R_drewN | apply Kd.R_drew)); exact HO546.out), fun h0_ _ => fun k_ hk_ he_ => absurd (Kd.R_lt (Q_HO543 h0_) _ hk_) (Nat.not_lt.2 (ap_ k_ he_.symm)), Q_X7_, Q_X8_, fun h0_ => absurd ((hoff 9 (by kernel_rfl)).symm.trans h0_) (by decide)⟩
   refine steps_cons ?_ ?_
   ·rintro b a w' ⟨v539, v542, v545, m7_, m8_, m9_, ha, Q_BK536, Q_HB, Q_HO540, Q_HO543, Q_HO546, Q_APv542_v545, Q_X7_, Q_X8_, Q_X9_⟩ hb_ hon hoff
    refine ⟨_, rfl, fun K hK => ?_⟩
    have e25 : a.tmps[25]? = some (v539) := by rw [ha]; exact putSel_on (e := (3, 25, v539)) 1 rfl rfl (hon 3 (by kernel_rfl)) rfl
    replace ha := Aside0.mk ha
    have BK536 := Aside0.mk Q_BK536
    have HB := Aside0.mk Q_HB
    have HO540 := Aside0.mk (Q_HO540 (hon 3 (by kernel_rfl)))
    have HO543 := Aside0.mk (Q_HO543 (hon 5 (by kernel_rfl)))
    refine value_ (w1 := w') (v := v539) (by rfl) rfl ?_ ?_
    ·go_simp
     (try simp only [i64_w])
     try rfl
    refine hK.out _ _ ⟨v539, v542, v545, (v539), m8_, m9_, (by rw [ha.out]; exact putSel_upk 5 hb_ rfl rfl rfl), Q_BK536, Q_HB, Q_HO540, Q_HO543, Q_HO546, Q_APv542_v545, fun _ => rfl, fun h0_ => absurd ((hoff 8 (by kernel_rfl)).symm.trans h0_) (by decide), fun h0_ => absurd ((hoff 9 (by kernel_rfl)).symm.trans h0_) (by decide)⟩
   refine steps_cons ?_ ?_
   ·rintro b a w' ⟨v539, v542, v545, m7_, m8_, m9_, ha, Q_BK536, Q_HB, Q_HO540, Q_HO543, Q_HO546, Q_APv542_v545, Q_X7_, Q_X8_, Q_X9_⟩ hb_ hon hoff
    refine ⟨_, rfl, fun K hK => ?_⟩
    have e27 : a.tmps[27]? = some (v542) := by rw [ha]; exact putSel_on (e := (5, 27, v542)) 3 rfl rfl (hon 5 (by kernel_rfl)) rfl
    replace ha := Aside0.mk ha
    have BK536 := Aside0.mk Q_BK536
    have HB := Aside0.mk Q_HB
    have HO540 := Aside0.mk (Q_HO540 (hon 3 (by kernel_rfl)))
    have HO543 := Aside0.mk (Q_HO543 (hon 5 (by kernel_rfl)))
    refine value_ (w1 := w') (v := v542) (by rfl) rfl ?_ ?_
    ·go_simp
     (try simp only [i64_w])
     try rfl
    refine hK.out _ _ ⟨v539, v542, v545, m7_, (v542), m9_, (by rw [ha.out]; exact putSel_upk 6 hb_ rfl rfl rfl), Q_BK536, Q_HB, Q_HO540, Q_HO543, Q_HO546, Q_APv542_v545, Q_X7_, fun _ => rfl, fun h0_ => absurd ((hoff 9 (by kernel_rfl)).symm.trans h0_) (by decide)⟩
   refine steps_cons ?_ ?_
   ·rintro b a w' ⟨v539, v542, v545, m7_, m8_, m9_, ha, Q_BK536, Q_HB, Q_HO540, Q_HO543, Q_HO546, Q_APv542_v545, Q_X7_, Q_X8_, Q_X9_⟩ hb_ hon hoff
    refine ⟨_, rfl, fun K hK => ?_⟩
    have e28 : a.tmps[28]? = some (v545) := by rw [ha]; exact putSel_on (e := (6, 28, v545)) 4 rfl rfl (hon 6 (by kernel_rfl)) rfl
    replace ha := Aside0.mk ha
    have BK536 := Aside0.mk Q_BK536
    have HB := Aside0.mk Q_HB
    have HO540 := Aside0.mk (Q_HO540 (hon 3 (by kernel_rfl)))
    have HO543 := Aside0.mk (Q_HO543 (hon 5 (by kernel_rfl)))
    have HO546 := Aside0.mk (Q_HO546 (hon 6 (by kernel_rfl)))
    have APv542_v545 := Aside0.mk (Q_APv542_v545 (hon 5 (by kernel_rfl)) (hon 6 (by kernel_rfl)))
    refine value_ (w1 := w') (v := v545) (by rfl) rfl ?_ ?_
    ·go_simp
     (try simp only [i64_w])
     try rfl
    refine hK.out _ _ ⟨v539, v542, v545, m7_, m8_, (v545), (by rw [ha.out]; exact putSel_upk 7 hb_ rfl rfl rfl), Q_BK536, Q_HB, Q_HO540, Q_HO543, Q_HO546, Q_APv542_v545, Q_X7_, Q_X8_, fun _ => rfl⟩
   exact steps_nil
  rintro b a w17 hall ⟨v539, v542, v545, m7_, m8_, m9_, ha, Q_BK536, Q_HB, Q_HO540, Q_HO543, Q_HO546, Q_APv542_v545, Q_X7_, Q_X8_, Q_X9_⟩
  clear BK536 HB
  have hb0_ := hall 0 (by kernel_rfl)
  have hb3_ := hall 3 (by kernel_rfl)
  have hb4_ := hall 4 (by kernel_rfl)
  have hb5_ := hall 5 (by kernel_rfl)
  have hb6_ := hall 6 (by kernel_rfl)
  have hb7_ := hall 7 (by kernel_rfl)
  have hb8_ := hall 8 (by kernel_rfl)
  have hb9_ := hall 9 (by kernel_rfl)
  subst ha
  obtain rfl := (Q_X7_ hb7_).symm
  obtain rfl := (Q_X8_ hb8_).symm
  obtain rfl := (Q_X9_ hb9_).symm
  simp only [putSel, hb0_, hb3_, hb4_, hb5_, hb6_, hb7_, hb8_, hb9_, if_true, Act.put, List.setIfInBounds_toArray, List.set_cons_zero, List.set_cons_succ]
  have BK536 := Aside0.mk Q_BK536
  clear Q_BK536
  have HB := Aside0.mk Q_HB
  clear Q_HB
  have HO540 := Aside0.mk (Q_HO540 hb3_)
  clear Q_HO540
  have HO543 := Aside0.mk (Q_HO543 hb5_)
  clear Q_HO543
  have HO546 := Aside0.mk (Q_HO546 hb6_)
  clear Q_HO546
  have APv542_v545 := Aside0.mk (Q_APv542_v545 hb5_ hb6_)
  clear Q_APv542_v545
  have n0_ : Aside0 (Kd.R k34 34 w17 w.heap.size (fun k_ => some k_ ≠ v545.ownBlock) v542 t541) := ⟨⟨APv542_v545.out, HO543.out.2⟩⟩
  have n1_ : Aside0 (Kd.R k34 34 w17 w.heap.size (fun k_ => some k_ ≠ v542.ownBlock) v545 y544) := ⟨⟨fun k_ hk_ he_ => APv542_v545.out k_ he_.symm hk_.symm, HO546.out.2⟩⟩
  clear HO543 HO546 APv542_v545
  have HO543 := n0_
  have HO546 := n1_
  clear n0_ n1_
  clear hall hb0_ hb3_ hb4_ hb5_ hb6_ hb7_ hb8_ hb9_
  try go_wp2
  go_loopg [11, 12] k (fun kq v11 v12 w' => ∃ (x11_1 : List (S34)) (x12_1 : Int), v12 = .int .u32 x12_1 ∧ Aside0 (impl_GreedyCalls.l0 kq t538 t541 x11_1 x12_1 = some (r1, r2)) ∧ Aside0 (kq ≤ k) ∧ Aside0 (Kd.R (Kd.int .u32) 86 w' w.heap.size (fun _ => True) v539 t538) ∧ Aside0 (Kd.R k34 34 w' w.heap.size (fun k_ => some k_ ≠ (v11 : Value).ownBlock) v542 t541) ∧ Aside0 (Kd.R k34 34 w' w.heap.size (fun k_ => some k_ ≠ (v542 : Value).ownBlock) v11 x11_1) ∧ Aside0 (w'.heap[gb536]? = some (.cells (mixA (Value.int .u16) [.int .i8 a0_0, .int .i8 a0_1] a0_2) 32 (0, 0))) ∧ Aside0 (Below w.heap.size w w'))
  case atStart => exact ⟨(y544), (((ji8) - 1) % 4294967296), (by first | rfl | (simp; done) | (simp only [← hji8] <;> (first | rfl | simp)) | (simp [*]; done)), H', ⟨Nat.le_refl _⟩, ⟨by (with_reducible repeat (first | apply Kd.R_alloc | apply Kd.R_drewN | apply Kd.R_drew)); exact HO540.out⟩, ⟨by (with_reducible repeat (first | apply Kd.R_alloc | apply Kd.R_drewN | apply Kd.R_drew)); exact HO543.out⟩, ⟨by (with_reducible repeat (first | apply Kd.R_alloc | apply Kd.R_drewN | apply Kd.R_drew)); exact HO546.out⟩, ⟨pk BK536⟩, ⟨pbs HB⟩⟩
  case round =>
   clear H'
   try clear c1
   try clear p2
   try clear c3
   try clear c5
   try clear c5b0
   try clear c5b1
   try clear c7
   obtain ⟨x11_1, x12_1, rfl, HA, HK1, HO_9, HO_10, HO_11, BK536, HB⟩ := hrel
   cases gk with
   | zero => exact absurd HA.out (by simp [impl_GreedyCalls.l0])
   | succ k1 =>
    have H := HA.out
    clear HA
    simp only [impl_GreedyCalls.l0] at H
    by_cases c22 : x12_1 = 0
    ·rw [if_pos c22] at H
     have c22b0 : (x12_1 == 0) = true := beq_iff_eq.mpr c22
     have c22b1 : (x12_1 != 0) = false := bne_eq_false_iff_eq.mpr c22
     clear c22
     simp only [Option.some.injEq, Prod.mk.injEq] at H
     obtain ⟨rfl, rfl⟩ := H
     go_wp2
     go_ret2
     exact ⟨_, by first | rfl | (simp [errW_none, errW_some] <;> rfl) | (simp only [← hji8]; first | rfl | (simp [errW_none, errW_some] <;> rfl)) | (simp [*, errW_none, errW_some] <;> rfl), by (with_reducible repeat (first | apply Kd.R_alloc | apply Kd.R_drewN | apply Kd.R_drew)); exact Kd.R_mono HO_11.out (fun _ hk => trivial), pbs HB⟩
    ·rw [if_neg c22] at H
     have c22b0 : (x12_1 == 0) = false := beq_eq_false_iff_ne.mpr c22
     have c22b1 : (x12_1 != 0) = true := bne_iff_ne.mpr c22
     have H' := Aside0.mk H
     clear H
     obtain ⟨Ao23, co23, eo23⟩ := Kd.R_slice HO_9.out
     subst eo23
     go_wp2
     go_loopg [13, 37] k1 (fun kq v13 v37 w' => ∃ (x13_2 : Int) (x37_2 : Int), v13 = .int .i64 x13_2 ∧ v37 = .int .i64 x37_2 ∧ Aside0 (impl_GreedyCalls.l1 kq t538 t541 x11_1 x12_1 x13_2 (t538.length : Int) x37_2 = some (r1, r2)) ∧ Aside0 (kq ≤ k1) ∧ Aside0 (Kd.R (Kd.int .u32) 86 w' w.heap.size (fun _ => True) (.slice Ao23 t538.length co23) t538) ∧ Aside0 (Kd.R k34 34 w' w.heap.size (fun k_ => some k_ ≠ (u11 : Value).ownBlock) v542 t541) ∧ Aside0 (Kd.R k34 34 w' w.heap.size (fun k_ => some k_ ≠ (v542 : Value).ownBlock) u11 x11_1) ∧ Aside0 (w'.heap[gb536]? = some (.cells (mixA (Value.int .u16) [.int .i8 a0_0, .int .i8 a0_1] a0_2) 32 (0, 0))) ∧ Aside0 (Below w.heap.size w w'))
     case atStart => exact ⟨(0), (0), (by first | rfl | (simp; done) | (simp [*]; done)), (by first | rfl | (simp; done) | (simp [*]; done)), H', ⟨Nat.le_refl _⟩, ⟨by (with_reducible repeat (first | apply Kd.R_alloc | apply Kd.R_drewN | apply Kd.R_drew)); exact HO_9.out⟩, ⟨by (with_reducible repeat (first | apply Kd.R_alloc | apply Kd.R_drewN | apply Kd.R_drew)); exact HO_10.out⟩, ⟨by (with_reducible repeat (first | apply Kd.R_alloc | apply Kd.R_drewN | apply Kd.R_drew)); exact HO_11.out⟩, ⟨pk BK536⟩, ⟨pbs HB⟩⟩
     case round =>
      clear H'
      try clear c1
      try clear c2
      try clear p2
      try clear c3
      try clear c5
      try clear c5b0
      try clear c5b1
      try clear c7
      try clear c22
      try clear c22b0
      try clear c22b1
      try clear p2
      obtain ⟨x13_2, x37_2, rfl, rfl, HA, HK2, HO_9, HO_10, HO_11, BK536, HB⟩ := hrel
      cases gk with
      | zero => exact absurd HA.out (by simp [impl_GreedyCalls.l1])
      | succ k2 =>
       have H := HA.out
       clear HA
       simp only [impl_GreedyCalls.l1] at H
       by_cases c24 : x37_2 < (t538.length : Int)
       ·rw [if_pos c24] at H
        have c24b0 : decide (x37_2 < (t538.length : Int)) = true := decide_eq_true c24
        clear c24
        by_cases c25 : 0 ≤ x37_2
        ·rw [if_pos c25] at H
         have c25b0 : decide (0 ≤ x37_2) = true := decide_eq_true c25
         clear c25
         by_cases c26 : x37_2 < (t538.length : Int)
         ·rw [if_pos c26] at H
          have c26b0 : decide (x37_2 < (t538.length : Int)) = true := decide_eq_true c26
          clear c26
          replace H := Option.bind_eq_some_iff.mp H
          obtain ⟨t553, A270, H⟩ := H
          replace H : (if 0 ≤ x13_2 then (if x13_2 < (t538.length : Int) then ((bits_OnesCount32.f (Go.bits .and .u32 (rd t538 x13_2) x12_1)).bind fun t555 => (if t553 > t555 then (impl_GreedyCalls.l1 k2 t538 t541 x11_1 x12_1 x37_2 (t538.length : Int) (wrap64 (x37_2 + 1))) else (impl_GreedyCalls.l1 k2 t538 t541 x11_1 x12_1 x13_2 (t538.length : Int) (wrap64 (x37_2 + 1))))) else (none)) else (none)) = some (r1, r2) := H
          have A27 := Aside0.mk A270
          clear A270
          by_cases c28 : 0 ≤ x13_2
          ·rw [if_pos c28] at H
           have c28b0 : decide (0 ≤ x13_2) = true := decide_eq_true c28
           clear c28
           by_cases c29 : x13_2 < (t538.length : Int)
           ·rw [if_pos c29] at H
            have c29b0 : decide (x13_2 < (t538.length : Int)) = true := decide_eq_true c29
            clear c29
            replace H := Option.bind_eq_some_iff.mp H
            obtain ⟨t555, A300, H⟩ := H
            replace H : (if t553 > t555 then (impl_GreedyCalls.l1 k2 t538 t541 x11_1 x12_1 x37_2 (t538.length : Int) (wrap64 (x37_2 + 1))) else (impl_GreedyCalls.l1 k2 t538 t541 x11_1 x12_1 x13_2 (t538.length : Int) (wrap64 (x37_2 + 1)))) = some (r1, r2) := H
            have A30 := Aside0.mk A300
            clear A300
            by_cases c31 : t553 > t555
            ·rw [if_pos c31] at H
             have c31b0 : decide (t555 < t553) = true := decide_eq_true c31
             clear c31
             have H' := Aside0.mk H
             clear H
             try go_wp2
             have n0_ := Aside0.mk (Kd.R_drew HO_9.out)
             have n1_ := Aside0.mk (Kd.R_drew HO_10.out)
             have n2_ := Aside0.mk (Kd.R_drew HO_11.out)
             have n3_ := Aside0.mk (blk_drew BK536.out)
             have n4_ := Aside0.mk (below_drew1 HB.out)
             clear HO_9
             clear HO_10
             clear HO_11
             clear BK536
             clear HB
             have HO_9 := n0_
             have HO_10 := n1_
             have HO_11 := n2_
             have BK536 := n3_
             have HB := n4_
             clear n0_ n1_ n2_ n3_ n4_
             have p552 : 0 ≤ (x37_2 : Int) := of_decide_eq_true (by first | (with_reducible assumption) | assumption)
             have q552 : x37_2 < (t538.length : Int) := of_decide_eq_true (by first | (with_reducible assumption) | assumption)
             obtain ⟨ad552, e552, hx552_0⟩ := Kd.at_int (Kd.R_reads' HO_9.out).2.2 x37_2 p552 q552
             cases e552
             replace p552 := eq_true p552
             replace q552 := eq_true q552
             have p554 : 0 ≤ (x13_2 : Int) := of_decide_eq_true (by first | (with_reducible assumption) | assumption)
             have q554 : x13_2 < (t538.length : Int) := of_decide_eq_true (by first | (with_reducible assumption) | assumption)
             obtain ⟨ad554, e554, hx554_0⟩ := Kd.at_int (Kd.R_reads' HO_9.out).2.2 x13_2 p554 q554
             obtain rfl : ad552 = ad554 := (by injection e554)
             replace p554 := eq_true p554
             replace q554 := eq_true q554
             refine start_ (n := 15) (S := fun w' => w'.cell? (ad552.add (x37_2).toNat) = some (.int .u32 (rd t538 x37_2)) ∧ w'.cell? (ad552.add (x13_2).toNat) = some (.int .u32 (rd t538 x13_2))) (ds := []) #[false, false, false, false, false, false, false, false, false, false, false, false, false, false, false] (by kernel_rfl) rfl rfl ⟨hx552_0, hx554_0⟩ (fun hHeld => ?_); refine with_tabW impl_GreedyCalls.tab11 impl_GreedyCalls.bits11 (fun HT_ HW_ => ?_)
             generalize wr.drew = w32 at HO_9 HO_10 HO_11 BK536 HB hx552_0 hx554_0 hHeld ⊢
             refine pure_ (i := 0) (N := some 40) (v := ?_) (a' := ?_) #[true, false, false, false, false, false, false, false, false, false, false, false, false, false, false] rfl rfl (any_of HT_.out (by kernel_rfl)) (fun _ _ _ h => h) (Or.inl ⟨by rfl, ?_⟩) ?_ ?_
             rotate_left
             ·intro w'
              go_simp
              with_reducible rfl
             rotate_left
             ·simp only [Act.put, List.setIfInBounds_toArray, List.set_cons_zero, List.set_cons_succ, i64_w, i32_w]
              rfl
             refine pure_ (i := 1) (N := some 41) (v := ?_) (a' := ?_) #[true, true, false, false, false, false, false, false, false, false, false, false, false, false, false] rfl rfl (any_of HT_.out (by kernel_rfl)) (fun _ _ _ h => h) (Or.inl ⟨by rfl, ?_⟩) ?_ ?_
             rotate_left
             ·intro w'
              go_simp
              with_reducible rfl
             rotate_left
             ·simp only [Act.put, List.setIfInBounds_toArray, List.set_cons_zero, List.set_cons_succ, i64_w, i32_w]
              rfl
             refine pure_ (i := 2) (N := some 42) (v := ?_) (a' := ?_) #[true, true, true, false, false, false, false, false, false, false, false, false, false, false, false] rfl rfl (any_of HT_.out (by kernel_rfl)) (fun _ _ _ h => h) (Or.inl ⟨by rfl, ?_⟩) ?_ ?_
             rotate_left
             ·intro w'
              go_simp
              with_reducible rfl
             rotate_left
             ·simp only [Act.put, List.setIfInBounds_toArray, List.set_cons_zero, List.set_cons_succ, i64_w, i32_w]
              rfl
             refine pure_ (i := 4) (N := some 44) (v := ?_) (a' := ?_) #[true, true, true, false, true, false, false, false, false, false, false, false, false, false, false] rfl rfl (any_of HT_.out (by kernel_rfl)) (fun _ _ _ h => h) (Or.inl ⟨by rfl, ?_⟩) ?_ ?_
             rotate_left
             ·intro w'
              go_simp
              with_reducible rfl
             rotate_left
             ·simp only [Act.put, List.setIfInBounds_toArray, List.set_cons_zero, List.set_cons_succ, i64_w, i32_w]
              rfl
             refine pure_ (i := 7) (N := some 47) (v := ?_) (a' := ?_) #[true, true, true, false, true, false, false, true, false, false, false, false, false, false, false] rfl rfl (any_of HT_.out (by kernel_rfl)) (fun _ _ _ h => h) (Or.inl ⟨by rfl, ?_⟩) ?_ ?_
             rotate_left
             ·intro w'
              go_simp
              with_reducible rfl
             rotate_left
             ·simp only [Act.put, List.setIfInBounds_toArray, List.set_cons_zero, List.set_cons_succ, i64_w, i32_w]
              rfl
             refine pure_ (i := 8) (N := some 48) (v := ?_) (a' := ?_) #[true, true, true, false, true, false, false, true, true, false, false, false, false, false, false] rfl rfl (any_of HT_.out (by kernel_rfl)) (fun _ _ _ h => h) (Or.inl ⟨by rfl, ?_⟩) ?_ ?_
             rotate_left
             ·intro w'
              go_simp
              with_reducible rfl
             rotate_left
             ·simp only [Act.put, List.setIfInBounds_toArray, List.set_cons_zero, List.set_cons_succ, i64_w, i32_w]
              rfl
             refine pure_ (i := 9) (N := some 49) (v := ?_) (a' := ?_) #[true, true, true, false, true, false, false, true, true, true, false, false, false, false, false] rfl rfl (any_of HT_.out (by kernel_rfl)) (fun _ _ _ h => h) (Or.inl ⟨by rfl, ?_⟩) ?_ ?_
             rotate_left
             ·intro w'
              go_simp
              with_reducible rfl
             rotate_left
             ·simp only [Act.put, List.setIfInBounds_toArray, List.set_cons_zero, List.set_cons_succ, i64_w, i32_w]
              rfl
             refine pure_ (i := 11) (N := some 51) (v := ?_) (a' := ?_) #[true, true, true, false, true, false, false, true, true, true, false, true, false, false, false] rfl rfl (any_of HT_.out (by kernel_rfl)) (fun _ _ _ h => h) (Or.inl ⟨by rfl, ?_⟩) ?_ ?_
             rotate_left
             ·intro w'
              go_simp
              with_reducible rfl
             rotate_left
             ·simp only [Act.put, List.setIfInBounds_toArray, List.set_cons_zero, List.set_cons_succ, i64_w, i32_w]
              rfl
             refine take_ (i := 3) (N := some 43) (v := ?_) (a' := ?_) #[true, true, true, true, true, false, false, true, true, true, false, true, false, false, false] rfl rfl (take_ofW HT_.out HW_.out (by kernel_rfl)) (fun _ _ _ h => h) (Or.inl ⟨by rfl, ?_⟩) hHeld ?_ ?_
             rotate_left
             ·rintro w' ⟨s0, s1⟩
              go_simp
              with_reducible rfl
             rotate_left
             ·simp only [Act.put, List.setIfInBounds_toArray, List.set_cons_zero, List.set_cons_succ, i64_w, i32_w]
              rfl
             refine pure_ (i := 5) (N := some 45) (v := ?_) (a' := ?_) #[true, true, true, true, true, true, false, true, true, true, false, true, false, false, false] rfl rfl (any_of HT_.out (by kernel_rfl)) (fun _ _ _ h => h) (Or.inl ⟨by rfl, ?_⟩) ?_ ?_
             rotate_left
             ·intro w'
              go_simp
              with_reducible rfl
             rotate_left
             ·simp only [Act.put, List.setIfInBounds_toArray, List.set_cons_zero, List.set_cons_succ, i64_w, i32_w]
              rfl
             refine take_ (i := 10) (N := some 50) (v := ?_) (a' := ?_) #[true, true, true, true, true, true, false, true, true, true, true, true, false, false, false] rfl rfl (take_ofW HT_.out HW_.out (by kernel_rfl)) (fun _ _ _ h => h) (Or.inl ⟨by rfl, ?_⟩) hHeld ?_ ?_
             rotate_left
             ·rintro w' ⟨s0, s1⟩
              go_simp
              with_reducible rfl
             rotate_left
             ·simp only [Act.put, List.setIfInBounds_toArray, List.set_cons_zero, List.set_cons_succ, i64_w, i32_w]
              rfl
             refine pure_ (i := 12) (N := some 52) (v := ?_) (a' := ?_) #[true, true, true, true, true, true, false, true, true, true, true, true, true, false, false] rfl rfl (any_of HT_.out (by kernel_rfl)) (fun _ _ _ h => h) (Or.inl ⟨by rfl, ?_⟩) ?_ ?_
             rotate_left
             ·intro w'
              go_simp
              with_reducible rfl
             rotate_left
             ·simp only [Act.put, List.setIfInBounds_toArray, List.set_cons_zero, List.set_cons_succ, i64_w, i32_w]
              rfl
             refine one_ (i := 6) (N := some 46) #[true, true, true, true, true, true, true, true, true, true, true, true, true, false, false] rfl rfl (one_of HT_.out (by kernel_rfl)) (by decide) (fun K hK => ?_)
             refine goes_ Try.func78 (by kernel_rfl) rfl #[.int .u32 (Go.bits .and .u32 (rd t538 x37_2) x12_1)] (by rfl) rfl rfl (by (try simp only [List.map_toArray, List.map_cons, List.map_nil]); first | done | rfl | (simp only [List.length_drop, List.length_take]; rfl)) ?_
             with_reducible refine (bits_OnesCount32.calls (Go.bits .and .u32 (rd t538 x37_2) x12_1) t553 _ A27.out).mono ?_
             rintro e w' ⟨rfl, ⟨nd, rfl⟩⟩
             refine ⟨_, rfl, ?_⟩
             refine hK.out _ _ ⟨hHeld.1, hHeld.2⟩ (fun hHeld => ?_)
             clear hK K
             refine norm_ (a' := ?_) ?_ ?_
             rotate_left
             ·show Act.put _ (some 46) _ = _
              simp only [Act.put, List.setIfInBounds_toArray, List.set_cons_zero, List.set_cons_succ, i64_w, i32_w]
              rfl
             refine one_ (i := 13) (N := some 53) #[true, true, true, true, true, true, true, true, true, true, true, true, true, true, false] rfl rfl (one_of HT_.out (by kernel_rfl)) (by decide) (fun K hK => ?_)
             refine goes_ Try.func78 (by kernel_rfl) rfl #[.int .u32 (Go.bits .and .u32 (rd t538 x13_2) x12_1)] (by rfl) rfl rfl (by (try simp only [List.map_toArray, List.map_cons, List.map_nil]); first | done | rfl | (simp only [List.length_drop, List.length_take]; rfl)) ?_
             with_reducible refine (bits_OnesCount32.calls (Go.bits .and .u32 (rd t538 x13_2) x12_1) t555 _ A30.out).mono ?_
             rintro e w' ⟨rfl, ⟨nd, rfl⟩⟩
             refine ⟨_, rfl, ?_⟩
             refine hK.out _ _ ⟨hHeld.1, hHeld.2⟩ (fun hHeld => ?_)
             clear hK K
             refine norm_ (a' := ?_) ?_ ?_
             rotate_left
             ·show Act.put _ (some 53) _ = _
              simp only [Act.put, List.setIfInBounds_toArray, List.set_cons_zero, List.set_cons_succ, i64_w, i32_w]
              rfl
             refine pure_ (i := 14) (N := some 54) (v := ?_) (a' := ?_) #[true, true, true, true, true, true, true, true, true, true, true, true, true, true, true] rfl rfl (any_of HT_.out (by kernel_rfl)) (fun _ _ _ h => h) (Or.inl ⟨by rfl, ?_⟩) ?_ ?_
             rotate_left
             ·intro w'
              go_simp
              with_reducible rfl
             rotate_left
             ·simp only [Act.put, List.setIfInBounds_toArray, List.set_cons_zero, List.set_cons_succ, i64_w, i32_w]
              rfl
             refine done_ (done_of HT_.out (by kernel_rfl)) ?_
             try go_wp2
             go_roundg k2
             case measure => have := HK1.out; have := HK2.out; omega
             case rel => exact ⟨(x37_2), (wrap64 (x37_2 + 1)), (by first | rfl | (simp; done) | (simp [*]; done)), (by first | rfl | (simp; done) | (simp [*]; done)), H', ⟨by have := HK1.out; have := HK2.out; omega⟩, ⟨by (with_reducible repeat (first | apply Kd.R_alloc | apply Kd.R_drewN | apply Kd.R_drew)); exact HO_9.out⟩, ⟨by (with_reducible repeat (first | apply Kd.R_alloc | apply Kd.R_drewN | apply Kd.R_drew)); exact HO_10.out⟩, ⟨by (with_reducible repeat (first | apply Kd.R_alloc | apply Kd.R_drewN | apply Kd.R_drew)); exact HO_11.out⟩, ⟨pk BK536⟩, ⟨pbs HB⟩⟩
            ·rw [if_neg c31] at H
             have c31b0 : decide (t555 < t553) = false := decide_eq_false c31
             clear c31
             have H' := Aside0.mk H
             clear H
             try go_wp2
             have n0_ := Aside0.mk (Kd.R_drew HO_9.out)
             have n1_ := Aside0.mk (Kd.R_drew HO_10.out)
             have n2_ := Aside0.mk (Kd.R_drew HO_11.out)
             have n3_ := Aside0.mk (blk_drew BK536.out)
             have n4_ := Aside0.mk (below_drew1 HB.out)
             clear HO_9
             clear HO_10
             clear HO_11
             clear BK536
             clear HB
             have HO_9 := n0_
             have HO_10 := n1_
             have HO_11 := n2_
             have BK536 := n3_
             have HB := n4_
             clear n0_ n1_ n2_ n3_ n4_
             have p552 : 0 ≤ (x37_2 : Int) := of_decide_eq_true (by first | (with_reducible assumption) | assumption)
             have q552 : x37_2 < (t538.length : Int) := of_decide_eq_true (by first | (with_reducible assumption) | assumption)
             obtain ⟨ad552, e552, hx552_0⟩ := Kd.at_int (Kd.R_reads' HO_9.out).2.2 x37_2 p552 q552
             cases e552
             replace p552 := eq_true p552
             replace q552 := eq_true q552
             have p554 : 0 ≤ (x13_2 : Int) := of_decide_eq_true (by first | (with_reducible assumption) | assumption)
             have q554 : x13_2 < (t538.length : Int) := of_decide_eq_true (by first | (with_reducible assumption) | assumption)
             obtain ⟨ad554, e554, hx554_0⟩ := Kd.at_int (Kd.R_reads' HO_9.out).2.2 x13_2 p554 q554
             obtain rfl : ad552 = ad554 := (by injection e554)
             replace p554 := eq_true p554
             replace q554 := eq_true q554
             refine start_ (n := 15) (S := fun w' => w'.cell? (ad552.add (x37_2).toNat) = some (.int .u32 (rd t538 x37_2)) ∧ w'.cell? (ad552.add (x13_2).toNat) = some (.int .u32 (rd t538 x13_2))) (ds := []) #[false, false, false, false, false, false, false, false, false, false, false, false, false, false, false] (by kernel_rfl) rfl rfl ⟨hx552_0, hx554_0⟩ (fun hHeld => ?_); refine with_tabW impl_GreedyCalls.tab11 impl_GreedyCalls.bits11 (fun HT_ HW_ => ?_)
             generalize wr.drew = w33 at HO_9 HO_10 HO_11 BK536 HB hx552_0 hx554_0 hHeld ⊢
             refine pure_ (i := 0) (N := some 40) (v := ?_) (a' := ?_) #[true, false, false, false, false, false, false, false, false, false, false, false, false, false, false] rfl rfl (any_of HT_.out (by kernel_rfl)) (fun _ _ _ h => h) (Or.inl ⟨by rfl, ?_⟩) ?_ ?_
             rotate_left
             ·intro w'
              go_simp
              with_reducible rfl
             rotate_left
             ·simp only [Act.put, List.setIfInBounds_toArray, List.set_cons_zero, List.set_cons_succ, i64_w, i32_w]
              rfl
             refine pure_ (i := 1) (N := some 41) (v := ?_) (a' := ?_) #[true, true, false, false, false, false, false, false, false, false, false, false, false, false, false] rfl rfl (any_of HT_.out (by kernel_rfl)) (fun _ _ _ h => h) (Or.inl ⟨by rfl, ?_⟩) ?_ ?_
             rotate_left
             ·intro w'
              go_simp
              with_reducible rfl
             rotate_left
             ·simp only [Act.put, List.setIfInBounds_toArray, List.set_cons_zero, List.set_cons_succ, i64_w, i32_w]
              rfl
             refine pure_ (i := 2) (N := some 42) (v := ?_) (a' := ?_) #[true, true, true, false, false, false, false, false, false, false, false, false, false, false, false] rfl rfl (any_of HT_.out (by kernel_rfl)) (fun _ _ _ h => h) (Or.inl ⟨by rfl, ?_⟩) ?_ ?_
             rotate_left
             ·intro w'
              go_simp
              with_reducible rfl
             rotate_left
             ·simp only [Act.put, List.setIfInBounds_toArray, List.set_cons_zero, List.set_cons_succ, i64_w, i32_w]
              rfl
             refine pure_ (i := 4) (N := some 44) (v := ?_) (a' := ?_) #[true, true, true, false, true, false, false, false, false, false, false, false, false, false, false] rfl rfl (any_of HT_.out (by kernel_rfl)) (fun _ _ _ h => h) (Or.inl ⟨by rfl, ?_⟩) ?_ ?_
             rotate_left
             ·intro w'
              go_simp
              with_reducible rfl
             rotate_left
             ·simp only [Act.put, List.setIfInBounds_toArray, List.set_cons_zero, List.set_cons_succ, i64_w, i32_w]
              rfl
             refine pure_ (i := 7) (N := some 47) (v := ?_) (a' := ?_) #[true, true, true, false, true, false, false, true, false, false, false, false, false, false, false] rfl rfl (any_of HT_.out (by kernel_rfl)) (fun _ _ _ h => h) (Or.inl ⟨by rfl, ?_⟩) ?_ ?_
             rotate_left
             ·intro w'
              go_simp
              with_reducible rfl
             rotate_left
             ·simp only [Act.put, List.setIfInBounds_toArray, List.set_cons_zero, List.set_cons_succ, i64_w, i32_w]
              rfl
             refine pure_ (i := 8) (N := some 48) (v := ?_) (a' := ?_) #[true, true, true, false, true, false, false, true, true, false, false, false, false, false, false] rfl rfl (any_of HT_.out (by kernel_rfl)) (fun _ _ _ h => h) (Or.inl ⟨by rfl, ?_⟩) ?_ ?_
             rotate_left
             ·intro w'
              go_simp
              with_reducible rfl
             rotate_left
             ·simp only [Act.put, List.setIfInBounds_toArray, List.set_cons_zero, List.set_cons_succ, i64_w, i32_w]
              rfl
             refine pure_ (i := 9) (N := some 49) (v := ?_) (a' := ?_) #[true, true, true, false, true, false, false, true, true, true, false, false, false, false, false] rfl rfl (any_of HT_.out (by kernel_rfl)) (fun _ _ _ h => h) (Or.inl ⟨by rfl, ?_⟩) ?_ ?_
             rotate_left
             ·intro w'
              go_simp
              with_reducible rfl
             rotate_left
             ·simp only [Act.put, List.setIfInBounds_toArray, List.set_cons_zero, List.set_cons_succ, i64_w, i32_w]
              rfl
             refine pure_ (i := 11) (N := some 51) (v := ?_) (a' := ?_) #[true, true, true, false, true, false, false, true, true, true, false, true, false, false, false] rfl rfl (any_of HT_.out (by kernel_rfl)) (fun _ _ _ h => h) (Or.inl ⟨by rfl, ?_⟩) ?_ ?_
             rotate_left
             ·intro w'
              go_simp
              with_reducible rfl
             rotate_left
             ·simp only [Act.put, List.setIfInBounds_toArray, List.set_cons_zero, List.set_cons_succ, i64_w, i32_w]
              rfl
             refine take_ (i := 3) (N := some 43) (v := ?_) (a' := ?_) #[true, true, true, true, true, false, false, true, true, true, false, true, false, false, false] rfl rfl (take_ofW HT_.out HW_.out (by kernel_rfl)) (fun _ _ _ h => h) (Or.inl ⟨by rfl, ?_⟩) hHeld ?_ ?_
             rotate_left
             ·rintro w' ⟨s0, s1⟩
              go_simp
              with_reducible rfl
             rotate_left
             ·simp only [Act.put, List.setIfInBounds_toArray, List.set_cons_zero, List.set_cons_succ, i64_w, i32_w]
              rfl
             refine pure_ (i := 5) (N := some 45) (v := ?_) (a' := ?_) #[true, true, true, true, true, true, false, true, true, true, false, true, false, false, false] rfl rfl (any_of HT_.out (by kernel_rfl)) (fun _ _ _ h => h) (Or.inl ⟨by rfl, ?_⟩) ?_ ?_
             rotate_left
             ·intro w'
              go_simp
              with_reducible rfl
             rotate_left
             ·simp only [Act.put, List.setIfInBounds_toArray, List.set_cons_zero, List.set_cons_succ, i64_w, i32_w]
              rfl
             refine take_ (i := 10) (N := some 50) (v := ?_) (a' := ?_) #[true, true, true, true, true, true, false, true, true, true, true, true, false, false, false] rfl rfl (take_ofW HT_.out HW_.out (by kernel_rfl)) (fun _ _ _ h => h) (Or.inl ⟨by rfl, ?_⟩) hHeld ?_ ?_
             rotate_left
             ·rintro w' ⟨s0, s1⟩
              go_simp
              with_reducible rfl
             rotate_left
             ·simp only [Act.put, List.setIfInBounds_toArray, List.set_cons_zero, List.set_cons_succ, i64_w, i32_w]
              rfl
             refine pure_ (i := 12) (N := some 52) (v := ?_) (a' := ?_) #[true, true, true, true, true, true, false, true, true, true, true, true, true, false, false] rfl rfl (any_of HT_.out (by kernel_rfl)) (fun _ _ _ h => h) (Or.inl ⟨by rfl, ?_⟩) ?_ ?_
             rotate_left
             ·intro w'
              go_simp
              with_reducible rfl
             rotate_left
             ·simp only [Act.put, List.setIfInBounds_toArray, List.set_cons_zero, List.set_cons_succ, i64_w, i32_w]
              rfl
             refine one_ (i := 6) (N := some 46) #[true, true, true, true, true, true, true, true, true, true, true, true, true, false, false] rfl rfl (one_of HT_.out (by kernel_rfl)) (by decide) (fun K hK => ?_)
             refine goes_ Try.func78 (by kernel_rfl) rfl #[.int .u32 (Go.bits .and .u32 (rd t538 x37_2) x12_1)] (by rfl) rfl rfl (by (try simp only [List.map_toArray, List.map_cons, List.map_nil]); first | done | rfl | (simp only [List.length_drop, List.length_take]; rfl)) ?_
             with_reducible refine (bits_OnesCount32.calls (Go.bits .and .u32 (rd t538 x37_2) x12_1) t553 _ A27.out).mono ?_
             rintro e w' ⟨rfl, ⟨nd, rfl⟩⟩
             refine ⟨_, rfl, ?_⟩
             refine hK.out _ _ ⟨hHeld.1, hHeld.2⟩ (fun hHeld => ?_)
             clear hK K
             refine norm_ (a' := ?_) ?_ ?_
             rotate_left
             ·show Act.put _ (some 46) _ = _
              simp only [Act.put, List.setIfInBounds_toArray, List.set_cons_zero, List.set_cons_succ, i64_w, i32_w]
              rfl
             refine one_ (i := 13) (N := some 53) #[true, true, true, true, true, true, true, true, true, true, true, true, true, true, false] rfl rfl (one_of HT_.out (by kernel_rfl)) (by decide) (fun K hK => ?_)
             refine goes_ Try.func78 (by kernel_rfl) rfl #[.int .u32 (Go.bits .and .u32 (rd t538 x13_2) x12_1)] (by rfl) rfl rfl (by (try simp only [List.map_toArray, List.map_cons, List.map_nil]); first | done | rfl | (simp only [List.length_drop, List.length_take]; rfl)) ?_
             with_reducible refine (bits_OnesCount32.calls (Go.bits .and .u32 (rd t538 x13_2) x12_1) t555 _ A30.out).mono ?_
             rintro e w' ⟨rfl, ⟨nd, rfl⟩⟩
             refine ⟨_, rfl, ?_⟩
             refine hK.out _ _ ⟨hHeld.1, hHeld.2⟩ (fun hHeld => ?_)
             clear hK K
             refine norm_ (a' := ?_) ?_ ?_
             rotate_left
             ·show Act.put _ (some 53) _ = _
              simp only [Act.put, List.setIfInBounds_toArray, List.set_cons_zero, List.set_cons_succ, i64_w, i32_w]
              rfl
             refine pure_ (i := 14) (N := some 54) (v := ?_) (a' := ?_) #[true, true, true, true, true, true, true, true, true, true, true, true, true, true, true] rfl rfl (any_of HT_.out (by kernel_rfl)) (fun _ _ _ h => h) (Or.inl ⟨by rfl, ?_⟩) ?_ ?_
             rotate_left
             ·intro w'
              go_simp
              with_reducible rfl
             rotate_left
             ·simp only [Act.put, List.setIfInBounds_toArray, List.set_cons_zero, List.set_cons_succ, i64_w, i32_w]
              rfl
             refine done_ (done_of HT_.out (by kernel_rfl)) ?_
             try go_wp2
             go_roundg k2
             case measure => have := HK1.out; have := HK2.out; omega
             case rel => exact ⟨(x13_2), (wrap64 (x37_2 + 1)), (by first | rfl | (simp; done) | (simp [*]; done)), (by first | rfl | (simp; done) | (simp [*]; done)), H', ⟨by have := HK1.out; have := HK2.out; omega⟩, ⟨by (with_reducible repeat (first | apply Kd.R_alloc | apply Kd.R_drewN | apply Kd.R_drew)); exact HO_9.out⟩, ⟨by (with_reducible repeat (first | apply Kd.R_alloc | apply Kd.R_drewN | apply Kd.R_drew)); exact HO_10.out⟩, ⟨by (with_reducible repeat (first | apply Kd.R_alloc | apply Kd.R_drewN | apply Kd.R_drew)); exact HO_11.out⟩, ⟨pk BK536⟩, ⟨pbs HB⟩⟩
           ·rw [if_neg c29] at H
            exact absurd H (by simp)
          ·rw [if_neg c28] at H
           exact absurd H (by simp)
         ·rw [if_neg c26] at H
          exact absurd H (by simp)
        ·rw [if_neg c25] at H
         exact absurd H (by simp)
       ·rw [if_neg c24] at H
        have c24b0 : decide (x37_2 < (t538.length : Int)) = false := decide_eq_false c24
        clear c24
        by_cases c34 : 0 ≤ x13_2
        ·rw [if_pos c34] at H
         have c34b0 : decide (0 ≤ x13_2) = true := decide_eq_true c34
         clear c34
         by_cases c35 : x13_2 < (t541.length : Int)
         ·rw [if_pos c35] at H
          have c35b0 : decide (x13_2 < (t541.length : Int)) = true := decide_eq_true c35
          clear c35
          by_cases c36 : x11_1.length < 70368744177664
          ·rw [if_pos c36] at H
           have LMc36 := Aside0.mk c36
           clear c36
           obtain ⟨y548, hy548⟩ : ∃ y_ : List (S34), y_ = (x11_1 ++ [(⟨(rd_T34 t541 x13_2).f0, (rd_T34 t541 x13_2).f1⟩ : S34)]) := ⟨_, rfl⟩
           replace H : (if x13_2 < (t538.length : Int) then (impl_GreedyCalls.l0 k2 t538 t541 y548 (Go.bits .andNot .u32 x12_1 (rd t538 x13_2))) else (none)) = some (r1, r2) := by first | (rw [hy548]; with_reducible exact H) | (have H2_ := (Option.bind_some _ _).symm.trans H; rw [hy548]; with_reducible exact H2_) | (have H2_ := (Option.bind_some _ _).symm.trans H; with_reducible exact H2_) | with_reducible exact H | (rw [hy548]; exact H) | exact H
           have Ny548 := Aside0.mk hy548
           clear hy548
           by_cases c37 : x13_2 < (t538.length : Int)
           ·rw [if_pos c37] at H
            have c37b0 : decide (x13_2 < (t538.length : Int)) = true := decide_eq_true c37
            clear c37
            have H' := Aside0.mk H
            clear H
            try go_wp2
            have n0_ := Aside0.mk (Kd.R_drew HO_9.out)
            have n1_ := Aside0.mk (Kd.R_drew HO_10.out)
            have n2_ := Aside0.mk (Kd.R_drew HO_11.out)
            have n3_ := Aside0.mk (blk_drew BK536.out)
            have n4_ := Aside0.mk (below_drew1 HB.out)
            clear HO_9
            clear HO_10
            clear HO_11
            clear BK536
            clear HB
            have HO_9 := n0_
            have HO_10 := n1_
            have HO_11 := n2_
            have BK536 := n3_
            have HB := n4_
            clear n0_ n1_ n2_ n3_ n4_
            obtain ⟨Ao39, co39, eo39⟩ := Kd.R_slice HO_10.out
            (first | subst eo39 | (injection eo39 with f1_ f2_ f3_; have f4_ := f1_.symm; have f5_ := f3_.symm; clear f1_ f2_ f3_; subst f4_; subst f5_))
            have p547 : 0 ≤ (x13_2 : Int) := of_decide_eq_true (by first | (with_reducible assumption) | assumption)
            have q547 : x13_2 < (t541.length : Int) := of_decide_eq_true (by first | (with_reducible assumption) | assumption)
            obtain ⟨ad547, e547, hx547_0, hx547_1⟩ := at_T34 (Kd.R_reads' HO_10.out).2.2 x13_2 p547 q547
            cases e547
            replace p547 := eq_true p547
            replace q547 := eq_true q547
            have p551 : 0 ≤ (x13_2 : Int) := of_decide_eq_true (by first | (with_reducible assumption) | assumption)
            have q551 : x13_2 < (t538.length : Int) := of_decide_eq_true (by first | (with_reducible assumption) | assumption)
            obtain ⟨ad551, e551, hx551_0⟩ := Kd.at_int (Kd.R_reads' HO_9.out).2.2 x13_2 p551 q551
            cases e551
            replace p551 := eq_true p551
            replace q551 := eq_true q551
            refine start_ (n := 15) (S := fun w' => w'.cell? (ad547.add ((x13_2).toNat * 2)) = some (.int .i8 ((rd_T34 t541 x13_2).f0)) ∧ w'.cell? ⟨(ad547.add ((x13_2).toNat * 2)).block, (ad547.add ((x13_2).toNat * 2)).off + 1, none⟩ = some (.int .i8 ((rd_T34 t541 x13_2).f1)) ∧ w'.cell? (ad551.add (x13_2).toNat) = some (.int .u32 (rd t538 x13_2))) (ds := []) #[false, false, false, false, false, false, false, false, false, false, false, false, false, false, false] (by kernel_rfl) rfl rfl ⟨hx547_0, hx547_1, hx551_0⟩ (fun hHeld => ?_); refine with_tabW impl_GreedyCalls.tab14 impl_GreedyCalls.bits14 (fun HT_ HW_ => ?_)
            generalize wr.drew = w38 at HO_9 HO_10 HO_11 BK536 HB hx547_0 hx547_1 hx551_0 hHeld ⊢
            refine pure_ (i := 0) (N := some 57) (v := ?_) (a' := ?_) #[true, false, false, false, false, false, false, false, false, false, false, false, false, false, false] rfl rfl (any_of HT_.out (by kernel_rfl)) (fun _ _ _ h => h) (Or.inl ⟨by rfl, ?_⟩) ?_ ?_
            rotate_left
            ·intro w'
             go_simp
             with_reducible rfl
            rotate_left
            ·simp only [Act.put, List.setIfInBounds_toArray, List.set_cons_zero, List.set_cons_succ, i64_w, i32_w]
             rfl
            refine pure_ (i := 1) (N := some 58) (v := ?_) (a' := ?_) #[true, true, false, false, false, false, false, false, false, false, false, false, false, false, false] rfl rfl (any_of HT_.out (by kernel_rfl)) (fun _ _ _ h => h) (Or.inl ⟨by rfl, ?_⟩) ?_ ?_
            rotate_left
            ·intro w'
             go_simp
             with_reducible rfl
            rotate_left
            ·simp only [Act.put, List.setIfInBounds_toArray, List.set_cons_zero, List.set_cons_succ, i64_w, i32_w]
             rfl
            refine pure_ (i := 2) (N := some 59) (v := ?_) (a' := ?_) #[true, true, true, false, false, false, false, false, false, false, false, false, false, false, false] rfl rfl (any_of HT_.out (by kernel_rfl)) (fun _ _ _ h => h) (Or.inl ⟨by rfl, ?_⟩) ?_ ?_
            rotate_left
            ·intro w'
             go_simp
             with_reducible rfl
            rotate_left
            ·simp only [Act.put, List.setIfInBounds_toArray, List.set_cons_zero, List.set_cons_succ, i64_w, i32_w]
             rfl
            refine pure_ (i := 3) (N := some 60) (v := ?_) (a' := ?_) #[true, true, true, true, false, false, false, false, false, false, false, false, false, false, false] rfl rfl (any_of HT_.out (by kernel_rfl)) (fun _ _ _ h => h) (Or.inl ⟨by rfl, ?_⟩) ?_ ?_
            rotate_left
            ·intro w'
             go_simp
             with_reducible rfl
            rotate_left
            ·simp only [Act.put, List.setIfInBounds_toArray, List.set_cons_zero, List.set_cons_succ, i64_w, i32_w]
             rfl
            refine pure_ (i := 7) (N := some 64) (v := ?_) (a' := ?_) #[true, true, true, true, false, false, false, true, false, false, false, false, false, false, false] rfl rfl (any_of HT_.out (by kernel_rfl)) (fun _ _ _ h => h) (Or.inl ⟨by rfl, ?_⟩) ?_ ?_
            rotate_left
            ·intro w'
             go_simp
             with_reducible rfl
            rotate_left
            ·simp only [Act.put, List.setIfInBounds_toArray, List.set_cons_zero, List.set_cons_succ, i64_w, i32_w]
             rfl
            refine pure_ (i := 8) (N := some 65) (v := ?_) (a' := ?_) #[true, true, true, true, false, false, false, true, true, false, false, false, false, false, false] rfl rfl (any_of HT_.out (by kernel_rfl)) (fun _ _ _ h => h) (Or.inl ⟨by rfl, ?_⟩) ?_ ?_
            rotate_left
            ·intro w'
             go_simp
             with_reducible rfl
            rotate_left
            ·simp only [Act.put, List.setIfInBounds_toArray, List.set_cons_zero, List.set_cons_succ, i64_w, i32_w]
             rfl
            refine pure_ (i := 9) (N := some 66) (v := ?_) (a' := ?_) #[true, true, true, true, false, false, false, true, true, true, false, false, false, false, false] rfl rfl (any_of HT_.out (by kernel_rfl)) (fun _ _ _ h => h) (Or.inl ⟨by rfl, ?_⟩) ?_ ?_
            rotate_left
            ·intro w'
             go_simp
             with_reducible rfl
            rotate_left
            ·simp only [Act.put, List.setIfInBounds_toArray, List.set_cons_zero, List.set_cons_succ, i64_w, i32_w]
             rfl
            refine pure_ (i := 10) (N := some 67) (v := ?_) (a' := ?_) #[true, true, true, true, false, false, false, true, true, true, true, false, false, false, false] rfl rfl (any_of HT_.out (by kernel_rfl)) (fun _ _ _ h => h) (Or.inl ⟨by rfl, ?_⟩) ?_ ?_
            rotate_left
            ·intro w'
             go_simp
             with_reducible rfl
            rotate_left
            ·simp only [Act.put, List.setIfInBounds_toArray, List.set_cons_zero, List.set_cons_succ, i64_w, i32_w]
             rfl
            refine take_ (i := 4) (N := some 61) (v := ?_) (a' := ?_) #[true, true, true, true, true, false, false, true, true, true, true, false, false, false, false] rfl rfl (take_ofW HT_.out HW_.out (by kernel_rfl)) (fun _ _ _ h => h) (Or.inl ⟨by rfl, ?_⟩) hHeld ?_ ?_
            rotate_left
            ·rintro w' ⟨s0, s1, s2⟩
             go_simp
             with_reducible rfl
            rotate_left
            ·simp only [Act.put, List.setIfInBounds_toArray, List.set_cons_zero, List.set_cons_succ, i64_w, i32_w]
             rfl
            refine take_ (i := 11) (N := some 68) (v := ?_) (a' := ?_) #[true, true, true, true, true, false, false, true, true, true, true, true, false, false, false] rfl rfl (take_ofW HT_.out HW_.out (by kernel_rfl)) (fun _ _ _ h => h) (Or.inl ⟨by rfl, ?_⟩) hHeld ?_ ?_
            rotate_left
            ·rintro w' ⟨s0, s1, s2⟩
             go_simp
             with_reducible rfl
            rotate_left
            ·simp only [Act.put, List.setIfInBounds_toArray, List.set_cons_zero, List.set_cons_succ, i64_w, i32_w]
             rfl
            refine pure_ (i := 12) (N := some 69) (v := ?_) (a' := ?_) #[true, true, true, true, true, false, false, true, true, true, true, true, true, false, false] rfl rfl (any_of HT_.out (by kernel_rfl)) (fun _ _ _ h => h) (Or.inl ⟨by rfl, ?_⟩) ?_ ?_
            rotate_left
            ·intro w'
             go_simp
             with_reducible rfl
            rotate_left
            ·simp only [Act.put, List.setIfInBounds_toArray, List.set_cons_zero, List.set_cons_succ, i64_w, i32_w]
             rfl
            refine one_ (i := 5) (N := some 62) #[true, true, true, true, true, true, false, true, true, true, true, true, true, false, false] rfl rfl (one_of HT_.out (by kernel_rfl)) (by decide) (fun K hK => ?_)
            refine value_ (w1 := ?_) (v := ?_) (by rfl) rfl ?_ ?_
            rotate_left 2
            ·go_simp
             constructor
             ·rfl
             ·rfl
            refine hK.out _ _ ⟨(World.cell?_alloc_lt _ _ _ (World.block_lt_of_cell? _ _ (hHeld.1))).trans (hHeld.1), (World.cell?_alloc_lt _ _ _ (World.block_lt_of_cell? _ _ (hHeld.2.1))).trans (hHeld.2.1), (World.cell?_alloc_lt _ _ _ (World.block_lt_of_cell? _ _ (hHeld.2.2))).trans (hHeld.2.2)⟩ (fun hHeld => ?_)
            clear hK K
            refine norm_ (a' := ?_) ?_ ?_
            rotate_left
            ·show Act.put _ (some 62) _ = _
             simp only [Act.put, List.setIfInBounds_toArray, List.set_cons_zero, List.set_cons_succ, i64_w, i32_w]
             rfl
            refine one_ (i := 6) (N := some 63) #[true, true, true, true, true, true, true, true, true, true, true, true, true, false, false] rfl rfl (one_of HT_.out (by kernel_rfl)) (by decide) (fun K hK => ?_)
            refine Kd.R_append_step k34 (w0 := w) w.heap.size (by rfl) (.tmp 57) (.tmp 62) 29 34 (.agg #[(.int .i8 0), (.int .i8 0)]) 2 rfl Try.underlying29 info34 rfl (by decide) (by omega) u11 x11_1 (⟨(rd_T34 t541 x13_2).f0, (rd_T34 t541 x13_2).f1⟩ : S34) [.int .i8 ((rd_T34 t541 x13_2).f0), .int .i8 ((rd_T34 t541 x13_2).f1)] (fun k_ => some k_ ≠ (.slice (some ad547) t541.length co39 : Value).ownBlock) (fun _ => False) rfl rfl ?aP (fun _ hk => hk.elim) ?aF ?aO ?aB ?aS ?aL ?_
            (case aP => exact k34_mkM _ _ _ (⟨(rd_T34 t541 x13_2).f0, (rd_T34 t541 x13_2).f1⟩ : S34))
            (case aB => exact (pbs HB))
            (case aF => exact (fun k_ hk => Kd.fresh' (Kd.R_lt (by (with_reducible repeat (first | apply Kd.R_alloc | apply Kd.R_drewN | apply Kd.R_drew)); exact HO_10.out)) k_ hk))
            (case aO => exact (by (with_reducible repeat (first | apply Kd.R_alloc | apply Kd.R_drewN | apply Kd.R_drew)); exact HO_11.out))
            (case aS => exact (below_size (by repeat (first | (with_reducible first | exact HB.out | apply below_alloc | apply pw_below_drewN | apply below_drew1 | refine below_set ?_ GE536.out) | exact HB.out))))
            (case aL => have := LMc36.out; omega)
            intro v549 w40 ho hb hg hat
            (first | have HS0_ := cell_grown hg (hHeld.1) (by first | (rw [add_block]; exact (HO_10.out.1 _ rfl)) | (show some (Addr.add _ _).block ≠ _; rw [add_block]; exact (HO_10.out.1 _ rfl)) | exact (HO_10.out.1 _ rfl)) | have HS0_ := cell_grown hg (cell_unalloc (hHeld.1) (by first | (rw [add_block]; exact Kd.R_lt HO_10.out _ rfl) | (show (Addr.add _ _).block < _; rw [add_block]; exact Kd.R_lt HO_10.out _ rfl) | exact Kd.R_lt HO_10.out _ rfl)) (by first | (rw [add_block]; exact (HO_10.out.1 _ rfl)) | (show some (Addr.add _ _).block ≠ _; rw [add_block]; exact (HO_10.out.1 _ rfl)) | exact (HO_10.out.1 _ rfl)))
            (first | have HS1_ := cell_grown hg (hHeld.2.1) (by first | (rw [add_block]; exact (HO_10.out.1 _ rfl)) | (show some (Addr.add _ _).block ≠ _; rw [add_block]; exact (HO_10.out.1 _ rfl)) | exact (HO_10.out.1 _ rfl)) | have HS1_ := cell_grown hg (cell_unalloc (hHeld.2.1) (by first | (rw [add_block]; exact Kd.R_lt HO_10.out _ rfl) | (show (Addr.add _ _).block < _; rw [add_block]; exact Kd.R_lt HO_10.out _ rfl) | exact Kd.R_lt HO_10.out _ rfl)) (by first | (rw [add_block]; exact (HO_10.out.1 _ rfl)) | (show some (Addr.add _ _).block ≠ _; rw [add_block]; exact (HO_10.out.1 _ rfl)) | exact (HO_10.out.1 _ rfl)))
            (first | have HS2_ := cell_grown hg (hHeld.2.2) (by first | (rw [add_block]; exact (((Kd.R_apart' HO_9.out (Kd.R_typed HO_11.out) (by decide)).1 _ rfl).2)) | (show some (Addr.add _ _).block ≠ _; rw [add_block]; exact (((Kd.R_apart' HO_9.out (Kd.R_typed HO_11.out) (by decide)).1 _ rfl).2)) | exact (((Kd.R_apart' HO_9.out (Kd.R_typed HO_11.out) (by decide)).1 _ rfl).2)) | have HS2_ := cell_grown hg (cell_unalloc (hHeld.2.2) (by first | (rw [add_block]; exact Kd.R_lt HO_9.out _ rfl) | (show (Addr.add _ _).block < _; rw [add_block]; exact Kd.R_lt HO_9.out _ rfl) | exact Kd.R_lt HO_9.out _ rfl)) (by first | (rw [add_block]; exact (((Kd.R_apart' HO_9.out (Kd.R_typed HO_11.out) (by decide)).1 _ rfl).2)) | (show some (Addr.add _ _).block ≠ _; rw [add_block]; exact (((Kd.R_apart' HO_9.out (Kd.R_typed HO_11.out) (by decide)).1 _ rfl).2)) | exact (((Kd.R_apart' HO_9.out (Kd.R_typed HO_11.out) (by decide)).1 _ rfl).2)))
            rw [← Ny548.out] at ho
            have n0_ := Aside0.mk (Kd.R_over' (by (with_reducible repeat (first | apply Kd.R_alloc | apply Kd.R_drewN | apply Kd.R_drew)); exact HO_9.out) (Kd.R_typed (by (with_reducible repeat (first | apply Kd.R_alloc | apply Kd.R_drewN | apply Kd.R_drew)); exact HO_11.out)) (by decide) hg)
            have n1_ := Aside0.mk (Kd.R_after (ok := (fun _ => True)) (by (with_reducible repeat (first | apply Kd.R_alloc | apply Kd.R_drewN | apply Kd.R_drew)); exact Kd.R_mono HO_10.out (fun _ hk => ⟨trivial, hk⟩)) hg hat)
            have n2_ := Aside0.mk (blk_grown (g := gb536) (o := .cells (mixA (Value.int .u16) [.int .i8 a0_0, .int .i8 a0_1] a0_2) 32 (0, 0)) (pk BK536) hg (Kd.R_ne HO_11.out BK536.out (by decide)))
            have n3_ := Aside0.mk (hb)
            have n4_ := Aside0.mk (ho)
            clear HO_9
            clear HO_10
            clear BK536
            clear HB
            clear HO_11
            have HO_9 := n0_
            have HO_10 := n1_
            have BK536 := n2_
            have HB := n3_
            have HO550 := n4_
            clear n0_ n1_ n2_ n3_ n4_
            clear ho hb hg hat
            refine hK.out _ _ ⟨HS0_, HS1_, HS2_⟩ (fun hHeld => ?_)
            clear hK K
            refine norm_ (a' := ?_) ?_ ?_
            rotate_left
            ·show Act.put _ (some 63) _ = _
             simp only [Act.put, List.setIfInBounds_toArray, List.set_cons_zero, List.set_cons_succ, i64_w, i32_w]
             rfl
            refine pure_ (i := 13) (N := some 11) (v := ?_) (a' := ?_) #[true, true, true, true, true, true, true, true, true, true, true, true, true, true, false] rfl rfl (any_of HT_.out (by kernel_rfl)) (fun _ _ _ h => h) (Or.inl ⟨by rfl, ?_⟩) ?_ ?_
            rotate_left
            ·intro w'
             go_simp
             with_reducible rfl
            rotate_left
            ·simp only [Act.put, List.setIfInBounds_toArray, List.set_cons_zero, List.set_cons_succ, i64_w, i32_w]
             rfl
            refine pure_ (i := 14) (N := some 12) (v := ?_) (a' := ?_) #[true, true, true, true, true, true, true, true, true, true, true, true, true, true, true] rfl rfl (any_of HT_.out (by kernel_rfl)) (fun _ _ _ h => h) (Or.inl ⟨by rfl, ?_⟩) ?_ ?_
            rotate_left
            ·intro w'
             go_simp
             with_reducible rfl
            rotate_left
            ·simp only [Act.put, List.setIfInBounds_toArray, List.set_cons_zero, List.set_cons_succ, i64_w, i32_w]
             rfl
            refine done_ (done_of HT_.out (by kernel_rfl)) ?_
            try go_wp2
            go_roundg k2
            case measure => have := HK1.out; have := HK2.out; omega
            case rel => exact ⟨(y548), (Go.bits .andNot .u32 x12_1 (rd t538 x13_2)), (by first | rfl | (simp; done) | (simp [*]; done)), H', ⟨by have := HK1.out; have := HK2.out; omega⟩, ⟨by (with_reducible repeat (first | apply Kd.R_alloc | apply Kd.R_drewN | apply Kd.R_drew)); exact HO_9.out⟩, ⟨by (with_reducible repeat (first | apply Kd.R_alloc | apply Kd.R_drewN | apply Kd.R_drew)); exact Kd.R_mono HO_10.out (fun _ hk => hk.2)⟩, ⟨by (with_reducible repeat (first | apply Kd.R_alloc | apply Kd.R_drewN | apply Kd.R_drew)); exact HO550.out⟩, ⟨pk BK536⟩, ⟨pbs HB⟩⟩
           ·rw [if_neg c37] at H
            exact absurd H (by simp)
          ·rw [if_neg c36] at H
           exact absurd H (by simp)
         ·rw [if_neg c35] at H
          exact absurd H (by simp)
        ·rw [if_neg c34] at H
         exact absurd H (by simp)
 ·rw [if_neg c5] at H
  have c5b0 : (t537 == 0) = false := beq_eq_false_iff_ne.mpr c5
  have c5b1 : (t537 != 0) = true := bne_iff_ne.mpr c5
  simp only [Option.some.injEq, Prod.mk.injEq] at H
  obtain ⟨rfl, rfl⟩ := H
  go_enter Try.func30, Try.ntmps30
  go_wp2_with (first | ((with_reducible refine gate_dst (N := 3) rfl ?_); refine box_event ?hg (N := 3) ?hd (cs := (mixA (Value.int .u16) [.int .i8 a0_0, .int .i8 a0_1] a0_2)) (t := 32) ?hr ?_; (case hd => rfl); (case hg => rfl); (case hr => first | (go_simp; done) | (go_simp; rfl)); intro gb536 hg w41 hbox hb; have n0_ := bst HB hb; have n1_ := Aside0.mk (hbox); have n2_ := gwl HB hg; have n3_ := gwl HB hg; clear HB; have HB := n0_; have BK536 := n1_; have GW536 := n2_; have GE536 := n3_; clear n0_ n1_ n2_ n3_; clear hb hbox hg) | ((with_reducible refine gate_dst (N := 15) rfl ?_); refine wpList_run0 (v := .agg (mixA (Value.int .u16) [.int .i8 a0_0, .int .i8 a0_1] a0_2)) rfl (load_mix_run (P := Try.prog) 32 (.tmp 3) rfl gb536 rfl (show World.rangeAt _ gb536 0 ([.int .i8 a0_0, .int .i8 a0_1] ++ a0_2.l.map (Value.int .u16)) from mix_range (show (World.heap _)[gb536]? = some (.cells (mixA (Value.int .u16) [.int .i8 a0_0, .int .i8 a0_1] a0_2) 32 (0, 0)) from by (with_reducible repeat (first | refine blk_drewN ?_ _ | refine blk_drew ?_ | refine blk_alloc ?_ _)); exact BK536.out)) Try.underlying32 rfl (by kernel_rfl) rfl) ?_) | ((with_reducible refine gate_callee (f := 75) rfl ?_); refine goesL_ (some 18) rfl rfl Try.func75 (by kernel_rfl) rfl #[.agg (mixA (Value.int .u16) [.int .i8 a0_0, .int .i8 a0_1] a0_2), .slice A1 l1.length c1, .int .i64 a2] rfl (by (try simp only [List.map_toArray, List.map_cons, List.map_nil]); first | done | rfl | (simp only [List.length_drop, List.length_take]; rfl)) ?_; (with_reducible refine (impl_callCode.calls k a0_0 a0_1 a0_2 _ _ l1 a2 t537 _ ?side1 ?side2 A4.out).mono ?_); (case side1 => repeat (first | exact (Kd.C_below HR1.out HB.out) | (with_reducible refine Kd.C_alloc ?_ _) | (with_reducible refine Kd.C_drewN ?_ _) | (with_reducible refine Kd.C_drew ?_))); (case side2 => exact HC1.out); rintro e w43 ⟨rfl, hb⟩; refine ⟨_, rfl, ?_⟩; have n0_ := bkb BK536 hb; have n1_ := bst HB hb; clear BK536; clear HB; have BK536 := n0_; have HB := n1_; clear n0_ n1_; (try clear hb); (try clear hb2); (try clear hk); (try clear hi)))
  go_ret2
  exact ⟨_, by first | rfl | (simp [errW_none, errW_some] <;> rfl) | (simp [*, errW_none, errW_some] <;> rfl), by first | exact Kd.R_nil _ _ _ _ _ | exact Kd.N_nil _ _ _ _ _ | exact Kd.V_nil _ _ _ _ _ | exact Kd.Q_nil _ _ _ _ _ | exact Kd.S_nil _ _ _ _ _, pbs HB⟩
end Go.Proofs.Ytoiiabnnddlcbaa.PB
end
