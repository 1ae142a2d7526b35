/- The statement FnExactWhereNow of this program: what its proof uses, part 10 of 13. The call returns true for all arguments. No condition of its own. -/
import Derived.Test.YtdedijjbdkoekaaDoorZFnExactWhereNow8
section
namespace Go.Proofs.YtdedijjbdkoekaaDoor.PB
open Go.RowKit Go.Proofs.YtdedijjbdkoekaaDoorW.PrintWords Go.Proofs.YtdedijjbdkoekaaDoorW.PrintLast Go.Proofs.YtdedijjbdkoekaaDoorW.PrintMore Go.Proofs.YtdedijjbdkoekaaDoor.La
attribute [local go_sem] max2_int min2_int max_two min_two max_three min_three max_four min_four   -- for this text's walks alone
set_option linter.unusedVariables false
set_option linter.unusedSimpArgs false
mutual
def impl_anywhere.l0 : Nat → List (S41) → Int → Int → LA 40 → Option (LA 40)
 | 0, _, _, _, _ => none
 | k + 1, x9, x10, x11, x385000 => if x11 < x10 then (if 0 ≤ x11 then (if x11 < (x9.length : Int) then (impl_anywhere.l1 k x9 x10 x11 0 x385000 ((rd_T41 x9 x11).f0) ((rd_T41 x9 x11).f1)) else (none)) else (none)) else (some x385000)
def impl_anywhere.l1 : Nat → List (S41) → Int → Int → Int → LA 40 → Int → Int → Option (LA 40)
 | 0, _, _, _, _, _, _, _ => none
 | k + 1, x9, x10, x11, x15, x385000, x390000, x390001 => if x15 < 4 then ((impl_Crowd_set.f x385000 x390000 x390001 x15).bind fun t390 => (impl_anywhere.l1 k x9 x10 x11 (wrap64 (x15 + 1)) t390 x390000 x390001)) else (impl_anywhere.l0 k x9 x10 (wrap64 (x11 + 1)) x385000)
end
def impl_anywhere.f (k : Nat) (a0_0 : Int) (a0_1 : Int) (a0_2 : LA 10) : Option (LA 40) := (impl_Room_free.f k a0_0 a0_1 a0_2).bind fun t385 => (impl_anywhere.l0 k t385 (t385.length : Int) 0 (LA.zero 40))
theorem impl_anywhere.mono_l : ∀ k, (∀ y0 y1 y2 y3, LeO (impl_anywhere.l0 k y0 y1 y2 y3) (impl_anywhere.l0 (k + 1) y0 y1 y2 y3)) ∧ (∀ y0 y1 y2 y3 y4 y5 y6, LeO (impl_anywhere.l1 k y0 y1 y2 y3 y4 y5 y6) (impl_anywhere.l1 (k + 1) y0 y1 y2 y3 y4 y5 y6))
 | 0 => ⟨fun _ _ _ _ r h => by simp [impl_anywhere.l0] at h, fun _ _ _ _ _ _ _ r h => by simp [impl_anywhere.l1] at h⟩
 | k + 1 => by
  obtain ⟨ih0, ih1⟩ := impl_anywhere.mono_l k
  refine ⟨?_, ?_⟩
  ·intro y0 y1 y2 y3
   unfold impl_anywhere.l0
   repeat' first
   | (with_reducible exact ih0 _ _ _ _)
   | (with_reducible exact ih1 _ _ _ _ _ _ _)
   | (with_reducible exact impl_Room_free.mono _ _ _ _)
   | (with_reducible exact LeO.refl _)
   | (with_reducible exact LeO.none _)
   | (with_reducible refine LeO.ite ?_ ?_)
   | (with_reducible refine LeO.bind ?_ (fun _ => ?_))
   | exact ih0 _ _ _ _
   | exact ih1 _ _ _ _ _ _ _
   | exact impl_Room_free.mono _ _ _ _
   | exact LeO.none _
   | refine LeO.ite ?_ ?_
   | refine LeO.bind ?_ (fun _ => ?_)
  ·intro y0 y1 y2 y3 y4 y5 y6
   unfold impl_anywhere.l1
   repeat' first
   | (with_reducible exact ih0 _ _ _ _)
   | (with_reducible exact ih1 _ _ _ _ _ _ _)
   | (with_reducible exact impl_Room_free.mono _ _ _ _)
   | (with_reducible exact LeO.refl _)
   | (with_reducible exact LeO.none _)
   | (with_reducible refine LeO.ite ?_ ?_)
   | (with_reducible refine LeO.bind ?_ (fun _ => ?_))
   | exact ih0 _ _ _ _
   | exact ih1 _ _ _ _ _ _ _
   | exact impl_Room_free.mono _ _ _ _
   | exact LeO.none _
   | refine LeO.ite ?_ ?_
   | refine LeO.bind ?_ (fun _ => ?_)
theorem impl_anywhere.mono : ∀ a0 a1 a2 k, LeO (impl_anywhere.f k a0 a1 a2) (impl_anywhere.f (k + 1) a0 a1 a2) := by
 intro a0 a1 a2 k
 obtain ⟨ih0, ih1⟩ := impl_anywhere.mono_l k
 unfold impl_anywhere.f
 repeat' first
   | (with_reducible exact ih0 _ _ _ _)
   | (with_reducible exact ih1 _ _ _ _ _ _ _)
   | (with_reducible exact impl_Room_free.mono _ _ _ _)
   | (with_reducible exact LeO.refl _)
   | (with_reducible exact LeO.none _)
   | (with_reducible refine LeO.ite ?_ ?_)
   | (with_reducible refine LeO.bind ?_ (fun _ => ?_))
   | exact ih0 _ _ _ _
   | exact ih1 _ _ _ _ _ _ _
   | exact impl_Room_free.mono _ _ _ _
   | exact LeO.none _
   | refine LeO.ite ?_ ?_
   | refine LeO.bind ?_ (fun _ => ?_)
set_option maxHeartbeats 8000000 in
set_option maxRecDepth 100000 in
theorem impl_anywhere.calls (k : Nat) (a0_0 : Int) (a0_1 : Int) (a0_2 : LA 10) (r : LA 40) (w : World) (h : impl_anywhere.f k a0_0 a0_1 a0_2 = some r) :
  Calls Tryd.prog 56 #[.agg (mixA (Value.int .u16) [.int .i8 a0_0, .int .i8 a0_1] a0_2)] w fun e w' => e = .returned (.agg (mixA (Value.int .u16) [] r)) ∧ Below w.heap.size w w' := by
 have hu31 := Tryd.underlying31
 have hu41 := Tryd.underlying41
 have HB := Aside0.mk (Below.refl w.heap.size w)
 have H : ((impl_Room_free.f k a0_0 a0_1 a0_2).bind fun t385 => (impl_anywhere.l0 k t385 (t385.length : Int) 0 (LA.zero 40))) = some r := h
 clear h
 replace H := Option.bind_eq_some_iff.mp H
 obtain ⟨t385, A20, H⟩ := H
 replace H : (impl_anywhere.l0 k t385 (t385.length : Int) 0 (LA.zero 40)) = some r := H
 have A2 := Aside0.mk A20
 clear A20
 have H' := Aside0.mk H
 clear H
 go_enter Tryd.func56, Tryd.ntmps56
 go_wp2_with (first | ((with_reducible refine gate_dst (N := 1) rfl ?_); refine box_event ?hg (N := 1) ?hd (cs := (mixA (Value.int .u16) [.int .i8 a0_0, .int .i8 a0_1] a0_2)) (t := 31) ?hr ?_; (case hd => rfl); (case hg => rfl); (case hr => first | (go_simp; done) | (go_simp; rfl)); intro gb382 hg w3 hbox hb; have n0_ := bst HB hb; have n1_ := Aside0.mk (hbox); have n2_ := gwl HB hg; have n3_ := gwl HB hg; clear HB; have HB := n0_; have BK382 := n1_; have GW382 := n2_; have GE382 := n3_; clear n0_ n1_ n2_ n3_; clear hb hbox hg) | ((with_reducible refine gate_dst (N := 2) rfl ?_); refine box_event ?hg (N := 2) ?hd (cs := (mixA (Value.int .u16) [] (LA.zero 40))) (t := 28) ?hr ?_; (case hd => rfl); (case hg => rfl); (case hr => first | (go_simp; done) | (go_simp; rfl)); intro gb383 hg w4 hbox hb; have n0_ := bkb BK382 hb; have n1_ := bst HB hb; have n2_ := Aside0.mk (hbox); have n3_ := gwl HB hg; have n4_ := gwl HB hg; have n5_ := nbl BK382 hg; have n6_ := nbg BK382 hg; clear BK382; clear HB; have BK382 := n0_; have HB := n1_; have BK383 := n2_; have GW383 := n3_; have GE383 := n4_; have NB382_383 := n5_; have NB383_382 := n6_; clear n0_ n1_ n2_ n3_ n4_ n5_ n6_; clear hb hbox hg) | ((with_reducible refine gate_dst (N := 3) rfl ?_); refine box_event ?hg (N := 3) ?hd (cs := (mixA (Value.int .u16) [] (LA.zero 40))) (t := 28) ?hr ?_; (case hd => rfl); (case hg => rfl); (case hr => first | (go_simp; done) | (go_simp; rfl)); intro gb384 hg w5 hbox hb; have n0_ := bkb BK382 hb; have n1_ := bkb BK383 hb; have n2_ := bst HB hb; have n3_ := Aside0.mk (hbox); have n4_ := gwl HB hg; have n5_ := gwl HB hg; have n6_ := nbl BK382 hg; have n7_ := nbg BK382 hg; have n8_ := nbl BK383 hg; have n9_ := nbg BK383 hg; clear BK382; clear BK383; clear HB; have BK382 := n0_; have BK383 := n1_; have HB := n2_; have BK384 := n3_; have GW384 := n4_; have GE384 := n5_; have NB382_384 := n6_; have NB384_382 := n7_; have NB383_384 := n8_; have NB384_383 := n9_; clear n0_ n1_ n2_ n3_ n4_ n5_ n6_ n7_ n8_ n9_; clear hb hbox hg) | ((with_reducible refine gate_store (p := 3) rfl ?_); refine wpList_store_lmix rfl 28 _ _ rfl gb384 (e := (Value.int .u16)) (cs' := []) (W' := (LA.zero 40)) (cs := []) (W := (LA.zero 40)) (T := 28) rfl rfl (pk BK384) rfl (by kernel_rfl) rfl (fun _ => rfl) rfl ?_; intro w6 hi hk hbl; have n0_ := Aside0.mk (KeepBut.blk hk (g' := gb382) (o := .cells (mixA (Value.int .u16) [.int .i8 a0_0, .int .i8 a0_1] a0_2) 31 (0, 0)) (pk BK382) NB382_384.out (by simp)); have n1_ := Aside0.mk (KeepBut.blk hk (g' := gb383) (o := .cells (mixA (Value.int .u16) [] (LA.zero 40)) 28 (0, 0)) (pk BK383) NB383_384.out (by simp)); have n2_ := Aside0.mk (hbl _ _ (pbs HB) GE384.out); have n3_ := Aside0.mk (hi); clear BK382; clear BK383; clear HB; clear BK384; have BK382 := n0_; have BK383 := n1_; have HB := n2_; have BK384 := n3_; clear n0_ n1_ n2_ n3_; clear hi hk hbl) | ((with_reducible refine gate_dst (N := 8) rfl ?_); refine wpList_run0 (v := .agg (mixA (Value.int .u16) [.int .i8 a0_0, .int .i8 a0_1] a0_2)) rfl (load_mix_run (P := Tryd.prog) 31 (.tmp 1) rfl gb382 rfl (show World.rangeAt _ gb382 0 ([.int .i8 a0_0, .int .i8 a0_1] ++ a0_2.l.map (Value.int .u16)) from mix_range (show (World.heap _)[gb382]? = some (.cells (mixA (Value.int .u16) [.int .i8 a0_0, .int .i8 a0_1] a0_2) 31 (0, 0)) from by (with_reducible repeat (first | refine blk_drewN ?_ _ | refine blk_drew ?_ | refine blk_alloc ?_ _)); exact BK382.out)) Tryd.underlying31 rfl (by kernel_rfl) rfl) ?_) | ((with_reducible refine gate_callee (f := 28) rfl ?_); refine goesL_ (some 9) rfl rfl Tryd.func28 (by kernel_rfl) rfl #[.agg (mixA (Value.int .u16) [.int .i8 a0_0, .int .i8 a0_1] a0_2)] rfl (by (try simp only [List.map_toArray, List.map_cons, List.map_nil]); first | done | rfl | (simp only [List.length_drop, List.length_take]; rfl)) ?_; (with_reducible refine (impl_Room_free.calls k a0_0 a0_1 a0_2 t385 _ A2.out).mono ?_); rintro e w8 ⟨v386, rfl, ho0, hb⟩; refine ⟨_, rfl, ?_⟩; have n0_ := Aside0.mk (Kd.R_lower ho0 (below_size (by repeat (first | (with_reducible first | exact HB.out | apply below_alloc | apply pw_below_drewN | apply below_drew1 | refine below_set ?_ GE382.out | refine below_set ?_ GE383.out | refine below_set ?_ GE384.out) | exact HB.out)))); have n1_ := bkb BK382 hb; have n2_ := bkb BK383 hb; have n3_ := bkb BK384 hb; have n4_ := bst HB hb; clear BK382; clear BK383; clear BK384; clear HB; have HO387 := n0_; have BK382 := n1_; have BK383 := n2_; have BK384 := n3_; have HB := n4_; clear n0_ n1_ n2_ n3_ n4_; (try clear hb); (try clear hb2); (try clear hk); (try clear hi); (try clear ho0); obtain ⟨Ao9, co9, eo9⟩ := Kd.R_slice HO387.out; subst eo9))
 go_loopg [11] k (fun kq v11 w' => ∃ (x11_1 : Int) (x385000_1 : LA 40), v11 = .int .i64 x11_1 ∧ Aside0 (impl_anywhere.l0 kq t385 (t385.length : Int) x11_1 x385000_1 = some r) ∧ Aside0 (kq ≤ k) ∧ Aside0 (Kd.R k41 41 w' w.heap.size (fun _ => True) (.slice Ao9 t385.length co9) t385) ∧ Aside0 (w'.heap[gb382]? = some (.cells (mixA (Value.int .u16) [.int .i8 a0_0, .int .i8 a0_1] a0_2) 31 (0, 0))) ∧ Aside0 (w'.heap[gb383]? = some (.cells (mixA (Value.int .u16) [] (LA.zero 40)) 28 (0, 0))) ∧ Aside0 (w'.heap[gb384]? = some (.cells (mixA (Value.int .u16) [] x385000_1) 28 (0, 0))) ∧ Aside0 (Below w.heap.size w w'))
 case atStart => exact ⟨(0), ((LA.zero 40)), (by first | rfl | (simp; done) | (simp [*]; done)), H', ⟨Nat.le_refl _⟩, ⟨by (with_reducible repeat (first | apply Kd.R_alloc | apply Kd.R_drewN | apply Kd.R_drew)); exact HO387.out⟩, ⟨pk BK382⟩, ⟨pk BK383⟩, ⟨pk BK384⟩, ⟨pbs HB⟩⟩
 case round =>
  clear H'
  try clear c2
  try clear p2
  try clear c5
  obtain ⟨x11_1, x385000_1, rfl, HA, HK1, HO_9, BK382, BK383, BK384, HB⟩ := hrel
  cases gk with
  | zero => exact absurd HA.out (by simp [impl_anywhere.l0])
  | succ k1 =>
   have H := HA.out
   clear HA
   simp only [impl_anywhere.l0] at H
   by_cases c10 : x11_1 < (t385.length : Int)
   ·rw [if_pos c10] at H
    have c10b0 : decide (x11_1 < (t385.length : Int)) = true := decide_eq_true c10
    clear c10
    by_cases c11 : 0 ≤ x11_1
    ·rw [if_pos c11] at H
     have c11b0 : decide (0 ≤ x11_1) = true := decide_eq_true c11
     clear c11
     by_cases c12 : x11_1 < (t385.length : Int)
     ·rw [if_pos c12] at H
      have c12b0 : decide (x11_1 < (t385.length : Int)) = true := decide_eq_true c12
      clear c12
      have H' := Aside0.mk H
      clear H
      have p388 : 0 ≤ (x11_1 : Int) := of_decide_eq_true (by first | (with_reducible assumption) | assumption)
      have q388 : x11_1 < (t385.length : Int) := of_decide_eq_true (by first | (with_reducible assumption) | assumption)
      obtain ⟨ad388, e388, hx388_0, hx388_1⟩ := at_T41 (Kd.R_reads' HO_9.out).2.2 x11_1 p388 q388
      cases e388
      replace p388 := eq_true p388
      replace q388 := eq_true q388
      go_wp2_with (first | ((with_reducible refine gate_dst (N := 5) rfl ?_); refine box_event ?hg (N := 5) ?hd (cs := #[.int .i8 0, .int .i8 0]) (t := 41) ?hr ?_; (case hd => rfl); (case hg => rfl); (case hr => first | (go_simp; done) | (go_simp; rfl)); intro gb389 hg w13 hbox hb; have n0_ := Aside0.mk (Kd.R_below (Kd.R_elderB (by (with_reducible repeat (first | apply Kd.R_alloc | apply Kd.R_drewN | apply Kd.R_drew)); exact HO_9.out) gb389 (Nat.le_of_eq hg.symm)) hb); have n1_ := bkb BK382 hb; have n2_ := bkb BK383 hb; have n3_ := bkb BK384 hb; have n4_ := bst HB hb; have n5_ := Aside0.mk (hbox); have n6_ := gwl HB hg; have n7_ := gwl HB hg; have n8_ := nbl BK382 hg; have n9_ := nbg BK382 hg; have n10_ := nbl BK383 hg; have n11_ := nbg BK383 hg; have n12_ := nbl BK384 hg; have n13_ := nbg BK384 hg; clear HO_9; clear BK382; clear BK383; clear BK384; clear HB; have HO_9 := n0_; have BK382 := n1_; have BK383 := n2_; have BK384 := n3_; have HB := n4_; have BK389 := n5_; have GW389 := n6_; have GE389 := n7_; have NB382_389 := n8_; have NB389_382 := n9_; have NB383_389 := n10_; have NB389_383 := n11_; have NB384_389 := n12_; have NB389_384 := n13_; clear n0_ n1_ n2_ n3_ n4_ n5_ n6_ n7_ n8_ n9_ n10_ n11_ n12_ n13_; clear hb hbox hg; have hnb14 := NB389_382.out; have hnc14 := NB382_389.out; have hnb15 := NB389_383.out; have hnc15 := NB383_389.out; have hnb16 := NB389_384.out; have hnc16 := NB384_389.out; have hcz17_0 : w13.cell? ⟨gb389, 0, none⟩ = some (.int .i8 0) := (blk_cell BK389.out 0).trans rfl; have hcz17_1 : w13.cell? ⟨gb389, 1, none⟩ = some (.int .i8 0) := (blk_cell BK389.out 1).trans rfl; have hfz17_0 := blk_frozen BK389.out 0; have hfz17_1 := blk_frozen BK389.out 1))
      go_loopg [15] k1 (fun kq v15 w' => ∃ (x15_2 : Int) (x385000_2 : LA 40), v15 = .int .i64 x15_2 ∧ Aside0 (impl_anywhere.l1 kq t385 (t385.length : Int) x11_1 x15_2 x385000_2 ((rd_T41 t385 x11_1).f0) ((rd_T41 t385 x11_1).f1) = some r) ∧ Aside0 (kq ≤ k1) ∧ Aside0 (Kd.R k41 41 w' w.heap.size (fun k_ => k_ ≠ gb389) (.slice (some ad388) t385.length co9) t385) ∧ Aside0 (w'.heap[gb382]? = some (.cells (mixA (Value.int .u16) [.int .i8 a0_0, .int .i8 a0_1] a0_2) 31 (0, 0))) ∧ Aside0 (w'.heap[gb383]? = some (.cells (mixA (Value.int .u16) [] (LA.zero 40)) 28 (0, 0))) ∧ Aside0 (w'.heap[gb384]? = some (.cells (mixA (Value.int .u16) [] x385000_2) 28 (0, 0))) ∧ Aside0 (w'.heap[gb389]? = some (.cells #[.int .i8 ((rd_T41 t385 x11_1).f0), .int .i8 ((rd_T41 t385 x11_1).f1)] 41 (0, 0))) ∧ Aside0 (Below w.heap.size w w'))
      case atStart => exact ⟨(0), (x385000_1), (by first | rfl | (simp; done) | (simp [*]; done)), H', ⟨Nat.le_refl _⟩, ⟨by (with_reducible repeat (first | apply Kd.R_alloc | apply Kd.R_drewN | apply Kd.R_drew)); exact Kd.R_mono (Kd.R_far (p := ⟨gb389, 1, none⟩) (Kd.R_far (p := ⟨gb389, 0, none⟩) (Kd.R_mono HO_9.out (fun k_ hk => (⟨hk, hk.2⟩ : _ ∧ k_ ≠ gb389))) (fun _ hk => hk.2) (.int .i8 ((rd_T41 t385 x11_1).f0))) (fun _ hk => hk.2) (.int .i8 ((rd_T41 t385 x11_1).f1))) (fun _ hk => hk.1.2)⟩, ⟨by (with_reducible repeat (first | refine blk_drewN ?_ _ | refine blk_drew ?_ | refine blk_alloc ?_ _)); refine blk_far ?_ NB382_389.out _; (with_reducible repeat (first | refine blk_drewN ?_ _ | refine blk_drew ?_ | refine blk_alloc ?_ _)); refine blk_far ?_ NB382_389.out _; (with_reducible repeat (first | refine blk_drewN ?_ _ | refine blk_drew ?_ | refine blk_alloc ?_ _)); exact BK382.out⟩, ⟨by (with_reducible repeat (first | refine blk_drewN ?_ _ | refine blk_drew ?_ | refine blk_alloc ?_ _)); refine blk_far ?_ NB383_389.out _; (with_reducible repeat (first | refine blk_drewN ?_ _ | refine blk_drew ?_ | refine blk_alloc ?_ _)); refine blk_far ?_ NB383_389.out _; (with_reducible repeat (first | refine blk_drewN ?_ _ | refine blk_drew ?_ | refine blk_alloc ?_ _)); exact BK383.out⟩, ⟨by (with_reducible repeat (first | refine blk_drewN ?_ _ | refine blk_drew ?_ | refine blk_alloc ?_ _)); refine blk_far ?_ NB384_389.out _; (with_reducible repeat (first | refine blk_drewN ?_ _ | refine blk_drew ?_ | refine blk_alloc ?_ _)); refine blk_far ?_ NB384_389.out _; (with_reducible repeat (first | refine blk_drewN ?_ _ | refine blk_drew ?_ | refine blk_alloc ?_ _)); exact BK384.out⟩, ⟨by (with_reducible repeat (first | refine blk_drewN ?_ _ | refine blk_drew ?_ | refine blk_alloc ?_ _)); refine blk_put (cs := #[.int .i8 ((rd_T41 t385 x11_1).f0), .int .i8 0]) ?_ 1 _ rfl; (with_reducible repeat (first | refine blk_drewN ?_ _ | refine blk_drew ?_ | refine blk_alloc ?_ _)); refine blk_put (cs := #[.int .i8 0, .int .i8 0]) ?_ 0 _ rfl; (with_reducible repeat (first | refine blk_drewN ?_ _ | refine blk_drew ?_ | refine blk_alloc ?_ _)); exact BK389.out⟩, ⟨pbs HB⟩⟩
      case round =>
       clear H'
       try clear c1
       try clear c2
       try clear p2
       try clear p3
       try clear q3
       try clear hx3
       try clear c5
       try clear c10
       try clear c10b0
       try clear c11
       try clear c11b0
       try clear c12
       try clear c12b0
       try clear c14
       try clear c15
       try clear c16
       try clear hcz17_0
       try clear hcz17_1
       try clear hfz17_0
       try clear hfz17_1
       try clear hx388_0
       try clear hx388_1
       try clear p2
       try clear p388
       try clear q388
       obtain ⟨x15_2, x385000_2, rfl, HA, HK2, HO_9, BK382, BK383, BK384, BK389, HB⟩ := hrel
       cases gk with
       | zero => exact absurd HA.out (by simp [impl_anywhere.l1])
       | succ k2 =>
        have H := HA.out
        clear HA
        simp only [impl_anywhere.l1] at H
        by_cases c18 : x15_2 < 4
        ·rw [if_pos c18] at H
         have c18b0 : decide (x15_2 < 4) = true := decide_eq_true c18
         clear c18
         replace H := Option.bind_eq_some_iff.mp H
         obtain ⟨t390, A190, H⟩ := H
         replace H : (impl_anywhere.l1 k2 t385 (t385.length : Int) x11_1 (wrap64 (x15_2 + 1)) t390 ((rd_T41 t385 x11_1).f0) ((rd_T41 t385 x11_1).f1)) = some r := H
         have A19 := Aside0.mk A190
         clear A190
         have H' := Aside0.mk H
         clear H
         have hnb20 := NB389_382.out
         have hnc20 := NB382_389.out
         have hnb21 := NB389_383.out
         have hnc21 := NB383_389.out
         have hnb22 := NB389_384.out
         have hnc22 := NB384_389.out
         have hcz23_0 : wr.cell? ⟨gb389, 0, none⟩ = some (.int .i8 ((rd_T41 t385 x11_1).f0)) := bc_ BK389.out 0
         have hcz23_1 : wr.cell? ⟨gb389, 1, none⟩ = some (.int .i8 ((rd_T41 t385 x11_1).f1)) := bc_ BK389.out 1
         have hfz23_0 := blk_frozen BK389.out 0
         have hfz23_1 := blk_frozen BK389.out 1
         go_wp2_with (first | ((with_reducible refine gate_callee (f := 29) rfl ?_); refine goesL_ (some 20) rfl rfl Tryd.func29 (by kernel_rfl) rfl #[.pointer (some ⟨gb384, 0, none⟩), .agg #[.int .i8 ((rd_T41 t385 x11_1).f0), .int .i8 ((rd_T41 t385 x11_1).f1)], .int .i64 x15_2] rfl (by (try simp only [List.map_toArray, List.map_cons, List.map_nil]); first | done | rfl | (simp only [List.length_drop, List.length_take]; rfl)) ?_; (with_reducible refine (impl_Crowd_set.calls gb384 x385000_2 ((rd_T41 t385 x11_1).f0) ((rd_T41 t385 x11_1).f1) x15_2 t390 w _ ?side1 ?side2 A19.out).mono ?_); (case side1 => exact ⟨(pk BK384), GE384.out⟩); (case side2 => repeat (first | (with_reducible first | exact HB.out | apply below_alloc | apply pw_below_drewN | apply below_drew1 | refine below_set ?_ GE382.out | refine below_set ?_ GE383.out | refine below_set ?_ GE384.out | refine below_set ?_ GE389.out) | exact HB.out)); rintro e w24 ⟨rfl, hi, hb, hk⟩; refine ⟨_, rfl, ?_⟩; have n0_ := Aside0.mk (Kd.R_mono (Kd.R_keep (Kd.R_types (by (with_reducible repeat (first | apply Kd.R_alloc | apply Kd.R_drewN | apply Kd.R_drew)); exact HO_9.out) (pk BK384) (by decide)) hk (fun _ h => h.2)) (fun _ h => h.1)); have n1_ := Aside0.mk (KeepBut.blk hk (g' := gb382) (o := .cells (mixA (Value.int .u16) [.int .i8 a0_0, .int .i8 a0_1] a0_2) 31 (0, 0)) (pk BK382) NB382_384.out (by simp)); have n2_ := Aside0.mk (KeepBut.blk hk (g' := gb383) (o := .cells (mixA (Value.int .u16) [] (LA.zero 40)) 28 (0, 0)) (pk BK383) NB383_384.out (by simp)); have n3_ := Aside0.mk (KeepBut.blk hk (g' := gb389) (o := .cells #[.int .i8 ((rd_T41 t385 x11_1).f0), .int .i8 ((rd_T41 t385 x11_1).f1)] 41 (0, 0)) (pk BK389) NB389_384.out (by simp)); have n4_ := Aside0.mk (hb); have n5_ := Aside0.mk (hi.1); clear HO_9; clear BK382; clear BK383; clear BK389; clear HB; clear BK384; have HO_9 := n0_; have BK382 := n1_; have BK383 := n2_; have BK389 := n3_; have HB := n4_; have BK384 := n5_; clear n0_ n1_ n2_ n3_ n4_ n5_; (try clear hb); (try clear hb2); (try clear hk); (try clear hi)))
         go_roundg k2
         case measure => have := HK1.out; have := HK2.out; omega
         case rel => exact ⟨(wrap64 (x15_2 + 1)), (t390), (by first | rfl | (simp; done) | (simp [*]; done)), H', ⟨by have := HK1.out; have := HK2.out; omega⟩, ⟨by (with_reducible repeat (first | apply Kd.R_alloc | apply Kd.R_drewN | apply Kd.R_drew)); exact HO_9.out⟩, ⟨pk BK382⟩, ⟨pk BK383⟩, ⟨pk BK384⟩, ⟨pk BK389⟩, ⟨pbs HB⟩⟩
        ·rw [if_neg c18] at H
         have c18b0 : decide (x15_2 < 4) = false := decide_eq_false c18
         clear c18
         have H' := Aside0.mk H
         clear H
         go_wp2
         go_roundg k2
         case measure => have := HK1.out; have := HK2.out; omega
         case rel => exact ⟨(wrap64 (x11_1 + 1)), (x385000_2), (by first | rfl | (simp; done) | (simp [*]; done)), H', ⟨by have := HK1.out; have := HK2.out; omega⟩, ⟨by (with_reducible repeat (first | apply Kd.R_alloc | apply Kd.R_drewN | apply Kd.R_drew)); exact Kd.R_mono HO_9.out (fun _ hk => trivial)⟩, ⟨pk BK382⟩, ⟨pk BK383⟩, ⟨pk BK384⟩, ⟨pbs HB⟩⟩
     ·rw [if_neg c12] at H
      exact absurd H (by simp)
    ·rw [if_neg c11] at H
     exact absurd H (by simp)
   ·rw [if_neg c10] at H
    have c10b0 : decide (x11_1 < (t385.length : Int)) = false := decide_eq_false c10
    clear c10
    obtain rfl := Option.some.inj H
    go_wp2_with (first | ((with_reducible refine gate_dst (N := 23) rfl ?_); refine wpList_run0 (v := .agg (mixA (Value.int .u16) [] x385000_1)) rfl (load_mix_run (P := Tryd.prog) 28 (.tmp 3) rfl gb384 rfl (show World.rangeAt _ gb384 0 ([] ++ x385000_1.l.map (Value.int .u16)) from mix_range (show (World.heap _)[gb384]? = some (.cells (mixA (Value.int .u16) [] x385000_1) 28 (0, 0)) from by (with_reducible repeat (first | refine blk_drewN ?_ _ | refine blk_drew ?_ | refine blk_alloc ?_ _)); exact BK384.out)) Tryd.underlying28 rfl (by kernel_rfl) rfl) ?_) | ((with_reducible refine gate_store (p := 2) rfl ?_); refine wpList_store_lmix rfl 28 _ _ rfl gb383 (e := (Value.int .u16)) (cs' := []) (W' := x385000_1) (cs := []) (W := (LA.zero 40)) (T := 28) rfl rfl (pk BK383) rfl (by kernel_rfl) rfl (fun _ => rfl) rfl ?_; intro w26 hi hk hbl; have n0_ := Aside0.mk (Kd.R_mono (Kd.R_keep (Kd.R_types (by (with_reducible repeat (first | apply Kd.R_alloc | apply Kd.R_drewN | apply Kd.R_drew)); exact HO_9.out) (pk BK383) (by decide)) hk (fun _ h => h.2)) (fun _ h => h.1)); have n1_ := Aside0.mk (KeepBut.blk hk (g' := gb382) (o := .cells (mixA (Value.int .u16) [.int .i8 a0_0, .int .i8 a0_1] a0_2) 31 (0, 0)) (pk BK382) NB382_383.out (by simp)); have n2_ := Aside0.mk (KeepBut.blk hk (g' := gb384) (o := .cells (mixA (Value.int .u16) [] x385000_1) 28 (0, 0)) (pk BK384) NB384_383.out (by simp)); have n3_ := Aside0.mk (hbl _ _ (pbs HB) GE383.out); have n4_ := Aside0.mk (hi); clear HO_9; clear BK382; clear BK384; clear HB; clear BK383; have HO_9 := n0_; have BK382 := n1_; have BK384 := n2_; have HB := n3_; have BK383 := n4_; clear n0_ n1_ n2_ n3_ n4_; clear hi hk hbl))
    refine bodyPost_ret (results_cell_row rfl _ _ gb383 28 (mixA (Value.int .u16) [] x385000_1) (0, 0) _ rfl (pk BK383) Tryd.underlying28 rfl (by rw [mix_size]; kernel_rfl)) rfl ?_
    exact ⟨by first | rfl | (simp [errW_none, errW_some] <;> rfl) | (simp [*, errW_none, errW_some] <;> rfl), pbs HB⟩
def impl_Anywhere.f (k : Nat) (a0_0 : Int) (a0_1 : Int) (a0_2 : LA 10) : Option (LA 40 × Int) := (impl_ValidRoom.f k a0_0 a0_1 a0_2).bind fun t393 => (if t393 = true then ((impl_anywhere.f k a0_0 a0_1 a0_2).bind fun t394 => (some (t394, 0))) else (some ((LA.zero 40), 1)))
theorem impl_Anywhere.mono : ∀ a0 a1 a2 k, LeO (impl_Anywhere.f k a0 a1 a2) (impl_Anywhere.f (k + 1) a0 a1 a2) := by
 intro a0 a1 a2 k
 unfold impl_Anywhere.f
 repeat' first
   | (with_reducible exact impl_ValidRoom.mono _ _ _ _)
   | (with_reducible exact impl_anywhere.mono _ _ _ _)
   | (with_reducible exact LeO.refl _)
   | (with_reducible exact LeO.none _)
   | (with_reducible refine LeO.ite ?_ ?_)
   | (with_reducible refine LeO.bind ?_ (fun _ => ?_))
   | exact impl_ValidRoom.mono _ _ _ _
   | exact impl_anywhere.mono _ _ _ _
   | exact LeO.none _
   | refine LeO.ite ?_ ?_
   | refine LeO.bind ?_ (fun _ => ?_)
set_option maxHeartbeats 8000000 in
set_option maxRecDepth 100000 in
theorem impl_Anywhere.calls (k : Nat) (a0_0 : Int) (a0_1 : Int) (a0_2 : LA 10) (r1 : LA 40) (r2 : Int) (w : World) (h : impl_Anywhere.f k a0_0 a0_1 a0_2 = some (r1, r2)) :
  Calls Tryd.prog 41 #[.agg (mixA (Value.int .u16) [.int .i8 a0_0, .int .i8 a0_1] a0_2)] w fun e w' => e = .returned (.tuple #[.agg (mixA (Value.int .u16) [] r1), .int .i64 r2]) ∧ Below w.heap.size w w' := by
 have hu31 := Tryd.underlying31
 have HB := Aside0.mk (Below.refl w.heap.size w)
 have H : ((impl_ValidRoom.f k a0_0 a0_1 a0_2).bind fun t393 => (if t393 = true then ((impl_anywhere.f k a0_0 a0_1 a0_2).bind fun t394 => (some (t394, 0))) else (some ((LA.zero 40), 1)))) = some (r1, r2) := h
 clear h
 replace H := Option.bind_eq_some_iff.mp H
 obtain ⟨t393, A20, H⟩ := H
 replace H : (if t393 = true then ((impl_anywhere.f k a0_0 a0_1 a0_2).bind fun t394 => (some (t394, 0))) else (some ((LA.zero 40), 1))) = some (r1, r2) := H
 have A2 := Aside0.mk A20
 clear A20
 by_cases c3 : t393 = true
 ·subst c3
  have H1 : ((impl_anywhere.f k a0_0 a0_1 a0_2).bind fun t394 => (some (t394, 0))) = some (r1, r2) := by rw [if_pos rfl] at H; exact H
  clear H
  have H := H1
  clear H1
  replace H := Option.bind_eq_some_iff.mp H
  obtain ⟨t394, A40, H⟩ := H
  replace H : (some (t394, 0)) = some (r1, r2) := H
  have A4 := Aside0.mk A40
  clear A40
  simp only [Option.some.injEq, Prod.mk.injEq] at H
  obtain ⟨rfl, rfl⟩ := H
  go_enter Tryd.func41, Tryd.ntmps41
  go_wp2_with (first | ((with_reducible refine gate_dst (N := 1) rfl ?_); refine box_event ?hg (N := 1) ?hd (cs := (mixA (Value.int .u16) [.int .i8 a0_0, .int .i8 a0_1] a0_2)) (t := 31) ?hr ?_; (case hd => rfl); (case hg => rfl); (case hr => first | (go_simp; done) | (go_simp; rfl)); intro gb391 hg w5 hbox hb; have n0_ := bst HB hb; have n1_ := Aside0.mk (hbox); have n2_ := gwl HB hg; have n3_ := gwl HB hg; clear HB; have HB := n0_; have BK391 := n1_; have GW391 := n2_; have GE391 := n3_; clear n0_ n1_ n2_ n3_; clear hb hbox hg) | ((with_reducible refine gate_dst (N := 2) rfl ?_); refine box_event ?hg (N := 2) ?hd (cs := (mixA (Value.int .u16) [] (LA.zero 40))) (t := 28) ?hr ?_; (case hd => rfl); (case hg => rfl); (case hr => first | (go_simp; done) | (go_simp; rfl)); intro gb392 hg w6 hbox hb; have n0_ := bkb BK391 hb; have n1_ := bst HB hb; have n2_ := Aside0.mk (hbox); have n3_ := gwl HB hg; have n4_ := gwl HB hg; have n5_ := nbl BK391 hg; have n6_ := nbg BK391 hg; clear BK391; clear HB; have BK391 := n0_; have HB := n1_; have BK392 := n2_; have GW392 := n3_; have GE392 := n4_; have NB391_392 := n5_; have NB392_391 := n6_; clear n0_ n1_ n2_ n3_ n4_ n5_ n6_; clear hb hbox hg) | ((with_reducible refine gate_dst (N := 4) rfl ?_); refine wpList_run0 (v := .agg (mixA (Value.int .u16) [.int .i8 a0_0, .int .i8 a0_1] a0_2)) rfl (load_mix_run (P := Tryd.prog) 31 (.tmp 1) rfl gb391 rfl (show World.rangeAt _ gb391 0 ([.int .i8 a0_0, .int .i8 a0_1] ++ a0_2.l.map (Value.int .u16)) from mix_range (show (World.heap _)[gb391]? = some (.cells (mixA (Value.int .u16) [.int .i8 a0_0, .int .i8 a0_1] a0_2) 31 (0, 0)) from by (with_reducible repeat (first | refine blk_drewN ?_ _ | refine blk_drew ?_ | refine blk_alloc ?_ _)); exact BK391.out)) Tryd.underlying31 rfl (by kernel_rfl) rfl) ?_) | ((with_reducible refine gate_callee (f := 26) rfl ?_); refine goesL_ (some 5) rfl rfl Tryd.func26 (by kernel_rfl) rfl #[.agg (mixA (Value.int .u16) [.int .i8 a0_0, .int .i8 a0_1] a0_2)] rfl (by (try simp only [List.map_toArray, List.map_cons, List.map_nil]); first | done | rfl | (simp only [List.length_drop, List.length_take]; rfl)) ?_; (with_reducible refine (impl_ValidRoom.calls k a0_0 a0_1 a0_2 true _ A2.out).mono ?_); rintro e w8 ⟨rfl, hb⟩; refine ⟨_, rfl, ?_⟩; have n0_ := bkb BK391 hb; have n1_ := bkb BK392 hb; have n2_ := bst HB hb; clear BK391; clear BK392; clear HB; have BK391 := n0_; have BK392 := n1_; have HB := n2_; clear n0_ n1_ n2_; (try clear hb); (try clear hb2); (try clear hk); (try clear hi)) | ((with_reducible refine gate_dst (N := 8) rfl ?_); refine wpList_run0 (v := .agg (mixA (Value.int .u16) [.int .i8 a0_0, .int .i8 a0_1] a0_2)) rfl (load_mix_run (P := Tryd.prog) 31 (.tmp 1) rfl gb391 rfl (show World.rangeAt _ gb391 0 ([.int .i8 a0_0, .int .i8 a0_1] ++ a0_2.l.map (Value.int .u16)) from mix_range (show (World.heap _)[gb391]? = some (.cells (mixA (Value.int .u16) [.int .i8 a0_0, .int .i8 a0_1] a0_2) 31 (0, 0)) from by (with_reducible repeat (first | refine blk_drewN ?_ _ | refine blk_drew ?_ | refine blk_alloc ?_ _)); exact BK391.out)) Tryd.underlying31 rfl (by kernel_rfl) rfl) ?_) | ((with_reducible refine gate_callee (f := 56) rfl ?_); refine goesL_ (some 9) rfl rfl Tryd.func56 (by kernel_rfl) rfl #[.agg (mixA (Value.int .u16) [.int .i8 a0_0, .int .i8 a0_1] a0_2)] rfl (by (try simp only [List.map_toArray, List.map_cons, List.map_nil]); first | done | rfl | (simp only [List.length_drop, List.length_take]; rfl)) ?_; (with_reducible refine (impl_anywhere.calls k a0_0 a0_1 a0_2 t394 _ A4.out).mono ?_); rintro e w10 ⟨rfl, hb⟩; refine ⟨_, rfl, ?_⟩; have n0_ := bkb BK391 hb; have n1_ := bkb BK392 hb; have n2_ := bst HB hb; clear BK391; clear BK392; clear HB; have BK391 := n0_; have BK392 := n1_; have HB := n2_; clear n0_ n1_ n2_; (try clear hb); (try clear hb2); (try clear hk); (try clear hi)) | ((with_reducible refine gate_store (p := 2) rfl ?_); refine wpList_store_lmix rfl 28 _ _ rfl gb392 (e := (Value.int .u16)) (cs' := []) (W' := t394) (cs := []) (W := (LA.zero 40)) (T := 28) rfl rfl (pk BK392) rfl (by kernel_rfl) rfl (fun _ => rfl) rfl ?_; intro w11 hi hk hbl; have n0_ := Aside0.mk (KeepBut.blk hk (g' := gb391) (o := .cells (mixA (Value.int .u16) [.int .i8 a0_0, .int .i8 a0_1] a0_2) 31 (0, 0)) (pk BK391) NB391_392.out (by simp)); have n1_ := Aside0.mk (hbl _ _ (pbs HB) GE392.out); have n2_ := Aside0.mk (hi); clear BK391; clear HB; clear BK392; have BK391 := n0_; have HB := n1_; have BK392 := n2_; clear n0_ n1_ n2_; clear hi hk hbl))
  refine bodyPost_ret (results_ct rfl _ _ gb392 28 (mixA (Value.int .u16) [] t394) (0, 0) _ rfl (pk BK392) Tryd.underlying28 rfl (by rw [mix_size]; kernel_rfl)) rfl ?_
  exact ⟨by first | rfl | (simp [errW_none, errW_some] <;> rfl) | (simp [*, errW_none, errW_some] <;> rfl), pbs HB⟩
 ·replace c3 := Bool.eq_false_iff.mpr c3
  subst c3
  have H1 : (some ((LA.zero 40), 1)) = some (r1, r2) := by rw [if_neg (show ¬ (false = true) by decide)] at H; exact H
  clear H
  have H := H1
  clear H1
  simp only [Option.some.injEq, Prod.mk.injEq] at H
  obtain ⟨rfl, rfl⟩ := H
  go_enter Tryd.func41, Tryd.ntmps41
  go_wp2_with (first | ((with_reducible refine gate_dst (N := 1) rfl ?_); refine box_event ?hg (N := 1) ?hd (cs := (mixA (Value.int .u16) [.int .i8 a0_0, .int .i8 a0_1] a0_2)) (t := 31) ?hr ?_; (case hd => rfl); (case hg => rfl); (case hr => first | (go_simp; done) | (go_simp; rfl)); intro gb391 hg w12 hbox hb; have n0_ := bst HB hb; have n1_ := Aside0.mk (hbox); have n2_ := gwl HB hg; have n3_ := gwl HB hg; clear HB; have HB := n0_; have BK391 := n1_; have GW391 := n2_; have GE391 := n3_; clear n0_ n1_ n2_ n3_; clear hb hbox hg) | ((with_reducible refine gate_dst (N := 2) rfl ?_); refine box_event ?hg (N := 2) ?hd (cs := (mixA (Value.int .u16) [] (LA.zero 40))) (t := 28) ?hr ?_; (case hd => rfl); (case hg => rfl); (case hr => first | (go_simp; done) | (go_simp; rfl)); intro gb392 hg w13 hbox hb; have n0_ := bkb BK391 hb; have n1_ := bst HB hb; have n2_ := Aside0.mk (hbox); have n3_ := gwl HB hg; have n4_ := gwl HB hg; have n5_ := nbl BK391 hg; have n6_ := nbg BK391 hg; clear BK391; clear HB; have BK391 := n0_; have HB := n1_; have BK392 := n2_; have GW392 := n3_; have GE392 := n4_; have NB391_392 := n5_; have NB392_391 := n6_; clear n0_ n1_ n2_ n3_ n4_ n5_ n6_; clear hb hbox hg) | ((with_reducible refine gate_dst (N := 4) rfl ?_); refine wpList_run0 (v := .agg (mixA (Value.int .u16) [.int .i8 a0_0, .int .i8 a0_1] a0_2)) rfl (load_mix_run (P := Tryd.prog) 31 (.tmp 1) rfl gb391 rfl (show World.rangeAt _ gb391 0 ([.int .i8 a0_0, .int .i8 a0_1] ++ a0_2.l.map (Value.int .u16)) from mix_range (show (World.heap _)[gb391]? = some (.cells (mixA (Value.int .u16) [.int .i8 a0_0, .int .i8 a0_1] a0_2) 31 (0, 0)) from by (with_reducible repeat (first | refine blk_drewN ?_ _ | refine blk_drew ?_ | refine blk_alloc ?_ _)); exact BK391.out)) Tryd.underlying31 rfl (by kernel_rfl) rfl) ?_) | ((with_reducible refine gate_callee (f := 26) rfl ?_); refine goesL_ (some 5) rfl rfl Tryd.func26 (by kernel_rfl) rfl #[.agg (mixA (Value.int .u16) [.int .i8 a0_0, .int .i8 a0_1] a0_2)] rfl (by (try simp only [List.map_toArray, List.map_cons, List.map_nil]); first | done | rfl | (simp only [List.length_drop, List.length_take]; rfl)) ?_; (with_reducible refine (impl_ValidRoom.calls k a0_0 a0_1 a0_2 false _ A2.out).mono ?_); rintro e w15 ⟨rfl, hb⟩; refine ⟨_, rfl, ?_⟩; have n0_ := bkb BK391 hb; have n1_ := bkb BK392 hb; have n2_ := bst HB hb; clear BK391; clear BK392; clear HB; have BK391 := n0_; have BK392 := n1_; have HB := n2_; clear n0_ n1_ n2_; (try clear hb); (try clear hb2); (try clear hk); (try clear hi)) | ((with_reducible refine gate_store (p := 2) rfl ?_); refine wpList_store_lmix rfl 28 _ _ rfl gb392 (e := (Value.int .u16)) (cs' := []) (W' := (LA.zero 40)) (cs := []) (W := (LA.zero 40)) (T := 28) rfl rfl (pk BK392) rfl (by kernel_rfl) rfl (fun _ => rfl) rfl ?_; intro w16 hi hk hbl; have n0_ := Aside0.mk (KeepBut.blk hk (g' := gb391) (o := .cells (mixA (Value.int .u16) [.int .i8 a0_0, .int .i8 a0_1] a0_2) 31 (0, 0)) (pk BK391) NB391_392.out (by simp)); have n1_ := Aside0.mk (hbl _ _ (pbs HB) GE392.out); have n2_ := Aside0.mk (hi); clear BK391; clear HB; clear BK392; have BK391 := n0_; have HB := n1_; have BK392 := n2_; clear n0_ n1_ n2_; clear hi hk hbl))
  refine bodyPost_ret (results_ct rfl _ _ gb392 28 (mixA (Value.int .u16) [] (LA.zero 40)) (0, 0) _ rfl (pk BK392) Tryd.underlying28 rfl (by rw [mix_size]; kernel_rfl)) rfl ?_
  exact ⟨by first | rfl | (simp [errW_none, errW_some] <;> rfl) | (simp [*, errW_none, errW_some] <;> rfl), pbs HB⟩
mutual
def impl_Crowd_only.l0 : Nat → List (S41) → Int → Int → LA 40 → Option (Int × Int × Int)
 | 0, _, _, _, _ => none
 | k + 1, x10, x11, x12, x396000 => if x12 < x11 then (if 0 ≤ x12 then (if x12 < (x10.length : Int) then (impl_Crowd_only.l1 k x10 x11 x12 0 x396000 ((rd_T41 x10 x12).f0) ((rd_T41 x10 x12).f1)) else (none)) else (none)) else (some (0, 0, 0))
def impl_Crowd_only.l1 : Nat → List (S41) → Int → Int → Int → LA 40 → Int → Int → Option (Int × Int × Int)
 | 0, _, _, _, _, _, _, _ => none
 | k + 1, x10, x11, x12, x16, x396000, x403000, x403001 => if x16 < 4 then ((impl_Crowd_has.f x396000 x403000 x403001 x16).bind fun t403 => (if t403 = true then (some (x403000, x403001, x16)) else (impl_Crowd_only.l1 k x10 x11 x12 (wrap64 (x16 + 1)) x396000 x403000 x403001))) else (impl_Crowd_only.l0 k x10 x11 (wrap64 (x12 + 1)) x396000)
end
def impl_Crowd_only.f (k : Nat) (a0 : LA 40) (a1_0 : Int) (a1_1 : Int) (a1_2 : LA 10) : Option (Int × Int × Int) := (impl_Room_free.f k a1_0 a1_1 a1_2).bind fun t398 => (impl_Crowd_only.l0 k t398 (t398.length : Int) 0 a0)
theorem impl_Crowd_only.mono_l : ∀ k, (∀ y0 y1 y2 y3, LeO (impl_Crowd_only.l0 k y0 y1 y2 y3) (impl_Crowd_only.l0 (k + 1) y0 y1 y2 y3)) ∧ (∀ y0 y1 y2 y3 y4 y5 y6, LeO (impl_Crowd_only.l1 k y0 y1 y2 y3 y4 y5 y6) (impl_Crowd_only.l1 (k + 1) y0 y1 y2 y3 y4 y5 y6))
 | 0 => ⟨fun _ _ _ _ r h => by simp [impl_Crowd_only.l0] at h, fun _ _ _ _ _ _ _ r h => by simp [impl_Crowd_only.l1] at h⟩
 | k + 1 => by
  obtain ⟨ih0, ih1⟩ := impl_Crowd_only.mono_l k
  refine ⟨?_, ?_⟩
  ·intro y0 y1 y2 y3
   unfold impl_Crowd_only.l0
   repeat' first
   | (with_reducible exact ih0 _ _ _ _)
   | (with_reducible exact ih1 _ _ _ _ _ _ _)
   | (with_reducible exact impl_Room_free.mono _ _ _ _)
   | (with_reducible exact LeO.refl _)
   | (with_reducible exact LeO.none _)
   | (with_reducible refine LeO.ite ?_ ?_)
   | (with_reducible refine LeO.bind ?_ (fun _ => ?_))
   | exact ih0 _ _ _ _
   | exact ih1 _ _ _ _ _ _ _
   | exact impl_Room_free.mono _ _ _ _
   | exact LeO.none _
   | refine LeO.ite ?_ ?_
   | refine LeO.bind ?_ (fun _ => ?_)
  ·intro y0 y1 y2 y3 y4 y5 y6
   unfold impl_Crowd_only.l1
   repeat' first
   | (with_reducible exact ih0 _ _ _ _)
   | (with_reducible exact ih1 _ _ _ _ _ _ _)
   | (with_reducible exact impl_Room_free.mono _ _ _ _)
   | (with_reducible exact LeO.refl _)
   | (with_reducible exact LeO.none _)
   | (with_reducible refine LeO.ite ?_ ?_)
   | (with_reducible refine LeO.bind ?_ (fun _ => ?_))
   | exact ih0 _ _ _ _
   | exact ih1 _ _ _ _ _ _ _
   | exact impl_Room_free.mono _ _ _ _
   | exact LeO.none _
   | refine LeO.ite ?_ ?_
   | refine LeO.bind ?_ (fun _ => ?_)
theorem impl_Crowd_only.mono : ∀ a0 a1 a2 a3 k, LeO (impl_Crowd_only.f k a0 a1 a2 a3) (impl_Crowd_only.f (k + 1) a0 a1 a2 a3) := by
 intro a0 a1 a2 a3 k
 obtain ⟨ih0, ih1⟩ := impl_Crowd_only.mono_l k
 unfold impl_Crowd_only.f
 repeat' first
   | (with_reducible exact ih0 _ _ _ _)
   | (with_reducible exact ih1 _ _ _ _ _ _ _)
   | (with_reducible exact impl_Room_free.mono _ _ _ _)
   | (with_reducible exact LeO.refl _)
   | (with_reducible exact LeO.none _)
   | (with_reducible refine LeO.ite ?_ ?_)
   | (with_reducible refine LeO.bind ?_ (fun _ => ?_))
   | exact ih0 _ _ _ _
   | exact ih1 _ _ _ _ _ _ _
   | exact impl_Room_free.mono _ _ _ _
   | exact LeO.none _
   | refine LeO.ite ?_ ?_
   | refine LeO.bind ?_ (fun _ => ?_)
set_option maxHeartbeats 8000000 in
set_option maxRecDepth 100000 in
theorem impl_Crowd_only.calls (k : Nat) (a0 : LA 40) (a1_0 : Int) (a1_1 : Int) (a1_2 : LA 10) (r1 : Int) (r2 : Int) (r3 : Int) (w : World) (h : impl_Crowd_only.f k a0 a1_0 a1_1 a1_2 = some (r1, r2, r3)) :
  Calls Tryd.prog 42 #[.agg (mixA (Value.int .u16) [] a0), .agg (mixA (Value.int .u16) [.int .i8 a1_0, .int .i8 a1_1] a1_2)] w fun e w' => e = .returned (.tuple #[.agg #[.int .i8 r1, .int .i8 r2], .int .i64 r3]) ∧ Below w.heap.size w w' := by
 have hu31 := Tryd.underlying31
 have hu41 := Tryd.underlying41
 have HB := Aside0.mk (Below.refl w.heap.size w)
 have H : ((impl_Room_free.f k a1_0 a1_1 a1_2).bind fun t398 => (impl_Crowd_only.l0 k t398 (t398.length : Int) 0 a0)) = some (r1, r2, r3) := h
 clear h
 replace H := Option.bind_eq_some_iff.mp H
 obtain ⟨t398, A30, H⟩ := H
 replace H : (impl_Crowd_only.l0 k t398 (t398.length : Int) 0 a0) = some (r1, r2, r3) := H
 have A3 := Aside0.mk A30
 clear A30
 have H' := Aside0.mk H
 clear H
 go_enter Tryd.func42, Tryd.ntmps42
 go_wp2_with (first | ((with_reducible refine gate_dst (N := 2) rfl ?_); refine box_event ?hg (N := 2) ?hd (cs := (mixA (Value.int .u16) [] a0)) (t := 28) ?hr ?_; (case hd => rfl); (case hg => rfl); (case hr => first | (go_simp; done) | (go_simp; rfl)); intro gb395 hg w4 hbox hb; have n0_ := bst HB hb; have n1_ := Aside0.mk (hbox); have n2_ := gwl HB hg; have n3_ := gwl HB hg; clear HB; have HB := n0_; have BK395 := n1_; have GW395 := n2_; have GE395 := n3_; clear n0_ n1_ n2_ n3_; clear hb hbox hg) | ((with_reducible refine gate_dst (N := 3) rfl ?_); refine box_event ?hg (N := 3) ?hd (cs := (mixA (Value.int .u16) [.int .i8 a1_0, .int .i8 a1_1] a1_2)) (t := 31) ?hr ?_; (case hd => rfl); (case hg => rfl); (case hr => first | (go_simp; done) | (go_simp; rfl)); intro gb396 hg w5 hbox hb; have n0_ := bkb BK395 hb; have n1_ := bst HB hb; have n2_ := Aside0.mk (hbox); have n3_ := gwl HB hg; have n4_ := gwl HB hg; have n5_ := nbl BK395 hg; have n6_ := nbg BK395 hg; clear BK395; clear HB; have BK395 := n0_; have HB := n1_; have BK396 := n2_; have GW396 := n3_; have GE396 := n4_; have NB395_396 := n5_; have NB396_395 := n6_; clear n0_ n1_ n2_ n3_ n4_ n5_ n6_; clear hb hbox hg) | ((with_reducible refine gate_dst (N := 4) rfl ?_); refine box_event ?hg (N := 4) ?hd (cs := #[.int .i8 0, .int .i8 0]) (t := 41) ?hr ?_; (case hd => rfl); (case hg => rfl); (case hr => first | (go_simp; done) | (go_simp; rfl)); intro gb397 hg w6 hbox hb; have n0_ := bkb BK395 hb; have n1_ := bkb BK396 hb; have n2_ := bst HB hb; have n3_ := Aside0.mk (hbox); have n4_ := gwl HB hg; have n5_ := gwl HB hg; have n6_ := nbl BK395 hg; have n7_ := nbg BK395 hg; have n8_ := nbl BK396 hg; have n9_ := nbg BK396 hg; clear BK395; clear BK396; clear HB; have BK395 := n0_; have BK396 := n1_; have HB := n2_; have BK397 := n3_; have GW397 := n4_; have GE397 := n5_; have NB395_397 := n6_; have NB397_395 := n7_; have NB396_397 := n8_; have NB397_396 := n9_; clear n0_ n1_ n2_ n3_ n4_ n5_ n6_ n7_ n8_ n9_; clear hb hbox hg) | ((with_reducible refine gate_dst (N := 9) rfl ?_); refine wpList_run0 (v := .agg (mixA (Value.int .u16) [.int .i8 a1_0, .int .i8 a1_1] a1_2)) rfl (load_mix_run (P := Tryd.prog) 31 (.tmp 3) rfl gb396 rfl (show World.rangeAt _ gb396 0 ([.int .i8 a1_0, .int .i8 a1_1] ++ a1_2.l.map (Value.int .u16)) from mix_range (show (World.heap _)[gb396]? = some (.cells (mixA (Value.int .u16) [.int .i8 a1_0, .int .i8 a1_1] a1_2) 31 (0, 0)) from by (with_reducible repeat (first | refine blk_drewN ?_ _ | refine blk_drew ?_ | refine blk_alloc ?_ _)); exact BK396.out)) Tryd.underlying31 rfl (by kernel_rfl) rfl) ?_) | ((with_reducible refine gate_callee (f := 28) rfl ?_); refine goesL_ (some 10) rfl rfl Tryd.func28 (by kernel_rfl) rfl #[.agg (mixA (Value.int .u16) [.int .i8 a1_0, .int .i8 a1_1] a1_2)] rfl (by (try simp only [List.map_toArray, List.map_cons, List.map_nil]); first | done | rfl | (simp only [List.length_drop, List.length_take]; rfl)) ?_; (with_reducible refine (impl_Room_free.calls k a1_0 a1_1 a1_2 t398 _ A3.out).mono ?_); rintro e w8 ⟨v399, rfl, ho0, hb⟩; refine ⟨_, rfl, ?_⟩; have n0_ := Aside0.mk (Kd.R_lower (Kd.R_newB ho0 (g := gb397) (o := .cells #[.int .i8 0, .int .i8 0] 41 (0, 0)) (pk BK397)) (below_size (by repeat (first | (with_reducible first | exact HB.out | apply below_alloc | apply pw_below_drewN | apply below_drew1 | refine below_set ?_ GE395.out | refine below_set ?_ GE396.out | refine below_set ?_ GE397.out) | exact HB.out)))); have n1_ := bkb BK395 hb; have n2_ := bkb BK396 hb; have n3_ := bkb BK397 hb; have n4_ := bst HB hb; clear BK395; clear BK396; clear BK397; clear HB; have HO400 := n0_; have BK395 := n1_; have BK396 := n2_; have BK397 := n3_; have HB := n4_; clear n0_ n1_ n2_ n3_ n4_; (try clear hb); (try clear hb2); (try clear hk); (try clear hi); (try clear ho0); obtain ⟨Ao9, co9, eo9⟩ := Kd.R_slice HO400.out; subst eo9))
 go_loopg [12] k (fun kq v12 w' => ∃ (x12_1 : Int) (x398000_1 : Int) (x398001_1 : Int), v12 = .int .i64 x12_1 ∧ Aside0 (impl_Crowd_only.l0 kq t398 (t398.length : Int) x12_1 a0 = some (r1, r2, r3)) ∧ Aside0 (kq ≤ k) ∧ Aside0 (Kd.R k41 41 w' w.heap.size (fun k_ => k_ ≠ gb397) (.slice Ao9 t398.length co9) t398) ∧ Aside0 (w'.heap[gb395]? = some (.cells (mixA (Value.int .u16) [] a0) 28 (0, 0))) ∧ Aside0 (w'.heap[gb396]? = some (.cells (mixA (Value.int .u16) [.int .i8 a1_0, .int .i8 a1_1] a1_2) 31 (0, 0))) ∧ Aside0 (w'.heap[gb397]? = some (.cells #[.int .i8 x398000_1, .int .i8 x398001_1] 41 (0, 0))) ∧ Aside0 (Below w.heap.size w w'))
 case atStart => exact ⟨(0), (0), (0), (by first | rfl | (simp; done) | (simp [*]; done)), H', ⟨Nat.le_refl _⟩, ⟨by (with_reducible repeat (first | apply Kd.R_alloc | apply Kd.R_drewN | apply Kd.R_drew)); exact Kd.R_mono HO400.out (fun _ hk => hk.2)⟩, ⟨pk BK395⟩, ⟨pk BK396⟩, ⟨pk BK397⟩, ⟨pbs HB⟩⟩
 case round =>
  clear H'
  try clear c2
  try clear p2
  try clear c4
  obtain ⟨x12_1, x398000_1, x398001_1, rfl, HA, HK1, HO_10, BK395, BK396, BK397, HB⟩ := hrel
  cases gk with
  | zero => exact absurd HA.out (by simp [impl_Crowd_only.l0])
  | succ k1 =>
   have H := HA.out
   clear HA
   simp only [impl_Crowd_only.l0] at H
   by_cases c10 : x12_1 < (t398.length : Int)
   ·rw [if_pos c10] at H
    have c10b0 : decide (x12_1 < (t398.length : Int)) = true := decide_eq_true c10
    clear c10
    by_cases c11 : 0 ≤ x12_1
    ·rw [if_pos c11] at H
     have c11b0 : decide (0 ≤ x12_1) = true := decide_eq_true c11
     clear c11
     by_cases c12 : x12_1 < (t398.length : Int)
     ·rw [if_pos c12] at H
      have c12b0 : decide (x12_1 < (t398.length : Int)) = true := decide_eq_true c12
      clear c12
      have H' := Aside0.mk H
      clear H
      have p401 : 0 ≤ (x12_1 : Int) := of_decide_eq_true (by first | (with_reducible assumption) | assumption)
      have q401 : x12_1 < (t398.length : Int) := of_decide_eq_true (by first | (with_reducible assumption) | assumption)
      obtain ⟨ad401, e401, hx401_0, hx401_1⟩ := at_T41 (Kd.R_reads' HO_10.out).2.2 x12_1 p401 q401
      cases e401
      replace p401 := eq_true p401
      replace q401 := eq_true q401
      go_wp2_with (first | ((with_reducible refine gate_dst (N := 7) rfl ?_); refine box_event ?hg (N := 7) ?hd (cs := #[.int .i8 0, .int .i8 0]) (t := 41) ?hr ?_; (case hd => rfl); (case hg => rfl); (case hr => first | (go_simp; done) | (go_simp; rfl)); intro gb402 hg w13 hbox hb; have n0_ := Aside0.mk (Kd.R_below (Kd.R_elderB (by (with_reducible repeat (first | apply Kd.R_alloc | apply Kd.R_drewN | apply Kd.R_drew)); exact HO_10.out) gb402 (Nat.le_of_eq hg.symm)) hb); have n1_ := bkb BK395 hb; have n2_ := bkb BK396 hb; have n3_ := bkb BK397 hb; have n4_ := bst HB hb; have n5_ := Aside0.mk (hbox); have n6_ := gwl HB hg; have n7_ := gwl HB hg; have n8_ := nbl BK395 hg; have n9_ := nbg BK395 hg; have n10_ := nbl BK396 hg; have n11_ := nbg BK396 hg; have n12_ := nbl BK397 hg; have n13_ := nbg BK397 hg; clear HO_10; clear BK395; clear BK396; clear BK397; clear HB; have HO_10 := n0_; have BK395 := n1_; have BK396 := n2_; have BK397 := n3_; have HB := n4_; have BK402 := n5_; have GW402 := n6_; have GE402 := n7_; have NB395_402 := n8_; have NB402_395 := n9_; have NB396_402 := n10_; have NB402_396 := n11_; have NB397_402 := n12_; have NB402_397 := n13_; clear n0_ n1_ n2_ n3_ n4_ n5_ n6_ n7_ n8_ n9_ n10_ n11_ n12_ n13_; clear hb hbox hg; have hnb14 := NB402_395.out; have hnc14 := NB395_402.out; have hnb15 := NB402_396.out; have hnc15 := NB396_402.out; have hnb16 := NB402_397.out; have hnc16 := NB397_402.out; have hcz17_0 : w13.cell? ⟨gb402, 0, none⟩ = some (.int .i8 0) := (blk_cell BK402.out 0).trans rfl; have hcz17_1 : w13.cell? ⟨gb402, 1, none⟩ = some (.int .i8 0) := (blk_cell BK402.out 1).trans rfl; have hfz17_0 := blk_frozen BK402.out 0; have hfz17_1 := blk_frozen BK402.out 1))
      go_loopg [16] k1 (fun kq v16 w' => ∃ (x16_2 : Int) (x398000_2 : Int) (x398001_2 : Int), v16 = .int .i64 x16_2 ∧ Aside0 (impl_Crowd_only.l1 kq t398 (t398.length : Int) x12_1 x16_2 a0 ((rd_T41 t398 x12_1).f0) ((rd_T41 t398 x12_1).f1) = some (r1, r2, r3)) ∧ Aside0 (kq ≤ k1) ∧ Aside0 (Kd.R k41 41 w' w.heap.size (fun k_ => k_ ≠ gb397 ∧ k_ ≠ gb402) (.slice (some ad401) t398.length co9) t398) ∧ Aside0 (w'.heap[gb395]? = some (.cells (mixA (Value.int .u16) [] a0) 28 (0, 0))) ∧ Aside0 (w'.heap[gb396]? = some (.cells (mixA (Value.int .u16) [.int .i8 a1_0, .int .i8 a1_1] a1_2) 31 (0, 0))) ∧ Aside0 (w'.heap[gb397]? = some (.cells #[.int .i8 x398000_2, .int .i8 x398001_2] 41 (0, 0))) ∧ Aside0 (w'.heap[gb402]? = some (.cells #[.int .i8 ((rd_T41 t398 x12_1).f0), .int .i8 ((rd_T41 t398 x12_1).f1)] 41 (0, 0))) ∧ Aside0 (Below w.heap.size w w'))
      case atStart => exact ⟨(0), (x398000_1), (x398001_1), (by first | rfl | (simp; done) | (simp [*]; done)), H', ⟨Nat.le_refl _⟩, ⟨by (with_reducible repeat (first | apply Kd.R_alloc | apply Kd.R_drewN | apply Kd.R_drew)); exact Kd.R_mono (Kd.R_far (p := ⟨gb402, 1, none⟩) (Kd.R_far (p := ⟨gb402, 0, none⟩) (Kd.R_mono HO_10.out (fun k_ hk => (⟨hk, hk.2⟩ : _ ∧ k_ ≠ gb402))) (fun _ hk => hk.2) (.int .i8 ((rd_T41 t398 x12_1).f0))) (fun _ hk => hk.2) (.int .i8 ((rd_T41 t398 x12_1).f1))) (fun _ hk => ⟨hk.1.1, hk.1.2⟩)⟩, ⟨by (with_reducible repeat (first | refine blk_drewN ?_ _ | refine blk_drew ?_ | refine blk_alloc ?_ _)); refine blk_far ?_ NB395_402.out _; (with_reducible repeat (first | refine blk_drewN ?_ _ | refine blk_drew ?_ | refine blk_alloc ?_ _)); refine blk_far ?_ NB395_402.out _; (with_reducible repeat (first | refine blk_drewN ?_ _ | refine blk_drew ?_ | refine blk_alloc ?_ _)); exact BK395.out⟩, ⟨by (with_reducible repeat (first | refine blk_drewN ?_ _ | refine blk_drew ?_ | refine blk_alloc ?_ _)); refine blk_far ?_ NB396_402.out _; (with_reducible repeat (first | refine blk_drewN ?_ _ | refine blk_drew ?_ | refine blk_alloc ?_ _)); refine blk_far ?_ NB396_402.out _; (with_reducible repeat (first | refine blk_drewN ?_ _ | refine blk_drew ?_ | refine blk_alloc ?_ _)); exact BK396.out⟩, ⟨by (with_reducible repeat (first | refine blk_drewN ?_ _ | refine blk_drew ?_ | refine blk_alloc ?_ _)); refine blk_far ?_ NB397_402.out _; (with_reducible repeat (first | refine blk_drewN ?_ _ | refine blk_drew ?_ | refine blk_alloc ?_ _)); refine blk_far ?_ NB397_402.out _; (with_reducible repeat (first | refine blk_drewN ?_ _ | refine blk_drew ?_ | refine blk_alloc ?_ _)); exact BK397.out⟩, ⟨by (with_reducible repeat (first | refine blk_drewN ?_ _ | refine blk_drew ?_ | refine blk_alloc ?_ _)); refine blk_put (cs := #[.int .i8 ((rd_T41 t398 x12_1).f0), .int .i8 0]) ?_ 1 _ rfl; (with_reducible repeat (first | refine blk_drewN ?_ _ | refine blk_drew ?_ | refine blk_alloc ?_ _)); refine blk_put (cs := #[.int .i8 0, .int .i8 0]) ?_ 0 _ rfl; (with_reducible repeat (first | refine blk_drewN ?_ _ | refine blk_drew ?_ | refine blk_alloc ?_ _)); exact BK402.out⟩, ⟨pbs HB⟩⟩
      case round =>
       clear H'
       try clear c1
       try clear c2
       try clear p2
       try clear c4
       try clear p4
       try clear q4
       try clear hx4
       try clear c10
       try clear c10b0
       try clear c11
       try clear c11b0
       try clear c12
       try clear c12b0
       try clear c14
       try clear c15
       try clear c16
       try clear hcz17_0
       try clear hcz17_1
       try clear hfz17_0
       try clear hfz17_1
       try clear hx401_0
       try clear hx401_1
       try clear p2
       try clear p401
       try clear q401
       obtain ⟨x16_2, x398000_2, x398001_2, rfl, HA, HK2, HO_10, BK395, BK396, BK397, BK402, HB⟩ := hrel
       cases gk with
       | zero => exact absurd HA.out (by simp [impl_Crowd_only.l1])
       | succ k2 =>
        have H := HA.out
        clear HA
        simp only [impl_Crowd_only.l1] at H
        by_cases c18 : x16_2 < 4
        ·rw [if_pos c18] at H
         have c18b0 : decide (x16_2 < 4) = true := decide_eq_true c18
         clear c18
         replace H := Option.bind_eq_some_iff.mp H
         obtain ⟨t403, A190, H⟩ := H
         replace H : (if t403 = true then (some (((rd_T41 t398 x12_1).f0), ((rd_T41 t398 x12_1).f1), x16_2)) else (impl_Crowd_only.l1 k2 t398 (t398.length : Int) x12_1 (wrap64 (x16_2 + 1)) a0 ((rd_T41 t398 x12_1).f0) ((rd_T41 t398 x12_1).f1))) = some (r1, r2, r3) := H
         have A19 := Aside0.mk A190
         clear A190
         by_cases c20 : t403 = true
         ·subst c20
          have H1 : (some (((rd_T41 t398 x12_1).f0), ((rd_T41 t398 x12_1).f1), x16_2)) = some (r1, r2, r3) := by rw [if_pos rfl] at H; exact H
          clear H
          have H := H1
          clear H1
          simp only [Option.some.injEq, Prod.mk.injEq] at H
          obtain ⟨rfl, rfl, rfl⟩ := H
          go_wp2_with (first | ((with_reducible refine gate_dst (N := 19) rfl ?_); refine wpList_run0 (v := .agg (mixA (Value.int .u16) [] a0)) rfl (load_mix_run (P := Tryd.prog) 28 (.tmp 2) rfl gb395 rfl (show World.rangeAt _ gb395 0 ([] ++ a0.l.map (Value.int .u16)) from mix_range (show (World.heap _)[gb395]? = some (.cells (mixA (Value.int .u16) [] a0) 28 (0, 0)) from by (with_reducible repeat (first | refine blk_drewN ?_ _ | refine blk_drew ?_ | refine blk_alloc ?_ _)); exact BK395.out)) Tryd.underlying28 rfl (by kernel_rfl) rfl) ?_; have hnb22 := NB402_395.out; have hnc22 := NB395_402.out; have hnb23 := NB402_396.out; have hnc23 := NB396_402.out; have hnb24 := NB402_397.out; have hnc24 := NB397_402.out; have hcz25_0 : wr.cell? ⟨gb402, 0, none⟩ = some (.int .i8 ((rd_T41 t398 x12_1).f0)) := (blk_cell BK402.out 0).trans rfl; have hcz25_1 : wr.cell? ⟨gb402, 1, none⟩ = some (.int .i8 ((rd_T41 t398 x12_1).f1)) := (blk_cell BK402.out 1).trans rfl; have hfz25_0 := blk_frozen BK402.out 0; have hfz25_1 := blk_frozen BK402.out 1) | ((with_reducible refine gate_callee (f := 57) rfl ?_); refine goesL_ (some 22) rfl rfl Tryd.func57 (by kernel_rfl) rfl #[.agg (mixA (Value.int .u16) [] a0), .agg #[.int .i8 ((rd_T41 t398 x12_1).f0), .int .i8 ((rd_T41 t398 x12_1).f1)], .int .i64 x16_2] rfl (by (try simp only [List.map_toArray, List.map_cons, List.map_nil]); first | done | rfl | (simp only [List.length_drop, List.length_take]; rfl)) ?_; (with_reducible refine (impl_Crowd_has.calls a0 ((rd_T41 t398 x12_1).f0) ((rd_T41 t398 x12_1).f1) x16_2 true _ A19.out).mono ?_); rintro e w26 ⟨rfl, hb⟩; refine ⟨_, rfl, ?_⟩; have n0_ := krb HO_10 hb; have n1_ := bkb BK395 hb; have n2_ := bkb BK396 hb; have n3_ := bkb BK397 hb; have n4_ := bkb BK402 hb; have n5_ := bst HB hb; clear HO_10; clear BK395; clear BK396; clear BK397; clear BK402; clear HB; have HO_10 := n0_; have BK395 := n1_; have BK396 := n2_; have BK397 := n3_; have BK402 := n4_; have HB := n5_; clear n0_ n1_ n2_ n3_ n4_ n5_; (try clear hb); (try clear hb2); (try clear hk); (try clear hi); have hcz27_0 : w26.cell? ⟨gb402, 0, none⟩ = some (.int .i8 ((rd_T41 t398 x12_1).f0)) := (blk_cell BK402.out 0).trans rfl; have hcz27_1 : w26.cell? ⟨gb402, 1, none⟩ = some (.int .i8 ((rd_T41 t398 x12_1).f1)) := (blk_cell BK402.out 1).trans rfl; have hfz27_0 := blk_frozen BK402.out 0; have hfz27_1 := blk_frozen BK402.out 1; have hnb28 := NB397_395.out; have hnc28 := NB395_397.out; have hnb29 := NB397_396.out; have hnc29 := NB396_397.out; have hcz30_0 : w26.cell? ⟨gb397, 0, none⟩ = some (.int .i8 x398000_2) := (blk_cell BK397.out 0).trans rfl; have hcz30_1 : w26.cell? ⟨gb397, 1, none⟩ = some (.int .i8 x398001_2) := (blk_cell BK397.out 1).trans rfl; have hfz30_0 := blk_frozen BK397.out 0; have hfz30_1 := blk_frozen BK397.out 1))
          refine bodyPost_ret (results_ct rfl _ _ gb397 41 #[.int .i8 ((rd_T41 t398 x12_1).f0), .int .i8 ((rd_T41 t398 x12_1).f1)] (0, 0) _ rfl (by (with_reducible repeat (first | refine blk_drewN ?_ _ | refine blk_drew ?_ | refine blk_alloc ?_ _)); refine blk_put (cs := #[.int .i8 ((rd_T41 t398 x12_1).f0), .int .i8 x398001_2]) ?_ 1 _ rfl; (with_reducible repeat (first | refine blk_drewN ?_ _ | refine blk_drew ?_ | refine blk_alloc ?_ _)); refine blk_put (cs := #[.int .i8 x398000_2, .int .i8 x398001_2]) ?_ 0 _ rfl; (with_reducible repeat (first | refine blk_drewN ?_ _ | refine blk_drew ?_ | refine blk_alloc ?_ _)); exact BK397.out) Tryd.underlying41 rfl (by kernel_rfl)) rfl ?_
          exact ⟨by first | rfl | (simp [errW_none, errW_some] <;> rfl) | (simp [*, errW_none, errW_some] <;> rfl), pbs HB⟩
         ·replace c20 := Bool.eq_false_iff.mpr c20
          subst c20
          have H1 : (impl_Crowd_only.l1 k2 t398 (t398.length : Int) x12_1 (wrap64 (x16_2 + 1)) a0 ((rd_T41 t398 x12_1).f0) ((rd_T41 t398 x12_1).f1)) = some (r1, r2, r3) := by rw [if_neg (show ¬ (false = true) by decide)] at H; exact H
          clear H
          have H := H1
          clear H1
          have H' := Aside0.mk H
          clear H
          go_wp2_with (first | ((with_reducible refine gate_dst (N := 19) rfl ?_); refine wpList_run0 (v := .agg (mixA (Value.int .u16) [] a0)) rfl (load_mix_run (P := Tryd.prog) 28 (.tmp 2) rfl gb395 rfl (show World.rangeAt _ gb395 0 ([] ++ a0.l.map (Value.int .u16)) from mix_range (show (World.heap _)[gb395]? = some (.cells (mixA (Value.int .u16) [] a0) 28 (0, 0)) from by (with_reducible repeat (first | refine blk_drewN ?_ _ | refine blk_drew ?_ | refine blk_alloc ?_ _)); exact BK395.out)) Tryd.underlying28 rfl (by kernel_rfl) rfl) ?_; have hnb32 := NB402_395.out; have hnc32 := NB395_402.out; have hnb33 := NB402_396.out; have hnc33 := NB396_402.out; have hnb34 := NB402_397.out; have hnc34 := NB397_402.out; have hcz35_0 : wr.cell? ⟨gb402, 0, none⟩ = some (.int .i8 ((rd_T41 t398 x12_1).f0)) := (blk_cell BK402.out 0).trans rfl; have hcz35_1 : wr.cell? ⟨gb402, 1, none⟩ = some (.int .i8 ((rd_T41 t398 x12_1).f1)) := (blk_cell BK402.out 1).trans rfl; have hfz35_0 := blk_frozen BK402.out 0; have hfz35_1 := blk_frozen BK402.out 1) | ((with_reducible refine gate_callee (f := 57) rfl ?_); refine goesL_ (some 22) rfl rfl Tryd.func57 (by kernel_rfl) rfl #[.agg (mixA (Value.int .u16) [] a0), .agg #[.int .i8 ((rd_T41 t398 x12_1).f0), .int .i8 ((rd_T41 t398 x12_1).f1)], .int .i64 x16_2] rfl (by (try simp only [List.map_toArray, List.map_cons, List.map_nil]); first | done | rfl | (simp only [List.length_drop, List.length_take]; rfl)) ?_; (with_reducible refine (impl_Crowd_has.calls a0 ((rd_T41 t398 x12_1).f0) ((rd_T41 t398 x12_1).f1) x16_2 false _ A19.out).mono ?_); rintro e w36 ⟨rfl, hb⟩; refine ⟨_, rfl, ?_⟩; have n0_ := krb HO_10 hb; have n1_ := bkb BK395 hb; have n2_ := bkb BK396 hb; have n3_ := bkb BK397 hb; have n4_ := bkb BK402 hb; have n5_ := bst HB hb; clear HO_10; clear BK395; clear BK396; clear BK397; clear BK402; clear HB; have HO_10 := n0_; have BK395 := n1_; have BK396 := n2_; have BK397 := n3_; have BK402 := n4_; have HB := n5_; clear n0_ n1_ n2_ n3_ n4_ n5_; (try clear hb); (try clear hb2); (try clear hk); (try clear hi)))
          go_roundg k2
          case measure => have := HK1.out; have := HK2.out; omega
          case rel => exact ⟨(wrap64 (x16_2 + 1)), (x398000_2), (x398001_2), (by first | rfl | (simp; done) | (simp [*]; done)), H', ⟨by have := HK1.out; have := HK2.out; omega⟩, ⟨by (with_reducible repeat (first | apply Kd.R_alloc | apply Kd.R_drewN | apply Kd.R_drew)); exact HO_10.out⟩, ⟨pk BK395⟩, ⟨pk BK396⟩, ⟨pk BK397⟩, ⟨pk BK402⟩, ⟨pbs HB⟩⟩
        ·rw [if_neg c18] at H
         have c18b0 : decide (x16_2 < 4) = false := decide_eq_false c18
         clear c18
         have H' := Aside0.mk H
         clear H
         go_wp2
         go_roundg k2
         case measure => have := HK1.out; have := HK2.out; omega
         case rel => exact ⟨(wrap64 (x12_1 + 1)), (x398000_2), (x398001_2), (by first | rfl | (simp; done) | (simp [*]; done)), H', ⟨by have := HK1.out; have := HK2.out; omega⟩, ⟨by (with_reducible repeat (first | apply Kd.R_alloc | apply Kd.R_drewN | apply Kd.R_drew)); exact Kd.R_mono HO_10.out (fun _ hk => hk.1)⟩, ⟨pk BK395⟩, ⟨pk BK396⟩, ⟨pk BK397⟩, ⟨pbs HB⟩⟩
     ·rw [if_neg c12] at H
      exact absurd H (by simp)
    ·rw [if_neg c11] at H
     exact absurd H (by simp)
   ·rw [if_neg c10] at H
    have c10b0 : decide (x12_1 < (t398.length : Int)) = false := decide_eq_false c10
    clear c10
    simp only [Option.some.injEq, Prod.mk.injEq] at H
    obtain ⟨rfl, rfl, rfl⟩ := H
    have hnb37 := NB397_395.out
    have hnc37 := NB395_397.out
    have hnb38 := NB397_396.out
    have hnc38 := NB396_397.out
    have hcz39_0 : wr.cell? ⟨gb397, 0, none⟩ = some (.int .i8 x398000_1) := bc_ BK397.out 0
    have hcz39_1 : wr.cell? ⟨gb397, 1, none⟩ = some (.int .i8 x398001_1) := bc_ BK397.out 1
    have hfz39_0 := blk_frozen BK397.out 0
    have hfz39_1 := blk_frozen BK397.out 1
    go_wp2
    refine bodyPost_ret (results_ct rfl _ _ gb397 41 #[.int .i8 0, .int .i8 0] (0, 0) _ rfl (by (with_reducible repeat (first | refine blk_drewN ?_ _ | refine blk_drew ?_ | refine blk_alloc ?_ _)); refine blk_put (cs := #[.int .i8 0, .int .i8 x398001_1]) ?_ 1 _ rfl; (with_reducible repeat (first | refine blk_drewN ?_ _ | refine blk_drew ?_ | refine blk_alloc ?_ _)); refine blk_put (cs := #[.int .i8 x398000_1, .int .i8 x398001_1]) ?_ 0 _ rfl; (with_reducible repeat (first | refine blk_drewN ?_ _ | refine blk_drew ?_ | refine blk_alloc ?_ _)); exact BK397.out) Tryd.underlying41 rfl (by kernel_rfl)) rfl ?_
    exact ⟨by first | rfl | (simp [errW_none, errW_some] <;> rfl) | (simp [*, errW_none, errW_some] <;> rfl), pbs HB⟩
def impl_WhereNow.f (k : Nat) (a0_0 : Int) (a0_1 : Int) (a0_2 : LA 10) (a1 : ByteArray) : Option (Int × Int × Int × Int) := (impl_Anywhere.f k a0_0 a0_1 a0_2).bind fun bt406 => ((impl_MovesCrowd.f k a0_0 a0_1 a0_2 bt406.1 a1).bind fun bt409 => ((impl_CountCrowd.f k bt409.1).bind fun t412 => (if bt409.2 = 0 then (if t412 > 1 then (some (0, 0, 0, 4)) else (if t412 = 0 then (some (0, 0, 0, 6)) else ((impl_Crowd_only.f k bt409.1 a0_0 a0_1 a0_2).bind fun bt413 => (some (bt413.1, bt413.2.1, bt413.2.2, 0))))) else (some (0, 0, 0, bt409.2)))))
theorem impl_WhereNow.mono : ∀ a0 a1 a2 a3 k, LeO (impl_WhereNow.f k a0 a1 a2 a3) (impl_WhereNow.f (k + 1) a0 a1 a2 a3) := by
 intro a0 a1 a2 a3 k
 unfold impl_WhereNow.f
 repeat' first
   | (with_reducible exact impl_Anywhere.mono _ _ _ _)
   | (with_reducible exact impl_CountCrowd.mono _ _)
   | (with_reducible exact impl_Crowd_only.mono _ _ _ _ _)
   | (with_reducible exact impl_MovesCrowd.mono _ _ _ _ _ _)
   | (with_reducible exact LeO.refl _)
   | (with_reducible exact LeO.none _)
   | (with_reducible refine LeO.ite ?_ ?_)
   | (with_reducible refine LeO.bind ?_ (fun _ => ?_))
   | exact impl_Anywhere.mono _ _ _ _
   | exact impl_CountCrowd.mono _ _
   | exact impl_Crowd_only.mono _ _ _ _ _
   | exact impl_MovesCrowd.mono _ _ _ _ _ _
   | exact LeO.none _
   | refine LeO.ite ?_ ?_
   | refine LeO.bind ?_ (fun _ => ?_)
set_option maxHeartbeats 8000000 in
set_option maxRecDepth 100000 in
theorem impl_WhereNow.calls (k : Nat) (a0_0 : Int) (a0_1 : Int) (a0_2 : LA 10) (a1 : ByteArray) (r1 : Int) (r2 : Int) (r3 : Int) (r4 : Int) (w : World) (h : impl_WhereNow.f k a0_0 a0_1 a0_2 a1 = some (r1, r2, r3, r4)) :
  Calls Tryd.prog 17 #[.agg (mixA (Value.int .u16) [.int .i8 a0_0, .int .i8 a0_1] a0_2), .string a1] w fun e w' => e = .returned (.tuple #[.agg #[.int .i8 r1, .int .i8 r2], .int .i64 r3, .int .i64 r4]) ∧ Below w.heap.size w w' := by
 have hu31 := Tryd.underlying31
 have hu41 := Tryd.underlying41
 have HB := Aside0.mk (Below.refl w.heap.size w)
 have H : ((impl_Anywhere.f k a0_0 a0_1 a0_2).bind fun bt406 => ((impl_MovesCrowd.f k a0_0 a0_1 a0_2 bt406.1 a1).bind fun bt409 => ((impl_CountCrowd.f k bt409.1).bind fun t412 => (if bt409.2 = 0 then (if t412 > 1 then (some (0, 0, 0, 4)) else (if t412 = 0 then (some (0, 0, 0, 6)) else ((impl_Crowd_only.f k bt409.1 a0_0 a0_1 a0_2).bind fun bt413 => (some (bt413.1, bt413.2.1, bt413.2.2, 0))))) else (some (0, 0, 0, bt409.2)))))) = some (r1, r2, r3, r4) := h
 clear h
 replace H := Option.bind_eq_some_iff.mp H
 obtain ⟨⟨t406, t407⟩, A30, H⟩ := H
 replace H : ((impl_MovesCrowd.f k a0_0 a0_1 a0_2 t406 a1).bind fun bt409 => ((impl_CountCrowd.f k bt409.1).bind fun t412 => (if bt409.2 = 0 then (if t412 > 1 then (some (0, 0, 0, 4)) else (if t412 = 0 then (some (0, 0, 0, 6)) else ((impl_Crowd_only.f k bt409.1 a0_0 a0_1 a0_2).bind fun bt413 => (some (bt413.1, bt413.2.1, bt413.2.2, 0))))) else (some (0, 0, 0, bt409.2))))) = some (r1, r2, r3, r4) := H
 have A3 := Aside0.mk A30
 clear A30
 replace H := Option.bind_eq_some_iff.mp H
 obtain ⟨⟨t409, t410⟩, A40, H⟩ := H
 replace H : ((impl_CountCrowd.f k t409).bind fun t412 => (if t410 = 0 then (if t412 > 1 then (some (0, 0, 0, 4)) else (if t412 = 0 then (some (0, 0, 0, 6)) else ((impl_Crowd_only.f k t409 a0_0 a0_1 a0_2).bind fun bt413 => (some (bt413.1, bt413.2.1, bt413.2.2, 0))))) else (some (0, 0, 0, t410)))) = some (r1, r2, r3, r4) := H
 have A4 := Aside0.mk A40
 clear A40
 replace H := Option.bind_eq_some_iff.mp H
 obtain ⟨t412, A50, H⟩ := H
 replace H : (if t410 = 0 then (if t412 > 1 then (some (0, 0, 0, 4)) else (if t412 = 0 then (some (0, 0, 0, 6)) else ((impl_Crowd_only.f k t409 a0_0 a0_1 a0_2).bind fun bt413 => (some (bt413.1, bt413.2.1, bt413.2.2, 0))))) else (some (0, 0, 0, t410))) = some (r1, r2, r3, r4) := H
 have A5 := Aside0.mk A50
 clear A50
 by_cases c6 : t410 = 0
 ·rw [if_pos c6] at H
  have c6b0 : (t410 == 0) = true := beq_iff_eq.mpr c6
  have c6b1 : (t410 != 0) = false := bne_eq_false_iff_eq.mpr c6
  clear c6
  by_cases c7 : t412 > 1
  ·rw [if_pos c7] at H
   have c7b0 : decide (1 < t412) = true := decide_eq_true c7
   clear c7
   simp only [Option.some.injEq, Prod.mk.injEq] at H
   obtain ⟨rfl, rfl, rfl, rfl⟩ := H
   go_enter Tryd.func17, Tryd.ntmps17
   go_wp2_with (first | ((with_reducible refine gate_dst (N := 2) rfl ?_); refine box_event ?hg (N := 2) ?hd (cs := (mixA (Value.int .u16) [.int .i8 a0_0, .int .i8 a0_1] a0_2)) (t := 31) ?hr ?_; (case hd => rfl); (case hg => rfl); (case hr => first | (go_simp; done) | (go_simp; rfl)); intro gb404 hg w8 hbox hb; have n0_ := bst HB hb; have n1_ := Aside0.mk (hbox); have n2_ := gwl HB hg; have n3_ := gwl HB hg; clear HB; have HB := n0_; have BK404 := n1_; have GW404 := n2_; have GE404 := n3_; clear n0_ n1_ n2_ n3_; clear hb hbox hg) | ((with_reducible refine gate_dst (N := 4) rfl ?_); refine box_event ?hg (N := 4) ?hd (cs := #[.int .i8 0, .int .i8 0]) (t := 41) ?hr ?_; (case hd => rfl); (case hg => rfl); (case hr => first | (go_simp; done) | (go_simp; rfl)); intro gb405 hg w9 hbox hb; have n0_ := bkb BK404 hb; have n1_ := bst HB hb; have n2_ := Aside0.mk (hbox); have n3_ := gwl HB hg; have n4_ := gwl HB hg; have n5_ := nbl BK404 hg; have n6_ := nbg BK404 hg; clear BK404; clear HB; have BK404 := n0_; have HB := n1_; have BK405 := n2_; have GW405 := n3_; have GE405 := n4_; have NB404_405 := n5_; have NB405_404 := n6_; clear n0_ n1_ n2_ n3_ n4_ n5_ n6_; clear hb hbox hg) | ((with_reducible refine gate_dst (N := 15) rfl ?_); refine wpList_run0 (v := .agg (mixA (Value.int .u16) [.int .i8 a0_0, .int .i8 a0_1] a0_2)) rfl (load_mix_run (P := Tryd.prog) 31 (.tmp 2) rfl gb404 rfl (show World.rangeAt _ gb404 0 ([.int .i8 a0_0, .int .i8 a0_1] ++ a0_2.l.map (Value.int .u16)) from mix_range (show (World.heap _)[gb404]? = some (.cells (mixA (Value.int .u16) [.int .i8 a0_0, .int .i8 a0_1] a0_2) 31 (0, 0)) from by (with_reducible repeat (first | refine blk_drewN ?_ _ | refine blk_drew ?_ | refine blk_alloc ?_ _)); exact BK404.out)) Tryd.underlying31 rfl (by kernel_rfl) rfl) ?_) | ((with_reducible refine gate_callee (f := 41) rfl ?_); refine goesL_ (some 16) rfl rfl Tryd.func41 (by kernel_rfl) rfl #[.agg (mixA (Value.int .u16) [.int .i8 a0_0, .int .i8 a0_1] a0_2)] rfl (by (try simp only [List.map_toArray, List.map_cons, List.map_nil]); first | done | rfl | (simp only [List.length_drop, List.length_take]; rfl)) ?_; (with_reducible refine (impl_Anywhere.calls k a0_0 a0_1 a0_2 t406 t407 _ A3.out).mono ?_); rintro e w11 ⟨rfl, hb⟩; refine ⟨_, rfl, ?_⟩; have n0_ := bkb BK404 hb; have n1_ := bkb BK405 hb; have n2_ := bst HB hb; clear BK404; clear BK405; clear HB; have BK404 := n0_; have BK405 := n1_; have HB := n2_; clear n0_ n1_ n2_; (try clear hb); (try clear hb2); (try clear hk); (try clear hi)) | ((with_reducible refine gate_dst (N := 7) rfl ?_); refine box_event ?hg (N := 7) ?hd (cs := (mixA (Value.int .u16) [] (LA.zero 40))) (t := 28) ?hr ?_; (case hd => rfl); (case hg => rfl); (case hr => first | (go_simp; done) | (go_simp; rfl)); intro gb408 hg w12 hbox hb; have n0_ := bkb BK404 hb; have n1_ := bkb BK405 hb; have n2_ := bst HB hb; have n3_ := Aside0.mk (hbox); have n4_ := gwl HB hg; have n5_ := gwl HB hg; have n6_ := nbl BK404 hg; have n7_ := nbg BK404 hg; have n8_ := nbl BK405 hg; have n9_ := nbg BK405 hg; clear BK404; clear BK405; clear HB; have BK404 := n0_; have BK405 := n1_; have HB := n2_; have BK408 := n3_; have GW408 := n4_; have GE408 := n5_; have NB404_408 := n6_; have NB408_404 := n7_; have NB405_408 := n8_; have NB408_405 := n9_; clear n0_ n1_ n2_ n3_ n4_ n5_ n6_ n7_ n8_ n9_; clear hb hbox hg) | ((with_reducible refine gate_store (p := 7) rfl ?_); refine wpList_store_lmix rfl 28 _ _ rfl gb408 (e := (Value.int .u16)) (cs' := []) (W' := t406) (cs := []) (W := (LA.zero 40)) (T := 28) rfl rfl (pk BK408) rfl (by kernel_rfl) rfl (fun _ => rfl) rfl ?_; intro w13 hi hk hbl; have n0_ := Aside0.mk (KeepBut.blk hk (g' := gb404) (o := .cells (mixA (Value.int .u16) [.int .i8 a0_0, .int .i8 a0_1] a0_2) 31 (0, 0)) (pk BK404) NB404_408.out (by simp)); have n1_ := Aside0.mk (KeepBut.blk hk (g' := gb405) (o := .cells #[.int .i8 0, .int .i8 0] 41 (0, 0)) (pk BK405) NB405_408.out (by simp)); have n2_ := Aside0.mk (hbl _ _ (pbs HB) GE408.out); have n3_ := Aside0.mk (hi); clear BK404; clear BK405; clear HB; clear BK408; have BK404 := n0_; have BK405 := n1_; have HB := n2_; have BK408 := n3_; clear n0_ n1_ n2_ n3_; clear hi hk hbl) | ((with_reducible refine gate_dst (N := 20) rfl ?_); refine wpList_run0 (v := .agg (mixA (Value.int .u16) [.int .i8 a0_0, .int .i8 a0_1] a0_2)) rfl (load_mix_run (P := Tryd.prog) 31 (.tmp 2) rfl gb404 rfl (show World.rangeAt _ gb404 0 ([.int .i8 a0_0, .int .i8 a0_1] ++ a0_2.l.map (Value.int .u16)) from mix_range (show (World.heap _)[gb404]? = some (.cells (mixA (Value.int .u16) [.int .i8 a0_0, .int .i8 a0_1] a0_2) 31 (0, 0)) from by (with_reducible repeat (first | refine blk_drewN ?_ _ | refine blk_drew ?_ | refine blk_alloc ?_ _)); exact BK404.out)) Tryd.underlying31 rfl (by kernel_rfl) rfl) ?_) | ((with_reducible refine gate_dst (N := 21) rfl ?_); refine wpList_run0 (v := .agg (mixA (Value.int .u16) [] t406)) rfl (load_mix_run (P := Tryd.prog) 28 (.tmp 7) rfl gb408 rfl (show World.rangeAt _ gb408 0 ([] ++ t406.l.map (Value.int .u16)) from mix_range (show (World.heap _)[gb408]? = some (.cells (mixA (Value.int .u16) [] t406) 28 (0, 0)) from by (with_reducible repeat (first | refine blk_drewN ?_ _ | refine blk_drew ?_ | refine blk_alloc ?_ _)); exact BK408.out)) Tryd.underlying28 rfl (by kernel_rfl) rfl) ?_) | ((with_reducible refine gate_callee (f := 15) rfl ?_); refine goesL_ (some 23) rfl rfl Tryd.func15 (by kernel_rfl) rfl #[.agg (mixA (Value.int .u16) [.int .i8 a0_0, .int .i8 a0_1] a0_2), .agg (mixA (Value.int .u16) [] t406), .string a1] rfl (by (try simp only [List.map_toArray, List.map_cons, List.map_nil]); first | done | rfl | (simp only [List.length_drop, List.length_take]; rfl)) ?_; (with_reducible refine (impl_MovesCrowd.calls k a0_0 a0_1 a0_2 t406 a1 t409 t410 _ A4.out).mono ?_); rintro e w16 ⟨rfl, hb⟩; refine ⟨_, rfl, ?_⟩; have n0_ := bkb BK404 hb; have n1_ := bkb BK405 hb; have n2_ := bkb BK408 hb; have n3_ := bst HB hb; clear BK404; clear BK405; clear BK408; clear HB; have BK404 := n0_; have BK405 := n1_; have BK408 := n2_; have HB := n3_; clear n0_ n1_ n2_ n3_; (try clear hb); (try clear hb2); (try clear hk); (try clear hi)) | ((with_reducible refine gate_dst (N := 9) rfl ?_); refine box_event ?hg (N := 9) ?hd (cs := (mixA (Value.int .u16) [] (LA.zero 40))) (t := 28) ?hr ?_; (case hd => rfl); (case hg => rfl); (case hr => first | (go_simp; done) | (go_simp; rfl)); intro gb411 hg w17 hbox hb; have n0_ := bkb BK404 hb; have n1_ := bkb BK405 hb; have n2_ := bkb BK408 hb; have n3_ := bst HB hb; have n4_ := Aside0.mk (hbox); have n5_ := gwl HB hg; have n6_ := gwl HB hg; have n7_ := nbl BK404 hg; have n8_ := nbg BK404 hg; have n9_ := nbl BK405 hg; have n10_ := nbg BK405 hg; have n11_ := nbl BK408 hg; have n12_ := nbg BK408 hg; clear BK404; clear BK405; clear BK408; clear HB; have BK404 := n0_; have BK405 := n1_; have BK408 := n2_; have HB := n3_; have BK411 := n4_; have GW411 := n5_; have GE411 := n6_; have NB404_411 := n7_; have NB411_404 := n8_; have NB405_411 := n9_; have NB411_405 := n10_; have NB408_411 := n11_; have NB411_408 := n12_; clear n0_ n1_ n2_ n3_ n4_ n5_ n6_ n7_ n8_ n9_ n10_ n11_ n12_; clear hb hbox hg) | ((with_reducible refine gate_store (p := 9) rfl ?_); refine wpList_store_lmix rfl 28 _ _ rfl gb411 (e := (Value.int .u16)) (cs' := []) (W' := t409) (cs := []) (W := (LA.zero 40)) (T := 28) rfl rfl (pk BK411) rfl (by kernel_rfl) rfl (fun _ => rfl) rfl ?_; intro w18 hi hk hbl; have n0_ := Aside0.mk (KeepBut.blk hk (g' := gb404) (o := .cells (mixA (Value.int .u16) [.int .i8 a0_0, .int .i8 a0_1] a0_2) 31 (0, 0)) (pk BK404) NB404_411.out (by simp)); have n1_ := Aside0.mk (KeepBut.blk hk (g' := gb405) (o := .cells #[.int .i8 0, .int .i8 0] 41 (0, 0)) (pk BK405) NB405_411.out (by simp)); have n2_ := Aside0.mk (KeepBut.blk hk (g' := gb408) (o := .cells (mixA (Value.int .u16) [] t406) 28 (0, 0)) (pk BK408) NB408_411.out (by simp)); have n3_ := Aside0.mk (hbl _ _ (pbs HB) GE411.out); have n4_ := Aside0.mk (hi); clear BK404; clear BK405; clear BK408; clear HB; clear BK411; have BK404 := n0_; have BK405 := n1_; have BK408 := n2_; have HB := n3_; have BK411 := n4_; clear n0_ n1_ n2_ n3_ n4_; clear hi hk hbl) | ((with_reducible refine gate_dst (N := 26) rfl ?_); refine wpList_run0 (v := .agg (mixA (Value.int .u16) [] t409)) rfl (load_mix_run (P := Tryd.prog) 28 (.tmp 9) rfl gb411 rfl (show World.rangeAt _ gb411 0 ([] ++ t409.l.map (Value.int .u16)) from mix_range (show (World.heap _)[gb411]? = some (.cells (mixA (Value.int .u16) [] t409) 28 (0, 0)) from by (with_reducible repeat (first | refine blk_drewN ?_ _ | refine blk_drew ?_ | refine blk_alloc ?_ _)); exact BK411.out)) Tryd.underlying28 rfl (by kernel_rfl) rfl) ?_) | ((with_reducible refine gate_callee (f := 30) rfl ?_); refine goesL_ (some 27) rfl rfl Tryd.func30 (by kernel_rfl) rfl #[.agg (mixA (Value.int .u16) [] t409)] rfl (by (try simp only [List.map_toArray, List.map_cons, List.map_nil]); first | done | rfl | (simp only [List.length_drop, List.length_take]; rfl)) ?_; (with_reducible refine (impl_CountCrowd.calls k t409 t412 _ A5.out).mono ?_); rintro e w20 ⟨rfl, hb⟩; refine ⟨_, rfl, ?_⟩; have n0_ := bkb BK404 hb; have n1_ := bkb BK405 hb; have n2_ := bkb BK408 hb; have n3_ := bkb BK411 hb; have n4_ := bst HB hb; clear BK404; clear BK405; clear BK408; clear BK411; clear HB; have BK404 := n0_; have BK405 := n1_; have BK408 := n2_; have BK411 := n3_; have HB := n4_; clear n0_ n1_ n2_ n3_ n4_; (try clear hb); (try clear hb2); (try clear hk); (try clear hi); have hnb21 := NB405_404.out; have hnc21 := NB404_405.out; have hnb22 := NB405_408.out; have hnc22 := NB408_405.out; have hnb23 := NB405_411.out; have hnc23 := NB411_405.out; have hcz24_0 : w20.cell? ⟨gb405, 0, none⟩ = some (.int .i8 0) := (blk_cell BK405.out 0).trans rfl; have hcz24_1 : w20.cell? ⟨gb405, 1, none⟩ = some (.int .i8 0) := (blk_cell BK405.out 1).trans rfl; have hfz24_0 := blk_frozen BK405.out 0; have hfz24_1 := blk_frozen BK405.out 1))
   refine bodyPost_ret (results_ctt rfl _ _ gb405 41 #[.int .i8 0, .int .i8 0] (0, 0) _ rfl (by (with_reducible repeat (first | refine blk_drewN ?_ _ | refine blk_drew ?_ | refine blk_alloc ?_ _)); refine blk_put (cs := #[.int .i8 0, .int .i8 0]) ?_ 1 _ rfl; (with_reducible repeat (first | refine blk_drewN ?_ _ | refine blk_drew ?_ | refine blk_alloc ?_ _)); refine blk_put (cs := #[.int .i8 0, .int .i8 0]) ?_ 0 _ rfl; (with_reducible repeat (first | refine blk_drewN ?_ _ | refine blk_drew ?_ | refine blk_alloc ?_ _)); exact BK405.out) Tryd.underlying41 rfl (by kernel_rfl)) rfl ?_
   exact ⟨by first | rfl | (simp [errW_none, errW_some] <;> rfl) | (simp [*, errW_none, errW_some] <;> rfl), pbs HB⟩
  ·rw [if_neg c7] at H
   have c7b0 : decide (1 < t412) = false := decide_eq_false c7
   clear c7
   by_cases c25 : t412 = 0
   ·rw [if_pos c25] at H
    have c25b0 : (t412 == 0) = true := beq_iff_eq.mpr c25
    have c25b1 : (t412 != 0) = false := bne_eq_false_iff_eq.mpr c25
    clear c25
    simp only [Option.some.injEq, Prod.mk.injEq] at H
    obtain ⟨rfl, rfl, rfl, rfl⟩ := H
    go_enter Tryd.func17, Tryd.ntmps17
    go_wp2_with (first | ((with_reducible refine gate_dst (N := 2) rfl ?_); refine box_event ?hg (N := 2) ?hd (cs := (mixA (Value.int .u16) [.int .i8 a0_0, .int .i8 a0_1] a0_2)) (t := 31) ?hr ?_; (case hd => rfl); (case hg => rfl); (case hr => first | (go_simp; done) | (go_simp; rfl)); intro gb404 hg w26 hbox hb; have n0_ := bst HB hb; have n1_ := Aside0.mk (hbox); have n2_ := gwl HB hg; have n3_ := gwl HB hg; clear HB; have HB := n0_; have BK404 := n1_; have GW404 := n2_; have GE404 := n3_; clear n0_ n1_ n2_ n3_; clear hb hbox hg) | ((with_reducible refine gate_dst (N := 4) rfl ?_); refine box_event ?hg (N := 4) ?hd (cs := #[.int .i8 0, .int .i8 0]) (t := 41) ?hr ?_; (case hd => rfl); (case hg => rfl); (case hr => first | (go_simp; done) | (go_simp; rfl)); intro gb405 hg w27 hbox hb; have n0_ := bkb BK404 hb; have n1_ := bst HB hb; have n2_ := Aside0.mk (hbox); have n3_ := gwl HB hg; have n4_ := gwl HB hg; have n5_ := nbl BK404 hg; have n6_ := nbg BK404 hg; clear BK404; clear HB; have BK404 := n0_; have HB := n1_; have BK405 := n2_; have GW405 := n3_; have GE405 := n4_; have NB404_405 := n5_; have NB405_404 := n6_; clear n0_ n1_ n2_ n3_ n4_ n5_ n6_; clear hb hbox hg) | ((with_reducible refine gate_dst (N := 15) rfl ?_); refine wpList_run0 (v := .agg (mixA (Value.int .u16) [.int .i8 a0_0, .int .i8 a0_1] a0_2)) rfl (load_mix_run (P := Tryd.prog) 31 (.tmp 2) rfl gb404 rfl (show World.rangeAt _ gb404 0 ([.int .i8 a0_0, .int .i8 a0_1] ++ a0_2.l.map (Value.int .u16)) from mix_range (show (World.heap _)[gb404]? = some (.cells (mixA (Value.int .u16) [.int .i8 a0_0, .int .i8 a0_1] a0_2) 31 (0, 0)) from by (with_reducible repeat (first | refine blk_drewN ?_ _ | refine blk_drew ?_ | refine blk_alloc ?_ _)); exact BK404.out)) Tryd.underlying31 rfl (by kernel_rfl) rfl) ?_) | ((with_reducible refine gate_callee (f := 41) rfl ?_); refine goesL_ (some 16) rfl rfl Tryd.func41 (by kernel_rfl) rfl #[.agg (mixA (Value.int .u16) [.int .i8 a0_0, .int .i8 a0_1] a0_2)] rfl (by (try simp only [List.map_toArray, List.map_cons, List.map_nil]); first | done | rfl | (simp only [List.length_drop, List.length_take]; rfl)) ?_; (with_reducible refine (impl_Anywhere.calls k a0_0 a0_1 a0_2 t406 t407 _ A3.out).mono ?_); rintro e w29 ⟨rfl, hb⟩; refine ⟨_, rfl, ?_⟩; have n0_ := bkb BK404 hb; have n1_ := bkb BK405 hb; have n2_ := bst HB hb; clear BK404; clear BK405; clear HB; have BK404 := n0_; have BK405 := n1_; have HB := n2_; clear n0_ n1_ n2_; (try clear hb); (try clear hb2); (try clear hk); (try clear hi)) | ((with_reducible refine gate_dst (N := 7) rfl ?_); refine box_event ?hg (N := 7) ?hd (cs := (mixA (Value.int .u16) [] (LA.zero 40))) (t := 28) ?hr ?_; (case hd => rfl); (case hg => rfl); (case hr => first | (go_simp; done) | (go_simp; rfl)); intro gb408 hg w30 hbox hb; have n0_ := bkb BK404 hb; have n1_ := bkb BK405 hb; have n2_ := bst HB hb; have n3_ := Aside0.mk (hbox); have n4_ := gwl HB hg; have n5_ := gwl HB hg; have n6_ := nbl BK404 hg; have n7_ := nbg BK404 hg; have n8_ := nbl BK405 hg; have n9_ := nbg BK405 hg; clear BK404; clear BK405; clear HB; have BK404 := n0_; have BK405 := n1_; have HB := n2_; have BK408 := n3_; have GW408 := n4_; have GE408 := n5_; have NB404_408 := n6_; have NB408_404 := n7_; have NB405_408 := n8_; have NB408_405 := n9_; clear n0_ n1_ n2_ n3_ n4_ n5_ n6_ n7_ n8_ n9_; clear hb hbox hg) | ((with_reducible refine gate_store (p := 7) rfl ?_); refine wpList_store_lmix rfl 28 _ _ rfl gb408 (e := (Value.int .u16)) (cs' := []) (W' := t406) (cs := []) (W := (LA.zero 40)) (T := 28) rfl rfl (pk BK408) rfl (by kernel_rfl) rfl (fun _ => rfl) rfl ?_; intro w31 hi hk hbl; have n0_ := Aside0.mk (KeepBut.blk hk (g' := gb404) (o := .cells (mixA (Value.int .u16) [.int .i8 a0_0, .int .i8 a0_1] a0_2) 31 (0, 0)) (pk BK404) NB404_408.out (by simp)); have n1_ := Aside0.mk (KeepBut.blk hk (g' := gb405) (o := .cells #[.int .i8 0, .int .i8 0] 41 (0, 0)) (pk BK405) NB405_408.out (by simp)); have n2_ := Aside0.mk (hbl _ _ (pbs HB) GE408.out); have n3_ := Aside0.mk (hi); clear BK404; clear BK405; clear HB; clear BK408; have BK404 := n0_; have BK405 := n1_; have HB := n2_; have BK408 := n3_; clear n0_ n1_ n2_ n3_; clear hi hk hbl) | ((with_reducible refine gate_dst (N := 20) rfl ?_); refine wpList_run0 (v := .agg (mixA (Value.int .u16) [.int .i8 a0_0, .int .i8 a0_1] a0_2)) rfl (load_mix_run (P := Tryd.prog) 31 (.tmp 2) rfl gb404 rfl (show World.rangeAt _ gb404 0 ([.int .i8 a0_0, .int .i8 a0_1] ++ a0_2.l.map (Value.int .u16)) from mix_range (show (World.heap _)[gb404]? = some (.cells (mixA (Value.int .u16) [.int .i8 a0_0, .int .i8 a0_1] a0_2) 31 (0, 0)) from by (with_reducible repeat (first | refine blk_drewN ?_ _ | refine blk_drew ?_ | refine blk_alloc ?_ _)); exact BK404.out)) Tryd.underlying31 rfl (by kernel_rfl) rfl) ?_) | ((with_reducible refine gate_dst (N := 21) rfl ?_); refine wpList_run0 (v := .agg (mixA (Value.int .u16) [] t406)) rfl (load_mix_run (P := Tryd.prog) 28 (.tmp 7) rfl gb408 rfl (show World.rangeAt _ gb408 0 ([] ++ t406.l.map (Value.int .u16)) from mix_range (show (World.heap _)[gb408]? = some (.cells (mixA (Value.int .u16) [] t406) 28 (0, 0)) from by (with_reducible repeat (first | refine blk_drewN ?_ _ | refine blk_drew ?_ | refine blk_alloc ?_ _)); exact BK408.out)) Tryd.underlying28 rfl (by kernel_rfl) rfl) ?_) | ((with_reducible refine gate_callee (f := 15) rfl ?_); refine goesL_ (some 23) rfl rfl Tryd.func15 (by kernel_rfl) rfl #[.agg (mixA (Value.int .u16) [.int .i8 a0_0, .int .i8 a0_1] a0_2), .agg (mixA (Value.int .u16) [] t406), .string a1] rfl (by (try simp only [List.map_toArray, List.map_cons, List.map_nil]); first | done | rfl | (simp only [List.length_drop, List.length_take]; rfl)) ?_; (with_reducible refine (impl_MovesCrowd.calls k a0_0 a0_1 a0_2 t406 a1 t409 t410 _ A4.out).mono ?_); rintro e w34 ⟨rfl, hb⟩; refine ⟨_, rfl, ?_⟩; have n0_ := bkb BK404 hb; have n1_ := bkb BK405 hb; have n2_ := bkb BK408 hb; have n3_ := bst HB hb; clear BK404; clear BK405; clear BK408; clear HB; have BK404 := n0_; have BK405 := n1_; have BK408 := n2_; have HB := n3_; clear n0_ n1_ n2_ n3_; (try clear hb); (try clear hb2); (try clear hk); (try clear hi)) | ((with_reducible refine gate_dst (N := 9) rfl ?_); refine box_event ?hg (N := 9) ?hd (cs := (mixA (Value.int .u16) [] (LA.zero 40))) (t := 28) ?hr ?_; (case hd => rfl); (case hg => rfl); (case hr => first | (go_simp; done) | (go_simp; rfl)); intro gb411 hg w35 hbox hb; have n0_ := bkb BK404 hb; have n1_ := bkb BK405 hb; have n2_ := bkb BK408 hb; have n3_ := bst HB hb; have n4_ := Aside0.mk (hbox); have n5_ := gwl HB hg; have n6_ := gwl HB hg; have n7_ := nbl BK404 hg; have n8_ := nbg BK404 hg; have n9_ := nbl BK405 hg; have n10_ := nbg BK405 hg; have n11_ := nbl BK408 hg; have n12_ := nbg BK408 hg; clear BK404; clear BK405; clear BK408; clear HB; have BK404 := n0_; have BK405 := n1_; have BK408 := n2_; have HB := n3_; have BK411 := n4_; have GW411 := n5_; have GE411 := n6_; have NB404_411 := n7_; have NB411_404 := n8_; have NB405_411 := n9_; have NB411_405 := n10_; have NB408_411 := n11_; have NB411_408 := n12_; clear n0_ n1_ n2_ n3_ n4_ n5_ n6_ n7_ n8_ n9_ n10_ n11_ n12_; clear hb hbox hg) | ((with_reducible refine gate_store (p := 9) rfl ?_); refine wpList_store_lmix rfl 28 _ _ rfl gb411 (e := (Value.int .u16)) (cs' := []) (W' := t409) (cs := []) (W := (LA.zero 40)) (T := 28) rfl rfl (pk BK411) rfl (by kernel_rfl) rfl (fun _ => rfl) rfl ?_; intro w36 hi hk hbl; have n0_ := Aside0.mk (KeepBut.blk hk (g' := gb404) (o := .cells (mixA (Value.int .u16) [.int .i8 a0_0, .int .i8 a0_1] a0_2) 31 (0, 0)) (pk BK404) NB404_411.out (by simp)); have n1_ := Aside0.mk (KeepBut.blk hk (g' := gb405) (o := .cells #[.int .i8 0, .int .i8 0] 41 (0, 0)) (pk BK405) NB405_411.out (by simp)); have n2_ := Aside0.mk (KeepBut.blk hk (g' := gb408) (o := .cells (mixA (Value.int .u16) [] t406) 28 (0, 0)) (pk BK408) NB408_411.out (by simp)); have n3_ := Aside0.mk (hbl _ _ (pbs HB) GE411.out); have n4_ := Aside0.mk (hi); clear BK404; clear BK405; clear BK408; clear HB; clear BK411; have BK404 := n0_; have BK405 := n1_; have BK408 := n2_; have HB := n3_; have BK411 := n4_; clear n0_ n1_ n2_ n3_ n4_; clear hi hk hbl) | ((with_reducible refine gate_dst (N := 26) rfl ?_); refine wpList_run0 (v := .agg (mixA (Value.int .u16) [] t409)) rfl (load_mix_run (P := Tryd.prog) 28 (.tmp 9) rfl gb411 rfl (show World.rangeAt _ gb411 0 ([] ++ t409.l.map (Value.int .u16)) from mix_range (show (World.heap _)[gb411]? = some (.cells (mixA (Value.int .u16) [] t409) 28 (0, 0)) from by (with_reducible repeat (first | refine blk_drewN ?_ _ | refine blk_drew ?_ | refine blk_alloc ?_ _)); exact BK411.out)) Tryd.underlying28 rfl (by kernel_rfl) rfl) ?_) | ((with_reducible refine gate_callee (f := 30) rfl ?_); refine goesL_ (some 27) rfl rfl Tryd.func30 (by kernel_rfl) rfl #[.agg (mixA (Value.int .u16) [] t409)] rfl (by (try simp only [List.map_toArray, List.map_cons, List.map_nil]); first | done | rfl | (simp only [List.length_drop, List.length_take]; rfl)) ?_; (with_reducible refine (impl_CountCrowd.calls k t409 t412 _ A5.out).mono ?_); rintro e w38 ⟨rfl, hb⟩; refine ⟨_, rfl, ?_⟩; have n0_ := bkb BK404 hb; have n1_ := bkb BK405 hb; have n2_ := bkb BK408 hb; have n3_ := bkb BK411 hb; have n4_ := bst HB hb; clear BK404; clear BK405; clear BK408; clear BK411; clear HB; have BK404 := n0_; have BK405 := n1_; have BK408 := n2_; have BK411 := n3_; have HB := n4_; clear n0_ n1_ n2_ n3_ n4_; (try clear hb); (try clear hb2); (try clear hk); (try clear hi); have hnb39 := NB405_404.out; have hnc39 := NB404_405.out; have hnb40 := NB405_408.out; have hnc40 := NB408_405.out; have hnb41 := NB405_411.out; have hnc41 := NB411_405.out; have hcz42_0 : w38.cell? ⟨gb405, 0, none⟩ = some (.int .i8 0) := (blk_cell BK405.out 0).trans rfl; have hcz42_1 : w38.cell? ⟨gb405, 1, none⟩ = some (.int .i8 0) := (blk_cell BK405.out 1).trans rfl; have hfz42_0 := blk_frozen BK405.out 0; have hfz42_1 := blk_frozen BK405.out 1))
    refine bodyPost_ret (results_ctt rfl _ _ gb405 41 #[.int .i8 0, .int .i8 0] (0, 0) _ rfl (by (with_reducible repeat (first | refine blk_drewN ?_ _ | refine blk_drew ?_ | refine blk_alloc ?_ _)); refine blk_put (cs := #[.int .i8 0, .int .i8 0]) ?_ 1 _ rfl; (with_reducible repeat (first | refine blk_drewN ?_ _ | refine blk_drew ?_ | refine blk_alloc ?_ _)); refine blk_put (cs := #[.int .i8 0, .int .i8 0]) ?_ 0 _ rfl; (with_reducible repeat (first | refine blk_drewN ?_ _ | refine blk_drew ?_ | refine blk_alloc ?_ _)); exact BK405.out) Tryd.underlying41 rfl (by kernel_rfl)) rfl ?_
    exact ⟨by first | rfl | (simp [errW_none, errW_some] <;> rfl) | (simp [*, errW_none, errW_some] <;> rfl), pbs HB⟩
   ·rw [if_neg c25] at H
    have c25b0 : (t412 == 0) = false := beq_eq_false_iff_ne.mpr c25
    have c25b1 : (t412 != 0) = true := bne_iff_ne.mpr c25
    replace H := Option.bind_eq_some_iff.mp H
    obtain ⟨⟨t413, t414, t415⟩, A430, H⟩ := H
    replace H : (some (t413, t414, t415, 0)) = some (r1, r2, r3, r4) := H
    have A43 := Aside0.mk A430
    clear A430
    simp only [Option.some.injEq, Prod.mk.injEq] at H
    obtain ⟨rfl, rfl, rfl, rfl⟩ := H
    go_enter Tryd.func17, Tryd.ntmps17
    go_wp2_with (first | ((with_reducible refine gate_dst (N := 2) rfl ?_); refine box_event ?hg (N := 2) ?hd (cs := (mixA (Value.int .u16) [.int .i8 a0_0, .int .i8 a0_1] a0_2)) (t := 31) ?hr ?_; (case hd => rfl); (case hg => rfl); (case hr => first | (go_simp; done) | (go_simp; rfl)); intro gb404 hg w44 hbox hb; have n0_ := bst HB hb; have n1_ := Aside0.mk (hbox); have n2_ := gwl HB hg; have n3_ := gwl HB hg; clear HB; have HB := n0_; have BK404 := n1_; have GW404 := n2_; have GE404 := n3_; clear n0_ n1_ n2_ n3_; clear hb hbox hg) | ((with_reducible refine gate_dst (N := 4) rfl ?_); refine box_event ?hg (N := 4) ?hd (cs := #[.int .i8 0, .int .i8 0]) (t := 41) ?hr ?_; (case hd => rfl); (case hg => rfl); (case hr => first | (go_simp; done) | (go_simp; rfl)); intro gb405 hg w45 hbox hb; have n0_ := bkb BK404 hb; have n1_ := bst HB hb; have n2_ := Aside0.mk (hbox); have n3_ := gwl HB hg; have n4_ := gwl HB hg; have n5_ := nbl BK404 hg; have n6_ := nbg BK404 hg; clear BK404; clear HB; have BK404 := n0_; have HB := n1_; have BK405 := n2_; have GW405 := n3_; have GE405 := n4_; have NB404_405 := n5_; have NB405_404 := n6_; clear n0_ n1_ n2_ n3_ n4_ n5_ n6_; clear hb hbox hg) | ((with_reducible refine gate_dst (N := 15) rfl ?_); refine wpList_run0 (v := .agg (mixA (Value.int .u16) [.int .i8 a0_0, .int .i8 a0_1] a0_2)) rfl (load_mix_run (P := Tryd.prog) 31 (.tmp 2) rfl gb404 rfl (show World.rangeAt _ gb404 0 ([.int .i8 a0_0, .int .i8 a0_1] ++ a0_2.l.map (Value.int .u16)) from mix_range (show (World.heap _)[gb404]? = some (.cells (mixA (Value.int .u16) [.int .i8 a0_0, .int .i8 a0_1] a0_2) 31 (0, 0)) from by (with_reducible repeat (first | refine blk_drewN ?_ _ | refine blk_drew ?_ | refine blk_alloc ?_ _)); exact BK404.out)) Tryd.underlying31 rfl (by kernel_rfl) rfl) ?_) | ((with_reducible refine gate_callee (f := 41) rfl ?_); refine goesL_ (some 16) rfl rfl Tryd.func41 (by kernel_rfl) rfl #[.agg (mixA (Value.int .u16) [.int .i8 a0_0, .int .i8 a0_1] a0_2)] rfl (by (try simp only [List.map_toArray, List.map_cons, List.map_nil]); first | done | rfl | (simp only [List.length_drop, List.length_take]; rfl)) ?_; (with_reducible refine (impl_Anywhere.calls k a0_0 a0_1 a0_2 t406 t407 _ A3.out).mono ?_); rintro e w47 ⟨rfl, hb⟩; refine ⟨_, rfl, ?_⟩; have n0_ := bkb BK404 hb; have n1_ := bkb BK405 hb; have n2_ := bst HB hb; clear BK404; clear BK405; clear HB; have BK404 := n0_; have BK405 := n1_; have HB := n2_; clear n0_ n1_ n2_; (try clear hb); (try clear hb2); (try clear hk); (try clear hi)) | ((with_reducible refine gate_dst (N := 7) rfl ?_); refine box_event ?hg (N := 7) ?hd (cs := (mixA (Value.int .u16) [] (LA.zero 40))) (t := 28) ?hr ?_; (case hd => rfl); (case hg => rfl); (case hr => first | (go_simp; done) | (go_simp; rfl)); intro gb408 hg w48 hbox hb; have n0_ := bkb BK404 hb; have n1_ := bkb BK405 hb; have n2_ := bst HB hb; have n3_ := Aside0.mk (hbox); have n4_ := gwl HB hg; have n5_ := gwl HB hg; have n6_ := nbl BK404 hg; have n7_ := nbg BK404 hg; have n8_ := nbl BK405 hg; have n9_ := nbg BK405 hg; clear BK404; clear BK405; clear HB; have BK404 := n0_; have BK405 := n1_; have HB := n2_; have BK408 := n3_; have GW408 := n4_; have GE408 := n5_; have NB404_408 := n6_; have NB408_404 := n7_; have NB405_408 := n8_; have NB408_405 := n9_; clear n0_ n1_ n2_ n3_ n4_ n5_ n6_ n7_ n8_ n9_; clear hb hbox hg) | ((with_reducible refine gate_store (p := 7) rfl ?_); refine wpList_store_lmix rfl 28 _ _ rfl gb408 (e := (Value.int .u16)) (cs' := []) (W' := t406) (cs := []) (W := (LA.zero 40)) (T := 28) rfl rfl (pk BK408) rfl (by kernel_rfl) rfl (fun _ => rfl) rfl ?_; intro w49 hi hk hbl; have n0_ := Aside0.mk (KeepBut.blk hk (g' := gb404) (o := .cells (mixA (Value.int .u16) [.int .i8 a0_0, .int .i8 a0_1] a0_2) 31 (0, 0)) (pk BK404) NB404_408.out (by simp)); have n1_ := Aside0.mk (KeepBut.blk hk (g' := gb405) (o := .cells #[.int .i8 0, .int .i8 0] 41 (0, 0)) (pk BK405) NB405_408.out (by simp)); have n2_ := Aside0.mk (hbl _ _ (pbs HB) GE408.out); have n3_ := Aside0.mk (hi); clear BK404; clear BK405; clear HB; clear BK408; have BK404 := n0_; have BK405 := n1_; have HB := n2_; have BK408 := n3_; clear n0_ n1_ n2_ n3_; clear hi hk hbl) | ((with_reducible refine gate_dst (N := 20) rfl ?_); refine wpList_run0 (v := .agg (mixA (Value.int .u16) [.int .i8 a0_0, .int .i8 a0_1] a0_2)) rfl (load_mix_run (P := Tryd.prog) 31 (.tmp 2) rfl gb404 rfl (show World.rangeAt _ gb404 0 ([.int .i8 a0_0, .int .i8 a0_1] ++ a0_2.l.map (Value.int .u16)) from mix_range (show (World.heap _)[gb404]? = some (.cells (mixA (Value.int .u16) [.int .i8 a0_0, .int .i8 a0_1] a0_2) 31 (0, 0)) from by (with_reducible repeat (first | refine blk_drewN ?_ _ | refine blk_drew ?_ | refine blk_alloc ?_ _)); exact BK404.out)) Tryd.underlying31 rfl (by kernel_rfl) rfl) ?_) | ((with_reducible refine gate_dst (N := 21) rfl ?_); refine wpList_run0 (v := .agg (mixA (Value.int .u16) [] t406)) rfl (load_mix_run (P := Tryd.prog) 28 (.tmp 7) rfl gb408 rfl (show World.rangeAt _ gb408 0 ([] ++ t406.l.map (Value.int .u16)) from mix_range (show (World.heap _)[gb408]? = some (.cells (mixA (Value.int .u16) [] t406) 28 (0, 0)) from by (with_reducible repeat (first | refine blk_drewN ?_ _ | refine blk_drew ?_ | refine blk_alloc ?_ _)); exact BK408.out)) Tryd.underlying28 rfl (by kernel_rfl) rfl) ?_) | ((with_reducible refine gate_callee (f := 15) rfl ?_); refine goesL_ (some 23) rfl rfl Tryd.func15 (by kernel_rfl) rfl #[.agg (mixA (Value.int .u16) [.int .i8 a0_0, .int .i8 a0_1] a0_2), .agg (mixA (Value.int .u16) [] t406), .string a1] rfl (by (try simp only [List.map_toArray, List.map_cons, List.map_nil]); first | done | rfl | (simp only [List.length_drop, List.length_take]; rfl)) ?_; (with_reducible refine (impl_MovesCrowd.calls k a0_0 a0_1 a0_2 t406 a1 t409 t410 _ A4.out).mono ?_); rintro e w52 ⟨rfl, hb⟩; refine ⟨_, rfl, ?_⟩; have n0_ := bkb BK404 hb; have n1_ := bkb BK405 hb; have n2_ := bkb BK408 hb; have n3_ := bst HB hb; clear BK404; clear BK405; clear BK408; clear HB; have BK404 := n0_; have BK405 := n1_; have BK408 := n2_; have HB := n3_; clear n0_ n1_ n2_ n3_; (try clear hb); (try clear hb2); (try clear hk); (try clear hi)) | ((with_reducible refine gate_dst (N := 9) rfl ?_); refine box_event ?hg (N := 9) ?hd (cs := (mixA (Value.int .u16) [] (LA.zero 40))) (t := 28) ?hr ?_; (case hd => rfl); (case hg => rfl); (case hr => first | (go_simp; done) | (go_simp; rfl)); intro gb411 hg w53 hbox hb; have n0_ := bkb BK404 hb; have n1_ := bkb BK405 hb; have n2_ := bkb BK408 hb; have n3_ := bst HB hb; have n4_ := Aside0.mk (hbox); have n5_ := gwl HB hg; have n6_ := gwl HB hg; have n7_ := nbl BK404 hg; have n8_ := nbg BK404 hg; have n9_ := nbl BK405 hg; have n10_ := nbg BK405 hg; have n11_ := nbl BK408 hg; have n12_ := nbg BK408 hg; clear BK404; clear BK405; clear BK408; clear HB; have BK404 := n0_; have BK405 := n1_; have BK408 := n2_; have HB := n3_; have BK411 := n4_; have GW411 := n5_; have GE411 := n6_; have NB404_411 := n7_; have NB411_404 := n8_; have NB405_411 := n9_; have NB411_405 := n10_; have NB408_411 := n11_; have NB411_408 := n12_; clear n0_ n1_ n2_ n3_ n4_ n5_ n6_ n7_ n8_ n9_ n10_ n11_ n12_; clear hb hbox hg) | ((with_reducible refine gate_store (p := 9) rfl ?_); refine wpList_store_lmix rfl 28 _ _ rfl gb411 (e := (Value.int .u16)) (cs' := []) (W' := t409) (cs := []) (W := (LA.zero 40)) (T := 28) rfl rfl (pk BK411) rfl (by kernel_rfl) rfl (fun _ => rfl) rfl ?_; intro w54 hi hk hbl; have n0_ := Aside0.mk (KeepBut.blk hk (g' := gb404) (o := .cells (mixA (Value.int .u16) [.int .i8 a0_0, .int .i8 a0_1] a0_2) 31 (0, 0)) (pk BK404) NB404_411.out (by simp)); have n1_ := Aside0.mk (KeepBut.blk hk (g' := gb405) (o := .cells #[.int .i8 0, .int .i8 0] 41 (0, 0)) (pk BK405) NB405_411.out (by simp)); have n2_ := Aside0.mk (KeepBut.blk hk (g' := gb408) (o := .cells (mixA (Value.int .u16) [] t406) 28 (0, 0)) (pk BK408) NB408_411.out (by simp)); have n3_ := Aside0.mk (hbl _ _ (pbs HB) GE411.out); have n4_ := Aside0.mk (hi); clear BK404; clear BK405; clear BK408; clear HB; clear BK411; have BK404 := n0_; have BK405 := n1_; have BK408 := n2_; have HB := n3_; have BK411 := n4_; clear n0_ n1_ n2_ n3_ n4_; clear hi hk hbl) | ((with_reducible refine gate_dst (N := 26) rfl ?_); refine wpList_run0 (v := .agg (mixA (Value.int .u16) [] t409)) rfl (load_mix_run (P := Tryd.prog) 28 (.tmp 9) rfl gb411 rfl (show World.rangeAt _ gb411 0 ([] ++ t409.l.map (Value.int .u16)) from mix_range (show (World.heap _)[gb411]? = some (.cells (mixA (Value.int .u16) [] t409) 28 (0, 0)) from by (with_reducible repeat (first | refine blk_drewN ?_ _ | refine blk_drew ?_ | refine blk_alloc ?_ _)); exact BK411.out)) Tryd.underlying28 rfl (by kernel_rfl) rfl) ?_) | ((with_reducible refine gate_callee (f := 30) rfl ?_); refine goesL_ (some 27) rfl rfl Tryd.func30 (by kernel_rfl) rfl #[.agg (mixA (Value.int .u16) [] t409)] rfl (by (try simp only [List.map_toArray, List.map_cons, List.map_nil]); first | done | rfl | (simp only [List.length_drop, List.length_take]; rfl)) ?_; (with_reducible refine (impl_CountCrowd.calls k t409 t412 _ A5.out).mono ?_); rintro e w56 ⟨rfl, hb⟩; refine ⟨_, rfl, ?_⟩; have n0_ := bkb BK404 hb; have n1_ := bkb BK405 hb; have n2_ := bkb BK408 hb; have n3_ := bkb BK411 hb; have n4_ := bst HB hb; clear BK404; clear BK405; clear BK408; clear BK411; clear HB; have BK404 := n0_; have BK405 := n1_; have BK408 := n2_; have BK411 := n3_; have HB := n4_; clear n0_ n1_ n2_ n3_ n4_; (try clear hb); (try clear hb2); (try clear hk); (try clear hi)) | ((with_reducible refine gate_dst (N := 42) rfl ?_); refine wpList_run0 (v := .agg (mixA (Value.int .u16) [] t409)) rfl (load_mix_run (P := Tryd.prog) 28 (.tmp 9) rfl gb411 rfl (show World.rangeAt _ gb411 0 ([] ++ t409.l.map (Value.int .u16)) from mix_range (show (World.heap _)[gb411]? = some (.cells (mixA (Value.int .u16) [] t409) 28 (0, 0)) from by (with_reducible repeat (first | refine blk_drewN ?_ _ | refine blk_drew ?_ | refine blk_alloc ?_ _)); exact BK411.out)) Tryd.underlying28 rfl (by kernel_rfl) rfl) ?_) | ((with_reducible refine gate_dst (N := 43) rfl ?_); refine wpList_run0 (v := .agg (mixA (Value.int .u16) [.int .i8 a0_0, .int .i8 a0_1] a0_2)) rfl (load_mix_run (P := Tryd.prog) 31 (.tmp 2) rfl gb404 rfl (show World.rangeAt _ gb404 0 ([.int .i8 a0_0, .int .i8 a0_1] ++ a0_2.l.map (Value.int .u16)) from mix_range (show (World.heap _)[gb404]? = some (.cells (mixA (Value.int .u16) [.int .i8 a0_0, .int .i8 a0_1] a0_2) 31 (0, 0)) from by (with_reducible repeat (first | refine blk_drewN ?_ _ | refine blk_drew ?_ | refine blk_alloc ?_ _)); exact BK404.out)) Tryd.underlying31 rfl (by kernel_rfl) rfl) ?_) | ((with_reducible refine gate_callee (f := 42) rfl ?_); refine goesL_ (some 44) rfl rfl Tryd.func42 (by kernel_rfl) rfl #[.agg (mixA (Value.int .u16) [] t409), .agg (mixA (Value.int .u16) [.int .i8 a0_0, .int .i8 a0_1] a0_2)] rfl (by (try simp only [List.map_toArray, List.map_cons, List.map_nil]); first | done | rfl | (simp only [List.length_drop, List.length_take]; rfl)) ?_; (with_reducible refine (impl_Crowd_only.calls k t409 a0_0 a0_1 a0_2 t413 t414 t415 _ A43.out).mono ?_); rintro e w59 ⟨rfl, hb⟩; refine ⟨_, rfl, ?_⟩; have n0_ := bkb BK404 hb; have n1_ := bkb BK405 hb; have n2_ := bkb BK408 hb; have n3_ := bkb BK411 hb; have n4_ := bst HB hb; clear BK404; clear BK405; clear BK408; clear BK411; clear HB; have BK404 := n0_; have BK405 := n1_; have BK408 := n2_; have BK411 := n3_; have HB := n4_; clear n0_ n1_ n2_ n3_ n4_; (try clear hb); (try clear hb2); (try clear hk); (try clear hi)) | ((with_reducible refine gate_dst (N := 12) rfl ?_); refine box_event ?hg (N := 12) ?hd (cs := #[.int .i8 0, .int .i8 0]) (t := 41) ?hr ?_; (case hd => rfl); (case hg => rfl); (case hr => first | (go_simp; done) | (go_simp; rfl)); intro gb416 hg w60 hbox hb; have n0_ := bkb BK404 hb; have n1_ := bkb BK405 hb; have n2_ := bkb BK408 hb; have n3_ := bkb BK411 hb; have n4_ := bst HB hb; have n5_ := Aside0.mk (hbox); have n6_ := gwl HB hg; have n7_ := gwl HB hg; have n8_ := nbl BK404 hg; have n9_ := nbg BK404 hg; have n10_ := nbl BK405 hg; have n11_ := nbg BK405 hg; have n12_ := nbl BK408 hg; have n13_ := nbg BK408 hg; have n14_ := nbl BK411 hg; have n15_ := nbg BK411 hg; clear BK404; clear BK405; clear BK408; clear BK411; clear HB; have BK404 := n0_; have BK405 := n1_; have BK408 := n2_; have BK411 := n3_; have HB := n4_; have BK416 := n5_; have GW416 := n6_; have GE416 := n7_; have NB404_416 := n8_; have NB416_404 := n9_; have NB405_416 := n10_; have NB416_405 := n11_; have NB408_416 := n12_; have NB416_408 := n13_; have NB411_416 := n14_; have NB416_411 := n15_; clear n0_ n1_ n2_ n3_ n4_ n5_ n6_ n7_ n8_ n9_ n10_ n11_ n12_ n13_ n14_ n15_; clear hb hbox hg; have hnb61 := NB416_404.out; have hnc61 := NB404_416.out; have hnb62 := NB416_405.out; have hnc62 := NB405_416.out; have hnb63 := NB416_408.out; have hnc63 := NB408_416.out; have hnb64 := NB416_411.out; have hnc64 := NB411_416.out; have hcz65_0 : w60.cell? ⟨gb416, 0, none⟩ = some (.int .i8 0) := (blk_cell BK416.out 0).trans rfl; have hcz65_1 : w60.cell? ⟨gb416, 1, none⟩ = some (.int .i8 0) := (blk_cell BK416.out 1).trans rfl; have hfz65_0 := blk_frozen BK416.out 0; have hfz65_1 := blk_frozen BK416.out 1; have hnb66 := NB405_404.out; have hnc66 := NB404_405.out; have hnb67 := NB405_408.out; have hnc67 := NB408_405.out; have hnb68 := NB405_411.out; have hnc68 := NB411_405.out; have hcz69_0 : w60.cell? ⟨gb405, 0, none⟩ = some (.int .i8 0) := (blk_cell BK405.out 0).trans rfl; have hcz69_1 : w60.cell? ⟨gb405, 1, none⟩ = some (.int .i8 0) := (blk_cell BK405.out 1).trans rfl; have hfz69_0 := blk_frozen BK405.out 0; have hfz69_1 := blk_frozen BK405.out 1))
    refine bodyPost_ret (results_ctt rfl _ _ gb405 41 #[.int .i8 t413, .int .i8 t414] (0, 0) _ rfl (by (with_reducible repeat (first | refine blk_drewN ?_ _ | refine blk_drew ?_ | refine blk_alloc ?_ _)); refine blk_put (cs := #[.int .i8 t413, .int .i8 0]) ?_ 1 _ rfl; (with_reducible repeat (first | refine blk_drewN ?_ _ | refine blk_drew ?_ | refine blk_alloc ?_ _)); refine blk_put (cs := #[.int .i8 0, .int .i8 0]) ?_ 0 _ rfl; (with_reducible repeat (first | refine blk_drewN ?_ _ | refine blk_drew ?_ | refine blk_alloc ?_ _)); refine blk_far ?_ NB405_416.out _; (with_reducible repeat (first | refine blk_drewN ?_ _ | refine blk_drew ?_ | refine blk_alloc ?_ _)); refine blk_far ?_ NB405_416.out _; (with_reducible repeat (first | refine blk_drewN ?_ _ | refine blk_drew ?_ | refine blk_alloc ?_ _)); exact BK405.out) Tryd.underlying41 rfl (by kernel_rfl)) rfl ?_
    exact ⟨by first | rfl | (simp [errW_none, errW_some] <;> rfl) | (simp [*, errW_none, errW_some] <;> rfl), pbs HB⟩
 ·rw [if_neg c6] at H
  have c6b0 : (t410 == 0) = false := beq_eq_false_iff_ne.mpr c6
  have c6b1 : (t410 != 0) = true := bne_iff_ne.mpr c6
  simp only [Option.some.injEq, Prod.mk.injEq] at H
  obtain ⟨rfl, rfl, rfl, rfl⟩ := H
  go_enter Tryd.func17, Tryd.ntmps17
  go_wp2_with (first | ((with_reducible refine gate_dst (N := 2) rfl ?_); refine box_event ?hg (N := 2) ?hd (cs := (mixA (Value.int .u16) [.int .i8 a0_0, .int .i8 a0_1] a0_2)) (t := 31) ?hr ?_; (case hd => rfl); (case hg => rfl); (case hr => first | (go_simp; done) | (go_simp; rfl)); intro gb404 hg w70 hbox hb; have n0_ := bst HB hb; have n1_ := Aside0.mk (hbox); have n2_ := gwl HB hg; have n3_ := gwl HB hg; clear HB; have HB := n0_; have BK404 := n1_; have GW404 := n2_; have GE404 := n3_; clear n0_ n1_ n2_ n3_; clear hb hbox hg) | ((with_reducible refine gate_dst (N := 4) rfl ?_); refine box_event ?hg (N := 4) ?hd (cs := #[.int .i8 0, .int .i8 0]) (t := 41) ?hr ?_; (case hd => rfl); (case hg => rfl); (case hr => first | (go_simp; done) | (go_simp; rfl)); intro gb405 hg w71 hbox hb; have n0_ := bkb BK404 hb; have n1_ := bst HB hb; have n2_ := Aside0.mk (hbox); have n3_ := gwl HB hg; have n4_ := gwl HB hg; have n5_ := nbl BK404 hg; have n6_ := nbg BK404 hg; clear BK404; clear HB; have BK404 := n0_; have HB := n1_; have BK405 := n2_; have GW405 := n3_; have GE405 := n4_; have NB404_405 := n5_; have NB405_404 := n6_; clear n0_ n1_ n2_ n3_ n4_ n5_ n6_; clear hb hbox hg) | ((with_reducible refine gate_dst (N := 15) rfl ?_); refine wpList_run0 (v := .agg (mixA (Value.int .u16) [.int .i8 a0_0, .int .i8 a0_1] a0_2)) rfl (load_mix_run (P := Tryd.prog) 31 (.tmp 2) rfl gb404 rfl (show World.rangeAt _ gb404 0 ([.int .i8 a0_0, .int .i8 a0_1] ++ a0_2.l.map (Value.int .u16)) from mix_range (show (World.heap _)[gb404]? = some (.cells (mixA (Value.int .u16) [.int .i8 a0_0, .int .i8 a0_1] a0_2) 31 (0, 0)) from by (with_reducible repeat (first | refine blk_drewN ?_ _ | refine blk_drew ?_ | refine blk_alloc ?_ _)); exact BK404.out)) Tryd.underlying31 rfl (by kernel_rfl) rfl) ?_) | ((with_reducible refine gate_callee (f := 41) rfl ?_); refine goesL_ (some 16) rfl rfl Tryd.func41 (by kernel_rfl) rfl #[.agg (mixA (Value.int .u16) [.int .i8 a0_0, .int .i8 a0_1] a0_2)] rfl (by (try simp only [List.map_toArray, List.map_cons, List.map_nil]); first | done | rfl | (simp only [List.length_drop, List.length_take]; rfl)) ?_; (with_reducible refine (impl_Anywhere.calls k a0_0 a0_1 a0_2 t406 t407 _ A3.out).mono ?_); rintro e w73 ⟨rfl, hb⟩; refine ⟨_, rfl, ?_⟩; have n0_ := bkb BK404 hb; have n1_ := bkb BK405 hb; have n2_ := bst HB hb; clear BK404; clear BK405; clear HB; have BK404 := n0_; have BK405 := n1_; have HB := n2_; clear n0_ n1_ n2_; (try clear hb); (try clear hb2); (try clear hk); (try clear hi)) | ((with_reducible refine gate_dst (N := 7) rfl ?_); refine box_event ?hg (N := 7) ?hd (cs := (mixA (Value.int .u16) [] (LA.zero 40))) (t := 28) ?hr ?_; (case hd => rfl); (case hg => rfl); (case hr => first | (go_simp; done) | (go_simp; rfl)); intro gb408 hg w74 hbox hb; have n0_ := bkb BK404 hb; have n1_ := bkb BK405 hb; have n2_ := bst HB hb; have n3_ := Aside0.mk (hbox); have n4_ := gwl HB hg; have n5_ := gwl HB hg; have n6_ := nbl BK404 hg; have n7_ := nbg BK404 hg; have n8_ := nbl BK405 hg; have n9_ := nbg BK405 hg; clear BK404; clear BK405; clear HB; have BK404 := n0_; have BK405 := n1_; have HB := n2_; have BK408 := n3_; have GW408 := n4_; have GE408 := n5_; have NB404_408 := n6_; have NB408_404 := n7_; have NB405_408 := n8_; have NB408_405 := n9_; clear n0_ n1_ n2_ n3_ n4_ n5_ n6_ n7_ n8_ n9_; clear hb hbox hg) | ((with_reducible refine gate_store (p := 7) rfl ?_); refine wpList_store_lmix rfl 28 _ _ rfl gb408 (e := (Value.int .u16)) (cs' := []) (W' := t406) (cs := []) (W := (LA.zero 40)) (T := 28) rfl rfl (pk BK408) rfl (by kernel_rfl) rfl (fun _ => rfl) rfl ?_; intro w75 hi hk hbl; have n0_ := Aside0.mk (KeepBut.blk hk (g' := gb404) (o := .cells (mixA (Value.int .u16) [.int .i8 a0_0, .int .i8 a0_1] a0_2) 31 (0, 0)) (pk BK404) NB404_408.out (by simp)); have n1_ := Aside0.mk (KeepBut.blk hk (g' := gb405) (o := .cells #[.int .i8 0, .int .i8 0] 41 (0, 0)) (pk BK405) NB405_408.out (by simp)); have n2_ := Aside0.mk (hbl _ _ (pbs HB) GE408.out); have n3_ := Aside0.mk (hi); clear BK404; clear BK405; clear HB; clear BK408; have BK404 := n0_; have BK405 := n1_; have HB := n2_; have BK408 := n3_; clear n0_ n1_ n2_ n3_; clear hi hk hbl) | ((with_reducible refine gate_dst (N := 20) rfl ?_); refine wpList_run0 (v := .agg (mixA (Value.int .u16) [.int .i8 a0_0, .int .i8 a0_1] a0_2)) rfl (load_mix_run (P := Tryd.prog) 31 (.tmp 2) rfl gb404 rfl (show World.rangeAt _ gb404 0 ([.int .i8 a0_0, .int .i8 a0_1] ++ a0_2.l.map (Value.int .u16)) from mix_range (show (World.heap _)[gb404]? = some (.cells (mixA (Value.int .u16) [.int .i8 a0_0, .int .i8 a0_1] a0_2) 31 (0, 0)) from by (with_reducible repeat (first | refine blk_drewN ?_ _ | refine blk_drew ?_ | refine blk_alloc ?_ _)); exact BK404.out)) Tryd.underlying31 rfl (by kernel_rfl) rfl) ?_) | ((with_reducible refine gate_dst (N := 21) rfl ?_); refine wpList_run0 (v := .agg (mixA (Value.int .u16) [] t406)) rfl (load_mix_run (P := Tryd.prog) 28 (.tmp 7) rfl gb408 rfl (show World.rangeAt _ gb408 0 ([] ++ t406.l.map (Value.int .u16)) from mix_range (show (World.heap _)[gb408]? = some (.cells (mixA (Value.int .u16) [] t406) 28 (0, 0)) from by (with_reducible repeat (first | refine blk_drewN ?_ _ | refine blk_drew ?_ | refine blk_alloc ?_ _)); exact BK408.out)) Tryd.underlying28 rfl (by kernel_rfl) rfl) ?_) | ((with_reducible refine gate_callee (f := 15) rfl ?_); refine goesL_ (some 23) rfl rfl Tryd.func15 (by kernel_rfl) rfl #[.agg (mixA (Value.int .u16) [.int .i8 a0_0, .int .i8 a0_1] a0_2), .agg (mixA (Value.int .u16) [] t406), .string a1] rfl (by (try simp only [List.map_toArray, List.map_cons, List.map_nil]); first | done | rfl | (simp only [List.length_drop, List.length_take]; rfl)) ?_; (with_reducible refine (impl_MovesCrowd.calls k a0_0 a0_1 a0_2 t406 a1 t409 t410 _ A4.out).mono ?_); rintro e w78 ⟨rfl, hb⟩; refine ⟨_, rfl, ?_⟩; have n0_ := bkb BK404 hb; have n1_ := bkb BK405 hb; have n2_ := bkb BK408 hb; have n3_ := bst HB hb; clear BK404; clear BK405; clear BK408; clear HB; have BK404 := n0_; have BK405 := n1_; have BK408 := n2_; have HB := n3_; clear n0_ n1_ n2_ n3_; (try clear hb); (try clear hb2); (try clear hk); (try clear hi)) | ((with_reducible refine gate_dst (N := 9) rfl ?_); refine box_event ?hg (N := 9) ?hd (cs := (mixA (Value.int .u16) [] (LA.zero 40))) (t := 28) ?hr ?_; (case hd => rfl); (case hg => rfl); (case hr => first | (go_simp; done) | (go_simp; rfl)); intro gb411 hg w79 hbox hb; have n0_ := bkb BK404 hb; have n1_ := bkb BK405 hb; have n2_ := bkb BK408 hb; have n3_ := bst HB hb; have n4_ := Aside0.mk (hbox); have n5_ := gwl HB hg; have n6_ := gwl HB hg; have n7_ := nbl BK404 hg; have n8_ := nbg BK404 hg; have n9_ := nbl BK405 hg; have n10_ := nbg BK405 hg; have n11_ := nbl BK408 hg; have n12_ := nbg BK408 hg; clear BK404; clear BK405; clear BK408; clear HB; have BK404 := n0_; have BK405 := n1_; have BK408 := n2_; have HB := n3_; have BK411 := n4_; have GW411 := n5_; have GE411 := n6_; have NB404_411 := n7_; have NB411_404 := n8_; have NB405_411 := n9_; have NB411_405 := n10_; have NB408_411 := n11_; have NB411_408 := n12_; clear n0_ n1_ n2_ n3_ n4_ n5_ n6_ n7_ n8_ n9_ n10_ n11_ n12_; clear hb hbox hg) | ((with_reducible refine gate_store (p := 9) rfl ?_); refine wpList_store_lmix rfl 28 _ _ rfl gb411 (e := (Value.int .u16)) (cs' := []) (W' := t409) (cs := []) (W := (LA.zero 40)) (T := 28) rfl rfl (pk BK411) rfl (by kernel_rfl) rfl (fun _ => rfl) rfl ?_; intro w80 hi hk hbl; have n0_ := Aside0.mk (KeepBut.blk hk (g' := gb404) (o := .cells (mixA (Value.int .u16) [.int .i8 a0_0, .int .i8 a0_1] a0_2) 31 (0, 0)) (pk BK404) NB404_411.out (by simp)); have n1_ := Aside0.mk (KeepBut.blk hk (g' := gb405) (o := .cells #[.int .i8 0, .int .i8 0] 41 (0, 0)) (pk BK405) NB405_411.out (by simp)); have n2_ := Aside0.mk (KeepBut.blk hk (g' := gb408) (o := .cells (mixA (Value.int .u16) [] t406) 28 (0, 0)) (pk BK408) NB408_411.out (by simp)); have n3_ := Aside0.mk (hbl _ _ (pbs HB) GE411.out); have n4_ := Aside0.mk (hi); clear BK404; clear BK405; clear BK408; clear HB; clear BK411; have BK404 := n0_; have BK405 := n1_; have BK408 := n2_; have HB := n3_; have BK411 := n4_; clear n0_ n1_ n2_ n3_ n4_; clear hi hk hbl) | ((with_reducible refine gate_dst (N := 26) rfl ?_); refine wpList_run0 (v := .agg (mixA (Value.int .u16) [] t409)) rfl (load_mix_run (P := Tryd.prog) 28 (.tmp 9) rfl gb411 rfl (show World.rangeAt _ gb411 0 ([] ++ t409.l.map (Value.int .u16)) from mix_range (show (World.heap _)[gb411]? = some (.cells (mixA (Value.int .u16) [] t409) 28 (0, 0)) from by (with_reducible repeat (first | refine blk_drewN ?_ _ | refine blk_drew ?_ | refine blk_alloc ?_ _)); exact BK411.out)) Tryd.underlying28 rfl (by kernel_rfl) rfl) ?_) | ((with_reducible refine gate_callee (f := 30) rfl ?_); refine goesL_ (some 27) rfl rfl Tryd.func30 (by kernel_rfl) rfl #[.agg (mixA (Value.int .u16) [] t409)] rfl (by (try simp only [List.map_toArray, List.map_cons, List.map_nil]); first | done | rfl | (simp only [List.length_drop, List.length_take]; rfl)) ?_; (with_reducible refine (impl_CountCrowd.calls k t409 t412 _ A5.out).mono ?_); rintro e w82 ⟨rfl, hb⟩; refine ⟨_, rfl, ?_⟩; have n0_ := bkb BK404 hb; have n1_ := bkb BK405 hb; have n2_ := bkb BK408 hb; have n3_ := bkb BK411 hb; have n4_ := bst HB hb; clear BK404; clear BK405; clear BK408; clear BK411; clear HB; have BK404 := n0_; have BK405 := n1_; have BK408 := n2_; have BK411 := n3_; have HB := n4_; clear n0_ n1_ n2_ n3_ n4_; (try clear hb); (try clear hb2); (try clear hk); (try clear hi); have hnb83 := NB405_404.out; have hnc83 := NB404_405.out; have hnb84 := NB405_408.out; have hnc84 := NB408_405.out; have hnb85 := NB405_411.out; have hnc85 := NB411_405.out; have hcz86_0 : w82.cell? ⟨gb405, 0, none⟩ = some (.int .i8 0) := (blk_cell BK405.out 0).trans rfl; have hcz86_1 : w82.cell? ⟨gb405, 1, none⟩ = some (.int .i8 0) := (blk_cell BK405.out 1).trans rfl; have hfz86_0 := blk_frozen BK405.out 0; have hfz86_1 := blk_frozen BK405.out 1))
  refine bodyPost_ret (results_ctt rfl _ _ gb405 41 #[.int .i8 0, .int .i8 0] (0, 0) _ rfl (by (with_reducible repeat (first | refine blk_drewN ?_ _ | refine blk_drew ?_ | refine blk_alloc ?_ _)); refine blk_put (cs := #[.int .i8 0, .int .i8 0]) ?_ 1 _ rfl; (with_reducible repeat (first | refine blk_drewN ?_ _ | refine blk_drew ?_ | refine blk_alloc ?_ _)); refine blk_put (cs := #[.int .i8 0, .int .i8 0]) ?_ 0 _ rfl; (with_reducible repeat (first | refine blk_drewN ?_ _ | refine blk_drew ?_ | refine blk_alloc ?_ _)); exact BK405.out) Tryd.underlying41 rfl (by kernel_rfl)) rfl ?_
  exact ⟨by first | rfl | (simp [errW_none, errW_some] <;> rfl) | (simp [*, errW_none, errW_some] <;> rfl), pbs HB⟩
def laws_eqSpot.f (a0_0 : Int) (a0_1 : Int) (a1_0 : Int) (a1_1 : Int) : Option (Bool) := if a0_0 = a1_0 then (if a0_1 = a1_1 then (some true) else (some false)) else (some false)
set_option maxHeartbeats 8000000 in
set_option maxRecDepth 100000 in
theorem laws_eqSpot.calls (a0_0 : Int) (a0_1 : Int) (a1_0 : Int) (a1_1 : Int) (r : Bool) (w : World) (h : laws_eqSpot.f a0_0 a0_1 a1_0 a1_1 = some r) :
  Calls Tryd.prog 18 #[.agg #[.int .i8 a0_0, .int .i8 a0_1], .agg #[.int .i8 a1_0, .int .i8 a1_1]] w fun e w' => e = .returned (.bool r) ∧ Below w.heap.size w w' := by
 have hu41 := Tryd.underlying41
 have HB := Aside0.mk (Below.refl w.heap.size w)
 have H : (if a0_0 = a1_0 then (if a0_1 = a1_1 then (some true) else (some false)) else (some false)) = some r := h
 clear h
 by_cases c3 : a0_0 = a1_0
 ·rw [if_pos c3] at H
  have c3b0 : (a0_0 == a1_0) = true := beq_iff_eq.mpr c3
  have c3b1 : (a0_0 != a1_0) = false := bne_eq_false_iff_eq.mpr c3
  clear c3
  by_cases c4 : a0_1 = a1_1
  ·rw [if_pos c4] at H
   have c4b0 : (a0_1 == a1_1) = true := beq_iff_eq.mpr c4
   have c4b1 : (a0_1 != a1_1) = false := bne_eq_false_iff_eq.mpr c4
   clear c4
   obtain rfl := Option.some.inj H
   go_enter Tryd.func18, Tryd.ntmps18
   go_wp2_with (first | ((with_reducible refine gate_dst (N := 2) rfl ?_); refine box_event ?hg (N := 2) ?hd (cs := #[.int .i8 a0_0, .int .i8 a0_1]) (t := 41) ?hr ?_; (case hd => rfl); (case hg => rfl); (case hr => first | (go_simp; done) | (go_simp; rfl)); intro gb417 hg w5 hbox hb; have n0_ := bst HB hb; have n1_ := Aside0.mk (hbox); have n2_ := gwl HB hg; have n3_ := gwl HB hg; clear HB; have HB := n0_; have BK417 := n1_; have GW417 := n2_; have GE417 := n3_; clear n0_ n1_ n2_ n3_; clear hb hbox hg) | ((with_reducible refine gate_dst (N := 3) rfl ?_); refine box_event ?hg (N := 3) ?hd (cs := #[.int .i8 a1_0, .int .i8 a1_1]) (t := 41) ?hr ?_; (case hd => rfl); (case hg => rfl); (case hr => first | (go_simp; done) | (go_simp; rfl)); intro gb418 hg w6 hbox hb; have n0_ := bkb BK417 hb; have n1_ := bst HB hb; have n2_ := Aside0.mk (hbox); have n3_ := gwl HB hg; have n4_ := gwl HB hg; have n5_ := nbl BK417 hg; have n6_ := nbg BK417 hg; clear BK417; clear HB; have BK417 := n0_; have HB := n1_; have BK418 := n2_; have GW418 := n3_; have GE418 := n4_; have NB417_418 := n5_; have NB418_417 := n6_; clear n0_ n1_ n2_ n3_ n4_ n5_ n6_; clear hb hbox hg; have hnb7 := NB417_418.out; have hnc7 := NB418_417.out; have hcz8_0 : w6.cell? ⟨gb417, 0, none⟩ = some (.int .i8 a0_0) := (blk_cell BK417.out 0).trans rfl; have hcz8_1 : w6.cell? ⟨gb417, 1, none⟩ = some (.int .i8 a0_1) := (blk_cell BK417.out 1).trans rfl; have hfz8_0 := blk_frozen BK417.out 0; have hfz8_1 := blk_frozen BK417.out 1; have hcz9_0 : w6.cell? ⟨gb418, 0, none⟩ = some (.int .i8 a1_0) := (blk_cell BK418.out 0).trans rfl; have hcz9_1 : w6.cell? ⟨gb418, 1, none⟩ = some (.int .i8 a1_1) := (blk_cell BK418.out 1).trans rfl; have hfz9_0 := blk_frozen BK418.out 0; have hfz9_1 := blk_frozen BK418.out 1))
   go_ret
   exact ⟨by first | rfl | (simp [errW_none, errW_some] <;> rfl) | (simp [*, errW_none, errW_some] <;> rfl), pbs HB⟩
  ·rw [if_neg c4] at H
   have c4b0 : (a0_1 == a1_1) = false := beq_eq_false_iff_ne.mpr c4
   have c4b1 : (a0_1 != a1_1) = true := bne_iff_ne.mpr c4
   obtain rfl := Option.some.inj H
   go_enter Tryd.func18, Tryd.ntmps18
   go_wp2_with (first | ((with_reducible refine gate_dst (N := 2) rfl ?_); refine box_event ?hg (N := 2) ?hd (cs := #[.int .i8 a0_0, .int .i8 a0_1]) (t := 41) ?hr ?_; (case hd => rfl); (case hg => rfl); (case hr => first | (go_simp; done) | (go_simp; rfl)); intro gb417 hg w10 hbox hb; have n0_ := bst HB hb; have n1_ := Aside0.mk (hbox); have n2_ := gwl HB hg; have n3_ := gwl HB hg; clear HB; have HB := n0_; have BK417 := n1_; have GW417 := n2_; have GE417 := n3_; clear n0_ n1_ n2_ n3_; clear hb hbox hg) | ((with_reducible refine gate_dst (N := 3) rfl ?_); refine box_event ?hg (N := 3) ?hd (cs := #[.int .i8 a1_0, .int .i8 a1_1]) (t := 41) ?hr ?_; (case hd => rfl); (case hg => rfl); (case hr => first | (go_simp; done) | (go_simp; rfl)); intro gb418 hg w11 hbox hb; have n0_ := bkb BK417 hb; have n1_ := bst HB hb; have n2_ := Aside0.mk (hbox); have n3_ := gwl HB hg; have n4_ := gwl HB hg; have n5_ := nbl BK417 hg; have n6_ := nbg BK417 hg; clear BK417; clear HB; have BK417 := n0_; have HB := n1_; have BK418 := n2_; have GW418 := n3_; have GE418 := n4_; have NB417_418 := n5_; have NB418_417 := n6_; clear n0_ n1_ n2_ n3_ n4_ n5_ n6_; clear hb hbox hg; have hnb12 := NB417_418.out; have hnc12 := NB418_417.out; have hcz13_0 : w11.cell? ⟨gb417, 0, none⟩ = some (.int .i8 a0_0) := (blk_cell BK417.out 0).trans rfl; have hcz13_1 : w11.cell? ⟨gb417, 1, none⟩ = some (.int .i8 a0_1) := (blk_cell BK417.out 1).trans rfl; have hfz13_0 := blk_frozen BK417.out 0; have hfz13_1 := blk_frozen BK417.out 1; have hcz14_0 : w11.cell? ⟨gb418, 0, none⟩ = some (.int .i8 a1_0) := (blk_cell BK418.out 0).trans rfl; have hcz14_1 : w11.cell? ⟨gb418, 1, none⟩ = some (.int .i8 a1_1) := (blk_cell BK418.out 1).trans rfl; have hfz14_0 := blk_frozen BK418.out 0; have hfz14_1 := blk_frozen BK418.out 1))
   go_ret
   exact ⟨by first | rfl | (simp [errW_none, errW_some] <;> rfl) | (simp [*, errW_none, errW_some] <;> rfl), pbs HB⟩
 ·rw [if_neg c3] at H
  have c3b0 : (a0_0 == a1_0) = false := beq_eq_false_iff_ne.mpr c3
  have c3b1 : (a0_0 != a1_0) = true := bne_iff_ne.mpr c3
  obtain rfl := Option.some.inj H
  go_enter Tryd.func18, Tryd.ntmps18
  go_wp2_with (first | ((with_reducible refine gate_dst (N := 2) rfl ?_); refine box_event ?hg (N := 2) ?hd (cs := #[.int .i8 a0_0, .int .i8 a0_1]) (t := 41) ?hr ?_; (case hd => rfl); (case hg => rfl); (case hr => first | (go_simp; done) | (go_simp; rfl)); intro gb417 hg w15 hbox hb; have n0_ := bst HB hb; have n1_ := Aside0.mk (hbox); have n2_ := gwl HB hg; have n3_ := gwl HB hg; clear HB; have HB := n0_; have BK417 := n1_; have GW417 := n2_; have GE417 := n3_; clear n0_ n1_ n2_ n3_; clear hb hbox hg) | ((with_reducible refine gate_dst (N := 3) rfl ?_); refine box_event ?hg (N := 3) ?hd (cs := #[.int .i8 a1_0, .int .i8 a1_1]) (t := 41) ?hr ?_; (case hd => rfl); (case hg => rfl); (case hr => first | (go_simp; done) | (go_simp; rfl)); intro gb418 hg w16 hbox hb; have n0_ := bkb BK417 hb; have n1_ := bst HB hb; have n2_ := Aside0.mk (hbox); have n3_ := gwl HB hg; have n4_ := gwl HB hg; have n5_ := nbl BK417 hg; have n6_ := nbg BK417 hg; clear BK417; clear HB; have BK417 := n0_; have HB := n1_; have BK418 := n2_; have GW418 := n3_; have GE418 := n4_; have NB417_418 := n5_; have NB418_417 := n6_; clear n0_ n1_ n2_ n3_ n4_ n5_ n6_; clear hb hbox hg; have hnb17 := NB417_418.out; have hnc17 := NB418_417.out; have hcz18_0 : w16.cell? ⟨gb417, 0, none⟩ = some (.int .i8 a0_0) := (blk_cell BK417.out 0).trans rfl; have hcz18_1 : w16.cell? ⟨gb417, 1, none⟩ = some (.int .i8 a0_1) := (blk_cell BK417.out 1).trans rfl; have hfz18_0 := blk_frozen BK417.out 0; have hfz18_1 := blk_frozen BK417.out 1; have hcz19_0 : w16.cell? ⟨gb418, 0, none⟩ = some (.int .i8 a1_0) := (blk_cell BK418.out 0).trans rfl; have hcz19_1 : w16.cell? ⟨gb418, 1, none⟩ = some (.int .i8 a1_1) := (blk_cell BK418.out 1).trans rfl; have hfz19_0 := blk_frozen BK418.out 0; have hfz19_1 := blk_frozen BK418.out 1))
  go_ret
  exact ⟨by first | rfl | (simp [errW_none, errW_some] <;> rfl) | (simp [*, errW_none, errW_some] <;> rfl), pbs HB⟩
end Go.Proofs.YtdedijjbdkoekaaDoor.PB
end
section
namespace Go.Proofs.YtdedijjbdkoekaaDoor.PB
open Go.RowKit Go.Proofs.YtdedijjbdkoekaaDoorW.PrintWords Go.Proofs.YtdedijjbdkoekaaDoorW.PrintLast Go.Proofs.YtdedijjbdkoekaaDoorW.PrintMore Go.Proofs.YtdedijjbdkoekaaDoor.La
attribute [local go_sem] max2_int min2_int max_two min_two max_three min_three max_four min_four   -- for this text's walks alone
set_option linter.unusedVariables false
set_option linter.unusedSimpArgs false
def spec_l06Moves.l0 : Nat → ByteArray → Int → Option (Int)
 | 0, _, _ => none
 | k + 1, x0, x3 => if x3 < (x0.size : Int) then (if 0 ≤ x3 then ((spec_l06Letter.f (bt x0 x3)).bind fun t269 => (if t269 = true then (spec_l06Moves.l0 k x0 (wrap64 (x3 + 1))) else (some 5))) else (none)) else (some 0)
def spec_l06Moves.f (k : Nat) (a0 : ByteArray) : Option (Int) := if (a0.size : Int) > 60 then (some 3) else (spec_l06Moves.l0 k a0 0)
theorem spec_l06Moves.mono_l : ∀ k, (∀ y0 y1, LeO (spec_l06Moves.l0 k y0 y1) (spec_l06Moves.l0 (k + 1) y0 y1))
 | 0 => fun _ _ r h => by simp [spec_l06Moves.l0] at h
 | k + 1 => by
  have ih0 := spec_l06Moves.mono_l k
  ·intro y0 y1
   unfold spec_l06Moves.l0
   repeat' first
   | (with_reducible exact ih0 _ _)
   | (with_reducible exact LeO.refl _)
   | (with_reducible exact LeO.none _)
   | (with_reducible refine LeO.ite ?_ ?_)
   | (with_reducible refine LeO.bind ?_ (fun _ => ?_))
   | exact ih0 _ _
   | exact LeO.none _
   | refine LeO.ite ?_ ?_
   | refine LeO.bind ?_ (fun _ => ?_)
theorem spec_l06Moves.mono : ∀ a0 k, LeO (spec_l06Moves.f k a0) (spec_l06Moves.f (k + 1) a0) := by
 intro a0 k
 have ih0 := spec_l06Moves.mono_l k
 unfold spec_l06Moves.f
 repeat' first
   | (with_reducible exact ih0 _ _)
   | (with_reducible exact LeO.refl _)
   | (with_reducible exact LeO.none _)
   | (with_reducible refine LeO.ite ?_ ?_)
   | (with_reducible refine LeO.bind ?_ (fun _ => ?_))
   | exact ih0 _ _
   | exact LeO.none _
   | refine LeO.ite ?_ ?_
   | refine LeO.bind ?_ (fun _ => ?_)
set_option maxHeartbeats 8000000 in
set_option maxRecDepth 100000 in
theorem spec_l06Moves.calls (k : Nat) (a0 : ByteArray) (r : Int) (w : World) (h : spec_l06Moves.f k a0 = some r) :
  Calls Tryd.prog 20 #[.string a0] w fun e w' => e = .returned (.int .i64 r) ∧ Drawn0 w w' := by
 have H : (if (a0.size : Int) > 60 then (some 3) else (spec_l06Moves.l0 k a0 0)) = some r := h
 clear h
 by_cases c2 : (a0.size : Int) > 60
 ·rw [if_pos c2] at H
  have c2b0 : decide (60 < (a0.size : Int)) = true := decide_eq_true c2
  have c2b1 : decide (60 < a0.size) = true := decide_eq_true (by omega)
  clear c2
  obtain rfl := Option.some.inj H
  go_enter Tryd.func20, Tryd.ntmps20
  go_wp2
  go_ret
  exact ⟨by first | rfl | (simp; done) | (simp [*]; done), by repeat (first | exact Drawn0.refl _ | apply Drawn0.step)⟩
 ·rw [if_neg c2] at H
  have c2b0 : decide (60 < (a0.size : Int)) = false := decide_eq_false c2
  have c2b1 : decide (60 < a0.size) = false := decide_eq_false (by omega)
  clear c2
  have H' := Aside0.mk H
  clear H
  go_enter Tryd.func20, Tryd.ntmps20
  go_wp2
  go_loopg [3] k (fun kq v3 w' => ∃ (x3_1 : Int), v3 = .int .i64 x3_1 ∧ Aside0 (spec_l06Moves.l0 kq a0 x3_1 = some r) ∧ Aside0 (kq ≤ k) ∧ Drawn0 w w')
  case atStart => exact ⟨(0), (by first | rfl | (simp; done) | (simp [*]; done)), H', ⟨Nat.le_refl _⟩, by repeat (first | exact Drawn0.refl _ | apply Drawn0.step)⟩
  case round =>
   clear H'
   try clear c2
   try clear c2b0
   try clear c2b1
   try clear p2
   obtain ⟨x3_1, rfl, HA, HK1, ⟨m1, rfl⟩⟩ := hrel
   cases gk with
   | zero => exact absurd HA.out (by simp [spec_l06Moves.l0])
   | succ k1 =>
    have H := HA.out
    clear HA
    simp only [spec_l06Moves.l0] at H
    by_cases c3 : x3_1 < (a0.size : Int)
    ·rw [if_pos c3] at H
     have c3b0 : decide (x3_1 < (a0.size : Int)) = true := decide_eq_true c3
     clear c3
     by_cases c4 : 0 ≤ x3_1
     ·rw [if_pos c4] at H
      have c4b0 : decide (0 ≤ x3_1) = true := decide_eq_true c4
      clear c4
      replace H := Option.bind_eq_some_iff.mp H
      obtain ⟨t269, A60, H⟩ := H
      replace H : (if t269 = true then (spec_l06Moves.l0 k1 a0 (wrap64 (x3_1 + 1))) else (some 5)) = some r := H
      have A6 := Aside0.mk A60
      clear A60
      by_cases c7 : t269 = true
      ·subst c7
       have H1 : (spec_l06Moves.l0 k1 a0 (wrap64 (x3_1 + 1))) = some r := by rw [if_pos rfl] at H; exact H
       clear H
       have H := H1
       clear H1
       have H' := Aside0.mk H
       clear H
       have p5 : 0 ≤ (x3_1 : Int) := of_decide_eq_true (by first | (with_reducible assumption) | assumption)
       have q5 : x3_1 < (a0.size : Int) := of_decide_eq_true (by first | (with_reducible assumption) | assumption)
       have hx5 := bt_at a0 x3_1
       replace p5 := eq_true p5
       replace q5 := eq_true q5
       go_wp2_with (first | ((with_reducible refine gate_callee (f := 34) rfl ?_); refine goesL_ (some 16) rfl rfl Tryd.func34 (by kernel_rfl) rfl #[.int .u8 (bt a0 x3_1)] rfl (by (try simp only [List.map_toArray, List.map_cons, List.map_nil]); first | done | rfl | (simp only [List.length_drop, List.length_take]; rfl)) ?_; (with_reducible refine (spec_l06Letter.calls (bt a0 x3_1) true _ A6.out).mono ?_); rintro e w' ⟨rfl, ⟨nd, rfl⟩⟩; refine ⟨_, rfl, ?_⟩))
       go_roundg k1
       case measure => have := HK1.out; omega
       case rel => exact ⟨(wrap64 (x3_1 + 1)), (by first | rfl | (simp; done) | (simp [*]; done)), H', ⟨by have := HK1.out; omega⟩, by repeat (first | exact Drawn0.refl _ | apply Drawn0.step)⟩
      ·replace c7 := Bool.eq_false_iff.mpr c7
       subst c7
       have H1 : (some 5) = some r := by rw [if_neg (show ¬ (false = true) by decide)] at H; exact H
       clear H
       have H := H1
       clear H1
       obtain rfl := Option.some.inj H
       have p5 : 0 ≤ (x3_1 : Int) := of_decide_eq_true (by first | (with_reducible assumption) | assumption)
       have q5 : x3_1 < (a0.size : Int) := of_decide_eq_true (by first | (with_reducible assumption) | assumption)
       have hx5 := bt_at a0 x3_1
       replace p5 := eq_true p5
       replace q5 := eq_true q5
       go_wp2_with (first | ((with_reducible refine gate_callee (f := 34) rfl ?_); refine goesL_ (some 16) rfl rfl Tryd.func34 (by kernel_rfl) rfl #[.int .u8 (bt a0 x3_1)] rfl (by (try simp only [List.map_toArray, List.map_cons, List.map_nil]); first | done | rfl | (simp only [List.length_drop, List.length_take]; rfl)) ?_; (with_reducible refine (spec_l06Letter.calls (bt a0 x3_1) false _ A6.out).mono ?_); rintro e w' ⟨rfl, ⟨nd, rfl⟩⟩; refine ⟨_, rfl, ?_⟩))
       go_ret
       exact ⟨by first | rfl | (simp; done) | (simp [*]; done), by repeat (first | exact Drawn0.refl _ | apply Drawn0.step)⟩
     ·rw [if_neg c4] at H
      exact absurd H (by simp)
    ·rw [if_neg c3] at H
     have c3b0 : decide (x3_1 < (a0.size : Int)) = false := decide_eq_false c3
     clear c3
     obtain rfl := Option.some.inj H
     go_wp2
     go_ret
     exact ⟨by first | rfl | (simp; done) | (simp [*]; done), by repeat (first | exact Drawn0.refl _ | apply Drawn0.step)⟩
end Go.Proofs.YtdedijjbdkoekaaDoor.PB
end
section
namespace Go.Proofs.YtdedijjbdkoekaaDoor.PB
open Go.RowKit Go.Proofs.YtdedijjbdkoekaaDoorW.PrintWords Go.Proofs.YtdedijjbdkoekaaDoorW.PrintLast Go.Proofs.YtdedijjbdkoekaaDoorW.PrintMore Go.Proofs.YtdedijjbdkoekaaDoor.La
attribute [local go_sem] max2_int min2_int max_two min_two max_three min_three max_four min_four   -- for this text's walks alone
set_option linter.unusedVariables false
set_option linter.unusedSimpArgs false
def spec_MovesCrowd.l0 : Nat → ByteArray → Int → Int → Int → LA 10 → LA 40 → Option (LA 40 × Int)
 | 0, _, _, _, _, _, _ => none
 | k + 1, x2, x9, x271000, x271001, x271002, x272000 => if x9 < (x2.size : Int) then (if 0 ≤ x9 then ((spec_l06Move.f k x271000 x271001 x271002 x272000 (bt x2 x9)).bind fun t275 => (spec_MovesCrowd.l0 k x2 (wrap64 (x9 + 1)) x271000 x271001 x271002 t275)) else (none)) else (some (x272000, 0))
def spec_MovesCrowd.f (k : Nat) (a0_0 : Int) (a0_1 : Int) (a0_2 : LA 10) (a1 : LA 40) (a2 : ByteArray) : Option (LA 40 × Int) := (spec_l06Ok.f k a0_0 a0_1 a0_2 a1).bind fun t273 => (if t273 = true then ((spec_l06Moves.f k a2).bind fun t274 => (if t274 = 0 then (spec_MovesCrowd.l0 k a2 0 a0_0 a0_1 a0_2 a1) else (some ((LA.zero 40), t274)))) else (some ((LA.zero 40), 1)))
theorem spec_MovesCrowd.mono_l : ∀ k, (∀ y0 y1 y2 y3 y4 y5, LeO (spec_MovesCrowd.l0 k y0 y1 y2 y3 y4 y5) (spec_MovesCrowd.l0 (k + 1) y0 y1 y2 y3 y4 y5))
 | 0 => fun _ _ _ _ _ _ r h => by simp [spec_MovesCrowd.l0] at h
 | k + 1 => by
  have ih0 := spec_MovesCrowd.mono_l k
  ·intro y0 y1 y2 y3 y4 y5
   unfold spec_MovesCrowd.l0
   repeat' first
   | (with_reducible exact ih0 _ _ _ _ _ _)
   | (with_reducible exact spec_l06Move.mono _ _ _ _ _ _)
   | (with_reducible exact spec_l06Moves.mono _ _)
   | (with_reducible exact spec_l06Ok.mono _ _ _ _ _)
   | (with_reducible exact LeO.refl _)
   | (with_reducible exact LeO.none _)
   | (with_reducible refine LeO.ite ?_ ?_)
   | (with_reducible refine LeO.bind ?_ (fun _ => ?_))
   | exact ih0 _ _ _ _ _ _
   | exact spec_l06Move.mono _ _ _ _ _ _
   | exact spec_l06Moves.mono _ _
   | exact spec_l06Ok.mono _ _ _ _ _
   | exact LeO.none _
   | refine LeO.ite ?_ ?_
   | refine LeO.bind ?_ (fun _ => ?_)
theorem spec_MovesCrowd.mono : ∀ a0 a1 a2 a3 a4 k, LeO (spec_MovesCrowd.f k a0 a1 a2 a3 a4) (spec_MovesCrowd.f (k + 1) a0 a1 a2 a3 a4) := by
 intro a0 a1 a2 a3 a4 k
 have ih0 := spec_MovesCrowd.mono_l k
 unfold spec_MovesCrowd.f
 repeat' first
   | (with_reducible exact ih0 _ _ _ _ _ _)
   | (with_reducible exact spec_l06Move.mono _ _ _ _ _ _)
   | (with_reducible exact spec_l06Moves.mono _ _)
   | (with_reducible exact spec_l06Ok.mono _ _ _ _ _)
   | (with_reducible exact LeO.refl _)
   | (with_reducible exact LeO.none _)
   | (with_reducible refine LeO.ite ?_ ?_)
   | (with_reducible refine LeO.bind ?_ (fun _ => ?_))
   | exact ih0 _ _ _ _ _ _
   | exact spec_l06Move.mono _ _ _ _ _ _
   | exact spec_l06Moves.mono _ _
   | exact spec_l06Ok.mono _ _ _ _ _
   | exact LeO.none _
   | refine LeO.ite ?_ ?_
   | refine LeO.bind ?_ (fun _ => ?_)
set_option maxHeartbeats 8000000 in
set_option maxRecDepth 100000 in
theorem spec_MovesCrowd.calls (k : Nat) (a0_0 : Int) (a0_1 : Int) (a0_2 : LA 10) (a1 : LA 40) (a2 : ByteArray) (r1 : LA 40) (r2 : Int) (w : World) (h : spec_MovesCrowd.f k a0_0 a0_1 a0_2 a1 a2 = some (r1, r2)) :
  Calls Tryd.prog 14 #[.agg (mixA (Value.int .u16) [.int .i8 a0_0, .int .i8 a0_1] a0_2), .agg (mixA (Value.int .u16) [] a1), .string a2] w fun e w' => e = .returned (.tuple #[.agg (mixA (Value.int .u16) [] r1), .int .i64 r2]) ∧ Below w.heap.size w w' := by
 have hu31 := Tryd.underlying31
 have HB := Aside0.mk (Below.refl w.heap.size w)
 have H : ((spec_l06Ok.f k a0_0 a0_1 a0_2 a1).bind fun t273 => (if t273 = true then ((spec_l06Moves.f k a2).bind fun t274 => (if t274 = 0 then (spec_MovesCrowd.l0 k a2 0 a0_0 a0_1 a0_2 a1) else (some ((LA.zero 40), t274)))) else (some ((LA.zero 40), 1)))) = some (r1, r2) := h
 clear h
 replace H := Option.bind_eq_some_iff.mp H
 obtain ⟨t273, A40, H⟩ := H
 replace H : (if t273 = true then ((spec_l06Moves.f k a2).bind fun t274 => (if t274 = 0 then (spec_MovesCrowd.l0 k a2 0 a0_0 a0_1 a0_2 a1) else (some ((LA.zero 40), t274)))) else (some ((LA.zero 40), 1))) = some (r1, r2) := H
 have A4 := Aside0.mk A40
 clear A40
 by_cases c5 : t273 = true
 ·subst c5
  have H1 : ((spec_l06Moves.f k a2).bind fun t274 => (if t274 = 0 then (spec_MovesCrowd.l0 k a2 0 a0_0 a0_1 a0_2 a1) else (some ((LA.zero 40), t274)))) = some (r1, r2) := by rw [if_pos rfl] at H; exact H
  clear H
  have H := H1
  clear H1
  replace H := Option.bind_eq_some_iff.mp H
  obtain ⟨t274, A60, H⟩ := H
  replace H : (if t274 = 0 then (spec_MovesCrowd.l0 k a2 0 a0_0 a0_1 a0_2 a1) else (some ((LA.zero 40), t274))) = some (r1, r2) := H
  have A6 := Aside0.mk A60
  clear A60
  by_cases c7 : t274 = 0
  ·rw [if_pos c7] at H
   have c7b0 : (t274 == 0) = true := beq_iff_eq.mpr c7
   have c7b1 : (t274 != 0) = false := bne_eq_false_iff_eq.mpr c7
   clear c7
   have H' := Aside0.mk H
   clear H
   go_enter Tryd.func14, Tryd.ntmps14
   go_wp2_with (first | ((with_reducible refine gate_dst (N := 3) rfl ?_); refine box_event ?hg (N := 3) ?hd (cs := (mixA (Value.int .u16) [.int .i8 a0_0, .int .i8 a0_1] a0_2)) (t := 31) ?hr ?_; (case hd => rfl); (case hg => rfl); (case hr => first | (go_simp; done) | (go_simp; rfl)); intro gb270 hg w8 hbox hb; have n0_ := bst HB hb; have n1_ := Aside0.mk (hbox); have n2_ := gwl HB hg; have n3_ := gwl HB hg; clear HB; have HB := n0_; have BK270 := n1_; have GW270 := n2_; have GE270 := n3_; clear n0_ n1_ n2_ n3_; clear hb hbox hg) | ((with_reducible refine gate_dst (N := 4) rfl ?_); refine box_event ?hg (N := 4) ?hd (cs := (mixA (Value.int .u16) [] a1)) (t := 28) ?hr ?_; (case hd => rfl); (case hg => rfl); (case hr => first | (go_simp; done) | (go_simp; rfl)); intro gb271 hg w9 hbox hb; have n0_ := bkb BK270 hb; have n1_ := bst HB hb; have n2_ := Aside0.mk (hbox); have n3_ := gwl HB hg; have n4_ := gwl HB hg; have n5_ := nbl BK270 hg; have n6_ := nbg BK270 hg; clear BK270; clear HB; have BK270 := n0_; have HB := n1_; have BK271 := n2_; have GW271 := n3_; have GE271 := n4_; have NB270_271 := n5_; have NB271_270 := n6_; clear n0_ n1_ n2_ n3_ n4_ n5_ n6_; clear hb hbox hg) | ((with_reducible refine gate_dst (N := 6) rfl ?_); refine box_event ?hg (N := 6) ?hd (cs := (mixA (Value.int .u16) [] (LA.zero 40))) (t := 28) ?hr ?_; (case hd => rfl); (case hg => rfl); (case hr => first | (go_simp; done) | (go_simp; rfl)); intro gb272 hg w10 hbox hb; have n0_ := bkb BK270 hb; have n1_ := bkb BK271 hb; have n2_ := bst HB hb; have n3_ := Aside0.mk (hbox); have n4_ := gwl HB hg; have n5_ := gwl HB hg; have n6_ := nbl BK270 hg; have n7_ := nbg BK270 hg; have n8_ := nbl BK271 hg; have n9_ := nbg BK271 hg; clear BK270; clear BK271; clear HB; have BK270 := n0_; have BK271 := n1_; have HB := n2_; have BK272 := n3_; have GW272 := n4_; have GE272 := n5_; have NB270_272 := n6_; have NB272_270 := n7_; have NB271_272 := n8_; have NB272_271 := n9_; clear n0_ n1_ n2_ n3_ n4_ n5_ n6_ n7_ n8_ n9_; clear hb hbox hg) | ((with_reducible refine gate_callee (f := 33) rfl ?_); refine goesL_ (some 10) rfl rfl Tryd.func33 (by kernel_rfl) rfl #[.pointer (some ⟨gb270, 0, none⟩), .pointer (some ⟨gb271, 0, none⟩)] rfl (by (try simp only [List.map_toArray, List.map_cons, List.map_nil]); first | done | rfl | (simp only [List.length_drop, List.length_take]; rfl)) ?_; (with_reducible refine (spec_l06Ok.calls k gb270 a0_0 a0_1 a0_2 gb271 a1 true _ ?side1 ?side2 A4.out).mono ?_); (case side1 => exact (pk BK270)); (case side2 => exact (pk BK271)); rintro e w11 ⟨rfl, hb⟩; refine ⟨_, rfl, ?_⟩; have n0_ := bkb BK270 hb; have n1_ := bkb BK271 hb; have n2_ := bkb BK272 hb; have n3_ := bst HB hb; clear BK270; clear BK271; clear BK272; clear HB; have BK270 := n0_; have BK271 := n1_; have BK272 := n2_; have HB := n3_; clear n0_ n1_ n2_ n3_; (try clear hb); (try clear hb2); (try clear hk); (try clear hi)) | ((with_reducible refine gate_callee (f := 20) rfl ?_); refine goesL_ (some 14) rfl rfl Tryd.func20 (by kernel_rfl) rfl #[.string a2] rfl (by (try simp only [List.map_toArray, List.map_cons, List.map_nil]); first | done | rfl | (simp only [List.length_drop, List.length_take]; rfl)) ?_; (with_reducible refine (spec_l06Moves.calls k a2 t274 _ A6.out).mono ?_); rintro e w' ⟨rfl, ⟨nd, rfl⟩⟩; refine ⟨_, rfl, ?_⟩))
   go_loopg [9] k (fun kq v9 w' => ∃ (x9_1 : Int) (x272000_1 : LA 40), v9 = .int .i64 x9_1 ∧ Aside0 (spec_MovesCrowd.l0 kq a2 x9_1 a0_0 a0_1 a0_2 x272000_1 = some (r1, r2)) ∧ Aside0 (kq ≤ k) ∧ Aside0 (w'.heap[gb270]? = some (.cells (mixA (Value.int .u16) [.int .i8 a0_0, .int .i8 a0_1] a0_2) 31 (0, 0))) ∧ Aside0 (w'.heap[gb271]? = some (.cells (mixA (Value.int .u16) [] x272000_1) 28 (0, 0))) ∧ Aside0 (w'.heap[gb272]? = some (.cells (mixA (Value.int .u16) [] (LA.zero 40)) 28 (0, 0))) ∧ Aside0 (Below w.heap.size w w'))
   case atStart => exact ⟨(0), (a1), (by first | rfl | (simp; done) | (simp [*]; done)), H', ⟨Nat.le_refl _⟩, ⟨pk BK270⟩, ⟨pk BK271⟩, ⟨pk BK272⟩, ⟨pbs HB⟩⟩
   case round =>
    clear H'
    try clear c1
    try clear c2
    try clear p2
    try clear c3
    try clear c5
    try clear c7
    try clear c7b0
    try clear c7b1
    obtain ⟨x9_1, x272000_1, rfl, HA, HK1, BK270, BK271, BK272, HB⟩ := hrel
    cases gk with
    | zero => exact absurd HA.out (by simp [spec_MovesCrowd.l0])
    | succ k1 =>
     have H := HA.out
     clear HA
     simp only [spec_MovesCrowd.l0] at H
     by_cases c12 : x9_1 < (a2.size : Int)
     ·rw [if_pos c12] at H
      have c12b0 : decide (x9_1 < (a2.size : Int)) = true := decide_eq_true c12
      clear c12
      by_cases c13 : 0 ≤ x9_1
      ·rw [if_pos c13] at H
       have c13b0 : decide (0 ≤ x9_1) = true := decide_eq_true c13
       clear c13
       replace H := Option.bind_eq_some_iff.mp H
       obtain ⟨t275, A150, H⟩ := H
       replace H : (spec_MovesCrowd.l0 k1 a2 (wrap64 (x9_1 + 1)) a0_0 a0_1 a0_2 t275) = some (r1, r2) := H
       have A15 := Aside0.mk A150
       clear A150
       have H' := Aside0.mk H
       clear H
       have p14 : 0 ≤ (x9_1 : Int) := of_decide_eq_true (by first | (with_reducible assumption) | assumption)
       have q14 : x9_1 < (a2.size : Int) := of_decide_eq_true (by first | (with_reducible assumption) | assumption)
       have hx14 := bt_at a2 x9_1
       replace p14 := eq_true p14
       replace q14 := eq_true q14
       go_wp2_with (first | ((with_reducible refine gate_callee (f := 35) rfl ?_); refine goesL_ (some 28) rfl rfl Tryd.func35 (by kernel_rfl) rfl #[.pointer (some ⟨gb270, 0, none⟩), .pointer (some ⟨gb271, 0, none⟩), .int .u8 (bt a2 x9_1)] rfl (by (try simp only [List.map_toArray, List.map_cons, List.map_nil]); first | done | rfl | (simp only [List.length_drop, List.length_take]; rfl)) ?_; (with_reducible refine (spec_l06Move.calls k1 gb270 a0_0 a0_1 a0_2 gb271 x272000_1 (bt a2 x9_1) t275 _ ?side1 ?side2 A15.out).mono ?_); (case side1 => exact (pk BK270)); (case side2 => exact (pk BK271)); rintro e w16 ⟨rfl, hb⟩; refine ⟨_, rfl, ?_⟩; have n0_ := bkb BK270 hb; have n1_ := bkb BK271 hb; have n2_ := bkb BK272 hb; have n3_ := bst HB hb; clear BK270; clear BK271; clear BK272; clear HB; have BK270 := n0_; have BK271 := n1_; have BK272 := n2_; have HB := n3_; clear n0_ n1_ n2_ n3_; (try clear hb); (try clear hb2); (try clear hk); (try clear hi)) | ((with_reducible refine gate_store (p := 4) rfl ?_); refine wpList_store_lmix rfl 28 _ _ rfl gb271 (e := (Value.int .u16)) (cs' := []) (W' := t275) (cs := []) (W := x272000_1) (T := 28) rfl rfl (pk BK271) rfl (by kernel_rfl) rfl (fun _ => rfl) rfl ?_; intro w17 hi hk hbl; have n0_ := Aside0.mk (KeepBut.blk hk (g' := gb270) (o := .cells (mixA (Value.int .u16) [.int .i8 a0_0, .int .i8 a0_1] a0_2) 31 (0, 0)) (pk BK270) NB270_271.out (by simp)); have n1_ := Aside0.mk (KeepBut.blk hk (g' := gb272) (o := .cells (mixA (Value.int .u16) [] (LA.zero 40)) 28 (0, 0)) (pk BK272) NB272_271.out (by simp)); have n2_ := Aside0.mk (hbl _ _ (pbs HB) GE271.out); have n3_ := Aside0.mk (hi); clear BK270; clear BK272; clear HB; clear BK271; have BK270 := n0_; have BK272 := n1_; have HB := n2_; have BK271 := n3_; clear n0_ n1_ n2_ n3_; clear hi hk hbl))
       go_roundg k1
       case measure => have := HK1.out; omega
       case rel => exact ⟨(wrap64 (x9_1 + 1)), (t275), (by first | rfl | (simp; done) | (simp [*]; done)), H', ⟨by have := HK1.out; omega⟩, ⟨pk BK270⟩, ⟨pk BK271⟩, ⟨pk BK272⟩, ⟨pbs HB⟩⟩
      ·rw [if_neg c13] at H
       exact absurd H (by simp)
     ·rw [if_neg c12] at H
      have c12b0 : decide (x9_1 < (a2.size : Int)) = false := decide_eq_false c12
      clear c12
      simp only [Option.some.injEq, Prod.mk.injEq] at H
      obtain ⟨rfl, rfl⟩ := H
      go_wp2_with (first | ((with_reducible refine gate_dst (N := 29) rfl ?_); refine wpList_run0 (v := .agg (mixA (Value.int .u16) [] x272000_1)) rfl (load_mix_run (P := Tryd.prog) 28 (.tmp 4) rfl gb271 rfl (show World.rangeAt _ gb271 0 ([] ++ x272000_1.l.map (Value.int .u16)) from mix_range (show (World.heap _)[gb271]? = some (.cells (mixA (Value.int .u16) [] x272000_1) 28 (0, 0)) from by (with_reducible repeat (first | refine blk_drewN ?_ _ | refine blk_drew ?_ | refine blk_alloc ?_ _)); exact BK271.out)) Tryd.underlying28 rfl (by kernel_rfl) rfl) ?_) | ((with_reducible refine gate_store (p := 6) rfl ?_); refine wpList_store_lmix rfl 28 _ _ rfl gb272 (e := (Value.int .u16)) (cs' := []) (W' := x272000_1) (cs := []) (W := (LA.zero 40)) (T := 28) rfl rfl (pk BK272) rfl (by kernel_rfl) rfl (fun _ => rfl) rfl ?_; intro w19 hi hk hbl; have n0_ := Aside0.mk (KeepBut.blk hk (g' := gb270) (o := .cells (mixA (Value.int .u16) [.int .i8 a0_0, .int .i8 a0_1] a0_2) 31 (0, 0)) (pk BK270) NB270_272.out (by simp)); have n1_ := Aside0.mk (KeepBut.blk hk (g' := gb271) (o := .cells (mixA (Value.int .u16) [] x272000_1) 28 (0, 0)) (pk BK271) NB271_272.out (by simp)); have n2_ := Aside0.mk (hbl _ _ (pbs HB) GE272.out); have n3_ := Aside0.mk (hi); clear BK270; clear BK271; clear HB; clear BK272; have BK270 := n0_; have BK271 := n1_; have HB := n2_; have BK272 := n3_; clear n0_ n1_ n2_ n3_; clear hi hk hbl))
      refine bodyPost_ret (results_ct rfl _ _ gb272 28 (mixA (Value.int .u16) [] x272000_1) (0, 0) _ rfl (pk BK272) Tryd.underlying28 rfl (by rw [mix_size]; kernel_rfl)) rfl ?_
      exact ⟨by first | rfl | (simp [errW_none, errW_some] <;> rfl) | (simp [*, errW_none, errW_some] <;> rfl), pbs HB⟩
  ·rw [if_neg c7] at H
   have c7b0 : (t274 == 0) = false := beq_eq_false_iff_ne.mpr c7
   have c7b1 : (t274 != 0) = true := bne_iff_ne.mpr c7
   simp only [Option.some.injEq, Prod.mk.injEq] at H
   obtain ⟨rfl, rfl⟩ := H
   go_enter Tryd.func14, Tryd.ntmps14
   go_wp2_with (first | ((with_reducible refine gate_dst (N := 3) rfl ?_); refine box_event ?hg (N := 3) ?hd (cs := (mixA (Value.int .u16) [.int .i8 a0_0, .int .i8 a0_1] a0_2)) (t := 31) ?hr ?_; (case hd => rfl); (case hg => rfl); (case hr => first | (go_simp; done) | (go_simp; rfl)); intro gb270 hg w20 hbox hb; have n0_ := bst HB hb; have n1_ := Aside0.mk (hbox); have n2_ := gwl HB hg; have n3_ := gwl HB hg; clear HB; have HB := n0_; have BK270 := n1_; have GW270 := n2_; have GE270 := n3_; clear n0_ n1_ n2_ n3_; clear hb hbox hg) | ((with_reducible refine gate_dst (N := 4) rfl ?_); refine box_event ?hg (N := 4) ?hd (cs := (mixA (Value.int .u16) [] a1)) (t := 28) ?hr ?_; (case hd => rfl); (case hg => rfl); (case hr => first | (go_simp; done) | (go_simp; rfl)); intro gb271 hg w21 hbox hb; have n0_ := bkb BK270 hb; have n1_ := bst HB hb; have n2_ := Aside0.mk (hbox); have n3_ := gwl HB hg; have n4_ := gwl HB hg; have n5_ := nbl BK270 hg; have n6_ := nbg BK270 hg; clear BK270; clear HB; have BK270 := n0_; have HB := n1_; have BK271 := n2_; have GW271 := n3_; have GE271 := n4_; have NB270_271 := n5_; have NB271_270 := n6_; clear n0_ n1_ n2_ n3_ n4_ n5_ n6_; clear hb hbox hg) | ((with_reducible refine gate_dst (N := 6) rfl ?_); refine box_event ?hg (N := 6) ?hd (cs := (mixA (Value.int .u16) [] (LA.zero 40))) (t := 28) ?hr ?_; (case hd => rfl); (case hg => rfl); (case hr => first | (go_simp; done) | (go_simp; rfl)); intro gb272 hg w22 hbox hb; have n0_ := bkb BK270 hb; have n1_ := bkb BK271 hb; have n2_ := bst HB hb; have n3_ := Aside0.mk (hbox); have n4_ := gwl HB hg; have n5_ := gwl HB hg; have n6_ := nbl BK270 hg; have n7_ := nbg BK270 hg; have n8_ := nbl BK271 hg; have n9_ := nbg BK271 hg; clear BK270; clear BK271; clear HB; have BK270 := n0_; have BK271 := n1_; have HB := n2_; have BK272 := n3_; have GW272 := n4_; have GE272 := n5_; have NB270_272 := n6_; have NB272_270 := n7_; have NB271_272 := n8_; have NB272_271 := n9_; clear n0_ n1_ n2_ n3_ n4_ n5_ n6_ n7_ n8_ n9_; clear hb hbox hg) | ((with_reducible refine gate_callee (f := 33) rfl ?_); refine goesL_ (some 10) rfl rfl Tryd.func33 (by kernel_rfl) rfl #[.pointer (some ⟨gb270, 0, none⟩), .pointer (some ⟨gb271, 0, none⟩)] rfl (by (try simp only [List.map_toArray, List.map_cons, List.map_nil]); first | done | rfl | (simp only [List.length_drop, List.length_take]; rfl)) ?_; (with_reducible refine (spec_l06Ok.calls k gb270 a0_0 a0_1 a0_2 gb271 a1 true _ ?side1 ?side2 A4.out).mono ?_); (case side1 => exact (pk BK270)); (case side2 => exact (pk BK271)); rintro e w23 ⟨rfl, hb⟩; refine ⟨_, rfl, ?_⟩; have n0_ := bkb BK270 hb; have n1_ := bkb BK271 hb; have n2_ := bkb BK272 hb; have n3_ := bst HB hb; clear BK270; clear BK271; clear BK272; clear HB; have BK270 := n0_; have BK271 := n1_; have BK272 := n2_; have HB := n3_; clear n0_ n1_ n2_ n3_; (try clear hb); (try clear hb2); (try clear hk); (try clear hi)) | ((with_reducible refine gate_callee (f := 20) rfl ?_); refine goesL_ (some 14) rfl rfl Tryd.func20 (by kernel_rfl) rfl #[.string a2] rfl (by (try simp only [List.map_toArray, List.map_cons, List.map_nil]); first | done | rfl | (simp only [List.length_drop, List.length_take]; rfl)) ?_; (with_reducible refine (spec_l06Moves.calls k a2 t274 _ A6.out).mono ?_); rintro e w' ⟨rfl, ⟨nd, rfl⟩⟩; refine ⟨_, rfl, ?_⟩) | ((with_reducible refine gate_store (p := 6) rfl ?_); refine wpList_store_lmix rfl 28 _ _ rfl gb272 (e := (Value.int .u16)) (cs' := []) (W' := (LA.zero 40)) (cs := []) (W := (LA.zero 40)) (T := 28) rfl rfl (pk BK272) rfl (by kernel_rfl) rfl (fun _ => rfl) rfl ?_; intro w24 hi hk hbl; have n0_ := Aside0.mk (KeepBut.blk hk (g' := gb270) (o := .cells (mixA (Value.int .u16) [.int .i8 a0_0, .int .i8 a0_1] a0_2) 31 (0, 0)) (pk BK270) NB270_272.out (by simp)); have n1_ := Aside0.mk (KeepBut.blk hk (g' := gb271) (o := .cells (mixA (Value.int .u16) [] a1) 28 (0, 0)) (pk BK271) NB271_272.out (by simp)); have n2_ := Aside0.mk (hbl _ _ (pbs HB) GE272.out); have n3_ := Aside0.mk (hi); clear BK270; clear BK271; clear HB; clear BK272; have BK270 := n0_; have BK271 := n1_; have HB := n2_; have BK272 := n3_; clear n0_ n1_ n2_ n3_; clear hi hk hbl))
   refine bodyPost_ret (results_ct rfl _ _ gb272 28 (mixA (Value.int .u16) [] (LA.zero 40)) (0, 0) _ rfl (pk BK272) Tryd.underlying28 rfl (by rw [mix_size]; kernel_rfl)) rfl ?_
   exact ⟨by first | rfl | (simp [errW_none, errW_some] <;> rfl) | (simp [*, errW_none, errW_some] <;> rfl), pbs HB⟩
 ·replace c5 := Bool.eq_false_iff.mpr c5
  subst c5
  have H1 : (some ((LA.zero 40), 1)) = some (r1, r2) := by rw [if_neg (show ¬ (false = true) by decide)] at H; exact H
  clear H
  have H := H1
  clear H1
  simp only [Option.some.injEq, Prod.mk.injEq] at H
  obtain ⟨rfl, rfl⟩ := H
  go_enter Tryd.func14, Tryd.ntmps14
  go_wp2_with (first | ((with_reducible refine gate_dst (N := 3) rfl ?_); refine box_event ?hg (N := 3) ?hd (cs := (mixA (Value.int .u16) [.int .i8 a0_0, .int .i8 a0_1] a0_2)) (t := 31) ?hr ?_; (case hd => rfl); (case hg => rfl); (case hr => first | (go_simp; done) | (go_simp; rfl)); intro gb270 hg w25 hbox hb; have n0_ := bst HB hb; have n1_ := Aside0.mk (hbox); have n2_ := gwl HB hg; have n3_ := gwl HB hg; clear HB; have HB := n0_; have BK270 := n1_; have GW270 := n2_; have GE270 := n3_; clear n0_ n1_ n2_ n3_; clear hb hbox hg) | ((with_reducible refine gate_dst (N := 4) rfl ?_); refine box_event ?hg (N := 4) ?hd (cs := (mixA (Value.int .u16) [] a1)) (t := 28) ?hr ?_; (case hd => rfl); (case hg => rfl); (case hr => first | (go_simp; done) | (go_simp; rfl)); intro gb271 hg w26 hbox hb; have n0_ := bkb BK270 hb; have n1_ := bst HB hb; have n2_ := Aside0.mk (hbox); have n3_ := gwl HB hg; have n4_ := gwl HB hg; have n5_ := nbl BK270 hg; have n6_ := nbg BK270 hg; clear BK270; clear HB; have BK270 := n0_; have HB := n1_; have BK271 := n2_; have GW271 := n3_; have GE271 := n4_; have NB270_271 := n5_; have NB271_270 := n6_; clear n0_ n1_ n2_ n3_ n4_ n5_ n6_; clear hb hbox hg) | ((with_reducible refine gate_dst (N := 6) rfl ?_); refine box_event ?hg (N := 6) ?hd (cs := (mixA (Value.int .u16) [] (LA.zero 40))) (t := 28) ?hr ?_; (case hd => rfl); (case hg => rfl); (case hr => first | (go_simp; done) | (go_simp; rfl)); intro gb272 hg w27 hbox hb; have n0_ := bkb BK270 hb; have n1_ := bkb BK271 hb; have n2_ := bst HB hb; have n3_ := Aside0.mk (hbox); have n4_ := gwl HB hg; have n5_ := gwl HB hg; have n6_ := nbl BK270 hg; have n7_ := nbg BK270 hg; have n8_ := nbl BK271 hg; have n9_ := nbg BK271 hg; clear BK270; clear BK271; clear HB; have BK270 := n0_; have BK271 := n1_; have HB := n2_; have BK272 := n3_; have GW272 := n4_; have GE272 := n5_; have NB270_272 := n6_; have NB272_270 := n7_; have NB271_272 := n8_; have NB272_271 := n9_; clear n0_ n1_ n2_ n3_ n4_ n5_ n6_ n7_ n8_ n9_; clear hb hbox hg) | ((with_reducible refine gate_callee (f := 33) rfl ?_); refine goesL_ (some 10) rfl rfl Tryd.func33 (by kernel_rfl) rfl #[.pointer (some ⟨gb270, 0, none⟩), .pointer (some ⟨gb271, 0, none⟩)] rfl (by (try simp only [List.map_toArray, List.map_cons, List.map_nil]); first | done | rfl | (simp only [List.length_drop, List.length_take]; rfl)) ?_; (with_reducible refine (spec_l06Ok.calls k gb270 a0_0 a0_1 a0_2 gb271 a1 false _ ?side1 ?side2 A4.out).mono ?_); (case side1 => exact (pk BK270)); (case side2 => exact (pk BK271)); rintro e w28 ⟨rfl, hb⟩; refine ⟨_, rfl, ?_⟩; have n0_ := bkb BK270 hb; have n1_ := bkb BK271 hb; have n2_ := bkb BK272 hb; have n3_ := bst HB hb; clear BK270; clear BK271; clear BK272; clear HB; have BK270 := n0_; have BK271 := n1_; have BK272 := n2_; have HB := n3_; clear n0_ n1_ n2_ n3_; (try clear hb); (try clear hb2); (try clear hk); (try clear hi)) | ((with_reducible refine gate_store (p := 6) rfl ?_); refine wpList_store_lmix rfl 28 _ _ rfl gb272 (e := (Value.int .u16)) (cs' := []) (W' := (LA.zero 40)) (cs := []) (W := (LA.zero 40)) (T := 28) rfl rfl (pk BK272) rfl (by kernel_rfl) rfl (fun _ => rfl) rfl ?_; intro w29 hi hk hbl; have n0_ := Aside0.mk (KeepBut.blk hk (g' := gb270) (o := .cells (mixA (Value.int .u16) [.int .i8 a0_0, .int .i8 a0_1] a0_2) 31 (0, 0)) (pk BK270) NB270_272.out (by simp)); have n1_ := Aside0.mk (KeepBut.blk hk (g' := gb271) (o := .cells (mixA (Value.int .u16) [] a1) 28 (0, 0)) (pk BK271) NB271_272.out (by simp)); have n2_ := Aside0.mk (hbl _ _ (pbs HB) GE272.out); have n3_ := Aside0.mk (hi); clear BK270; clear BK271; clear HB; clear BK272; have BK270 := n0_; have BK271 := n1_; have HB := n2_; have BK272 := n3_; clear n0_ n1_ n2_ n3_; clear hi hk hbl))
  refine bodyPost_ret (results_ct rfl _ _ gb272 28 (mixA (Value.int .u16) [] (LA.zero 40)) (0, 0) _ rfl (pk BK272) Tryd.underlying28 rfl (by rw [mix_size]; kernel_rfl)) rfl ?_
  exact ⟨by first | rfl | (simp [errW_none, errW_some] <;> rfl) | (simp [*, errW_none, errW_some] <;> rfl), pbs HB⟩
end Go.Proofs.YtdedijjbdkoekaaDoor.PB
end
section
namespace Go.Proofs.YtdedijjbdkoekaaDoor.PB
open Go.RowKit Go.Proofs.YtdedijjbdkoekaaDoorW.PrintWords Go.Proofs.YtdedijjbdkoekaaDoorW.PrintLast Go.Proofs.YtdedijjbdkoekaaDoorW.PrintMore Go.Proofs.YtdedijjbdkoekaaDoor.La
attribute [local go_sem] max2_int min2_int max_two min_two max_three min_three max_four min_four   -- for this text's walks alone
set_option linter.unusedVariables false
set_option linter.unusedSimpArgs false
mutual
def spec_CountCrowd.l0 : Nat → Int → Int → LA 40 → Option (Int)
 | 0, _, _, _ => none
 | k + 1, x3, x4, x343000 => if x4 < 100 then (spec_CountCrowd.l1 k x3 x4 0 x343000) else (some x3)
def spec_CountCrowd.l1 : Nat → Int → Int → Int → LA 40 → Option (Int)
 | 0, _, _, _, _ => none
 | k + 1, x3, x4, x5, x343000 => if x5 < 4 then ((spec_l06Spot.f x4).bind fun bt343 => ((spec_l06Has.f x343000 bt343.1 bt343.2 x5).bind fun t345 => (if t345 = true then (spec_CountCrowd.l1 k (wrap64 (x3 + 1)) x4 (wrap64 (x5 + 1)) x343000) else (spec_CountCrowd.l1 k x3 x4 (wrap64 (x5 + 1)) x343000)))) else (spec_CountCrowd.l0 k x3 (wrap64 (x4 + 1)) x343000)
end
def spec_CountCrowd.f (k : Nat) (a0 : LA 40) : Option (Int) := spec_CountCrowd.l0 k 0 0 a0
theorem spec_CountCrowd.mono_l : ∀ k, (∀ y0 y1 y2, LeO (spec_CountCrowd.l0 k y0 y1 y2) (spec_CountCrowd.l0 (k + 1) y0 y1 y2)) ∧ (∀ y0 y1 y2 y3, LeO (spec_CountCrowd.l1 k y0 y1 y2 y3) (spec_CountCrowd.l1 (k + 1) y0 y1 y2 y3))
 | 0 => ⟨fun _ _ _ r h => by simp [spec_CountCrowd.l0] at h, fun _ _ _ _ r h => by simp [spec_CountCrowd.l1] at h⟩
 | k + 1 => by
  obtain ⟨ih0, ih1⟩ := spec_CountCrowd.mono_l k
  refine ⟨?_, ?_⟩
  ·intro y0 y1 y2
   unfold spec_CountCrowd.l0
   repeat' first
   | (with_reducible exact ih0 _ _ _)
   | (with_reducible exact ih1 _ _ _ _)
   | (with_reducible exact LeO.refl _)
   | (with_reducible exact LeO.none _)
   | (with_reducible refine LeO.ite ?_ ?_)
   | (with_reducible refine LeO.bind ?_ (fun _ => ?_))
   | exact ih0 _ _ _
   | exact ih1 _ _ _ _
   | exact LeO.none _
   | refine LeO.ite ?_ ?_
   | refine LeO.bind ?_ (fun _ => ?_)
  ·intro y0 y1 y2 y3
   unfold spec_CountCrowd.l1
   repeat' first
   | (with_reducible exact ih0 _ _ _)
   | (with_reducible exact ih1 _ _ _ _)
   | (with_reducible exact LeO.refl _)
   | (with_reducible exact LeO.none _)
   | (with_reducible refine LeO.ite ?_ ?_)
   | (with_reducible refine LeO.bind ?_ (fun _ => ?_))
   | exact ih0 _ _ _
   | exact ih1 _ _ _ _
   | exact LeO.none _
   | refine LeO.ite ?_ ?_
   | refine LeO.bind ?_ (fun _ => ?_)
theorem spec_CountCrowd.mono : ∀ a0 k, LeO (spec_CountCrowd.f k a0) (spec_CountCrowd.f (k + 1) a0) := by
 intro a0 k
 obtain ⟨ih0, ih1⟩ := spec_CountCrowd.mono_l k
 unfold spec_CountCrowd.f
 repeat' first
   | (with_reducible exact ih0 _ _ _)
   | (with_reducible exact ih1 _ _ _ _)
   | (with_reducible exact LeO.refl _)
   | (with_reducible exact LeO.none _)
   | (with_reducible refine LeO.ite ?_ ?_)
   | (with_reducible refine LeO.bind ?_ (fun _ => ?_))
   | exact ih0 _ _ _
   | exact ih1 _ _ _ _
   | exact LeO.none _
   | refine LeO.ite ?_ ?_
   | refine LeO.bind ?_ (fun _ => ?_)
set_option maxHeartbeats 8000000 in
set_option maxRecDepth 100000 in
theorem spec_CountCrowd.calls (k : Nat) (a0 : LA 40) (r : Int) (w : World) (h : spec_CountCrowd.f k a0 = some r) :
  Calls Tryd.prog 38 #[.agg (mixA (Value.int .u16) [] a0)] w fun e w' => e = .returned (.int .i64 r) ∧ Below w.heap.size w w' := by
 have HB := Aside0.mk (Below.refl w.heap.size w)
 have H : (spec_CountCrowd.l0 k 0 0 a0) = some r := h
 clear h
 have H' := Aside0.mk H
 clear H
 go_enter Tryd.func38, Tryd.ntmps38
 go_wp2_with (first | ((with_reducible refine gate_dst (N := 1) rfl ?_); refine box_event ?hg (N := 1) ?hd (cs := (mixA (Value.int .u16) [] a0)) (t := 28) ?hr ?_; (case hd => rfl); (case hg => rfl); (case hr => first | (go_simp; done) | (go_simp; rfl)); intro gb342 hg w2 hbox hb; have n0_ := bst HB hb; have n1_ := Aside0.mk (hbox); have n2_ := gwl HB hg; have n3_ := gwl HB hg; clear HB; have HB := n0_; have BK342 := n1_; have GW342 := n2_; have GE342 := n3_; clear n0_ n1_ n2_ n3_; clear hb hbox hg))
 go_loopg [3, 4] k (fun kq v3 v4 w' => ∃ (x3_1 : Int) (x4_1 : Int), v3 = .int .i64 x3_1 ∧ v4 = .int .i64 x4_1 ∧ Aside0 (spec_CountCrowd.l0 kq x3_1 x4_1 a0 = some r) ∧ Aside0 (kq ≤ k) ∧ Aside0 (w'.heap[gb342]? = some (.cells (mixA (Value.int .u16) [] a0) 28 (0, 0))) ∧ Aside0 (Below w.heap.size w w'))
 case atStart => exact ⟨(0), (0), (by first | rfl | (simp; done) | (simp [*]; done)), (by first | rfl | (simp; done) | (simp [*]; done)), H', ⟨Nat.le_refl _⟩, ⟨pk BK342⟩, ⟨pbs HB⟩⟩
 case round =>
  clear H'
  try clear p2
  obtain ⟨x3_1, x4_1, rfl, rfl, HA, HK1, BK342, HB⟩ := hrel
  cases gk with
  | zero => exact absurd HA.out (by simp [spec_CountCrowd.l0])
  | succ k1 =>
   have H := HA.out
   clear HA
   simp only [spec_CountCrowd.l0] at H
   by_cases c3 : x4_1 < 100
   ·rw [if_pos c3] at H
    have c3b0 : decide (x4_1 < 100) = true := decide_eq_true c3
    clear c3
    have H' := Aside0.mk H
    clear H
    go_wp2
    go_loopg [3, 5] k1 (fun kq v3 v5 w' => ∃ (x3_2 : Int) (x5_2 : Int), v3 = .int .i64 x3_2 ∧ v5 = .int .i64 x5_2 ∧ Aside0 (spec_CountCrowd.l1 kq x3_2 x4_1 x5_2 a0 = some r) ∧ Aside0 (kq ≤ k1) ∧ Aside0 (w'.heap[gb342]? = some (.cells (mixA (Value.int .u16) [] a0) 28 (0, 0))) ∧ Aside0 (Below w.heap.size w w'))
    case atStart => exact ⟨(x3_1), (0), (by first | rfl | (simp; done) | (simp [*]; done)), (by first | rfl | (simp; done) | (simp [*]; done)), H', ⟨Nat.le_refl _⟩, ⟨pk BK342⟩, ⟨pbs HB⟩⟩
    case round =>
     clear H'
     try clear p2
     try clear c3
     try clear c3b0
     try clear p2
     obtain ⟨x3_2, x5_2, rfl, rfl, HA, HK2, BK342, HB⟩ := hrel
     cases gk with
     | zero => exact absurd HA.out (by simp [spec_CountCrowd.l1])
     | succ k2 =>
      have H := HA.out
      clear HA
      simp only [spec_CountCrowd.l1] at H
      by_cases c4 : x5_2 < 4
      ·rw [if_pos c4] at H
       have c4b0 : decide (x5_2 < 4) = true := decide_eq_true c4
       clear c4
       replace H := Option.bind_eq_some_iff.mp H
       obtain ⟨⟨t343, t344⟩, A50, H⟩ := H
       replace H : ((spec_l06Has.f a0 t343 t344 x5_2).bind fun t345 => (if t345 = true then (spec_CountCrowd.l1 k2 (wrap64 (x3_2 + 1)) x4_1 (wrap64 (x5_2 + 1)) a0) else (spec_CountCrowd.l1 k2 x3_2 x4_1 (wrap64 (x5_2 + 1)) a0))) = some r := H
       have A5 := Aside0.mk A50
       clear A50
       replace H := Option.bind_eq_some_iff.mp H
       obtain ⟨t345, A60, H⟩ := H
       replace H : (if t345 = true then (spec_CountCrowd.l1 k2 (wrap64 (x3_2 + 1)) x4_1 (wrap64 (x5_2 + 1)) a0) else (spec_CountCrowd.l1 k2 x3_2 x4_1 (wrap64 (x5_2 + 1)) a0)) = some r := H
       have A6 := Aside0.mk A60
       clear A60
       by_cases c7 : t345 = true
       ·subst c7
        have H1 : (spec_CountCrowd.l1 k2 (wrap64 (x3_2 + 1)) x4_1 (wrap64 (x5_2 + 1)) a0) = some r := by rw [if_pos rfl] at H; exact H
        clear H
        have H := H1
        clear H1
        have H' := Aside0.mk H
        clear H
        go_wp2_with (first | ((with_reducible refine gate_callee (f := 54) rfl ?_); refine goesL_ (some 15) rfl rfl Tryd.func54 (by kernel_rfl) rfl #[.int .i64 x4_1] rfl (by (try simp only [List.map_toArray, List.map_cons, List.map_nil]); first | done | rfl | (simp only [List.length_drop, List.length_take]; rfl)) ?_; (with_reducible refine (spec_l06Spot.calls x4_1 t343 t344 _ A5.out).mono ?_); rintro e w8 ⟨rfl, hb⟩; refine ⟨_, rfl, ?_⟩; have n0_ := bkb BK342 hb; have n1_ := bst HB hb; clear BK342; clear HB; have BK342 := n0_; have HB := n1_; clear n0_ n1_; (try clear hb); (try clear hb2); (try clear hk); (try clear hi)) | ((with_reducible refine gate_callee (f := 40) rfl ?_); refine goesL_ (some 17) rfl rfl Tryd.func40 (by kernel_rfl) rfl #[.pointer (some ⟨gb342, 0, none⟩), .agg #[.int .i8 t343, .int .i8 t344], .int .i64 x5_2] rfl (by (try simp only [List.map_toArray, List.map_cons, List.map_nil]); first | done | rfl | (simp only [List.length_drop, List.length_take]; rfl)) ?_; (with_reducible refine (spec_l06Has.calls gb342 a0 t343 t344 x5_2 true _ ?side1 A6.out).mono ?_); (case side1 => exact (pk BK342)); rintro e w9 ⟨rfl, hb⟩; refine ⟨_, rfl, ?_⟩; have n0_ := bkb BK342 hb; have n1_ := bst HB hb; clear BK342; clear HB; have BK342 := n0_; have HB := n1_; clear n0_ n1_; (try clear hb); (try clear hb2); (try clear hk); (try clear hi)))
        go_roundg k2
        case measure => have := HK1.out; have := HK2.out; omega
        case rel => exact ⟨(wrap64 (x3_2 + 1)), (wrap64 (x5_2 + 1)), (by first | rfl | (simp; done) | (simp [*]; done)), (by first | rfl | (simp; done) | (simp [*]; done)), H', ⟨by have := HK1.out; have := HK2.out; omega⟩, ⟨pk BK342⟩, ⟨pbs HB⟩⟩
       ·replace c7 := Bool.eq_false_iff.mpr c7
        subst c7
        have H1 : (spec_CountCrowd.l1 k2 x3_2 x4_1 (wrap64 (x5_2 + 1)) a0) = some r := by rw [if_neg (show ¬ (false = true) by decide)] at H; exact H
        clear H
        have H := H1
        clear H1
        have H' := Aside0.mk H
        clear H
        go_wp2_with (first | ((with_reducible refine gate_callee (f := 54) rfl ?_); refine goesL_ (some 15) rfl rfl Tryd.func54 (by kernel_rfl) rfl #[.int .i64 x4_1] rfl (by (try simp only [List.map_toArray, List.map_cons, List.map_nil]); first | done | rfl | (simp only [List.length_drop, List.length_take]; rfl)) ?_; (with_reducible refine (spec_l06Spot.calls x4_1 t343 t344 _ A5.out).mono ?_); rintro e w10 ⟨rfl, hb⟩; refine ⟨_, rfl, ?_⟩; have n0_ := bkb BK342 hb; have n1_ := bst HB hb; clear BK342; clear HB; have BK342 := n0_; have HB := n1_; clear n0_ n1_; (try clear hb); (try clear hb2); (try clear hk); (try clear hi)) | ((with_reducible refine gate_callee (f := 40) rfl ?_); refine goesL_ (some 17) rfl rfl Tryd.func40 (by kernel_rfl) rfl #[.pointer (some ⟨gb342, 0, none⟩), .agg #[.int .i8 t343, .int .i8 t344], .int .i64 x5_2] rfl (by (try simp only [List.map_toArray, List.map_cons, List.map_nil]); first | done | rfl | (simp only [List.length_drop, List.length_take]; rfl)) ?_; (with_reducible refine (spec_l06Has.calls gb342 a0 t343 t344 x5_2 false _ ?side1 A6.out).mono ?_); (case side1 => exact (pk BK342)); rintro e w11 ⟨rfl, hb⟩; refine ⟨_, rfl, ?_⟩; have n0_ := bkb BK342 hb; have n1_ := bst HB hb; clear BK342; clear HB; have BK342 := n0_; have HB := n1_; clear n0_ n1_; (try clear hb); (try clear hb2); (try clear hk); (try clear hi)))
        go_roundg k2
        case measure => have := HK1.out; have := HK2.out; omega
        case rel => exact ⟨(x3_2), (wrap64 (x5_2 + 1)), (by first | rfl | (simp; done) | (simp [*]; done)), (by first | rfl | (simp; done) | (simp [*]; done)), H', ⟨by have := HK1.out; have := HK2.out; omega⟩, ⟨pk BK342⟩, ⟨pbs HB⟩⟩
      ·rw [if_neg c4] at H
       have c4b0 : decide (x5_2 < 4) = false := decide_eq_false c4
       clear c4
       have H' := Aside0.mk H
       clear H
       go_wp2
       go_roundg k2
       case measure => have := HK1.out; have := HK2.out; omega
       case rel => exact ⟨(x3_2), (wrap64 (x4_1 + 1)), (by first | rfl | (simp; done) | (simp [*]; done)), (by first | rfl | (simp; done) | (simp [*]; done)), H', ⟨by have := HK1.out; have := HK2.out; omega⟩, ⟨pk BK342⟩, ⟨pbs HB⟩⟩
   ·rw [if_neg c3] at H
    have c3b0 : decide (x4_1 < 100) = false := decide_eq_false c3
    clear c3
    obtain rfl := Option.some.inj H
    go_wp2
    go_ret
    exact ⟨by first | rfl | (simp [errW_none, errW_some] <;> rfl) | (simp [*, errW_none, errW_some] <;> rfl), pbs HB⟩
def spec_l06Spots.l0 : Nat → List (S41) → Int → LA 40 → Option ((List (S41)))
 | 0, _, _, _ => none
 | k + 1, x3, x4, x1000 => if x4 < 100 then ((spec_l06Spot.f x4).bind fun bt349 => ((spec_l06Has.f x1000 bt349.1 bt349.2 0).bind fun t352 => (if t352 = true then (if x3.length < 70368744177664 then (spec_l06Spots.l0 k (x3 ++ [(⟨bt349.1, bt349.2⟩ : S41)]) (wrap64 (x4 + 1)) x1000) else (none)) else ((spec_l06Has.f x1000 bt349.1 bt349.2 1).bind fun t356 => (if t356 = true then (if x3.length < 70368744177664 then (spec_l06Spots.l0 k (x3 ++ [(⟨bt349.1, bt349.2⟩ : S41)]) (wrap64 (x4 + 1)) x1000) else (none)) else ((spec_l06Has.f x1000 bt349.1 bt349.2 2).bind fun t360 => (if t360 = true then (if x3.length < 70368744177664 then (spec_l06Spots.l0 k (x3 ++ [(⟨bt349.1, bt349.2⟩ : S41)]) (wrap64 (x4 + 1)) x1000) else (none)) else ((spec_l06Has.f x1000 bt349.1 bt349.2 3).bind fun t364 => (if t364 = true then (if x3.length < 70368744177664 then (spec_l06Spots.l0 k (x3 ++ [(⟨bt349.1, bt349.2⟩ : S41)]) (wrap64 (x4 + 1)) x1000) else (none)) else (spec_l06Spots.l0 k x3 (wrap64 (x4 + 1)) x1000)))))))))) else (some x3)
def spec_l06Spots.f (k : Nat) (s0_0 : LA 40) : Option ((List (S41))) := spec_l06Spots.l0 k (([] : List (S41))) 0 s0_0
theorem spec_l06Spots.mono_l : ∀ k, (∀ y0 y1 y2, LeO (spec_l06Spots.l0 k y0 y1 y2) (spec_l06Spots.l0 (k + 1) y0 y1 y2))
 | 0 => fun _ _ _ r h => by simp [spec_l06Spots.l0] at h
 | k + 1 => by
  have ih0 := spec_l06Spots.mono_l k
  ·intro y0 y1 y2
   unfold spec_l06Spots.l0
   repeat' first
   | (with_reducible exact ih0 _ _ _)
   | (with_reducible exact LeO.refl _)
   | (with_reducible exact LeO.none _)
   | (with_reducible refine LeO.ite ?_ ?_)
   | (with_reducible refine LeO.bind ?_ (fun _ => ?_))
   | exact ih0 _ _ _
   | exact LeO.none _
   | refine LeO.ite ?_ ?_
   | refine LeO.bind ?_ (fun _ => ?_)
theorem spec_l06Spots.mono : ∀ a0 k, LeO (spec_l06Spots.f k a0) (spec_l06Spots.f (k + 1) a0) := by
 intro a0 k
 have ih0 := spec_l06Spots.mono_l k
 unfold spec_l06Spots.f
 repeat' first
   | (with_reducible exact ih0 _ _ _)
   | (with_reducible exact LeO.refl _)
   | (with_reducible exact LeO.none _)
   | (with_reducible refine LeO.ite ?_ ?_)
   | (with_reducible refine LeO.bind ?_ (fun _ => ?_))
   | exact ih0 _ _ _
   | exact LeO.none _
   | refine LeO.ite ?_ ?_
   | refine LeO.bind ?_ (fun _ => ?_)
set_option maxHeartbeats 8000000 in
set_option maxRecDepth 100000 in
theorem spec_l06Spots.calls (k : Nat) (g0 : Nat) (s0_0 : LA 40) (r : List (S41)) (w : World) (hb0 : w.heap[g0]? = some (.cells (mixA (Value.int .u16) [] s0_0) 28 (0, 0))) (h : spec_l06Spots.f k s0_0 = some r) :
  Calls Tryd.prog 39 #[.pointer (some ⟨g0, 0, none⟩)] w fun e w' => ∃ v0_ : Value, e = .returned (v0_) ∧ Kd.R k41 41 w' w.heap.size (fun _ => True) v0_ r ∧ Below w.heap.size w w' := by
 have hu41 := Tryd.underlying41
 have BK0 := Aside0.mk hb0
 clear hb0
 have HB := Aside0.mk (Below.refl w.heap.size w)
 have H : (spec_l06Spots.l0 k (([] : List (S41))) 0 s0_0) = some r := h
 clear h
 obtain ⟨y346, hy346⟩ : ∃ y_ : List (S41), y_ = (([] : List (S41))) := ⟨_, rfl⟩
 replace H : (spec_l06Spots.l0 k y346 0 s0_0) = some r := by first | (rw [hy346]; with_reducible exact H) | (have H2_ := (Option.bind_some _ _).symm.trans H; rw [hy346]; with_reducible exact H2_) | (have H2_ := (Option.bind_some _ _).symm.trans H; with_reducible exact H2_) | with_reducible exact H | (rw [hy346]; exact H) | exact H
 have Ny346 := Aside0.mk hy346
 clear hy346
 have H' := Aside0.mk H
 clear H
 go_enter Tryd.func39, Tryd.ntmps39
 go_wp2_with (first | ((with_reducible refine gate_dst (N := 6) rfl ?_); refine Kd.R_lit k41 _ 41 ?hg (N := 6) ?hd (xs := ([] : List (S41))) (inner := []) (ok := fun _ => True) (okp := fun _ => True) ?hr ?hp (fun _ hk => hk) trivial (Below.refl _ _) (Nat.le_refl _) (by simp) ?_; (case hd => rfl); (case hg => rfl); (case hr => first | (go_simp; done) | (go_simp; rfl)); (case hp => exact (Reps.none _ _)); intro v347 w2 ho3 hb hg_ hnew_; clear hg_ hnew_; (first | rw [← Ny346.out] at ho3 | (simp only [Int.reduceToNat] at ho3; rw [← Ny346.out] at ho3)); have n0_ := Aside0.mk (Kd.R_lower ho3 (below_size (by repeat (first | (with_reducible first | exact HB.out | apply below_alloc | apply pw_below_drewN | apply below_drew1 | refine below_set ?_ GE0.out) | exact HB.out)))); have n1_ := bkb BK0 hb; have n2_ := bst HB hb; clear BK0; clear HB; have HO348 := n0_; have BK0 := n1_; have HB := n2_; clear n0_ n1_ n2_; clear hb ho3))
 go_loopg [3, 4] k (fun kq v3 v4 w' => ∃ (x3_1 : List (S41)) (x4_1 : Int), v4 = .int .i64 x4_1 ∧ Aside0 (spec_l06Spots.l0 kq x3_1 x4_1 s0_0 = some r) ∧ Aside0 (kq ≤ k) ∧ Aside0 (Kd.R k41 41 w' w.heap.size (fun _ => True) v3 x3_1) ∧ Aside0 (w'.heap[g0]? = some (.cells (mixA (Value.int .u16) [] s0_0) 28 (0, 0))) ∧ Aside0 (Below w.heap.size w w'))
 case atStart => exact ⟨(y346), (0), (by first | rfl | (simp; done) | (simp [*]; done)), H', ⟨Nat.le_refl _⟩, ⟨by (with_reducible repeat (first | apply Kd.R_alloc | apply Kd.R_drewN | apply Kd.R_drew)); exact HO348.out⟩, ⟨pk BK0⟩, ⟨pbs HB⟩⟩
 case round =>
  clear H'
  try clear p2
  try clear c3
  obtain ⟨x3_1, x4_1, rfl, HA, HK1, HO_3, BK0, HB⟩ := hrel
  cases gk with
  | zero => exact absurd HA.out (by simp [spec_l06Spots.l0])
  | succ k1 =>
   have H := HA.out
   clear HA
   simp only [spec_l06Spots.l0] at H
   by_cases c4 : x4_1 < 100
   ·rw [if_pos c4] at H
    have c4b0 : decide (x4_1 < 100) = true := decide_eq_true c4
    clear c4
    replace H := Option.bind_eq_some_iff.mp H
    obtain ⟨⟨t349, t350⟩, A50, H⟩ := H
    replace H : ((spec_l06Has.f s0_0 t349 t350 0).bind fun t352 => (if t352 = true then (if x3_1.length < 70368744177664 then (spec_l06Spots.l0 k1 (x3_1 ++ [(⟨t349, t350⟩ : S41)]) (wrap64 (x4_1 + 1)) s0_0) else (none)) else ((spec_l06Has.f s0_0 t349 t350 1).bind fun t356 => (if t356 = true then (if x3_1.length < 70368744177664 then (spec_l06Spots.l0 k1 (x3_1 ++ [(⟨t349, t350⟩ : S41)]) (wrap64 (x4_1 + 1)) s0_0) else (none)) else ((spec_l06Has.f s0_0 t349 t350 2).bind fun t360 => (if t360 = true then (if x3_1.length < 70368744177664 then (spec_l06Spots.l0 k1 (x3_1 ++ [(⟨t349, t350⟩ : S41)]) (wrap64 (x4_1 + 1)) s0_0) else (none)) else ((spec_l06Has.f s0_0 t349 t350 3).bind fun t364 => (if t364 = true then (if x3_1.length < 70368744177664 then (spec_l06Spots.l0 k1 (x3_1 ++ [(⟨t349, t350⟩ : S41)]) (wrap64 (x4_1 + 1)) s0_0) else (none)) else (spec_l06Spots.l0 k1 x3_1 (wrap64 (x4_1 + 1)) s0_0))))))))) = some r := H
    have A5 := Aside0.mk A50
    clear A50
    replace H := Option.bind_eq_some_iff.mp H
    obtain ⟨t352, A60, H⟩ := H
    replace H : (if t352 = true then (if x3_1.length < 70368744177664 then (spec_l06Spots.l0 k1 (x3_1 ++ [(⟨t349, t350⟩ : S41)]) (wrap64 (x4_1 + 1)) s0_0) else (none)) else ((spec_l06Has.f s0_0 t349 t350 1).bind fun t356 => (if t356 = true then (if x3_1.length < 70368744177664 then (spec_l06Spots.l0 k1 (x3_1 ++ [(⟨t349, t350⟩ : S41)]) (wrap64 (x4_1 + 1)) s0_0) else (none)) else ((spec_l06Has.f s0_0 t349 t350 2).bind fun t360 => (if t360 = true then (if x3_1.length < 70368744177664 then (spec_l06Spots.l0 k1 (x3_1 ++ [(⟨t349, t350⟩ : S41)]) (wrap64 (x4_1 + 1)) s0_0) else (none)) else ((spec_l06Has.f s0_0 t349 t350 3).bind fun t364 => (if t364 = true then (if x3_1.length < 70368744177664 then (spec_l06Spots.l0 k1 (x3_1 ++ [(⟨t349, t350⟩ : S41)]) (wrap64 (x4_1 + 1)) s0_0) else (none)) else (spec_l06Spots.l0 k1 x3_1 (wrap64 (x4_1 + 1)) s0_0)))))))) = some r := H
    have A6 := Aside0.mk A60
    clear A60
    by_cases c7 : t352 = true
    ·subst c7
     have H1 : (if x3_1.length < 70368744177664 then (spec_l06Spots.l0 k1 (x3_1 ++ [(⟨t349, t350⟩ : S41)]) (wrap64 (x4_1 + 1)) s0_0) else (none)) = some r := by rw [if_pos rfl] at H; exact H
     clear H
     have H := H1
     clear H1
     by_cases c8 : x3_1.length < 70368744177664
     ·rw [if_pos c8] at H
      have LMc8 := Aside0.mk c8
      clear c8
      obtain ⟨y353, hy353⟩ : ∃ y_ : List (S41), y_ = (x3_1 ++ [(⟨t349, t350⟩ : S41)]) := ⟨_, rfl⟩
      replace H : (spec_l06Spots.l0 k1 y353 (wrap64 (x4_1 + 1)) s0_0) = some r := by first | (rw [hy353]; with_reducible exact H) | (have H2_ := (Option.bind_some _ _).symm.trans H; rw [hy353]; with_reducible exact H2_) | (have H2_ := (Option.bind_some _ _).symm.trans H; with_reducible exact H2_) | with_reducible exact H | (rw [hy353]; exact H) | exact H
      have Ny353 := Aside0.mk hy353
      clear hy353
      have H' := Aside0.mk H
      clear H
      go_wp2_with (first | ((with_reducible refine gate_callee (f := 54) rfl ?_); refine goesL_ (some 12) rfl rfl Tryd.func54 (by kernel_rfl) rfl #[.int .i64 x4_1] rfl (by (try simp only [List.map_toArray, List.map_cons, List.map_nil]); first | done | rfl | (simp only [List.length_drop, List.length_take]; rfl)) ?_; (with_reducible refine (spec_l06Spot.calls x4_1 t349 t350 _ A5.out).mono ?_); rintro e w9 ⟨rfl, hb⟩; refine ⟨_, rfl, ?_⟩; have n0_ := krb HO_3 hb; have n1_ := bkb BK0 hb; have n2_ := bst HB hb; clear HO_3; clear BK0; clear HB; have HO_3 := n0_; have BK0 := n1_; have HB := n2_; clear n0_ n1_ n2_; (try clear hb); (try clear hb2); (try clear hk); (try clear hi)) | ((with_reducible refine gate_dst (N := 5) rfl ?_); refine box_event ?hg (N := 5) ?hd (cs := #[.int .i8 0, .int .i8 0]) (t := 41) ?hr ?_; (case hd => rfl); (case hg => rfl); (case hr => first | (go_simp; done) | (go_simp; rfl)); intro gb351 hg w10 hbox hb; have n0_ := Aside0.mk (Kd.R_below (Kd.R_elderB (by (with_reducible repeat (first | apply Kd.R_alloc | apply Kd.R_drewN | apply Kd.R_drew)); exact HO_3.out) gb351 (Nat.le_of_eq hg.symm)) hb); have n1_ := bkb BK0 hb; have n2_ := bst HB hb; have n3_ := Aside0.mk (hbox); have n4_ := gwl HB hg; have n5_ := gwl HB hg; have n6_ := nbl BK0 hg; have n7_ := nbg BK0 hg; clear HO_3; clear BK0; clear HB; have HO_3 := n0_; have BK0 := n1_; have HB := n2_; have BK351 := n3_; have GW351 := n4_; have GE351 := n5_; have NB0_351 := n6_; have NB351_0 := n7_; clear n0_ n1_ n2_ n3_ n4_ n5_ n6_ n7_; clear hb hbox hg; have hnb11 := NB351_0.out; have hnc11 := NB0_351.out; have hcz12_0 : w10.cell? ⟨gb351, 0, none⟩ = some (.int .i8 0) := (blk_cell BK351.out 0).trans rfl; have hcz12_1 : w10.cell? ⟨gb351, 1, none⟩ = some (.int .i8 0) := (blk_cell BK351.out 1).trans rfl; have hfz12_0 := blk_frozen BK351.out 0; have hfz12_1 := blk_frozen BK351.out 1) | ((with_reducible refine gate_callee (f := 40) rfl ?_); refine goesL_ (some 15) rfl rfl Tryd.func40 (by kernel_rfl) rfl #[.pointer (some ⟨g0, 0, none⟩), .agg #[.int .i8 t349, .int .i8 t350], .int .i64 0] rfl (by (try simp only [List.map_toArray, List.map_cons, List.map_nil]); first | done | rfl | (simp only [List.length_drop, List.length_take]; rfl)) ?_; (with_reducible refine (spec_l06Has.calls g0 s0_0 t349 t350 0 true _ ?side1 A6.out).mono ?_); (case side1 => exact (by (with_reducible repeat (first | refine blk_drewN ?_ _ | refine blk_drew ?_ | refine blk_alloc ?_ _)); refine blk_far ?_ NB0_351.out _; (with_reducible repeat (first | refine blk_drewN ?_ _ | refine blk_drew ?_ | refine blk_alloc ?_ _)); refine blk_far ?_ NB0_351.out _; (with_reducible repeat (first | refine blk_drewN ?_ _ | refine blk_drew ?_ | refine blk_alloc ?_ _)); exact BK0.out)); rintro e w13 ⟨rfl, hb⟩; refine ⟨_, rfl, ?_⟩; have n0_ := Aside0.mk (Kd.R_below (by (with_reducible repeat (first | apply Kd.R_alloc | apply Kd.R_drewN | apply Kd.R_drew)); exact (Kd.R_mono (Kd.R_far (p := ⟨gb351, 1, none⟩) (Kd.R_far (p := ⟨gb351, 0, none⟩) (Kd.R_mono HO_3.out (fun k_ hk => (⟨hk, hk.2⟩ : _ ∧ k_ ≠ gb351))) (fun _ hk => hk.2) (.int .i8 t349)) (fun _ hk => hk.2) (.int .i8 t350)) (fun _ h_ => h_.1))) hb); have n1_ := Aside0.mk (blk_below (g := g0) (o := .cells (mixA (Value.int .u16) [] s0_0) 28 (0, 0)) (by (with_reducible repeat (first | refine blk_drewN ?_ _ | refine blk_drew ?_ | refine blk_alloc ?_ _)); refine blk_far ?_ NB0_351.out _; (with_reducible repeat (first | refine blk_drewN ?_ _ | refine blk_drew ?_ | refine blk_alloc ?_ _)); refine blk_far ?_ NB0_351.out _; (with_reducible repeat (first | refine blk_drewN ?_ _ | refine blk_drew ?_ | refine blk_alloc ?_ _)); exact BK0.out) hb); have n2_ := Aside0.mk (blk_below (g := gb351) (o := .cells #[.int .i8 t349, .int .i8 t350] 41 (0, 0)) (by (with_reducible repeat (first | refine blk_drewN ?_ _ | refine blk_drew ?_ | refine blk_alloc ?_ _)); refine blk_put (cs := #[.int .i8 t349, .int .i8 0]) ?_ 1 _ rfl; (with_reducible repeat (first | refine blk_drewN ?_ _ | refine blk_drew ?_ | refine blk_alloc ?_ _)); refine blk_put (cs := #[.int .i8 0, .int .i8 0]) ?_ 0 _ rfl; (with_reducible repeat (first | refine blk_drewN ?_ _ | refine blk_drew ?_ | refine blk_alloc ?_ _)); exact BK351.out) hb); have n3_ := bst HB hb; clear HO_3; clear BK0; clear BK351; clear HB; have HO_3 := n0_; have BK0 := n1_; have BK351 := n2_; have HB := n3_; clear n0_ n1_ n2_ n3_; (try clear hb); (try clear hb2); (try clear hk); (try clear hi); have hcz14_0 : w13.cell? ⟨gb351, 0, none⟩ = some (.int .i8 t349) := (blk_cell BK351.out 0).trans rfl; have hcz14_1 : w13.cell? ⟨gb351, 1, none⟩ = some (.int .i8 t350) := (blk_cell BK351.out 1).trans rfl; have hfz14_0 := blk_frozen BK351.out 0; have hfz14_1 := blk_frozen BK351.out 1) | ((with_reducible refine gate_builtin (b := .append) (xs := #[.tmp 31, .tmp 33]) rfl ?_); at_builtin; refine Kd.R_append k41 (w0 := w) w.heap.size rfl (.tmp 31) (.tmp 33) 48 41 (.agg #[(.int .i8 0), (.int .i8 0)]) 2 rfl Tryd.underlying48 info41 rfl (by decide) (by omega) u3 x3_1 (⟨t349, t350⟩ : S41) [.int .i8 t349, .int .i8 t350] (fun k_ => k_ ≠ gb351) (fun _ => False) rfl rfl ?aP (fun _ hk => hk.elim) ?aF ?aO ?aB ?aS ?aL ?_; (case aP => exact k41_mkM _ _ _ (⟨t349, t350⟩ : S41)); (case aB => exact (pbs HB)); (case aF => exact (fun k_ hk => Kd.freshB (g := gb351) (o := .cells #[.int .i8 t349, .int .i8 t350] 41 (0, 0)) (pk BK351) k_ hk)); (case aO => exact (by (with_reducible repeat (first | apply Kd.R_alloc | apply Kd.R_drewN | apply Kd.R_drew)); exact Kd.R_mono HO_3.out (fun _ hk => hk.2))); (case aS => exact (below_size (by repeat (first | (with_reducible first | exact HB.out | apply below_alloc | apply pw_below_drewN | apply below_drew1 | refine below_set ?_ GE0.out | refine below_set ?_ GE351.out) | exact HB.out)))); (case aL => have := LMc8.out; omega); intro v354 w15 ho hb hg hat; rw [← Ny353.out] at ho; have n0_ := Aside0.mk (blk_grown (g := g0) (o := .cells (mixA (Value.int .u16) [] s0_0) 28 (0, 0)) (pk BK0) hg (Kd.R_ne HO_3.out BK0.out (by decide))); have n1_ := Aside0.mk (blk_grown (g := gb351) (o := .cells #[.int .i8 t349, .int .i8 t350] 41 (0, 0)) (pk BK351) hg (Kd.R_away HO_3.out (fun _ hk => hk.2))); have n2_ := Aside0.mk (hb); have n3_ := Aside0.mk (ho); clear BK0; clear BK351; clear HB; clear HO_3; have BK0 := n0_; have BK351 := n1_; have HB := n2_; have HO355 := n3_; clear n0_ n1_ n2_ n3_; clear ho hb hg hat))
      go_roundg k1
      case measure => have := HK1.out; omega
      case rel => exact ⟨(y353), (wrap64 (x4_1 + 1)), (by first | rfl | (simp; done) | (simp [*]; done)), H', ⟨by have := HK1.out; omega⟩, ⟨by (with_reducible repeat (first | apply Kd.R_alloc | apply Kd.R_drewN | apply Kd.R_drew)); exact Kd.R_mono HO355.out (fun _ hk => trivial)⟩, ⟨pk BK0⟩, ⟨pbs HB⟩⟩
     ·rw [if_neg c8] at H
      exact absurd H (by simp)
    ·replace c7 := Bool.eq_false_iff.mpr c7
     subst c7
     have H1 : ((spec_l06Has.f s0_0 t349 t350 1).bind fun t356 => (if t356 = true then (if x3_1.length < 70368744177664 then (spec_l06Spots.l0 k1 (x3_1 ++ [(⟨t349, t350⟩ : S41)]) (wrap64 (x4_1 + 1)) s0_0) else (none)) else ((spec_l06Has.f s0_0 t349 t350 2).bind fun t360 => (if t360 = true then (if x3_1.length < 70368744177664 then (spec_l06Spots.l0 k1 (x3_1 ++ [(⟨t349, t350⟩ : S41)]) (wrap64 (x4_1 + 1)) s0_0) else (none)) else ((spec_l06Has.f s0_0 t349 t350 3).bind fun t364 => (if t364 = true then (if x3_1.length < 70368744177664 then (spec_l06Spots.l0 k1 (x3_1 ++ [(⟨t349, t350⟩ : S41)]) (wrap64 (x4_1 + 1)) s0_0) else (none)) else (spec_l06Spots.l0 k1 x3_1 (wrap64 (x4_1 + 1)) s0_0))))))) = some r := by rw [if_neg (show ¬ (false = true) by decide)] at H; exact H
     clear H
     have H := H1
     clear H1
     replace H := Option.bind_eq_some_iff.mp H
     obtain ⟨t356, A160, H⟩ := H
     replace H : (if t356 = true then (if x3_1.length < 70368744177664 then (spec_l06Spots.l0 k1 (x3_1 ++ [(⟨t349, t350⟩ : S41)]) (wrap64 (x4_1 + 1)) s0_0) else (none)) else ((spec_l06Has.f s0_0 t349 t350 2).bind fun t360 => (if t360 = true then (if x3_1.length < 70368744177664 then (spec_l06Spots.l0 k1 (x3_1 ++ [(⟨t349, t350⟩ : S41)]) (wrap64 (x4_1 + 1)) s0_0) else (none)) else ((spec_l06Has.f s0_0 t349 t350 3).bind fun t364 => (if t364 = true then (if x3_1.length < 70368744177664 then (spec_l06Spots.l0 k1 (x3_1 ++ [(⟨t349, t350⟩ : S41)]) (wrap64 (x4_1 + 1)) s0_0) else (none)) else (spec_l06Spots.l0 k1 x3_1 (wrap64 (x4_1 + 1)) s0_0)))))) = some r := H
     have A16 := Aside0.mk A160
     clear A160
     by_cases c17 : t356 = true
     ·subst c17
      have H1 : (if x3_1.length < 70368744177664 then (spec_l06Spots.l0 k1 (x3_1 ++ [(⟨t349, t350⟩ : S41)]) (wrap64 (x4_1 + 1)) s0_0) else (none)) = some r := by rw [if_pos rfl] at H; exact H
      clear H
      have H := H1
      clear H1
      by_cases c18 : x3_1.length < 70368744177664
      ·rw [if_pos c18] at H
       have LMc18 := Aside0.mk c18
       clear c18
       obtain ⟨y357, hy357⟩ : ∃ y_ : List (S41), y_ = (x3_1 ++ [(⟨t349, t350⟩ : S41)]) := ⟨_, rfl⟩
       replace H : (spec_l06Spots.l0 k1 y357 (wrap64 (x4_1 + 1)) s0_0) = some r := by first | (rw [hy357]; with_reducible exact H) | (have H2_ := (Option.bind_some _ _).symm.trans H; rw [hy357]; with_reducible exact H2_) | (have H2_ := (Option.bind_some _ _).symm.trans H; with_reducible exact H2_) | with_reducible exact H | (rw [hy357]; exact H) | exact H
       have Ny357 := Aside0.mk hy357
       clear hy357
       have H' := Aside0.mk H
       clear H
       go_wp2_with (first | ((with_reducible refine gate_callee (f := 54) rfl ?_); refine goesL_ (some 12) rfl rfl Tryd.func54 (by kernel_rfl) rfl #[.int .i64 x4_1] rfl (by (try simp only [List.map_toArray, List.map_cons, List.map_nil]); first | done | rfl | (simp only [List.length_drop, List.length_take]; rfl)) ?_; (with_reducible refine (spec_l06Spot.calls x4_1 t349 t350 _ A5.out).mono ?_); rintro e w19 ⟨rfl, hb⟩; refine ⟨_, rfl, ?_⟩; have n0_ := krb HO_3 hb; have n1_ := bkb BK0 hb; have n2_ := bst HB hb; clear HO_3; clear BK0; clear HB; have HO_3 := n0_; have BK0 := n1_; have HB := n2_; clear n0_ n1_ n2_; (try clear hb); (try clear hb2); (try clear hk); (try clear hi)) | ((with_reducible refine gate_dst (N := 5) rfl ?_); refine box_event ?hg (N := 5) ?hd (cs := #[.int .i8 0, .int .i8 0]) (t := 41) ?hr ?_; (case hd => rfl); (case hg => rfl); (case hr => first | (go_simp; done) | (go_simp; rfl)); intro gb351 hg w20 hbox hb; have n0_ := Aside0.mk (Kd.R_below (Kd.R_elderB (by (with_reducible repeat (first | apply Kd.R_alloc | apply Kd.R_drewN | apply Kd.R_drew)); exact HO_3.out) gb351 (Nat.le_of_eq hg.symm)) hb); have n1_ := bkb BK0 hb; have n2_ := bst HB hb; have n3_ := Aside0.mk (hbox); have n4_ := gwl HB hg; have n5_ := gwl HB hg; have n6_ := nbl BK0 hg; have n7_ := nbg BK0 hg; clear HO_3; clear BK0; clear HB; have HO_3 := n0_; have BK0 := n1_; have HB := n2_; have BK351 := n3_; have GW351 := n4_; have GE351 := n5_; have NB0_351 := n6_; have NB351_0 := n7_; clear n0_ n1_ n2_ n3_ n4_ n5_ n6_ n7_; clear hb hbox hg; have hnb21 := NB351_0.out; have hnc21 := NB0_351.out; have hcz22_0 : w20.cell? ⟨gb351, 0, none⟩ = some (.int .i8 0) := (blk_cell BK351.out 0).trans rfl; have hcz22_1 : w20.cell? ⟨gb351, 1, none⟩ = some (.int .i8 0) := (blk_cell BK351.out 1).trans rfl; have hfz22_0 := blk_frozen BK351.out 0; have hfz22_1 := blk_frozen BK351.out 1) | ((with_reducible refine gate_callee (f := 40) rfl ?_); refine goesL_ (some 15) rfl rfl Tryd.func40 (by kernel_rfl) rfl #[.pointer (some ⟨g0, 0, none⟩), .agg #[.int .i8 t349, .int .i8 t350], .int .i64 0] rfl (by (try simp only [List.map_toArray, List.map_cons, List.map_nil]); first | done | rfl | (simp only [List.length_drop, List.length_take]; rfl)) ?_; (with_reducible refine (spec_l06Has.calls g0 s0_0 t349 t350 0 false _ ?side1 A6.out).mono ?_); (case side1 => exact (by (with_reducible repeat (first | refine blk_drewN ?_ _ | refine blk_drew ?_ | refine blk_alloc ?_ _)); refine blk_far ?_ NB0_351.out _; (with_reducible repeat (first | refine blk_drewN ?_ _ | refine blk_drew ?_ | refine blk_alloc ?_ _)); refine blk_far ?_ NB0_351.out _; (with_reducible repeat (first | refine blk_drewN ?_ _ | refine blk_drew ?_ | refine blk_alloc ?_ _)); exact BK0.out)); rintro e w23 ⟨rfl, hb⟩; refine ⟨_, rfl, ?_⟩; have n0_ := Aside0.mk (Kd.R_below (by (with_reducible repeat (first | apply Kd.R_alloc | apply Kd.R_drewN | apply Kd.R_drew)); exact (Kd.R_mono (Kd.R_far (p := ⟨gb351, 1, none⟩) (Kd.R_far (p := ⟨gb351, 0, none⟩) (Kd.R_mono HO_3.out (fun k_ hk => (⟨hk, hk.2⟩ : _ ∧ k_ ≠ gb351))) (fun _ hk => hk.2) (.int .i8 t349)) (fun _ hk => hk.2) (.int .i8 t350)) (fun _ h_ => h_.1))) hb); have n1_ := Aside0.mk (blk_below (g := g0) (o := .cells (mixA (Value.int .u16) [] s0_0) 28 (0, 0)) (by (with_reducible repeat (first | refine blk_drewN ?_ _ | refine blk_drew ?_ | refine blk_alloc ?_ _)); refine blk_far ?_ NB0_351.out _; (with_reducible repeat (first | refine blk_drewN ?_ _ | refine blk_drew ?_ | refine blk_alloc ?_ _)); refine blk_far ?_ NB0_351.out _; (with_reducible repeat (first | refine blk_drewN ?_ _ | refine blk_drew ?_ | refine blk_alloc ?_ _)); exact BK0.out) hb); have n2_ := Aside0.mk (blk_below (g := gb351) (o := .cells #[.int .i8 t349, .int .i8 t350] 41 (0, 0)) (by (with_reducible repeat (first | refine blk_drewN ?_ _ | refine blk_drew ?_ | refine blk_alloc ?_ _)); refine blk_put (cs := #[.int .i8 t349, .int .i8 0]) ?_ 1 _ rfl; (with_reducible repeat (first | refine blk_drewN ?_ _ | refine blk_drew ?_ | refine blk_alloc ?_ _)); refine blk_put (cs := #[.int .i8 0, .int .i8 0]) ?_ 0 _ rfl; (with_reducible repeat (first | refine blk_drewN ?_ _ | refine blk_drew ?_ | refine blk_alloc ?_ _)); exact BK351.out) hb); have n3_ := bst HB hb; clear HO_3; clear BK0; clear BK351; clear HB; have HO_3 := n0_; have BK0 := n1_; have BK351 := n2_; have HB := n3_; clear n0_ n1_ n2_ n3_; (try clear hb); (try clear hb2); (try clear hk); (try clear hi); have hcz24_0 : w23.cell? ⟨gb351, 0, none⟩ = some (.int .i8 t349) := (blk_cell BK351.out 0).trans rfl; have hcz24_1 : w23.cell? ⟨gb351, 1, none⟩ = some (.int .i8 t350) := (blk_cell BK351.out 1).trans rfl; have hfz24_0 := blk_frozen BK351.out 0; have hfz24_1 := blk_frozen BK351.out 1) | (go_at_call 40; (with_reducible refine (spec_l06Has.calls g0 s0_0 t349 t350 1 true _ ?side1 A16.out).mono ?_); (case side1 => exact (pk BK0)); rintro e w25 ⟨rfl, hb⟩; have n0_ := krb HO_3 hb; have n1_ := bkb BK0 hb; have n2_ := bkb BK351 hb; have n3_ := bst HB hb; clear HO_3; clear BK0; clear BK351; clear HB; have HO_3 := n0_; have BK0 := n1_; have BK351 := n2_; have HB := n3_; clear n0_ n1_ n2_ n3_; (try clear hb); (try clear hb2); (try clear hk); (try clear hi); have hcz26_0 : w25.cell? ⟨gb351, 0, none⟩ = some (.int .i8 t349) := (blk_cell BK351.out 0).trans rfl; have hcz26_1 : w25.cell? ⟨gb351, 1, none⟩ = some (.int .i8 t350) := (blk_cell BK351.out 1).trans rfl; have hfz26_0 := blk_frozen BK351.out 0; have hfz26_1 := blk_frozen BK351.out 1) | ((with_reducible refine gate_builtin (b := .append) (xs := #[.tmp 31, .tmp 33]) rfl ?_); at_builtin; refine Kd.R_append k41 (w0 := w) w.heap.size rfl (.tmp 31) (.tmp 33) 48 41 (.agg #[(.int .i8 0), (.int .i8 0)]) 2 rfl Tryd.underlying48 info41 rfl (by decide) (by omega) u3 x3_1 (⟨t349, t350⟩ : S41) [.int .i8 t349, .int .i8 t350] (fun k_ => k_ ≠ gb351) (fun _ => False) rfl rfl ?aP (fun _ hk => hk.elim) ?aF ?aO ?aB ?aS ?aL ?_; (case aP => exact k41_mkM _ _ _ (⟨t349, t350⟩ : S41)); (case aB => exact (pbs HB)); (case aF => exact (fun k_ hk => Kd.freshB (g := gb351) (o := .cells #[.int .i8 t349, .int .i8 t350] 41 (0, 0)) (pk BK351) k_ hk)); (case aO => exact (by (with_reducible repeat (first | apply Kd.R_alloc | apply Kd.R_drewN | apply Kd.R_drew)); exact Kd.R_mono HO_3.out (fun _ hk => hk.2))); (case aS => exact (below_size (by repeat (first | (with_reducible first | exact HB.out | apply below_alloc | apply pw_below_drewN | apply below_drew1 | refine below_set ?_ GE0.out | refine below_set ?_ GE351.out) | exact HB.out)))); (case aL => have := LMc18.out; omega); intro v358 w27 ho hb hg hat; rw [← Ny357.out] at ho; have n0_ := Aside0.mk (blk_grown (g := g0) (o := .cells (mixA (Value.int .u16) [] s0_0) 28 (0, 0)) (pk BK0) hg (Kd.R_ne HO_3.out BK0.out (by decide))); have n1_ := Aside0.mk (blk_grown (g := gb351) (o := .cells #[.int .i8 t349, .int .i8 t350] 41 (0, 0)) (pk BK351) hg (Kd.R_away HO_3.out (fun _ hk => hk.2))); have n2_ := Aside0.mk (hb); have n3_ := Aside0.mk (ho); clear BK0; clear BK351; clear HB; clear HO_3; have BK0 := n0_; have BK351 := n1_; have HB := n2_; have HO359 := n3_; clear n0_ n1_ n2_ n3_; clear ho hb hg hat))
       go_roundg k1
       case measure => have := HK1.out; omega
       case rel => exact ⟨(y357), (wrap64 (x4_1 + 1)), (by first | rfl | (simp; done) | (simp [*]; done)), H', ⟨by have := HK1.out; omega⟩, ⟨by (with_reducible repeat (first | apply Kd.R_alloc | apply Kd.R_drewN | apply Kd.R_drew)); exact Kd.R_mono HO359.out (fun _ hk => trivial)⟩, ⟨pk BK0⟩, ⟨pbs HB⟩⟩
      ·rw [if_neg c18] at H
       exact absurd H (by simp)
     ·replace c17 := Bool.eq_false_iff.mpr c17
      subst c17
      have H1 : ((spec_l06Has.f s0_0 t349 t350 2).bind fun t360 => (if t360 = true then (if x3_1.length < 70368744177664 then (spec_l06Spots.l0 k1 (x3_1 ++ [(⟨t349, t350⟩ : S41)]) (wrap64 (x4_1 + 1)) s0_0) else (none)) else ((spec_l06Has.f s0_0 t349 t350 3).bind fun t364 => (if t364 = true then (if x3_1.length < 70368744177664 then (spec_l06Spots.l0 k1 (x3_1 ++ [(⟨t349, t350⟩ : S41)]) (wrap64 (x4_1 + 1)) s0_0) else (none)) else (spec_l06Spots.l0 k1 x3_1 (wrap64 (x4_1 + 1)) s0_0))))) = some r := by rw [if_neg (show ¬ (false = true) by decide)] at H; exact H
      clear H
      have H := H1
      clear H1
      replace H := Option.bind_eq_some_iff.mp H
      obtain ⟨t360, A280, H⟩ := H
      replace H : (if t360 = true then (if x3_1.length < 70368744177664 then (spec_l06Spots.l0 k1 (x3_1 ++ [(⟨t349, t350⟩ : S41)]) (wrap64 (x4_1 + 1)) s0_0) else (none)) else ((spec_l06Has.f s0_0 t349 t350 3).bind fun t364 => (if t364 = true then (if x3_1.length < 70368744177664 then (spec_l06Spots.l0 k1 (x3_1 ++ [(⟨t349, t350⟩ : S41)]) (wrap64 (x4_1 + 1)) s0_0) else (none)) else (spec_l06Spots.l0 k1 x3_1 (wrap64 (x4_1 + 1)) s0_0)))) = some r := H
      have A28 := Aside0.mk A280
      clear A280
      by_cases c29 : t360 = true
      ·subst c29
       have H1 : (if x3_1.length < 70368744177664 then (spec_l06Spots.l0 k1 (x3_1 ++ [(⟨t349, t350⟩ : S41)]) (wrap64 (x4_1 + 1)) s0_0) else (none)) = some r := by rw [if_pos rfl] at H; exact H
       clear H
       have H := H1
       clear H1
       by_cases c30 : x3_1.length < 70368744177664
       ·rw [if_pos c30] at H
        have LMc30 := Aside0.mk c30
        clear c30
        obtain ⟨y361, hy361⟩ : ∃ y_ : List (S41), y_ = (x3_1 ++ [(⟨t349, t350⟩ : S41)]) := ⟨_, rfl⟩
        replace H : (spec_l06Spots.l0 k1 y361 (wrap64 (x4_1 + 1)) s0_0) = some r := by first | (rw [hy361]; with_reducible exact H) | (have H2_ := (Option.bind_some _ _).symm.trans H; rw [hy361]; with_reducible exact H2_) | (have H2_ := (Option.bind_some _ _).symm.trans H; with_reducible exact H2_) | with_reducible exact H | (rw [hy361]; exact H) | exact H
        have Ny361 := Aside0.mk hy361
        clear hy361
        have H' := Aside0.mk H
        clear H
        go_wp2_with (first | ((with_reducible refine gate_callee (f := 54) rfl ?_); refine goesL_ (some 12) rfl rfl Tryd.func54 (by kernel_rfl) rfl #[.int .i64 x4_1] rfl (by (try simp only [List.map_toArray, List.map_cons, List.map_nil]); first | done | rfl | (simp only [List.length_drop, List.length_take]; rfl)) ?_; (with_reducible refine (spec_l06Spot.calls x4_1 t349 t350 _ A5.out).mono ?_); rintro e w31 ⟨rfl, hb⟩; refine ⟨_, rfl, ?_⟩; have n0_ := krb HO_3 hb; have n1_ := bkb BK0 hb; have n2_ := bst HB hb; clear HO_3; clear BK0; clear HB; have HO_3 := n0_; have BK0 := n1_; have HB := n2_; clear n0_ n1_ n2_; (try clear hb); (try clear hb2); (try clear hk); (try clear hi)) | ((with_reducible refine gate_dst (N := 5) rfl ?_); refine box_event ?hg (N := 5) ?hd (cs := #[.int .i8 0, .int .i8 0]) (t := 41) ?hr ?_; (case hd => rfl); (case hg => rfl); (case hr => first | (go_simp; done) | (go_simp; rfl)); intro gb351 hg w32 hbox hb; have n0_ := Aside0.mk (Kd.R_below (Kd.R_elderB (by (with_reducible repeat (first | apply Kd.R_alloc | apply Kd.R_drewN | apply Kd.R_drew)); exact HO_3.out) gb351 (Nat.le_of_eq hg.symm)) hb); have n1_ := bkb BK0 hb; have n2_ := bst HB hb; have n3_ := Aside0.mk (hbox); have n4_ := gwl HB hg; have n5_ := gwl HB hg; have n6_ := nbl BK0 hg; have n7_ := nbg BK0 hg; clear HO_3; clear BK0; clear HB; have HO_3 := n0_; have BK0 := n1_; have HB := n2_; have BK351 := n3_; have GW351 := n4_; have GE351 := n5_; have NB0_351 := n6_; have NB351_0 := n7_; clear n0_ n1_ n2_ n3_ n4_ n5_ n6_ n7_; clear hb hbox hg; have hnb33 := NB351_0.out; have hnc33 := NB0_351.out; have hcz34_0 : w32.cell? ⟨gb351, 0, none⟩ = some (.int .i8 0) := (blk_cell BK351.out 0).trans rfl; have hcz34_1 : w32.cell? ⟨gb351, 1, none⟩ = some (.int .i8 0) := (blk_cell BK351.out 1).trans rfl; have hfz34_0 := blk_frozen BK351.out 0; have hfz34_1 := blk_frozen BK351.out 1) | ((with_reducible refine gate_callee (f := 40) rfl ?_); refine goesL_ (some 15) rfl rfl Tryd.func40 (by kernel_rfl) rfl #[.pointer (some ⟨g0, 0, none⟩), .agg #[.int .i8 t349, .int .i8 t350], .int .i64 0] rfl (by (try simp only [List.map_toArray, List.map_cons, List.map_nil]); first | done | rfl | (simp only [List.length_drop, List.length_take]; rfl)) ?_; (with_reducible refine (spec_l06Has.calls g0 s0_0 t349 t350 0 false _ ?side1 A6.out).mono ?_); (case side1 => exact (by (with_reducible repeat (first | refine blk_drewN ?_ _ | refine blk_drew ?_ | refine blk_alloc ?_ _)); refine blk_far ?_ NB0_351.out _; (with_reducible repeat (first | refine blk_drewN ?_ _ | refine blk_drew ?_ | refine blk_alloc ?_ _)); refine blk_far ?_ NB0_351.out _; (with_reducible repeat (first | refine blk_drewN ?_ _ | refine blk_drew ?_ | refine blk_alloc ?_ _)); exact BK0.out)); rintro e w35 ⟨rfl, hb⟩; refine ⟨_, rfl, ?_⟩; have n0_ := Aside0.mk (Kd.R_below (by (with_reducible repeat (first | apply Kd.R_alloc | apply Kd.R_drewN | apply Kd.R_drew)); exact (Kd.R_mono (Kd.R_far (p := ⟨gb351, 1, none⟩) (Kd.R_far (p := ⟨gb351, 0, none⟩) (Kd.R_mono HO_3.out (fun k_ hk => (⟨hk, hk.2⟩ : _ ∧ k_ ≠ gb351))) (fun _ hk => hk.2) (.int .i8 t349)) (fun _ hk => hk.2) (.int .i8 t350)) (fun _ h_ => h_.1))) hb); have n1_ := Aside0.mk (blk_below (g := g0) (o := .cells (mixA (Value.int .u16) [] s0_0) 28 (0, 0)) (by (with_reducible repeat (first | refine blk_drewN ?_ _ | refine blk_drew ?_ | refine blk_alloc ?_ _)); refine blk_far ?_ NB0_351.out _; (with_reducible repeat (first | refine blk_drewN ?_ _ | refine blk_drew ?_ | refine blk_alloc ?_ _)); refine blk_far ?_ NB0_351.out _; (with_reducible repeat (first | refine blk_drewN ?_ _ | refine blk_drew ?_ | refine blk_alloc ?_ _)); exact BK0.out) hb); have n2_ := Aside0.mk (blk_below (g := gb351) (o := .cells #[.int .i8 t349, .int .i8 t350] 41 (0, 0)) (by (with_reducible repeat (first | refine blk_drewN ?_ _ | refine blk_drew ?_ | refine blk_alloc ?_ _)); refine blk_put (cs := #[.int .i8 t349, .int .i8 0]) ?_ 1 _ rfl; (with_reducible repeat (first | refine blk_drewN ?_ _ | refine blk_drew ?_ | refine blk_alloc ?_ _)); refine blk_put (cs := #[.int .i8 0, .int .i8 0]) ?_ 0 _ rfl; (with_reducible repeat (first | refine blk_drewN ?_ _ | refine blk_drew ?_ | refine blk_alloc ?_ _)); exact BK351.out) hb); have n3_ := bst HB hb; clear HO_3; clear BK0; clear BK351; clear HB; have HO_3 := n0_; have BK0 := n1_; have BK351 := n2_; have HB := n3_; clear n0_ n1_ n2_ n3_; (try clear hb); (try clear hb2); (try clear hk); (try clear hi); have hcz36_0 : w35.cell? ⟨gb351, 0, none⟩ = some (.int .i8 t349) := (blk_cell BK351.out 0).trans rfl; have hcz36_1 : w35.cell? ⟨gb351, 1, none⟩ = some (.int .i8 t350) := (blk_cell BK351.out 1).trans rfl; have hfz36_0 := blk_frozen BK351.out 0; have hfz36_1 := blk_frozen BK351.out 1) | (go_at_call 40; (with_reducible refine (spec_l06Has.calls g0 s0_0 t349 t350 1 false _ ?side1 A16.out).mono ?_); (case side1 => exact (pk BK0)); rintro e w37 ⟨rfl, hb⟩; have n0_ := krb HO_3 hb; have n1_ := bkb BK0 hb; have n2_ := bkb BK351 hb; have n3_ := bst HB hb; clear HO_3; clear BK0; clear BK351; clear HB; have HO_3 := n0_; have BK0 := n1_; have BK351 := n2_; have HB := n3_; clear n0_ n1_ n2_ n3_; (try clear hb); (try clear hb2); (try clear hk); (try clear hi); have hcz38_0 : w37.cell? ⟨gb351, 0, none⟩ = some (.int .i8 t349) := (blk_cell BK351.out 0).trans rfl; have hcz38_1 : w37.cell? ⟨gb351, 1, none⟩ = some (.int .i8 t350) := (blk_cell BK351.out 1).trans rfl; have hfz38_0 := blk_frozen BK351.out 0; have hfz38_1 := blk_frozen BK351.out 1) | (go_at_call 40; (with_reducible refine (spec_l06Has.calls g0 s0_0 t349 t350 2 true _ ?side1 A28.out).mono ?_); (case side1 => exact (pk BK0)); rintro e w39 ⟨rfl, hb⟩; have n0_ := krb HO_3 hb; have n1_ := bkb BK0 hb; have n2_ := bkb BK351 hb; have n3_ := bst HB hb; clear HO_3; clear BK0; clear BK351; clear HB; have HO_3 := n0_; have BK0 := n1_; have BK351 := n2_; have HB := n3_; clear n0_ n1_ n2_ n3_; (try clear hb); (try clear hb2); (try clear hk); (try clear hi); have hcz40_0 : w39.cell? ⟨gb351, 0, none⟩ = some (.int .i8 t349) := (blk_cell BK351.out 0).trans rfl; have hcz40_1 : w39.cell? ⟨gb351, 1, none⟩ = some (.int .i8 t350) := (blk_cell BK351.out 1).trans rfl; have hfz40_0 := blk_frozen BK351.out 0; have hfz40_1 := blk_frozen BK351.out 1) | ((with_reducible refine gate_builtin (b := .append) (xs := #[.tmp 31, .tmp 33]) rfl ?_); at_builtin; refine Kd.R_append k41 (w0 := w) w.heap.size rfl (.tmp 31) (.tmp 33) 48 41 (.agg #[(.int .i8 0), (.int .i8 0)]) 2 rfl Tryd.underlying48 info41 rfl (by decide) (by omega) u3 x3_1 (⟨t349, t350⟩ : S41) [.int .i8 t349, .int .i8 t350] (fun k_ => k_ ≠ gb351) (fun _ => False) rfl rfl ?aP (fun _ hk => hk.elim) ?aF ?aO ?aB ?aS ?aL ?_; (case aP => exact k41_mkM _ _ _ (⟨t349, t350⟩ : S41)); (case aB => exact (pbs HB)); (case aF => exact (fun k_ hk => Kd.freshB (g := gb351) (o := .cells #[.int .i8 t349, .int .i8 t350] 41 (0, 0)) (pk BK351) k_ hk)); (case aO => exact (by (with_reducible repeat (first | apply Kd.R_alloc | apply Kd.R_drewN | apply Kd.R_drew)); exact Kd.R_mono HO_3.out (fun _ hk => hk.2))); (case aS => exact (below_size (by repeat (first | (with_reducible first | exact HB.out | apply below_alloc | apply pw_below_drewN | apply below_drew1 | refine below_set ?_ GE0.out | refine below_set ?_ GE351.out) | exact HB.out)))); (case aL => have := LMc30.out; omega); intro v362 w41 ho hb hg hat; rw [← Ny361.out] at ho; have n0_ := Aside0.mk (blk_grown (g := g0) (o := .cells (mixA (Value.int .u16) [] s0_0) 28 (0, 0)) (pk BK0) hg (Kd.R_ne HO_3.out BK0.out (by decide))); have n1_ := Aside0.mk (blk_grown (g := gb351) (o := .cells #[.int .i8 t349, .int .i8 t350] 41 (0, 0)) (pk BK351) hg (Kd.R_away HO_3.out (fun _ hk => hk.2))); have n2_ := Aside0.mk (hb); have n3_ := Aside0.mk (ho); clear BK0; clear BK351; clear HB; clear HO_3; have BK0 := n0_; have BK351 := n1_; have HB := n2_; have HO363 := n3_; clear n0_ n1_ n2_ n3_; clear ho hb hg hat))
        go_roundg k1
        case measure => have := HK1.out; omega
        case rel => exact ⟨(y361), (wrap64 (x4_1 + 1)), (by first | rfl | (simp; done) | (simp [*]; done)), H', ⟨by have := HK1.out; omega⟩, ⟨by (with_reducible repeat (first | apply Kd.R_alloc | apply Kd.R_drewN | apply Kd.R_drew)); exact Kd.R_mono HO363.out (fun _ hk => trivial)⟩, ⟨pk BK0⟩, ⟨pbs HB⟩⟩
       ·rw [if_neg c30] at H
        exact absurd H (by simp)
      ·replace c29 := Bool.eq_false_iff.mpr c29
       subst c29
       have H1 : ((spec_l06Has.f s0_0 t349 t350 3).bind fun t364 => (if t364 = true then (if x3_1.length < 70368744177664 then (spec_l06Spots.l0 k1 (x3_1 ++ [(⟨t349, t350⟩ : S41)]) (wrap64 (x4_1 + 1)) s0_0) else (none)) else (spec_l06Spots.l0 k1 x3_1 (wrap64 (x4_1 + 1)) s0_0))) = some r := by rw [if_neg (show ¬ (false = true) by decide)] at H; exact H
       clear H
       have H := H1
       clear H1
       replace H := Option.bind_eq_some_iff.mp H
       obtain ⟨t364, A420, H⟩ := H
       replace H : (if t364 = true then (if x3_1.length < 70368744177664 then (spec_l06Spots.l0 k1 (x3_1 ++ [(⟨t349, t350⟩ : S41)]) (wrap64 (x4_1 + 1)) s0_0) else (none)) else (spec_l06Spots.l0 k1 x3_1 (wrap64 (x4_1 + 1)) s0_0)) = some r := H
       have A42 := Aside0.mk A420
       clear A420
       by_cases c43 : t364 = true
       ·subst c43
        have H1 : (if x3_1.length < 70368744177664 then (spec_l06Spots.l0 k1 (x3_1 ++ [(⟨t349, t350⟩ : S41)]) (wrap64 (x4_1 + 1)) s0_0) else (none)) = some r := by rw [if_pos rfl] at H; exact H
        clear H
        have H := H1
        clear H1
        by_cases c44 : x3_1.length < 70368744177664
        ·rw [if_pos c44] at H
         have LMc44 := Aside0.mk c44
         clear c44
         obtain ⟨y365, hy365⟩ : ∃ y_ : List (S41), y_ = (x3_1 ++ [(⟨t349, t350⟩ : S41)]) := ⟨_, rfl⟩
         replace H : (spec_l06Spots.l0 k1 y365 (wrap64 (x4_1 + 1)) s0_0) = some r := by first | (rw [hy365]; with_reducible exact H) | (have H2_ := (Option.bind_some _ _).symm.trans H; rw [hy365]; with_reducible exact H2_) | (have H2_ := (Option.bind_some _ _).symm.trans H; with_reducible exact H2_) | with_reducible exact H | (rw [hy365]; exact H) | exact H
         have Ny365 := Aside0.mk hy365
         clear hy365
         have H' := Aside0.mk H
         clear H
         go_wp2_with (first | ((with_reducible refine gate_callee (f := 54) rfl ?_); refine goesL_ (some 12) rfl rfl Tryd.func54 (by kernel_rfl) rfl #[.int .i64 x4_1] rfl (by (try simp only [List.map_toArray, List.map_cons, List.map_nil]); first | done | rfl | (simp only [List.length_drop, List.length_take]; rfl)) ?_; (with_reducible refine (spec_l06Spot.calls x4_1 t349 t350 _ A5.out).mono ?_); rintro e w45 ⟨rfl, hb⟩; refine ⟨_, rfl, ?_⟩; have n0_ := krb HO_3 hb; have n1_ := bkb BK0 hb; have n2_ := bst HB hb; clear HO_3; clear BK0; clear HB; have HO_3 := n0_; have BK0 := n1_; have HB := n2_; clear n0_ n1_ n2_; (try clear hb); (try clear hb2); (try clear hk); (try clear hi)) | ((with_reducible refine gate_dst (N := 5) rfl ?_); refine box_event ?hg (N := 5) ?hd (cs := #[.int .i8 0, .int .i8 0]) (t := 41) ?hr ?_; (case hd => rfl); (case hg => rfl); (case hr => first | (go_simp; done) | (go_simp; rfl)); intro gb351 hg w46 hbox hb; have n0_ := Aside0.mk (Kd.R_below (Kd.R_elderB (by (with_reducible repeat (first | apply Kd.R_alloc | apply Kd.R_drewN | apply Kd.R_drew)); exact HO_3.out) gb351 (Nat.le_of_eq hg.symm)) hb); have n1_ := bkb BK0 hb; have n2_ := bst HB hb; have n3_ := Aside0.mk (hbox); have n4_ := gwl HB hg; have n5_ := gwl HB hg; have n6_ := nbl BK0 hg; have n7_ := nbg BK0 hg; clear HO_3; clear BK0; clear HB; have HO_3 := n0_; have BK0 := n1_; have HB := n2_; have BK351 := n3_; have GW351 := n4_; have GE351 := n5_; have NB0_351 := n6_; have NB351_0 := n7_; clear n0_ n1_ n2_ n3_ n4_ n5_ n6_ n7_; clear hb hbox hg; have hnb47 := NB351_0.out; have hnc47 := NB0_351.out; have hcz48_0 : w46.cell? ⟨gb351, 0, none⟩ = some (.int .i8 0) := (blk_cell BK351.out 0).trans rfl; have hcz48_1 : w46.cell? ⟨gb351, 1, none⟩ = some (.int .i8 0) := (blk_cell BK351.out 1).trans rfl; have hfz48_0 := blk_frozen BK351.out 0; have hfz48_1 := blk_frozen BK351.out 1) | ((with_reducible refine gate_callee (f := 40) rfl ?_); refine goesL_ (some 15) rfl rfl Tryd.func40 (by kernel_rfl) rfl #[.pointer (some ⟨g0, 0, none⟩), .agg #[.int .i8 t349, .int .i8 t350], .int .i64 0] rfl (by (try simp only [List.map_toArray, List.map_cons, List.map_nil]); first | done | rfl | (simp only [List.length_drop, List.length_take]; rfl)) ?_; (with_reducible refine (spec_l06Has.calls g0 s0_0 t349 t350 0 false _ ?side1 A6.out).mono ?_); (case side1 => exact (by (with_reducible repeat (first | refine blk_drewN ?_ _ | refine blk_drew ?_ | refine blk_alloc ?_ _)); refine blk_far ?_ NB0_351.out _; (with_reducible repeat (first | refine blk_drewN ?_ _ | refine blk_drew ?_ | refine blk_alloc ?_ _)); refine blk_far ?_ NB0_351.out _; (with_reducible repeat (first | refine blk_drewN ?_ _ | refine blk_drew ?_ | refine blk_alloc ?_ _)); exact BK0.out)); rintro e w49 ⟨rfl, hb⟩; refine ⟨_, rfl, ?_⟩; have n0_ := Aside0.mk (Kd.R_below (by (with_reducible repeat (first | apply Kd.R_alloc | apply Kd.R_drewN | apply Kd.R_drew)); exact (Kd.R_mono (Kd.R_far (p := ⟨gb351, 1, none⟩) (Kd.R_far (p := ⟨gb351, 0, none⟩) (Kd.R_mono HO_3.out (fun k_ hk => (⟨hk, hk.2⟩ : _ ∧ k_ ≠ gb351))) (fun _ hk => hk.2) (.int .i8 t349)) (fun _ hk => hk.2) (.int .i8 t350)) (fun _ h_ => h_.1))) hb); have n1_ := Aside0.mk (blk_below (g := g0) (o := .cells (mixA (Value.int .u16) [] s0_0) 28 (0, 0)) (by (with_reducible repeat (first | refine blk_drewN ?_ _ | refine blk_drew ?_ | refine blk_alloc ?_ _)); refine blk_far ?_ NB0_351.out _; (with_reducible repeat (first | refine blk_drewN ?_ _ | refine blk_drew ?_ | refine blk_alloc ?_ _)); refine blk_far ?_ NB0_351.out _; (with_reducible repeat (first | refine blk_drewN ?_ _ | refine blk_drew ?_ | refine blk_alloc ?_ _)); exact BK0.out) hb); have n2_ := Aside0.mk (blk_below (g := gb351) (o := .cells #[.int .i8 t349, .int .i8 t350] 41 (0, 0)) (by (with_reducible repeat (first | refine blk_drewN ?_ _ | refine blk_drew ?_ | refine blk_alloc ?_ _)); refine blk_put (cs := #[.int .i8 t349, .int .i8 0]) ?_ 1 _ rfl; (with_reducible repeat (first | refine blk_drewN ?_ _ | refine blk_drew ?_ | refine blk_alloc ?_ _)); refine blk_put (cs := #[.int .i8 0, .int .i8 0]) ?_ 0 _ rfl; (with_reducible repeat (first | refine blk_drewN ?_ _ | refine blk_drew ?_ | refine blk_alloc ?_ _)); exact BK351.out) hb); have n3_ := bst HB hb; clear HO_3; clear BK0; clear BK351; clear HB; have HO_3 := n0_; have BK0 := n1_; have BK351 := n2_; have HB := n3_; clear n0_ n1_ n2_ n3_; (try clear hb); (try clear hb2); (try clear hk); (try clear hi); have hcz50_0 : w49.cell? ⟨gb351, 0, none⟩ = some (.int .i8 t349) := (blk_cell BK351.out 0).trans rfl; have hcz50_1 : w49.cell? ⟨gb351, 1, none⟩ = some (.int .i8 t350) := (blk_cell BK351.out 1).trans rfl; have hfz50_0 := blk_frozen BK351.out 0; have hfz50_1 := blk_frozen BK351.out 1) | (go_at_call 40; (with_reducible refine (spec_l06Has.calls g0 s0_0 t349 t350 1 false _ ?side1 A16.out).mono ?_); (case side1 => exact (pk BK0)); rintro e w51 ⟨rfl, hb⟩; have n0_ := krb HO_3 hb; have n1_ := bkb BK0 hb; have n2_ := bkb BK351 hb; have n3_ := bst HB hb; clear HO_3; clear BK0; clear BK351; clear HB; have HO_3 := n0_; have BK0 := n1_; have BK351 := n2_; have HB := n3_; clear n0_ n1_ n2_ n3_; (try clear hb); (try clear hb2); (try clear hk); (try clear hi); have hcz52_0 : w51.cell? ⟨gb351, 0, none⟩ = some (.int .i8 t349) := (blk_cell BK351.out 0).trans rfl; have hcz52_1 : w51.cell? ⟨gb351, 1, none⟩ = some (.int .i8 t350) := (blk_cell BK351.out 1).trans rfl; have hfz52_0 := blk_frozen BK351.out 0; have hfz52_1 := blk_frozen BK351.out 1) | (go_at_call 40; (with_reducible refine (spec_l06Has.calls g0 s0_0 t349 t350 2 false _ ?side1 A28.out).mono ?_); (case side1 => exact (pk BK0)); rintro e w53 ⟨rfl, hb⟩; have n0_ := krb HO_3 hb; have n1_ := bkb BK0 hb; have n2_ := bkb BK351 hb; have n3_ := bst HB hb; clear HO_3; clear BK0; clear BK351; clear HB; have HO_3 := n0_; have BK0 := n1_; have BK351 := n2_; have HB := n3_; clear n0_ n1_ n2_ n3_; (try clear hb); (try clear hb2); (try clear hk); (try clear hi); have hcz54_0 : w53.cell? ⟨gb351, 0, none⟩ = some (.int .i8 t349) := (blk_cell BK351.out 0).trans rfl; have hcz54_1 : w53.cell? ⟨gb351, 1, none⟩ = some (.int .i8 t350) := (blk_cell BK351.out 1).trans rfl; have hfz54_0 := blk_frozen BK351.out 0; have hfz54_1 := blk_frozen BK351.out 1) | (go_at_call 40; (with_reducible refine (spec_l06Has.calls g0 s0_0 t349 t350 3 true _ ?side1 A42.out).mono ?_); (case side1 => exact (pk BK0)); rintro e w55 ⟨rfl, hb⟩; have n0_ := krb HO_3 hb; have n1_ := bkb BK0 hb; have n2_ := bkb BK351 hb; have n3_ := bst HB hb; clear HO_3; clear BK0; clear BK351; clear HB; have HO_3 := n0_; have BK0 := n1_; have BK351 := n2_; have HB := n3_; clear n0_ n1_ n2_ n3_; (try clear hb); (try clear hb2); (try clear hk); (try clear hi); have hcz56_0 : w55.cell? ⟨gb351, 0, none⟩ = some (.int .i8 t349) := (blk_cell BK351.out 0).trans rfl; have hcz56_1 : w55.cell? ⟨gb351, 1, none⟩ = some (.int .i8 t350) := (blk_cell BK351.out 1).trans rfl; have hfz56_0 := blk_frozen BK351.out 0; have hfz56_1 := blk_frozen BK351.out 1) | ((with_reducible refine gate_builtin (b := .append) (xs := #[.tmp 31, .tmp 33]) rfl ?_); at_builtin; refine Kd.R_append k41 (w0 := w) w.heap.size rfl (.tmp 31) (.tmp 33) 48 41 (.agg #[(.int .i8 0), (.int .i8 0)]) 2 rfl Tryd.underlying48 info41 rfl (by decide) (by omega) u3 x3_1 (⟨t349, t350⟩ : S41) [.int .i8 t349, .int .i8 t350] (fun k_ => k_ ≠ gb351) (fun _ => False) rfl rfl ?aP (fun _ hk => hk.elim) ?aF ?aO ?aB ?aS ?aL ?_; (case aP => exact k41_mkM _ _ _ (⟨t349, t350⟩ : S41)); (case aB => exact (pbs HB)); (case aF => exact (fun k_ hk => Kd.freshB (g := gb351) (o := .cells #[.int .i8 t349, .int .i8 t350] 41 (0, 0)) (pk BK351) k_ hk)); (case aO => exact (by (with_reducible repeat (first | apply Kd.R_alloc | apply Kd.R_drewN | apply Kd.R_drew)); exact Kd.R_mono HO_3.out (fun _ hk => hk.2))); (case aS => exact (below_size (by repeat (first | (with_reducible first | exact HB.out | apply below_alloc | apply pw_below_drewN | apply below_drew1 | refine below_set ?_ GE0.out | refine below_set ?_ GE351.out) | exact HB.out)))); (case aL => have := LMc44.out; omega); intro v366 w57 ho hb hg hat; rw [← Ny365.out] at ho; have n0_ := Aside0.mk (blk_grown (g := g0) (o := .cells (mixA (Value.int .u16) [] s0_0) 28 (0, 0)) (pk BK0) hg (Kd.R_ne HO_3.out BK0.out (by decide))); have n1_ := Aside0.mk (blk_grown (g := gb351) (o := .cells #[.int .i8 t349, .int .i8 t350] 41 (0, 0)) (pk BK351) hg (Kd.R_away HO_3.out (fun _ hk => hk.2))); have n2_ := Aside0.mk (hb); have n3_ := Aside0.mk (ho); clear BK0; clear BK351; clear HB; clear HO_3; have BK0 := n0_; have BK351 := n1_; have HB := n2_; have HO367 := n3_; clear n0_ n1_ n2_ n3_; clear ho hb hg hat))
         go_roundg k1
         case measure => have := HK1.out; omega
         case rel => exact ⟨(y365), (wrap64 (x4_1 + 1)), (by first | rfl | (simp; done) | (simp [*]; done)), H', ⟨by have := HK1.out; omega⟩, ⟨by (with_reducible repeat (first | apply Kd.R_alloc | apply Kd.R_drewN | apply Kd.R_drew)); exact Kd.R_mono HO367.out (fun _ hk => trivial)⟩, ⟨pk BK0⟩, ⟨pbs HB⟩⟩
        ·rw [if_neg c44] at H
         exact absurd H (by simp)
       ·replace c43 := Bool.eq_false_iff.mpr c43
        subst c43
        have H1 : (spec_l06Spots.l0 k1 x3_1 (wrap64 (x4_1 + 1)) s0_0) = some r := by rw [if_neg (show ¬ (false = true) by decide)] at H; exact H
        clear H
        have H := H1
        clear H1
        have H' := Aside0.mk H
        clear H
        go_wp2_with (first | ((with_reducible refine gate_callee (f := 54) rfl ?_); refine goesL_ (some 12) rfl rfl Tryd.func54 (by kernel_rfl) rfl #[.int .i64 x4_1] rfl (by (try simp only [List.map_toArray, List.map_cons, List.map_nil]); first | done | rfl | (simp only [List.length_drop, List.length_take]; rfl)) ?_; (with_reducible refine (spec_l06Spot.calls x4_1 t349 t350 _ A5.out).mono ?_); rintro e w58 ⟨rfl, hb⟩; refine ⟨_, rfl, ?_⟩; have n0_ := krb HO_3 hb; have n1_ := bkb BK0 hb; have n2_ := bst HB hb; clear HO_3; clear BK0; clear HB; have HO_3 := n0_; have BK0 := n1_; have HB := n2_; clear n0_ n1_ n2_; (try clear hb); (try clear hb2); (try clear hk); (try clear hi)) | ((with_reducible refine gate_dst (N := 5) rfl ?_); refine box_event ?hg (N := 5) ?hd (cs := #[.int .i8 0, .int .i8 0]) (t := 41) ?hr ?_; (case hd => rfl); (case hg => rfl); (case hr => first | (go_simp; done) | (go_simp; rfl)); intro gb351 hg w59 hbox hb; have n0_ := Aside0.mk (Kd.R_below (Kd.R_elderB (by (with_reducible repeat (first | apply Kd.R_alloc | apply Kd.R_drewN | apply Kd.R_drew)); exact HO_3.out) gb351 (Nat.le_of_eq hg.symm)) hb); have n1_ := bkb BK0 hb; have n2_ := bst HB hb; have n3_ := Aside0.mk (hbox); have n4_ := gwl HB hg; have n5_ := gwl HB hg; have n6_ := nbl BK0 hg; have n7_ := nbg BK0 hg; clear HO_3; clear BK0; clear HB; have HO_3 := n0_; have BK0 := n1_; have HB := n2_; have BK351 := n3_; have GW351 := n4_; have GE351 := n5_; have NB0_351 := n6_; have NB351_0 := n7_; clear n0_ n1_ n2_ n3_ n4_ n5_ n6_ n7_; clear hb hbox hg; have hnb60 := NB351_0.out; have hnc60 := NB0_351.out; have hcz61_0 : w59.cell? ⟨gb351, 0, none⟩ = some (.int .i8 0) := (blk_cell BK351.out 0).trans rfl; have hcz61_1 : w59.cell? ⟨gb351, 1, none⟩ = some (.int .i8 0) := (blk_cell BK351.out 1).trans rfl; have hfz61_0 := blk_frozen BK351.out 0; have hfz61_1 := blk_frozen BK351.out 1) | ((with_reducible refine gate_callee (f := 40) rfl ?_); refine goesL_ (some 15) rfl rfl Tryd.func40 (by kernel_rfl) rfl #[.pointer (some ⟨g0, 0, none⟩), .agg #[.int .i8 t349, .int .i8 t350], .int .i64 0] rfl (by (try simp only [List.map_toArray, List.map_cons, List.map_nil]); first | done | rfl | (simp only [List.length_drop, List.length_take]; rfl)) ?_; (with_reducible refine (spec_l06Has.calls g0 s0_0 t349 t350 0 false _ ?side1 A6.out).mono ?_); (case side1 => exact (by (with_reducible repeat (first | refine blk_drewN ?_ _ | refine blk_drew ?_ | refine blk_alloc ?_ _)); refine blk_far ?_ NB0_351.out _; (with_reducible repeat (first | refine blk_drewN ?_ _ | refine blk_drew ?_ | refine blk_alloc ?_ _)); refine blk_far ?_ NB0_351.out _; (with_reducible repeat (first | refine blk_drewN ?_ _ | refine blk_drew ?_ | refine blk_alloc ?_ _)); exact BK0.out)); rintro e w62 ⟨rfl, hb⟩; refine ⟨_, rfl, ?_⟩; have n0_ := Aside0.mk (Kd.R_below (by (with_reducible repeat (first | apply Kd.R_alloc | apply Kd.R_drewN | apply Kd.R_drew)); exact (Kd.R_mono (Kd.R_far (p := ⟨gb351, 1, none⟩) (Kd.R_far (p := ⟨gb351, 0, none⟩) (Kd.R_mono HO_3.out (fun k_ hk => (⟨hk, hk.2⟩ : _ ∧ k_ ≠ gb351))) (fun _ hk => hk.2) (.int .i8 t349)) (fun _ hk => hk.2) (.int .i8 t350)) (fun _ h_ => h_.1))) hb); have n1_ := Aside0.mk (blk_below (g := g0) (o := .cells (mixA (Value.int .u16) [] s0_0) 28 (0, 0)) (by (with_reducible repeat (first | refine blk_drewN ?_ _ | refine blk_drew ?_ | refine blk_alloc ?_ _)); refine blk_far ?_ NB0_351.out _; (with_reducible repeat (first | refine blk_drewN ?_ _ | refine blk_drew ?_ | refine blk_alloc ?_ _)); refine blk_far ?_ NB0_351.out _; (with_reducible repeat (first | refine blk_drewN ?_ _ | refine blk_drew ?_ | refine blk_alloc ?_ _)); exact BK0.out) hb); have n2_ := Aside0.mk (blk_below (g := gb351) (o := .cells #[.int .i8 t349, .int .i8 t350] 41 (0, 0)) (by (with_reducible repeat (first | refine blk_drewN ?_ _ | refine blk_drew ?_ | refine blk_alloc ?_ _)); refine blk_put (cs := #[.int .i8 t349, .int .i8 0]) ?_ 1 _ rfl; (with_reducible repeat (first | refine blk_drewN ?_ _ | refine blk_drew ?_ | refine blk_alloc ?_ _)); refine blk_put (cs := #[.int .i8 0, .int .i8 0]) ?_ 0 _ rfl; (with_reducible repeat (first | refine blk_drewN ?_ _ | refine blk_drew ?_ | refine blk_alloc ?_ _)); exact BK351.out) hb); have n3_ := bst HB hb; clear HO_3; clear BK0; clear BK351; clear HB; have HO_3 := n0_; have BK0 := n1_; have BK351 := n2_; have HB := n3_; clear n0_ n1_ n2_ n3_; (try clear hb); (try clear hb2); (try clear hk); (try clear hi); have hcz63_0 : w62.cell? ⟨gb351, 0, none⟩ = some (.int .i8 t349) := (blk_cell BK351.out 0).trans rfl; have hcz63_1 : w62.cell? ⟨gb351, 1, none⟩ = some (.int .i8 t350) := (blk_cell BK351.out 1).trans rfl; have hfz63_0 := blk_frozen BK351.out 0; have hfz63_1 := blk_frozen BK351.out 1) | (go_at_call 40; (with_reducible refine (spec_l06Has.calls g0 s0_0 t349 t350 1 false _ ?side1 A16.out).mono ?_); (case side1 => exact (pk BK0)); rintro e w64 ⟨rfl, hb⟩; have n0_ := krb HO_3 hb; have n1_ := bkb BK0 hb; have n2_ := bkb BK351 hb; have n3_ := bst HB hb; clear HO_3; clear BK0; clear BK351; clear HB; have HO_3 := n0_; have BK0 := n1_; have BK351 := n2_; have HB := n3_; clear n0_ n1_ n2_ n3_; (try clear hb); (try clear hb2); (try clear hk); (try clear hi); have hcz65_0 : w64.cell? ⟨gb351, 0, none⟩ = some (.int .i8 t349) := (blk_cell BK351.out 0).trans rfl; have hcz65_1 : w64.cell? ⟨gb351, 1, none⟩ = some (.int .i8 t350) := (blk_cell BK351.out 1).trans rfl; have hfz65_0 := blk_frozen BK351.out 0; have hfz65_1 := blk_frozen BK351.out 1) | (go_at_call 40; (with_reducible refine (spec_l06Has.calls g0 s0_0 t349 t350 2 false _ ?side1 A28.out).mono ?_); (case side1 => exact (pk BK0)); rintro e w66 ⟨rfl, hb⟩; have n0_ := krb HO_3 hb; have n1_ := bkb BK0 hb; have n2_ := bkb BK351 hb; have n3_ := bst HB hb; clear HO_3; clear BK0; clear BK351; clear HB; have HO_3 := n0_; have BK0 := n1_; have BK351 := n2_; have HB := n3_; clear n0_ n1_ n2_ n3_; (try clear hb); (try clear hb2); (try clear hk); (try clear hi); have hcz67_0 : w66.cell? ⟨gb351, 0, none⟩ = some (.int .i8 t349) := (blk_cell BK351.out 0).trans rfl; have hcz67_1 : w66.cell? ⟨gb351, 1, none⟩ = some (.int .i8 t350) := (blk_cell BK351.out 1).trans rfl; have hfz67_0 := blk_frozen BK351.out 0; have hfz67_1 := blk_frozen BK351.out 1) | (go_at_call 40; (with_reducible refine (spec_l06Has.calls g0 s0_0 t349 t350 3 false _ ?side1 A42.out).mono ?_); (case side1 => exact (pk BK0)); rintro e w68 ⟨rfl, hb⟩; have n0_ := krb HO_3 hb; have n1_ := bkb BK0 hb; have n2_ := bkb BK351 hb; have n3_ := bst HB hb; clear HO_3; clear BK0; clear BK351; clear HB; have HO_3 := n0_; have BK0 := n1_; have BK351 := n2_; have HB := n3_; clear n0_ n1_ n2_ n3_; (try clear hb); (try clear hb2); (try clear hk); (try clear hi)))
        go_roundg k1
        case measure => have := HK1.out; omega
        case rel => exact ⟨(x3_1), (wrap64 (x4_1 + 1)), (by first | rfl | (simp; done) | (simp [*]; done)), H', ⟨by have := HK1.out; omega⟩, ⟨by (with_reducible repeat (first | apply Kd.R_alloc | apply Kd.R_drewN | apply Kd.R_drew)); exact Kd.R_mono HO_3.out (fun _ hk => trivial)⟩, ⟨pk BK0⟩, ⟨pbs HB⟩⟩
   ·rw [if_neg c4] at H
    have c4b0 : decide (x4_1 < 100) = false := decide_eq_false c4
    clear c4
    obtain rfl := Option.some.inj H
    go_wp2
    go_ret
    exact ⟨_, by first | rfl | (simp [errW_none, errW_some] <;> rfl) | (simp [*, errW_none, errW_some] <;> rfl), by (with_reducible repeat (first | apply Kd.R_alloc | apply Kd.R_drewN | apply Kd.R_drew)); exact HO_3.out, pbs HB⟩
end Go.Proofs.YtdedijjbdkoekaaDoor.PB
end
