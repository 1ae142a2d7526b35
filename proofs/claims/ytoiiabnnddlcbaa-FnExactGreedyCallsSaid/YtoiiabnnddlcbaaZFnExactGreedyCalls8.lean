/- The statement FnExactGreedyCalls of this program: what its proof uses, part 9 of 13. The call returns true for all arguments. No condition of its own. -/
import Derived.Test.YtoiiabnnddlcbaaZFnExactGreedyCalls7
section
namespace Go.Proofs.Ytoiiabnnddlcbaa.PB
open Go.RowKit Go.Proofs.YtoiiabnnddlcbaaW.PrintWords Go.Proofs.YtoiiabnnddlcbaaW.PrintLast Go.Proofs.YtoiiabnnddlcbaaW.PrintMore Go.Proofs.Ytoiiabnnddlcbaa.La Go.Proofs.Ytoiiabnnddlcbaa.Mp
attribute [local go_sem] max2_int min2_int max_two min_two max_three min_three max_four min_four   -- for this text's walks alone
set_option linter.unusedVariables false
set_option linter.unusedSimpArgs false
mutual
def spec_l01Steps.l0 : Nat → Int → Int → Int → LA 10 → Int → Int → LA 100 → Option (LA 100)
 | 0, _, _, _, _, _, _, _ => none
 | k + 1, x6, x1000, x1001, x1002, x155000, x155001, x157000 => if x6 < 10 then (spec_l01Steps.l1 k x6 0 x1000 x1001 x1002 x155000 x155001 x157000) else (if 0 ≤ x155001 then (if x155001 < 10 then (if 0 ≤ x155000 then (if x155000 < 10 then (spec_l01Steps.l2 k (([(⟨x155000, x155001⟩ : S34)] : List (S34))) 0 x1000 x1001 x1002 (LA.set x157000 (x155001 * 10 + x155000) 0)) else (none)) else (none)) else (none)) else (none))
def spec_l01Steps.l1 : Nat → Int → Int → Int → Int → LA 10 → Int → Int → LA 100 → Option (LA 100)
 | 0, _, _, _, _, _, _, _, _ => none
 | k + 1, x6, x7, x1000, x1001, x1002, x155000, x155001, x157000 => if x7 < 10 then (if 0 ≤ x6 then (if x6 < 10 then (if 0 ≤ x7 then (spec_l01Steps.l1 k x6 (wrap64 (x7 + 1)) x1000 x1001 x1002 x155000 x155001 (LA.set x157000 (x6 * 10 + x7) (-1))) else (none)) else (none)) else (none)) else (spec_l01Steps.l0 k (wrap64 (x6 + 1)) x1000 x1001 x1002 x155000 x155001 x157000)
def spec_l01Steps.l2 : Nat → List (S34) → Int → Int → Int → LA 10 → LA 100 → Option (LA 100)
 | 0, _, _, _, _, _, _ => none
 | k + 1, x8, x9, x1000, x1001, x1002, x157000 => if x9 < (x8.length : Int) then (if 0 ≤ x9 then ((spec_l01Beside.f k x1000 x1001 x1002 ((rd_T34 x8 x9).f0) ((rd_T34 x8 x9).f1)).bind fun t161 => (spec_l01Steps.l3 k x8 x9 t161 0 x1000 x1001 x1002 x157000)) else (none)) else (some x157000)
def spec_l01Steps.l3 : Nat → List (S34) → Int → List (S34) → Int → Int → Int → LA 10 → LA 100 → Option (LA 100)
 | 0, _, _, _, _, _, _, _, _ => none
 | k + 1, x8, x9, x10, x11, x1000, x1001, x1002, x157000 => if x11 < (x10.length : Int) then (if 0 ≤ x11 then (if 0 ≤ ((rd_T34 x10 x11).f1) then (if ((rd_T34 x10 x11).f1) < 10 then (if 0 ≤ ((rd_T34 x10 x11).f0) then (if ((rd_T34 x10 x11).f0) < 10 then (if (rd x157000.l (((rd_T34 x10 x11).f1) * 10 + ((rd_T34 x10 x11).f0))) < 0 then (if 0 ≤ x9 then (if x9 < (x8.length : Int) then (if 0 ≤ ((rd_T34 x8 x9).f1) then (if ((rd_T34 x8 x9).f1) < 10 then (if 0 ≤ ((rd_T34 x8 x9).f0) then (if ((rd_T34 x8 x9).f0) < 10 then (if x8.length < 70368744177664 then (spec_l01Steps.l3 k (x8 ++ [(⟨(rd_T34 x10 x11).f0, (rd_T34 x10 x11).f1⟩ : S34)]) x9 x10 (wrap64 (x11 + 1)) x1000 x1001 x1002 (LA.set x157000 (((rd_T34 x10 x11).f1) * 10 + ((rd_T34 x10 x11).f0)) (wrap64 ((rd x157000.l (((rd_T34 x8 x9).f1) * 10 + ((rd_T34 x8 x9).f0))) + 1)))) else (none)) else (none)) else (none)) else (none)) else (none)) else (none)) else (none)) else (spec_l01Steps.l3 k x8 x9 x10 (wrap64 (x11 + 1)) x1000 x1001 x1002 x157000)) else (none)) else (none)) else (none)) else (none)) else (none)) else (spec_l01Steps.l2 k x8 (wrap64 (x9 + 1)) x1000 x1001 x1002 x157000)
end
def spec_l01Steps.f (k : Nat) (s0_0 : Int) (s0_1 : Int) (s0_2 : LA 10) (a1_0 : Int) (a1_1 : Int) : Option (LA 100) := spec_l01Steps.l0 k 0 s0_0 s0_1 s0_2 a1_0 a1_1 (LA.zero 100)
theorem spec_l01Steps.mono_l : ∀ k, (∀ y0 y1 y2 y3 y4 y5 y6, LeO (spec_l01Steps.l0 k y0 y1 y2 y3 y4 y5 y6) (spec_l01Steps.l0 (k + 1) y0 y1 y2 y3 y4 y5 y6)) ∧ (∀ y0 y1 y2 y3 y4 y5 y6 y7, LeO (spec_l01Steps.l1 k y0 y1 y2 y3 y4 y5 y6 y7) (spec_l01Steps.l1 (k + 1) y0 y1 y2 y3 y4 y5 y6 y7)) ∧ (∀ y0 y1 y2 y3 y4 y5, LeO (spec_l01Steps.l2 k y0 y1 y2 y3 y4 y5) (spec_l01Steps.l2 (k + 1) y0 y1 y2 y3 y4 y5)) ∧ (∀ y0 y1 y2 y3 y4 y5 y6 y7, LeO (spec_l01Steps.l3 k y0 y1 y2 y3 y4 y5 y6 y7) (spec_l01Steps.l3 (k + 1) y0 y1 y2 y3 y4 y5 y6 y7))
 | 0 => ⟨fun _ _ _ _ _ _ _ r h => by simp [spec_l01Steps.l0] at h, fun _ _ _ _ _ _ _ _ r h => by simp [spec_l01Steps.l1] at h, fun _ _ _ _ _ _ r h => by simp [spec_l01Steps.l2] at h, fun _ _ _ _ _ _ _ _ r h => by simp [spec_l01Steps.l3] at h⟩
 | k + 1 => by
  obtain ⟨ih0, ih1, ih2, ih3⟩ := spec_l01Steps.mono_l k
  refine ⟨?_, ?_, ?_, ?_⟩
  ·intro y0 y1 y2 y3 y4 y5 y6
   unfold spec_l01Steps.l0
   repeat' first
   | (with_reducible exact ih0 _ _ _ _ _ _ _)
   | (with_reducible exact ih1 _ _ _ _ _ _ _ _)
   | (with_reducible exact ih2 _ _ _ _ _ _)
   | (with_reducible exact ih3 _ _ _ _ _ _ _ _)
   | (with_reducible exact spec_l01Beside.mono _ _ _ _ _ _)
   | (with_reducible exact LeO.refl _)
   | (with_reducible exact LeO.none _)
   | (with_reducible refine LeO.ite ?_ ?_)
   | (with_reducible refine LeO.bind ?_ (fun _ => ?_))
   | exact ih0 _ _ _ _ _ _ _
   | exact ih1 _ _ _ _ _ _ _ _
   | exact ih2 _ _ _ _ _ _
   | exact ih3 _ _ _ _ _ _ _ _
   | exact spec_l01Beside.mono _ _ _ _ _ _
   | exact LeO.none _
   | refine LeO.ite ?_ ?_
   | refine LeO.bind ?_ (fun _ => ?_)
  ·intro y0 y1 y2 y3 y4 y5 y6 y7
   unfold spec_l01Steps.l1
   repeat' first
   | (with_reducible exact ih0 _ _ _ _ _ _ _)
   | (with_reducible exact ih1 _ _ _ _ _ _ _ _)
   | (with_reducible exact ih2 _ _ _ _ _ _)
   | (with_reducible exact ih3 _ _ _ _ _ _ _ _)
   | (with_reducible exact spec_l01Beside.mono _ _ _ _ _ _)
   | (with_reducible exact LeO.refl _)
   | (with_reducible exact LeO.none _)
   | (with_reducible refine LeO.ite ?_ ?_)
   | (with_reducible refine LeO.bind ?_ (fun _ => ?_))
   | exact ih0 _ _ _ _ _ _ _
   | exact ih1 _ _ _ _ _ _ _ _
   | exact ih2 _ _ _ _ _ _
   | exact ih3 _ _ _ _ _ _ _ _
   | exact spec_l01Beside.mono _ _ _ _ _ _
   | exact LeO.none _
   | refine LeO.ite ?_ ?_
   | refine LeO.bind ?_ (fun _ => ?_)
  ·intro y0 y1 y2 y3 y4 y5
   unfold spec_l01Steps.l2
   repeat' first
   | (with_reducible exact ih0 _ _ _ _ _ _ _)
   | (with_reducible exact ih1 _ _ _ _ _ _ _ _)
   | (with_reducible exact ih2 _ _ _ _ _ _)
   | (with_reducible exact ih3 _ _ _ _ _ _ _ _)
   | (with_reducible exact spec_l01Beside.mono _ _ _ _ _ _)
   | (with_reducible exact LeO.refl _)
   | (with_reducible exact LeO.none _)
   | (with_reducible refine LeO.ite ?_ ?_)
   | (with_reducible refine LeO.bind ?_ (fun _ => ?_))
   | exact ih0 _ _ _ _ _ _ _
   | exact ih1 _ _ _ _ _ _ _ _
   | exact ih2 _ _ _ _ _ _
   | exact ih3 _ _ _ _ _ _ _ _
   | exact spec_l01Beside.mono _ _ _ _ _ _
   | exact LeO.none _
   | refine LeO.ite ?_ ?_
   | refine LeO.bind ?_ (fun _ => ?_)
  ·intro y0 y1 y2 y3 y4 y5 y6 y7
   unfold spec_l01Steps.l3
   repeat' first
   | (with_reducible exact ih0 _ _ _ _ _ _ _)
   | (with_reducible exact ih1 _ _ _ _ _ _ _ _)
   | (with_reducible exact ih2 _ _ _ _ _ _)
   | (with_reducible exact ih3 _ _ _ _ _ _ _ _)
   | (with_reducible exact spec_l01Beside.mono _ _ _ _ _ _)
   | (with_reducible exact LeO.refl _)
   | (with_reducible exact LeO.none _)
   | (with_reducible refine LeO.ite ?_ ?_)
   | (with_reducible refine LeO.bind ?_ (fun _ => ?_))
   | exact ih0 _ _ _ _ _ _ _
   | exact ih1 _ _ _ _ _ _ _ _
   | exact ih2 _ _ _ _ _ _
   | exact ih3 _ _ _ _ _ _ _ _
   | exact spec_l01Beside.mono _ _ _ _ _ _
   | exact LeO.none _
   | refine LeO.ite ?_ ?_
   | refine LeO.bind ?_ (fun _ => ?_)
theorem spec_l01Steps.mono : ∀ a0 a1 a2 a3 a4 k, LeO (spec_l01Steps.f k a0 a1 a2 a3 a4) (spec_l01Steps.f (k + 1) a0 a1 a2 a3 a4) := by
 intro a0 a1 a2 a3 a4 k
 obtain ⟨ih0, ih1, ih2, ih3⟩ := spec_l01Steps.mono_l k
 unfold spec_l01Steps.f
 repeat' first
   | (with_reducible exact ih0 _ _ _ _ _ _ _)
   | (with_reducible exact ih1 _ _ _ _ _ _ _ _)
   | (with_reducible exact ih2 _ _ _ _ _ _)
   | (with_reducible exact ih3 _ _ _ _ _ _ _ _)
   | (with_reducible exact spec_l01Beside.mono _ _ _ _ _ _)
   | (with_reducible exact LeO.refl _)
   | (with_reducible exact LeO.none _)
   | (with_reducible refine LeO.ite ?_ ?_)
   | (with_reducible refine LeO.bind ?_ (fun _ => ?_))
   | exact ih0 _ _ _ _ _ _ _
   | exact ih1 _ _ _ _ _ _ _ _
   | exact ih2 _ _ _ _ _ _
   | exact ih3 _ _ _ _ _ _ _ _
   | exact spec_l01Beside.mono _ _ _ _ _ _
   | exact LeO.none _
   | refine LeO.ite ?_ ?_
   | refine LeO.bind ?_ (fun _ => ?_)
def spec_l01Steps.T18 : Bool × List (List Nat × List Nat) := (true, [([], []), ([], []), ([0, 1], [0, 1]), ([2], [2]), ([3], [3]), ([], []), ([], []), ([5, 6], [5, 6]), ([7], [7]), ([8], [8]), ([4], [4]), ([10, 9], [9, 10]), ([11], [11]), ([12], [12])])
def spec_l01Steps.B18 : List Nat := [0, 0, 3, 7, 15, 0, 0, 96, 224, 480, 31, 2047, 4095, 8191]
theorem spec_l01Steps.tab18 : rtab .any (opsOf Try.f100 18) = spec_l01Steps.T18 := by kernel_rfl
theorem spec_l01Steps.bits18 : waitsOk spec_l01Steps.T18.2 spec_l01Steps.B18 = true := by kernel_rfl
def spec_l01Steps.T19 : Bool × List (List Nat × List Nat) := (true, [([], []), ([], []), ([0, 1], [0, 1]), ([2], [2]), ([3], [3]), ([], []), ([], []), ([5, 6], [5, 6]), ([7], [7]), ([8], [8]), ([], []), ([], []), ([10, 11], [10, 11]), ([12], [12]), ([13], [13]), ([], []), ([], []), ([15, 16], [15, 16]), ([17], [17]), ([18], [18]), ([14], [14]), ([20, 19], [19, 20]), ([21], [21]), ([22], [22]), ([4], [4]), ([24, 9, 0, 1, 2, 3, 4, 5, 6, 7, 8, 9, 10, 11, 12, 13, 14, 15, 16, 17, 18, 19, 20, 21, 22, 23], [9, 24]), ([25, 23, 0, 1, 2, 3, 4, 5, 6, 7, 8, 9, 10, 11, 12, 13, 14, 15, 16, 17, 18, 19, 20, 21, 22, 23], [23, 25])])
def spec_l01Steps.B19 : List Nat := [0, 0, 3, 7, 15, 0, 0, 96, 224, 480, 0, 0, 3072, 7168, 15360, 0, 0, 98304, 229376, 491520, 31744, 2096128, 4193280, 8387584, 31, 33554431, 67108863]
theorem spec_l01Steps.tab19 : rtab .any (opsOf Try.f100 19) = spec_l01Steps.T19 := by kernel_rfl
theorem spec_l01Steps.bits19 : waitsOk spec_l01Steps.T19.2 spec_l01Steps.B19 = true := by kernel_rfl
set_option maxHeartbeats 8000000 in
set_option maxRecDepth 100000 in
theorem spec_l01Steps.calls (k : Nat) (g0 : Nat) (s0_0 : Int) (s0_1 : Int) (s0_2 : LA 10) (a1_0 : Int) (a1_1 : Int) (r : LA 100) (w : World) (hb0 : w.heap[g0]? = some (.cells (mixA (Value.int .u16) [.int .i8 s0_0, .int .i8 s0_1] s0_2) 32 (0, 0))) (h : spec_l01Steps.f k s0_0 s0_1 s0_2 a1_0 a1_1 = some r) :
  Calls Try.prog 100 #[.pointer (some ⟨g0, 0, none⟩), .agg #[.int .i8 a1_0, .int .i8 a1_1]] w fun e w' => e = .returned (.agg (mixA (Value.int .i64) [] r)) ∧ Below w.heap.size w w' := by
 have hu34 := Try.underlying34
 have BK0 := Aside0.mk hb0
 clear hb0
 have HB := Aside0.mk (Below.refl w.heap.size w)
 have H : (spec_l01Steps.l0 k 0 s0_0 s0_1 s0_2 a1_0 a1_1 (LA.zero 100)) = some r := h
 clear h
 have H' := Aside0.mk H
 clear H
 go_enter Try.func100, Try.ntmps100
 go_wp2_with (first | ((with_reducible refine gate_dst (N := 3) rfl ?_); refine box_event ?hg (N := 3) ?hd (cs := #[.int .i8 a1_0, .int .i8 a1_1]) (t := 34) ?hr ?_; (case hd => rfl); (case hg => rfl); (case hr => first | (go_simp; done) | (go_simp; rfl)); intro gb154 hg w3 hbox hb; have n0_ := bkb BK0 hb; have n1_ := bst HB hb; have n2_ := Aside0.mk (hbox); have n3_ := gwl HB hg; have n4_ := gwl HB hg; have n5_ := nbl BK0 hg; have n6_ := nbg BK0 hg; clear BK0; clear HB; have BK0 := n0_; have HB := n1_; have BK154 := n2_; have GW154 := n3_; have GE154 := n4_; have NB0_154 := n5_; have NB154_0 := n6_; clear n0_ n1_ n2_ n3_ n4_ n5_ n6_; clear hb hbox hg) | ((with_reducible refine gate_dst (N := 4) rfl ?_); refine box_event ?hg (N := 4) ?hd (cs := (mixA (Value.int .i64) [] (LA.zero 100))) (t := 125) ?hr ?_; (case hd => rfl); (case hg => rfl); (case hr => first | (go_simp; done) | (go_simp; rfl)); intro gb155 hg w4 hbox hb; have n0_ := bkb BK0 hb; have n1_ := bkb BK154 hb; have n2_ := bst HB hb; have n3_ := Aside0.mk (hbox); have n4_ := gwl HB hg; have n5_ := gwl HB hg; have n6_ := nbl BK0 hg; have n7_ := nbg BK0 hg; have n8_ := nbl BK154 hg; have n9_ := nbg BK154 hg; clear BK0; clear BK154; clear HB; have BK0 := n0_; have BK154 := n1_; have HB := n2_; have BK155 := n3_; have GW155 := n4_; have GE155 := n5_; have NB0_155 := n6_; have NB155_0 := n7_; have NB154_155 := n8_; have NB155_154 := n9_; clear n0_ n1_ n2_ n3_ n4_ n5_ n6_ n7_ n8_ n9_; clear hb hbox hg) | ((with_reducible refine gate_dst (N := 5) rfl ?_); refine box_event ?hg (N := 5) ?hd (cs := (mixA (Value.int .i64) [] (LA.zero 100))) (t := 125) ?hr ?_; (case hd => rfl); (case hg => rfl); (case hr => first | (go_simp; done) | (go_simp; rfl)); intro gb156 hg w5 hbox hb; have n0_ := bkb BK0 hb; have n1_ := bkb BK154 hb; have n2_ := bkb BK155 hb; have n3_ := bst HB hb; have n4_ := Aside0.mk (hbox); have n5_ := gwl HB hg; have n6_ := gwl HB hg; have n7_ := nbl BK0 hg; have n8_ := nbg BK0 hg; have n9_ := nbl BK154 hg; have n10_ := nbg BK154 hg; have n11_ := nbl BK155 hg; have n12_ := nbg BK155 hg; clear BK0; clear BK154; clear BK155; clear HB; have BK0 := n0_; have BK154 := n1_; have BK155 := n2_; have HB := n3_; have BK156 := n4_; have GW156 := n5_; have GE156 := n6_; have NB0_156 := n7_; have NB156_0 := n8_; have NB154_156 := n9_; have NB156_154 := n10_; have NB155_156 := n11_; have NB156_155 := n12_; clear n0_ n1_ n2_ n3_ n4_ n5_ n6_ n7_ n8_ n9_ n10_ n11_ n12_; clear hb hbox hg) | ((with_reducible refine gate_store (p := 5) rfl ?_); refine wpList_store_lmix rfl 125 _ _ rfl gb156 (e := (Value.int .i64)) (cs' := []) (W' := (LA.zero 100)) (cs := []) (W := (LA.zero 100)) (T := 125) rfl rfl (pk BK156) rfl (by kernel_rfl) rfl (fun _ => rfl) rfl ?_; intro w6 hi hk hbl; have n0_ := Aside0.mk (KeepBut.blk hk (g' := g0) (o := .cells (mixA (Value.int .u16) [.int .i8 s0_0, .int .i8 s0_1] s0_2) 32 (0, 0)) (pk BK0) NB0_156.out (by simp)); have n1_ := Aside0.mk (KeepBut.blk hk (g' := gb154) (o := .cells #[.int .i8 a1_0, .int .i8 a1_1] 34 (0, 0)) (pk BK154) NB154_156.out (by simp)); have n2_ := Aside0.mk (KeepBut.blk hk (g' := gb155) (o := .cells (mixA (Value.int .i64) [] (LA.zero 100)) 125 (0, 0)) (pk BK155) NB155_156.out (by simp)); have n3_ := Aside0.mk (hbl _ _ (pbs HB) GE156.out); have n4_ := Aside0.mk (hi); clear BK0; clear BK154; clear BK155; clear HB; clear BK156; have BK0 := n0_; have BK154 := n1_; have BK155 := n2_; have HB := n3_; have BK156 := n4_; clear n0_ n1_ n2_ n3_ n4_; clear hi hk hbl))
 go_loopg [6] k (fun kq v6 w' => ∃ (x6_1 : Int) (x157000_1 : LA 100), v6 = .int .i64 x6_1 ∧ Aside0 (spec_l01Steps.l0 kq x6_1 s0_0 s0_1 s0_2 a1_0 a1_1 x157000_1 = some r) ∧ Aside0 (kq ≤ k) ∧ Aside0 (w'.heap[g0]? = some (.cells (mixA (Value.int .u16) [.int .i8 s0_0, .int .i8 s0_1] s0_2) 32 (0, 0))) ∧ Aside0 (w'.heap[gb154]? = some (.cells #[.int .i8 a1_0, .int .i8 a1_1] 34 (0, 0))) ∧ Aside0 (w'.heap[gb155]? = some (.cells (mixA (Value.int .i64) [] (LA.zero 100)) 125 (0, 0))) ∧ Aside0 (w'.heap[gb156]? = some (.cells (mixA (Value.int .i64) [] x157000_1) 125 (0, 0))) ∧ Aside0 (Below w.heap.size w w'))
 case atStart => exact ⟨(0), ((LA.zero 100)), (by first | rfl | (simp; done) | (simp [*]; done)), H', ⟨Nat.le_refl _⟩, ⟨pk BK0⟩, ⟨pk BK154⟩, ⟨pk BK155⟩, ⟨pk BK156⟩, ⟨pbs HB⟩⟩
 case round =>
  clear H'
  try clear c1
  try clear p2
  obtain ⟨x6_1, x157000_1, rfl, HA, HK1, BK0, BK154, BK155, BK156, HB⟩ := hrel
  cases gk with
  | zero => exact absurd HA.out (by simp [spec_l01Steps.l0])
  | succ k1 =>
   have H := HA.out
   clear HA
   simp only [spec_l01Steps.l0] at H
   by_cases c7 : x6_1 < 10
   ·rw [if_pos c7] at H
    have c7b0 : decide (x6_1 < 10) = true := decide_eq_true c7
    clear c7
    have H' := Aside0.mk H
    clear H
    go_wp2
    go_loopg [7] k1 (fun kq v7 w' => ∃ (x7_2 : Int) (x157000_2 : LA 100), v7 = .int .i64 x7_2 ∧ Aside0 (spec_l01Steps.l1 kq x6_1 x7_2 s0_0 s0_1 s0_2 a1_0 a1_1 x157000_2 = some r) ∧ Aside0 (kq ≤ k1) ∧ Aside0 (w'.heap[g0]? = some (.cells (mixA (Value.int .u16) [.int .i8 s0_0, .int .i8 s0_1] s0_2) 32 (0, 0))) ∧ Aside0 (w'.heap[gb154]? = some (.cells #[.int .i8 a1_0, .int .i8 a1_1] 34 (0, 0))) ∧ Aside0 (w'.heap[gb155]? = some (.cells (mixA (Value.int .i64) [] (LA.zero 100)) 125 (0, 0))) ∧ Aside0 (w'.heap[gb156]? = some (.cells (mixA (Value.int .i64) [] x157000_2) 125 (0, 0))) ∧ Aside0 (Below w.heap.size w w'))
    case atStart => exact ⟨(0), (x157000_1), (by first | rfl | (simp; done) | (simp [*]; done)), H', ⟨Nat.le_refl _⟩, ⟨pk BK0⟩, ⟨pk BK154⟩, ⟨pk BK155⟩, ⟨pk BK156⟩, ⟨pbs HB⟩⟩
    case round =>
     clear H'
     try clear c1
     try clear p2
     try clear c7
     try clear c7b0
     try clear p2
     obtain ⟨x7_2, x157000_2, rfl, HA, HK2, BK0, BK154, BK155, BK156, HB⟩ := hrel
     cases gk with
     | zero => exact absurd HA.out (by simp [spec_l01Steps.l1])
     | succ k2 =>
      have H := HA.out
      clear HA
      simp only [spec_l01Steps.l1] at H
      by_cases c8 : x7_2 < 10
      ·rw [if_pos c8] at H
       have c8b0 : decide (x7_2 < 10) = true := decide_eq_true c8
       clear c8
       by_cases c9 : 0 ≤ x6_1
       ·rw [if_pos c9] at H
        have c9b0 : decide (0 ≤ x6_1) = true := decide_eq_true c9
        clear c9
        by_cases c10 : x6_1 < 10
        ·rw [if_pos c10] at H
         have c10b0 : decide (x6_1 < 10) = true := decide_eq_true c10
         clear c10
         by_cases c11 : 0 ≤ x7_2
         ·rw [if_pos c11] at H
          have c11b0 : decide (0 ≤ x7_2) = true := decide_eq_true c11
          clear c11
          have H' := Aside0.mk H
          clear H
          have hpd12 : (0 ≤ x6_1) = True := eq_true (by first | omega | exact of_decide_eq_true (by first | (with_reducible assumption) | assumption))
          have hqd12 : (x6_1 < 10) = True := eq_true (by first | omega | exact of_decide_eq_true (by first | (with_reducible assumption) | assumption))
          have hrd12 : (x6_1 < ((10 : Nat) : Int)) = True := eq_true (by first | omega | exact of_decide_eq_true (by first | (with_reducible assumption) | assumption))
          have hpbd12 : (0 ≤ x7_2) = True := eq_true (by first | omega | exact of_decide_eq_true (by first | (with_reducible assumption) | assumption))
          have hqbd12 : (x7_2 < 10) = True := eq_true (by first | omega | exact of_decide_eq_true (by first | (with_reducible assumption) | assumption))
          have hrbd12 : (x7_2 < ((10 : Nat) : Int)) = True := eq_true (by first | omega | exact of_decide_eq_true (by first | (with_reducible assumption) | assumption))
          have hdd12 : wr.cell? ⟨gb156, x6_1.toNat * 10 + x7_2.toNat, none⟩ = some (.int .i64 (rd x157000_2.l (x6_1 * 10 + x7_2))) := mix_at2z 10 BK156.out x6_1 x7_2 (of_eq_true hpd12) (of_eq_true hpbd12) (by have := of_eq_true hqd12; have := of_eq_true hqbd12; omega)
          have hfdd12 := blk_frozen BK156.out (x6_1.toNat * 10 + x7_2.toNat)
          go_wp2_with (first | ((with_reducible refine gate_store (t := 2) (p := 24) rfl ?_); refine store_event (t := 2) (p := 24) (v := ?vo_w13) (w1 := (wr.setCell ⟨gb156, x6_1.toNat * 10 + x7_2.toNat, none⟩ (.int .i64 (-1)))) ?hg ?ho ?hn ?hr ?_; (case ho => rfl); (case hg => rfl); (case hn => rfl); (case hr => first | (go_simp; done) | (go_simp; rfl)); intro w13 hw; have hi : w13.heap[gb156]? = some (.cells (mixA (Value.int .i64) [] (LA.set x157000_2 (x6_1 * 10 + x7_2) (-1))) 125 (0, 0)) := (by rw [hw]; exact mix_set2z 10 BK156.out x6_1 x7_2 (-1) (of_eq_true hpd12) (of_eq_true hpbd12) (by have := of_eq_true hqd12; have := of_eq_true hqbd12; omega)); have hk : KeepBut wr w13 gb156 none := (by rw [hw]; exact setcell_keep _ _ _ _); have hbl : ∀ B_ a_, Below B_ a_ wr → B_ ≤ gb156 → Below B_ a_ w13 := (by rw [hw]; exact setcell_below _ _ _ _); clear hw; have n0_ := Aside0.mk (KeepBut.blk hk (g' := g0) (o := .cells (mixA (Value.int .u16) [.int .i8 s0_0, .int .i8 s0_1] s0_2) 32 (0, 0)) (pk BK0) NB0_156.out (by simp)); have n1_ := Aside0.mk (KeepBut.blk hk (g' := gb154) (o := .cells #[.int .i8 a1_0, .int .i8 a1_1] 34 (0, 0)) (pk BK154) NB154_156.out (by simp)); have n2_ := Aside0.mk (KeepBut.blk hk (g' := gb155) (o := .cells (mixA (Value.int .i64) [] (LA.zero 100)) 125 (0, 0)) (pk BK155) NB155_156.out (by simp)); have n3_ := Aside0.mk (hbl _ _ (pbs HB) GE156.out); have n4_ := Aside0.mk (hi); clear BK0; clear BK154; clear BK155; clear HB; clear BK156; have BK0 := n0_; have BK154 := n1_; have BK155 := n2_; have HB := n3_; have BK156 := n4_; clear n0_ n1_ n2_ n3_ n4_; clear hi hk hbl))
          go_roundg k2
          case measure => have := HK1.out; have := HK2.out; omega
          case rel => exact ⟨(wrap64 (x7_2 + 1)), ((LA.set x157000_2 (x6_1 * 10 + x7_2) (-1))), (by first | rfl | (simp; done) | (simp [*]; done)), H', ⟨by have := HK1.out; have := HK2.out; omega⟩, ⟨pk BK0⟩, ⟨pk BK154⟩, ⟨pk BK155⟩, ⟨pk BK156⟩, ⟨pbs HB⟩⟩
         ·rw [if_neg c11] at H
          exact absurd H (by simp)
        ·rw [if_neg c10] at H
         exact absurd H (by simp)
       ·rw [if_neg c9] at H
        exact absurd H (by simp)
      ·rw [if_neg c8] at H
       have c8b0 : decide (x7_2 < 10) = false := decide_eq_false c8
       clear c8
       have H' := Aside0.mk H
       clear H
       go_wp2
       go_roundg k2
       case measure => have := HK1.out; have := HK2.out; omega
       case rel => exact ⟨(wrap64 (x6_1 + 1)), (x157000_2), (by first | rfl | (simp; done) | (simp [*]; done)), H', ⟨by have := HK1.out; have := HK2.out; omega⟩, ⟨pk BK0⟩, ⟨pk BK154⟩, ⟨pk BK155⟩, ⟨pk BK156⟩, ⟨pbs HB⟩⟩
   ·rw [if_neg c7] at H
    have c7b0 : decide (x6_1 < 10) = false := decide_eq_false c7
    clear c7
    by_cases c14 : 0 ≤ a1_1
    ·rw [if_pos c14] at H
     have c14b0 : decide (0 ≤ a1_1) = true := decide_eq_true c14
     clear c14
     by_cases c15 : a1_1 < 10
     ·rw [if_pos c15] at H
      have c15b0 : decide (a1_1 < 10) = true := decide_eq_true c15
      clear c15
      by_cases c16 : 0 ≤ a1_0
      ·rw [if_pos c16] at H
       have c16b0 : decide (0 ≤ a1_0) = true := decide_eq_true c16
       clear c16
       by_cases c17 : a1_0 < 10
       ·rw [if_pos c17] at H
        have c17b0 : decide (a1_0 < 10) = true := decide_eq_true c17
        clear c17
        obtain ⟨y157, hy157⟩ : ∃ y_ : List (S34), y_ = (([(⟨a1_0, a1_1⟩ : S34)] : List (S34))) := ⟨_, rfl⟩
        replace H : (spec_l01Steps.l2 k1 y157 0 s0_0 s0_1 s0_2 (LA.set x157000_1 (a1_1 * 10 + a1_0) 0)) = some r := by first | (rw [hy157]; with_reducible exact H) | (have H2_ := (Option.bind_some _ _).symm.trans H; rw [hy157]; with_reducible exact H2_) | (have H2_ := (Option.bind_some _ _).symm.trans H; with_reducible exact H2_) | with_reducible exact H | (rw [hy157]; exact H) | exact H
        have Ny157 := Aside0.mk hy157
        clear hy157
        have H' := Aside0.mk H
        clear H
        try go_wp2
        have n0_ := Aside0.mk (blk_drew BK0.out)
        have n1_ := Aside0.mk (blk_drew BK154.out)
        have n2_ := Aside0.mk (blk_drew BK155.out)
        have n3_ := Aside0.mk (blk_drew BK156.out)
        have n4_ := Aside0.mk (below_drew1 HB.out)
        clear BK0
        clear BK154
        clear BK155
        clear BK156
        clear HB
        have BK0 := n0_
        have BK154 := n1_
        have BK155 := n2_
        have BK156 := n3_
        have HB := n4_
        clear n0_ n1_ n2_ n3_ n4_
        have hpd19 : (0 ≤ a1_1) = True := eq_true (by first | omega | exact of_decide_eq_true (by first | (with_reducible assumption) | assumption))
        have hqd19 : (a1_1 < 10) = True := eq_true (by first | omega | exact of_decide_eq_true (by first | (with_reducible assumption) | assumption))
        have hrd19 : (a1_1 < ((10 : Nat) : Int)) = True := eq_true (by first | omega | exact of_decide_eq_true (by first | (with_reducible assumption) | assumption))
        have hpbd19 : (0 ≤ a1_0) = True := eq_true (by first | omega | exact of_decide_eq_true (by first | (with_reducible assumption) | assumption))
        have hqbd19 : (a1_0 < 10) = True := eq_true (by first | omega | exact of_decide_eq_true (by first | (with_reducible assumption) | assumption))
        have hrbd19 : (a1_0 < ((10 : Nat) : Int)) = True := eq_true (by first | omega | exact of_decide_eq_true (by first | (with_reducible assumption) | assumption))
        refine start_ (n := 7) (S := fun w' => w'.cell? ⟨gb154, 0, none⟩ = some (.int .i8 a1_0) ∧ w'.cell? ⟨gb154, 1, none⟩ = some (.int .i8 a1_1)) (ds := []) #[false, false, false, false, false, false, false] (by kernel_rfl) rfl rfl ⟨(blk_cell BK154.out 0).trans rfl, (blk_cell BK154.out 1).trans rfl⟩ (fun hHeld => ?_)
        generalize wr.drew = w18 at BK0 BK154 BK155 BK156 HB hHeld ⊢
        refine pure_ (i := 0) (N := some 25) (v := ?_) (a' := ?_) #[true, false, false, false, false, false, false] rfl rfl (by kernel_rfl) (fun _ _ _ h => h) (Or.inl ⟨by rfl, ?_⟩) ?_ ?_
        rotate_left
        ·intro w'
         go_simp
         with_reducible rfl
        rotate_left
        ·simp only [Act.put, List.setIfInBounds_toArray, List.set_cons_zero, List.set_cons_succ, i64_w, i32_w]
         rfl
        refine pure_ (i := 2) (N := some 27) (v := ?_) (a' := ?_) #[true, false, true, false, false, false, false] rfl rfl (by kernel_rfl) (fun _ _ _ h => h) (Or.inl ⟨by rfl, ?_⟩) ?_ ?_
        rotate_left
        ·intro w'
         go_simp
         with_reducible rfl
        rotate_left
        ·simp only [Act.put, List.setIfInBounds_toArray, List.set_cons_zero, List.set_cons_succ, i64_w, i32_w]
         rfl
        refine take_ (i := 1) (N := some 26) (v := ?_) (a' := ?_) #[true, true, true, false, false, false, false] rfl rfl (by kernel_rfl) (fun _ _ _ h => h) (Or.inl ⟨by rfl, ?_⟩) hHeld ?_ ?_
        rotate_left
        ·rintro w' ⟨s0, s1⟩
         go_simp
         with_reducible rfl
        rotate_left
        ·simp only [Act.put, List.setIfInBounds_toArray, List.set_cons_zero, List.set_cons_succ, i64_w, i32_w]
         rfl
        refine pure_ (i := 4) (N := some 29) (v := ?_) (a' := ?_) #[true, true, true, false, true, false, false] rfl rfl (by kernel_rfl) (fun _ _ _ h => h) (Or.inl ⟨by rfl, ?_⟩) ?_ ?_
        rotate_left
        ·intro w'
         go_simp
         with_reducible rfl
        rotate_left
        ·simp only [Act.put, List.setIfInBounds_toArray, List.set_cons_zero, List.set_cons_succ, i64_w, i32_w]
         rfl
        refine take_ (i := 3) (N := some 28) (v := ?_) (a' := ?_) #[true, true, true, true, true, false, false] rfl rfl (by kernel_rfl) (fun _ _ _ h => h) (Or.inl ⟨by rfl, ?_⟩) hHeld ?_ ?_
        rotate_left
        ·rintro w' ⟨s0, s1⟩
         go_simp
         with_reducible rfl
        rotate_left
        ·simp only [Act.put, List.setIfInBounds_toArray, List.set_cons_zero, List.set_cons_succ, i64_w, i32_w]
         rfl
        refine pure_ (i := 5) (N := some 30) (v := ?_) (a' := ?_) #[true, true, true, true, true, true, false] rfl rfl (by kernel_rfl) (fun _ _ _ h => h) (Or.inl ⟨by rfl, ?_⟩) ?_ ?_
        rotate_left
        ·intro w'
         go_simp
         with_reducible rfl
        rotate_left
        ·simp only [Act.put, List.setIfInBounds_toArray, List.set_cons_zero, List.set_cons_succ, i64_w, i32_w]
         rfl
        refine one_ (i := 6) (N := none) #[true, true, true, true, true, true, true] rfl rfl (by kernel_rfl) (by decide) (fun K hK => ?_)
        have hdd19 : w18.cell? ⟨gb156, a1_1.toNat * 10 + a1_0.toNat, none⟩ = some (.int .i64 (rd x157000_1.l (a1_1 * 10 + a1_0))) := mix_at2z 10 BK156.out a1_1 a1_0 (of_eq_true hpd19) (of_eq_true hpbd19) (by have := of_eq_true hqd19; have := of_eq_true hqbd19; omega)
        have hfdd19 := blk_frozen BK156.out (a1_1.toNat * 10 + a1_0.toNat)
        refine storel_step (w1 := (w18.setCell ⟨gb156, a1_1.toNat * 10 + a1_0.toNat, none⟩ (.int .i64 0))) ?hg ?hn ?hr ?_; (case hg => rfl); (case hn => rfl); (case hr => first | (go_simp; done) | (go_simp; rfl))
        intro w20 hw
        have hi : w20.heap[gb156]? = some (.cells (mixA (Value.int .i64) [] (LA.set x157000_1 (a1_1 * 10 + a1_0) 0)) 125 (0, 0)) := (by rw [hw]; exact mix_set2z 10 BK156.out a1_1 a1_0 0 (of_eq_true hpd19) (of_eq_true hpbd19) (by have := of_eq_true hqd19; have := of_eq_true hqbd19; omega))
        have hk : KeepBut w18 w20 gb156 none := (by rw [hw]; exact setcell_keep _ _ _ _)
        have hbl : ∀ B_ a_, Below B_ a_ w18 → B_ ≤ gb156 → Below B_ a_ w20 := (by rw [hw]; exact setcell_below _ _ _ _)
        clear hw
        have n0_ := Aside0.mk (KeepBut.blk hk (g' := g0) (o := .cells (mixA (Value.int .u16) [.int .i8 s0_0, .int .i8 s0_1] s0_2) 32 (0, 0)) (pk BK0) NB0_156.out (by simp))
        have n1_ := Aside0.mk (KeepBut.blk hk (g' := gb154) (o := .cells #[.int .i8 a1_0, .int .i8 a1_1] 34 (0, 0)) (pk BK154) NB154_156.out (by simp))
        have n2_ := Aside0.mk (KeepBut.blk hk (g' := gb155) (o := .cells (mixA (Value.int .i64) [] (LA.zero 100)) 125 (0, 0)) (pk BK155) NB155_156.out (by simp))
        have n3_ := Aside0.mk (hbl _ _ (pbs HB) GE156.out)
        have n4_ := Aside0.mk (hi)
        clear BK0
        clear BK154
        clear BK155
        clear HB
        clear BK156
        have BK0 := n0_
        have BK154 := n1_
        have BK155 := n2_
        have HB := n3_
        have BK156 := n4_
        clear n0_ n1_ n2_ n3_ n4_
        clear hi hk hbl
        refine hK.out _ _ ⟨(blk_cell BK154.out 0).trans rfl, (blk_cell BK154.out 1).trans rfl⟩ (fun hHeld => ?_)
        clear hK K
        refine done_ (by kernel_rfl) ?_
        have hnb21 := NB154_0.out
        have hnc21 := NB0_154.out
        have hnb22 := NB154_155.out
        have hnc22 := NB155_154.out
        have hnb23 := NB154_156.out
        have hnc23 := NB156_154.out
        have hcz24_0 : w20.cell? ⟨gb154, 0, none⟩ = some (.int .i8 a1_0) := bc_ BK154.out 0
        have hcz24_1 : w20.cell? ⟨gb154, 1, none⟩ = some (.int .i8 a1_1) := bc_ BK154.out 1
        have hfz24_0 := blk_frozen BK154.out 0
        have hfz24_1 := blk_frozen BK154.out 1
        try go_wp2_with (first | ((with_reducible refine gate_dst (N := 32) rfl ?_); refine Kd.R_lit k34 _ 34 ?hg (N := 32) ?hd (xs := ([(⟨a1_0, a1_1⟩ : S34)] : List (S34))) (inner := [.int .i8 a1_0, .int .i8 a1_1]) (ok := fun _ => True) (okp := fun _ => True) ?hr ?hp (fun _ hk => hk) trivial (Below.refl _ _) (Nat.le_refl _) (by simp) ?_; (case hd => rfl); (case hg => rfl); (case hr => first | (go_simp; done) | (go_simp; rfl)); (case hp => exact (Reps.c2 (show Kd.M k34 _ _ _ (⟨a1_0, a1_1⟩ : S34) [.int .i8 a1_0, .int .i8 a1_1] from (k34_mkM _ _ _ (⟨a1_0, a1_1⟩ : S34) )) (Reps.none _ _))); intro v158 w25 ho26 hb hg_ hnew_; clear hg_ hnew_; (first | rw [← Ny157.out] at ho26 | (simp only [Int.reduceToNat] at ho26; rw [← Ny157.out] at ho26)); have n0_ := Aside0.mk (Kd.R_lower (Kd.R_newB ho26 (g := gb154) (o := .cells #[.int .i8 a1_0, .int .i8 a1_1] 34 (0, 0)) (pk BK154)) (below_size (by repeat (first | (with_reducible first | exact HB.out | apply below_alloc | apply pw_below_drewN | apply below_drew1 | refine below_set ?_ GE0.out | refine below_set ?_ GE154.out | refine below_set ?_ GE155.out | refine below_set ?_ GE156.out) | exact HB.out)))); have n1_ := bkb BK0 hb; have n2_ := bkb BK154 hb; have n3_ := bkb BK155 hb; have n4_ := bkb BK156 hb; have n5_ := bst HB hb; clear BK0; clear BK154; clear BK155; clear BK156; clear HB; have HO159 := n0_; have BK0 := n1_; have BK154 := n2_; have BK155 := n3_; have BK156 := n4_; have HB := n5_; clear n0_ n1_ n2_ n3_ n4_ n5_; clear hb ho26))
        go_loopg [8, 9] k1 (fun kq v8 v9 w' => ∃ (x8_2 : List (S34)) (x9_2 : Int) (x157000_2 : LA 100), v9 = .int .i64 x9_2 ∧ Aside0 (spec_l01Steps.l2 kq x8_2 x9_2 s0_0 s0_1 s0_2 x157000_2 = some r) ∧ Aside0 (kq ≤ k1) ∧ Aside0 (Kd.R k34 34 w' w.heap.size (fun k_ => k_ ≠ gb154) v8 x8_2) ∧ Aside0 (w'.heap[g0]? = some (.cells (mixA (Value.int .u16) [.int .i8 s0_0, .int .i8 s0_1] s0_2) 32 (0, 0))) ∧ Aside0 (w'.heap[gb154]? = some (.cells #[.int .i8 a1_0, .int .i8 a1_1] 34 (0, 0))) ∧ Aside0 (w'.heap[gb155]? = some (.cells (mixA (Value.int .i64) [] (LA.zero 100)) 125 (0, 0))) ∧ Aside0 (w'.heap[gb156]? = some (.cells (mixA (Value.int .i64) [] x157000_2) 125 (0, 0))) ∧ Aside0 (Below w.heap.size w w'))
        case atStart => exact ⟨(y157), (0), ((LA.set x157000_1 (a1_1 * 10 + a1_0) 0)), (by first | rfl | (simp; done) | (simp [*]; done)), H', ⟨Nat.le_refl _⟩, ⟨by (with_reducible repeat (first | apply Kd.R_alloc | apply Kd.R_drewN | apply Kd.R_drew)); exact Kd.R_mono HO159.out (fun _ hk => hk.2)⟩, ⟨pk BK0⟩, ⟨pk BK154⟩, ⟨pk BK155⟩, ⟨pk BK156⟩, ⟨pbs HB⟩⟩
        case round =>
         clear H'
         try clear c1
         try clear c2
         try clear p2
         try clear p6
         try clear c7
         try clear c7b0
         try clear c8
         try clear c8b0
         try clear c9
         try clear c9b0
         try clear c10
         try clear c10b0
         try clear c11
         try clear c11b0
         try clear c14
         try clear c14b0
         try clear c15
         try clear c15b0
         try clear c16
         try clear c16b0
         try clear c17
         try clear c17b0
         try clear c21
         try clear c22
         try clear c23
         try clear hcz24_0
         try clear hcz24_1
         try clear hfz24_0
         try clear hfz24_1
         try clear p2
         obtain ⟨x8_2, x9_2, x157000_2, rfl, HA, HK2, HO_8, BK0, BK154, BK155, BK156, HB⟩ := hrel
         cases gk with
         | zero => exact absurd HA.out (by simp [spec_l01Steps.l2])
         | succ k2 =>
          have H := HA.out
          clear HA
          simp only [spec_l01Steps.l2] at H
          by_cases c27 : x9_2 < (x8_2.length : Int)
          ·rw [if_pos c27] at H
           have c27b0 : decide (x9_2 < (x8_2.length : Int)) = true := decide_eq_true c27
           clear c27
           by_cases c28 : 0 ≤ x9_2
           ·rw [if_pos c28] at H
            have c28b0 : decide (0 ≤ x9_2) = true := decide_eq_true c28
            clear c28
            replace H := Option.bind_eq_some_iff.mp H
            obtain ⟨t161, A290, H⟩ := H
            replace H : (spec_l01Steps.l3 k2 x8_2 x9_2 t161 0 s0_0 s0_1 s0_2 x157000_2) = some r := H
            have A29 := Aside0.mk A290
            clear A290
            have H' := Aside0.mk H
            clear H
            obtain ⟨Ao30, co30, eo30⟩ := Kd.R_slice HO_8.out
            subst eo30
            have p160 : 0 ≤ (x9_2 : Int) := of_decide_eq_true (by first | (with_reducible assumption) | assumption)
            have q160 : x9_2 < (x8_2.length : Int) := of_decide_eq_true (by first | (with_reducible assumption) | assumption)
            obtain ⟨ad160, e160, hx160_0, hx160_1⟩ := at_T34 (Kd.R_reads' HO_8.out).2.2 x9_2 p160 q160
            cases e160
            replace p160 := eq_true p160
            replace q160 := eq_true q160
            go_wp2_with (first | ((with_reducible refine gate_callee (f := 118) rfl ?_); refine goesL_ (some 44) rfl rfl Try.func118 (by kernel_rfl) rfl #[.pointer (some ⟨g0, 0, none⟩), .agg #[.int .i8 ((rd_T34 x8_2 x9_2).f0), .int .i8 ((rd_T34 x8_2 x9_2).f1)]] rfl (by (try simp only [List.map_toArray, List.map_cons, List.map_nil]); first | done | rfl | (simp only [List.length_drop, List.length_take]; rfl)) ?_; (with_reducible refine (spec_l01Beside.calls k2 g0 s0_0 s0_1 s0_2 ((rd_T34 x8_2 x9_2).f0) ((rd_T34 x8_2 x9_2).f1) t161 _ ?side1 A29.out).mono ?_); (case side1 => exact (pk BK0)); rintro e w31 ⟨v162, rfl, ho0, hb⟩; refine ⟨_, rfl, ?_⟩; have n0_ := Aside0.mk (Kd.R_elder' (by (with_reducible repeat (first | apply Kd.R_alloc | apply Kd.R_drewN | apply Kd.R_drew)); exact HO_8.out) (Kd.R_base ho0) hb); have n1_ := Aside0.mk (Kd.R_lower (Kd.R_newB (Kd.R_new' ho0 (Kd.R_lt (by (with_reducible repeat (first | apply Kd.R_alloc | apply Kd.R_drewN | apply Kd.R_drew)); exact HO_8.out))) (g := gb154) (o := .cells #[.int .i8 a1_0, .int .i8 a1_1] 34 (0, 0)) (pk BK154)) (below_size (by repeat (first | (with_reducible first | exact HB.out | apply below_alloc | apply pw_below_drewN | apply below_drew1 | refine below_set ?_ GE0.out | refine below_set ?_ GE154.out | refine below_set ?_ GE155.out | refine below_set ?_ GE156.out) | exact HB.out)))); have n2_ := bkb BK0 hb; have n3_ := bkb BK154 hb; have n4_ := bkb BK155 hb; have n5_ := bkb BK156 hb; have n6_ := bst HB hb; clear HO_8; clear BK0; clear BK154; clear BK155; clear BK156; clear HB; have HO_8 := n0_; have HO163 := n1_; have BK0 := n2_; have BK154 := n3_; have BK155 := n4_; have BK156 := n5_; have HB := n6_; clear n0_ n1_ n2_ n3_ n4_ n5_ n6_; (try clear hb); (try clear hb2); (try clear hk); (try clear hi); (try clear ho0)))
            go_loopg [8, 11] k2 (fun kq v8 v11 w' => ∃ (x8_3 : List (S34)) (x11_3 : Int) (x157000_3 : LA 100), v11 = .int .i64 x11_3 ∧ Aside0 (spec_l01Steps.l3 kq x8_3 x9_2 t161 x11_3 s0_0 s0_1 s0_2 x157000_3 = some r) ∧ Aside0 (kq ≤ k2) ∧ Aside0 (Kd.R k34 34 w' w.heap.size (fun k_ => some k_ ≠ (v162 : Value).ownBlock ∧ k_ ≠ gb154) v8 x8_3) ∧ Aside0 (Kd.R k34 34 w' w.heap.size (fun k_ => some k_ ≠ (v8 : Value).ownBlock ∧ k_ ≠ gb154) v162 t161) ∧ Aside0 (w'.heap[g0]? = some (.cells (mixA (Value.int .u16) [.int .i8 s0_0, .int .i8 s0_1] s0_2) 32 (0, 0))) ∧ Aside0 (w'.heap[gb154]? = some (.cells #[.int .i8 a1_0, .int .i8 a1_1] 34 (0, 0))) ∧ Aside0 (w'.heap[gb155]? = some (.cells (mixA (Value.int .i64) [] (LA.zero 100)) 125 (0, 0))) ∧ Aside0 (w'.heap[gb156]? = some (.cells (mixA (Value.int .i64) [] x157000_3) 125 (0, 0))) ∧ Aside0 (Below w.heap.size w w'))
            case atStart => exact ⟨(x8_2), (0), (x157000_2), (by first | rfl | (simp; done) | (simp [*]; done)), H', ⟨Nat.le_refl _⟩, ⟨by (with_reducible repeat (first | apply Kd.R_alloc | apply Kd.R_drewN | apply Kd.R_drew)); exact Kd.R_mono HO_8.out (fun _ hk => ⟨hk.2, hk.1⟩)⟩, ⟨by (with_reducible repeat (first | apply Kd.R_alloc | apply Kd.R_drewN | apply Kd.R_drew)); exact Kd.R_mono HO163.out (fun _ hk => ⟨hk.1.2, hk.2⟩)⟩, ⟨pk BK0⟩, ⟨pk BK154⟩, ⟨pk BK155⟩, ⟨pk BK156⟩, ⟨pbs HB⟩⟩
            case round =>
             clear H'
             try clear c1
             try clear p1
             try clear q1
             try clear hx1
             try clear c2
             try clear p2
             try clear p6
             try clear c7
             try clear c7b0
             try clear c8
             try clear c8b0
             try clear c9
             try clear c9b0
             try clear c10
             try clear c10b0
             try clear c11
             try clear c11b0
             try clear c14
             try clear c14b0
             try clear c15
             try clear c15b0
             try clear c16
             try clear c16b0
             try clear p16
             try clear q16
             try clear hx16
             try clear c17
             try clear c17b0
             try clear c21
             try clear c22
             try clear c23
             try clear c27
             try clear c27b0
             try clear c28
             try clear c28b0
             try clear hcz24_0
             try clear hcz24_1
             try clear hfz24_0
             try clear hfz24_1
             try clear hx160_0
             try clear hx160_1
             try clear p160
             try clear p2
             try clear p6
             try clear q160
             obtain ⟨x8_3, x11_3, x157000_3, rfl, HA, HK3, HO_8, HO_10, BK0, BK154, BK155, BK156, HB⟩ := hrel
             cases gk with
             | zero => exact absurd HA.out (by simp [spec_l01Steps.l3])
             | succ k3 =>
              have H := HA.out
              clear HA
              simp only [spec_l01Steps.l3] at H
              by_cases c32 : x11_3 < (t161.length : Int)
              ·rw [if_pos c32] at H
               have c32b0 : decide (x11_3 < (t161.length : Int)) = true := decide_eq_true c32
               clear c32
               by_cases c33 : 0 ≤ x11_3
               ·rw [if_pos c33] at H
                have c33b0 : decide (0 ≤ x11_3) = true := decide_eq_true c33
                clear c33
                by_cases c34 : 0 ≤ ((rd_T34 t161 x11_3).f1)
                ·rw [if_pos c34] at H
                 have c34b0 : decide (0 ≤ ((rd_T34 t161 x11_3).f1)) = true := decide_eq_true c34
                 clear c34
                 by_cases c35 : ((rd_T34 t161 x11_3).f1) < 10
                 ·rw [if_pos c35] at H
                  have c35b0 : decide (((rd_T34 t161 x11_3).f1) < 10) = true := decide_eq_true c35
                  clear c35
                  by_cases c36 : 0 ≤ ((rd_T34 t161 x11_3).f0)
                  ·rw [if_pos c36] at H
                   have c36b0 : decide (0 ≤ ((rd_T34 t161 x11_3).f0)) = true := decide_eq_true c36
                   clear c36
                   by_cases c37 : ((rd_T34 t161 x11_3).f0) < 10
                   ·rw [if_pos c37] at H
                    have c37b0 : decide (((rd_T34 t161 x11_3).f0) < 10) = true := decide_eq_true c37
                    clear c37
                    by_cases c38 : (rd x157000_3.l (((rd_T34 t161 x11_3).f1) * 10 + ((rd_T34 t161 x11_3).f0))) < 0
                    ·rw [if_pos c38] at H
                     have c38b0 : decide ((rd x157000_3.l (((rd_T34 t161 x11_3).f1) * 10 + ((rd_T34 t161 x11_3).f0))) < 0) = true := decide_eq_true c38
                     clear c38
                     by_cases c39 : 0 ≤ x9_2
                     ·rw [if_pos c39] at H
                      have c39b0 : decide (0 ≤ x9_2) = true := decide_eq_true c39
                      clear c39
                      by_cases c40 : x9_2 < (x8_3.length : Int)
                      ·rw [if_pos c40] at H
                       have c40b0 : decide (x9_2 < (x8_3.length : Int)) = true := decide_eq_true c40
                       clear c40
                       by_cases c41 : 0 ≤ ((rd_T34 x8_3 x9_2).f1)
                       ·rw [if_pos c41] at H
                        have c41b0 : decide (0 ≤ ((rd_T34 x8_3 x9_2).f1)) = true := decide_eq_true c41
                        clear c41
                        by_cases c42 : ((rd_T34 x8_3 x9_2).f1) < 10
                        ·rw [if_pos c42] at H
                         have c42b0 : decide (((rd_T34 x8_3 x9_2).f1) < 10) = true := decide_eq_true c42
                         clear c42
                         by_cases c43 : 0 ≤ ((rd_T34 x8_3 x9_2).f0)
                         ·rw [if_pos c43] at H
                          have c43b0 : decide (0 ≤ ((rd_T34 x8_3 x9_2).f0)) = true := decide_eq_true c43
                          clear c43
                          by_cases c44 : ((rd_T34 x8_3 x9_2).f0) < 10
                          ·rw [if_pos c44] at H
                           have c44b0 : decide (((rd_T34 x8_3 x9_2).f0) < 10) = true := decide_eq_true c44
                           clear c44
                           by_cases c45 : x8_3.length < 70368744177664
                           ·rw [if_pos c45] at H
                            have LMc45 := Aside0.mk c45
                            clear c45
                            obtain ⟨y171, hy171⟩ : ∃ y_ : List (S34), y_ = (x8_3 ++ [(⟨(rd_T34 t161 x11_3).f0, (rd_T34 t161 x11_3).f1⟩ : S34)]) := ⟨_, rfl⟩
                            replace H : (spec_l01Steps.l3 k3 y171 x9_2 t161 (wrap64 (x11_3 + 1)) s0_0 s0_1 s0_2 (LA.set x157000_3 (((rd_T34 t161 x11_3).f1) * 10 + ((rd_T34 t161 x11_3).f0)) (wrap64 ((rd x157000_3.l (((rd_T34 x8_3 x9_2).f1) * 10 + ((rd_T34 x8_3 x9_2).f0))) + 1)))) = some r := by first | (rw [hy171]; with_reducible exact H) | (have H2_ := (Option.bind_some _ _).symm.trans H; rw [hy171]; with_reducible exact H2_) | (have H2_ := (Option.bind_some _ _).symm.trans H; with_reducible exact H2_) | with_reducible exact H | (rw [hy171]; exact H) | exact H
                            have Ny171 := Aside0.mk hy171
                            clear hy171
                            have H' := Aside0.mk H
                            clear H
                            obtain ⟨Ao46, co46, eo46⟩ := Kd.R_slice HO_10.out
                            subst eo46
                            try go_wp2
                            have n0_ := Aside0.mk (Kd.R_drew HO_8.out)
                            have n1_ := Aside0.mk (Kd.R_drew HO_10.out)
                            have n2_ := Aside0.mk (blk_drew BK0.out)
                            have n3_ := Aside0.mk (blk_drew BK154.out)
                            have n4_ := Aside0.mk (blk_drew BK155.out)
                            have n5_ := Aside0.mk (blk_drew BK156.out)
                            have n6_ := Aside0.mk (below_drew1 HB.out)
                            clear HO_8
                            clear HO_10
                            clear BK0
                            clear BK154
                            clear BK155
                            clear BK156
                            clear HB
                            have HO_8 := n0_
                            have HO_10 := n1_
                            have BK0 := n2_
                            have BK154 := n3_
                            have BK155 := n4_
                            have BK156 := n5_
                            have HB := n6_
                            clear n0_ n1_ n2_ n3_ n4_ n5_ n6_
                            have p164 : 0 ≤ (x11_3 : Int) := of_decide_eq_true (by first | (with_reducible assumption) | assumption)
                            have q164 : x11_3 < (t161.length : Int) := of_decide_eq_true (by first | (with_reducible assumption) | assumption)
                            obtain ⟨ad164, e164, hx164_0, hx164_1⟩ := at_T34 (Kd.R_reads' HO_10.out).2.2 x11_3 p164 q164
                            cases e164
                            replace p164 := eq_true p164
                            replace q164 := eq_true q164
                            have p165 : 0 ≤ (x11_3 : Int) := of_decide_eq_true (by first | (with_reducible assumption) | assumption)
                            have q165 : x11_3 < (t161.length : Int) := of_decide_eq_true (by first | (with_reducible assumption) | assumption)
                            obtain ⟨ad165, e165, hx165_0, hx165_1⟩ := at_T34 (Kd.R_reads' HO_10.out).2.2 x11_3 p165 q165
                            obtain rfl : ad164 = ad165 := (by injection e165)
                            replace p165 := eq_true p165
                            replace q165 := eq_true q165
                            have hpd48 : (0 ≤ ((rd_T34 t161 x11_3).f1)) = True := eq_true (by first | omega | exact of_decide_eq_true (by first | (with_reducible assumption) | assumption))
                            have hqd48 : (((rd_T34 t161 x11_3).f1) < 10) = True := eq_true (by first | omega | exact of_decide_eq_true (by first | (with_reducible assumption) | assumption))
                            have hrd48 : (((rd_T34 t161 x11_3).f1) < ((10 : Nat) : Int)) = True := eq_true (by first | omega | exact of_decide_eq_true (by first | (with_reducible assumption) | assumption))
                            have hpbd48 : (0 ≤ ((rd_T34 t161 x11_3).f0)) = True := eq_true (by first | omega | exact of_decide_eq_true (by first | (with_reducible assumption) | assumption))
                            have hqbd48 : (((rd_T34 t161 x11_3).f0) < 10) = True := eq_true (by first | omega | exact of_decide_eq_true (by first | (with_reducible assumption) | assumption))
                            have hrbd48 : (((rd_T34 t161 x11_3).f0) < ((10 : Nat) : Int)) = True := eq_true (by first | omega | exact of_decide_eq_true (by first | (with_reducible assumption) | assumption))
                            refine start_ (n := 14) (S := fun w' => w'.cell? ⟨gb156, ((rd_T34 t161 x11_3).f1).toNat * 10 + ((rd_T34 t161 x11_3).f0).toNat, none⟩ = some (.int .i64 (rd x157000_3.l (((rd_T34 t161 x11_3).f1) * 10 + ((rd_T34 t161 x11_3).f0)))) ∧ w'.cell? (ad164.add ((x11_3).toNat * 2)) = some (.int .i8 ((rd_T34 t161 x11_3).f0)) ∧ w'.cell? ⟨(ad164.add ((x11_3).toNat * 2)).block, (ad164.add ((x11_3).toNat * 2)).off + 1, none⟩ = some (.int .i8 ((rd_T34 t161 x11_3).f1)) ∧ w'.cell? (ad164.add ((x11_3).toNat * 2)) = some (.int .i8 ((rd_T34 t161 x11_3).f0)) ∧ w'.cell? ⟨(ad164.add ((x11_3).toNat * 2)).block, (ad164.add ((x11_3).toNat * 2)).off + 1, none⟩ = some (.int .i8 ((rd_T34 t161 x11_3).f1))) (ds := []) #[false, false, false, false, false, false, false, false, false, false, false, false, false, false] (by kernel_rfl) rfl rfl ⟨mix_at2z 10 BK156.out ((rd_T34 t161 x11_3).f1) ((rd_T34 t161 x11_3).f0) (of_eq_true hpd48) (of_eq_true hpbd48) (by have := of_eq_true hqd48; have := of_eq_true hqbd48; omega), hx164_0, hx164_1, hx165_0, hx165_1⟩ (fun hHeld => ?_); refine with_tabW spec_l01Steps.tab18 spec_l01Steps.bits18 (fun HT_ HW_ => ?_)
                            generalize wr.drew = w47 at HO_8 HO_10 BK0 BK154 BK155 BK156 HB hx164_0 hx164_1 hx165_0 hx165_1 hHeld ⊢
                            refine pure_ (i := 0) (N := some 51) (v := ?_) (a' := ?_) #[true, false, false, false, false, false, false, false, false, false, false, false, false, false] rfl rfl (any_of HT_.out (by kernel_rfl)) (fun _ _ _ h => h) (Or.inl ⟨by rfl, ?_⟩) ?_ ?_
                            rotate_left
                            ·intro w'
                             go_simp
                             with_reducible rfl
                            rotate_left
                            ·simp only [Act.put, List.setIfInBounds_toArray, List.set_cons_zero, List.set_cons_succ, i64_w, i32_w]
                             rfl
                            refine pure_ (i := 1) (N := some 52) (v := ?_) (a' := ?_) #[true, true, false, false, false, false, false, false, false, false, false, false, false, false] rfl rfl (any_of HT_.out (by kernel_rfl)) (fun _ _ _ h => h) (Or.inl ⟨by rfl, ?_⟩) ?_ ?_
                            rotate_left
                            ·intro w'
                             go_simp
                             with_reducible rfl
                            rotate_left
                            ·simp only [Act.put, List.setIfInBounds_toArray, List.set_cons_zero, List.set_cons_succ, i64_w, i32_w]
                             rfl
                            refine pure_ (i := 2) (N := some 53) (v := ?_) (a' := ?_) #[true, true, true, false, false, false, false, false, false, false, false, false, false, false] rfl rfl (any_of HT_.out (by kernel_rfl)) (fun _ _ _ h => h) (Or.inl ⟨by rfl, ?_⟩) ?_ ?_
                            rotate_left
                            ·intro w'
                             go_simp
                             with_reducible rfl
                            rotate_left
                            ·simp only [Act.put, List.setIfInBounds_toArray, List.set_cons_zero, List.set_cons_succ, i64_w, i32_w]
                             rfl
                            refine pure_ (i := 3) (N := some 54) (v := ?_) (a' := ?_) #[true, true, true, true, false, false, false, false, false, false, false, false, false, false] rfl rfl (any_of HT_.out (by kernel_rfl)) (fun _ _ _ h => h) (Or.inl ⟨by rfl, ?_⟩) ?_ ?_
                            rotate_left
                            ·intro w'
                             go_simp
                             with_reducible rfl
                            rotate_left
                            ·simp only [Act.put, List.setIfInBounds_toArray, List.set_cons_zero, List.set_cons_succ, i64_w, i32_w]
                             rfl
                            refine pure_ (i := 5) (N := some 56) (v := ?_) (a' := ?_) #[true, true, true, true, false, true, false, false, false, false, false, false, false, false] rfl rfl (any_of HT_.out (by kernel_rfl)) (fun _ _ _ h => h) (Or.inl ⟨by rfl, ?_⟩) ?_ ?_
                            rotate_left
                            ·intro w'
                             go_simp
                             with_reducible rfl
                            rotate_left
                            ·simp only [Act.put, List.setIfInBounds_toArray, List.set_cons_zero, List.set_cons_succ, i64_w, i32_w]
                             rfl
                            refine pure_ (i := 6) (N := some 57) (v := ?_) (a' := ?_) #[true, true, true, true, false, true, true, false, false, false, false, false, false, false] rfl rfl (any_of HT_.out (by kernel_rfl)) (fun _ _ _ h => h) (Or.inl ⟨by rfl, ?_⟩) ?_ ?_
                            rotate_left
                            ·intro w'
                             go_simp
                             with_reducible rfl
                            rotate_left
                            ·simp only [Act.put, List.setIfInBounds_toArray, List.set_cons_zero, List.set_cons_succ, i64_w, i32_w]
                             rfl
                            refine pure_ (i := 7) (N := some 58) (v := ?_) (a' := ?_) #[true, true, true, true, false, true, true, true, false, false, false, false, false, false] rfl rfl (any_of HT_.out (by kernel_rfl)) (fun _ _ _ h => h) (Or.inl ⟨by rfl, ?_⟩) ?_ ?_
                            rotate_left
                            ·intro w'
                             go_simp
                             with_reducible rfl
                            rotate_left
                            ·simp only [Act.put, List.setIfInBounds_toArray, List.set_cons_zero, List.set_cons_succ, i64_w, i32_w]
                             rfl
                            refine pure_ (i := 8) (N := some 59) (v := ?_) (a' := ?_) #[true, true, true, true, false, true, true, true, true, false, false, false, false, false] rfl rfl (any_of HT_.out (by kernel_rfl)) (fun _ _ _ h => h) (Or.inl ⟨by rfl, ?_⟩) ?_ ?_
                            rotate_left
                            ·intro w'
                             go_simp
                             with_reducible rfl
                            rotate_left
                            ·simp only [Act.put, List.setIfInBounds_toArray, List.set_cons_zero, List.set_cons_succ, i64_w, i32_w]
                             rfl
                            refine take_ (i := 4) (N := some 55) (v := ?_) (a' := ?_) #[true, true, true, true, true, true, true, true, true, false, false, false, false, false] rfl rfl (take_ofW HT_.out HW_.out (by kernel_rfl)) (fun _ _ _ h => h) (Or.inl ⟨by rfl, ?_⟩) hHeld ?_ ?_
                            rotate_left
                            ·rintro w' ⟨s0, s1, s2, s3, s4⟩
                             go_simp
                             with_reducible rfl
                            rotate_left
                            ·simp only [Act.put, List.setIfInBounds_toArray, List.set_cons_zero, List.set_cons_succ, i64_w, i32_w]
                             rfl
                            refine pure_ (i := 10) (N := some 61) (v := ?_) (a' := ?_) #[true, true, true, true, true, true, true, true, true, false, true, false, false, false] rfl rfl (any_of HT_.out (by kernel_rfl)) (fun _ _ _ h => h) (Or.inl ⟨by rfl, ?_⟩) ?_ ?_
                            rotate_left
                            ·intro w'
                             go_simp
                             with_reducible rfl
                            rotate_left
                            ·simp only [Act.put, List.setIfInBounds_toArray, List.set_cons_zero, List.set_cons_succ, i64_w, i32_w]
                             rfl
                            refine take_ (i := 9) (N := some 60) (v := ?_) (a' := ?_) #[true, true, true, true, true, true, true, true, true, true, true, false, false, false] rfl rfl (take_ofW HT_.out HW_.out (by kernel_rfl)) (fun _ _ _ h => h) (Or.inl ⟨by rfl, ?_⟩) hHeld ?_ ?_
                            rotate_left
                            ·rintro w' ⟨s0, s1, s2, s3, s4⟩
                             go_simp
                             with_reducible rfl
                            rotate_left
                            ·simp only [Act.put, List.setIfInBounds_toArray, List.set_cons_zero, List.set_cons_succ, i64_w, i32_w]
                             rfl
                            refine pure_ (i := 11) (N := some 62) (v := ?_) (a' := ?_) #[true, true, true, true, true, true, true, true, true, true, true, true, false, false] rfl rfl (any_of HT_.out (by kernel_rfl)) (fun _ _ _ h => h) (Or.inl ⟨by rfl, ?_⟩) ?_ ?_
                            rotate_left
                            ·intro w'
                             go_simp
                             with_reducible rfl
                            rotate_left
                            ·simp only [Act.put, List.setIfInBounds_toArray, List.set_cons_zero, List.set_cons_succ, i64_w, i32_w]
                             rfl
                            refine take_ (i := 12) (N := some 63) (v := ?_) (a' := ?_) #[true, true, true, true, true, true, true, true, true, true, true, true, true, false] rfl rfl (take_ofW HT_.out HW_.out (by kernel_rfl)) (fun _ _ _ h => h) (Or.inl ⟨by rfl, ?_⟩) hHeld ?_ ?_
                            rotate_left
                            ·rintro w' ⟨s0, s1, s2, s3, s4⟩
                             go_simp
                             with_reducible rfl
                            rotate_left
                            ·simp only [Act.put, List.setIfInBounds_toArray, List.set_cons_zero, List.set_cons_succ, i64_w, i32_w]
                             rfl
                            refine pure_ (i := 13) (N := some 64) (v := ?_) (a' := ?_) #[true, true, true, true, true, true, true, true, true, true, true, true, true, true] rfl rfl (any_of HT_.out (by kernel_rfl)) (fun _ _ _ h => h) (Or.inl ⟨by rfl, ?_⟩) ?_ ?_
                            rotate_left
                            ·intro w'
                             go_simp
                             with_reducible rfl
                            rotate_left
                            ·simp only [Act.put, List.setIfInBounds_toArray, List.set_cons_zero, List.set_cons_succ, i64_w, i32_w]
                             rfl
                            refine done_ (done_of HT_.out (by kernel_rfl)) ?_
                            try go_wp2
                            have n0_ := Aside0.mk (Kd.R_drew HO_8.out)
                            have n1_ := Aside0.mk (Kd.R_drew HO_10.out)
                            have n2_ := Aside0.mk (blk_drew BK0.out)
                            have n3_ := Aside0.mk (blk_drew BK154.out)
                            have n4_ := Aside0.mk (blk_drew BK155.out)
                            have n5_ := Aside0.mk (blk_drew BK156.out)
                            have n6_ := Aside0.mk (below_drew1 HB.out)
                            clear HO_8
                            clear HO_10
                            clear BK0
                            clear BK154
                            clear BK155
                            clear BK156
                            clear HB
                            have HO_8 := n0_
                            have HO_10 := n1_
                            have BK0 := n2_
                            have BK154 := n3_
                            have BK155 := n4_
                            have BK156 := n5_
                            have HB := n6_
                            clear n0_ n1_ n2_ n3_ n4_ n5_ n6_
                            have p166 : 0 ≤ (x11_3 : Int) := of_decide_eq_true (by first | (with_reducible assumption) | assumption)
                            have q166 : x11_3 < (t161.length : Int) := of_decide_eq_true (by first | (with_reducible assumption) | assumption)
                            obtain ⟨ad166, e166, hx166_0, hx166_1⟩ := at_T34 (Kd.R_reads' HO_10.out).2.2 x11_3 p166 q166
                            obtain rfl : ad164 = ad166 := (by injection e166)
                            replace p166 := eq_true p166
                            replace q166 := eq_true q166
                            have p167 : 0 ≤ (x11_3 : Int) := of_decide_eq_true (by first | (with_reducible assumption) | assumption)
                            have q167 : x11_3 < (t161.length : Int) := of_decide_eq_true (by first | (with_reducible assumption) | assumption)
                            obtain ⟨ad167, e167, hx167_0, hx167_1⟩ := at_T34 (Kd.R_reads' HO_10.out).2.2 x11_3 p167 q167
                            obtain rfl : ad164 = ad167 := (by injection e167)
                            replace p167 := eq_true p167
                            replace q167 := eq_true q167
                            obtain ⟨Ao50, co50, eo50⟩ := Kd.R_slice HO_8.out
                            (first | subst eo50 | (injection eo50 with f1_ f2_ f3_; have f4_ := f1_.symm; have f5_ := f3_.symm; clear f1_ f2_ f3_; subst f4_; subst f5_))
                            have p168 : 0 ≤ (x9_2 : Int) := of_decide_eq_true (by first | (with_reducible assumption) | assumption)
                            have q168 : x9_2 < (x8_3.length : Int) := of_decide_eq_true (by first | (with_reducible assumption) | assumption)
                            obtain ⟨ad168, e168, hx168_0, hx168_1⟩ := at_T34 (Kd.R_reads' HO_8.out).2.2 x9_2 p168 q168
                            cases e168
                            replace p168 := eq_true p168
                            replace q168 := eq_true q168
                            have p169 : 0 ≤ (x9_2 : Int) := of_decide_eq_true (by first | (with_reducible assumption) | assumption)
                            have q169 : x9_2 < (x8_3.length : Int) := of_decide_eq_true (by first | (with_reducible assumption) | assumption)
                            obtain ⟨ad169, e169, hx169_0, hx169_1⟩ := at_T34 (Kd.R_reads' HO_8.out).2.2 x9_2 p169 q169
                            obtain rfl : ad168 = ad169 := (by injection e169)
                            replace p169 := eq_true p169
                            replace q169 := eq_true q169
                            have hpd51 : (0 ≤ ((rd_T34 t161 x11_3).f1)) = True := eq_true (by first | omega | exact of_decide_eq_true (by first | (with_reducible assumption) | assumption))
                            have hqd51 : (((rd_T34 t161 x11_3).f1) < 10) = True := eq_true (by first | omega | exact of_decide_eq_true (by first | (with_reducible assumption) | assumption))
                            have hrd51 : (((rd_T34 t161 x11_3).f1) < ((10 : Nat) : Int)) = True := eq_true (by first | omega | exact of_decide_eq_true (by first | (with_reducible assumption) | assumption))
                            have hpbd51 : (0 ≤ ((rd_T34 t161 x11_3).f0)) = True := eq_true (by first | omega | exact of_decide_eq_true (by first | (with_reducible assumption) | assumption))
                            have hqbd51 : (((rd_T34 t161 x11_3).f0) < 10) = True := eq_true (by first | omega | exact of_decide_eq_true (by first | (with_reducible assumption) | assumption))
                            have hrbd51 : (((rd_T34 t161 x11_3).f0) < ((10 : Nat) : Int)) = True := eq_true (by first | omega | exact of_decide_eq_true (by first | (with_reducible assumption) | assumption))
                            have hpd53 : (0 ≤ ((rd_T34 x8_3 x9_2).f1)) = True := eq_true (by first | omega | exact of_decide_eq_true (by first | (with_reducible assumption) | assumption))
                            have hqd53 : (((rd_T34 x8_3 x9_2).f1) < 10) = True := eq_true (by first | omega | exact of_decide_eq_true (by first | (with_reducible assumption) | assumption))
                            have hrd53 : (((rd_T34 x8_3 x9_2).f1) < ((10 : Nat) : Int)) = True := eq_true (by first | omega | exact of_decide_eq_true (by first | (with_reducible assumption) | assumption))
                            have hpbd53 : (0 ≤ ((rd_T34 x8_3 x9_2).f0)) = True := eq_true (by first | omega | exact of_decide_eq_true (by first | (with_reducible assumption) | assumption))
                            have hqbd53 : (((rd_T34 x8_3 x9_2).f0) < 10) = True := eq_true (by first | omega | exact of_decide_eq_true (by first | (with_reducible assumption) | assumption))
                            have hrbd53 : (((rd_T34 x8_3 x9_2).f0) < ((10 : Nat) : Int)) = True := eq_true (by first | omega | exact of_decide_eq_true (by first | (with_reducible assumption) | assumption))
                            refine start_ (n := 27) (S := fun w' => w'.cell? ⟨gb156, ((rd_T34 x8_3 x9_2).f1).toNat * 10 + ((rd_T34 x8_3 x9_2).f0).toNat, none⟩ = some (.int .i64 (rd x157000_3.l (((rd_T34 x8_3 x9_2).f1) * 10 + ((rd_T34 x8_3 x9_2).f0)))) ∧ w'.cell? (ad164.add ((x11_3).toNat * 2)) = some (.int .i8 ((rd_T34 t161 x11_3).f0)) ∧ w'.cell? ⟨(ad164.add ((x11_3).toNat * 2)).block, (ad164.add ((x11_3).toNat * 2)).off + 1, none⟩ = some (.int .i8 ((rd_T34 t161 x11_3).f1)) ∧ w'.cell? (ad164.add ((x11_3).toNat * 2)) = some (.int .i8 ((rd_T34 t161 x11_3).f0)) ∧ w'.cell? ⟨(ad164.add ((x11_3).toNat * 2)).block, (ad164.add ((x11_3).toNat * 2)).off + 1, none⟩ = some (.int .i8 ((rd_T34 t161 x11_3).f1)) ∧ w'.cell? (ad168.add ((x9_2).toNat * 2)) = some (.int .i8 ((rd_T34 x8_3 x9_2).f0)) ∧ w'.cell? ⟨(ad168.add ((x9_2).toNat * 2)).block, (ad168.add ((x9_2).toNat * 2)).off + 1, none⟩ = some (.int .i8 ((rd_T34 x8_3 x9_2).f1)) ∧ w'.cell? (ad168.add ((x9_2).toNat * 2)) = some (.int .i8 ((rd_T34 x8_3 x9_2).f0)) ∧ w'.cell? ⟨(ad168.add ((x9_2).toNat * 2)).block, (ad168.add ((x9_2).toNat * 2)).off + 1, none⟩ = some (.int .i8 ((rd_T34 x8_3 x9_2).f1))) (ds := [26]) #[false, false, false, false, false, false, false, false, false, false, false, false, false, false, false, false, false, false, false, false, false, false, false, false, false, false, false] (by kernel_rfl) rfl rfl ⟨mix_at2z 10 BK156.out ((rd_T34 x8_3 x9_2).f1) ((rd_T34 x8_3 x9_2).f0) (of_eq_true hpd53) (of_eq_true hpbd53) (by have := of_eq_true hqd53; have := of_eq_true hqbd53; omega), hx166_0, hx166_1, hx167_0, hx167_1, hx168_0, hx168_1, hx169_0, hx169_1⟩ (fun hHeld => ?_); refine with_tabW spec_l01Steps.tab19 spec_l01Steps.bits19 (fun HT_ HW_ => ?_)
                            generalize w47.drew = w49 at HO_8 HO_10 BK0 BK154 BK155 BK156 HB hx166_0 hx166_1 hx167_0 hx167_1 hx168_0 hx168_1 hx169_0 hx169_1 hHeld ⊢
                            refine pure_ (i := 0) (N := some 65) (v := ?_) (a' := ?_) #[true, false, false, false, false, false, false, false, false, false, false, false, false, false, false, false, false, false, false, false, false, false, false, false, false, false, false] rfl rfl (any_of HT_.out (by kernel_rfl)) (fun _ _ _ h => h) (Or.inl ⟨by rfl, ?_⟩) ?_ ?_
                            rotate_left
                            ·intro w'
                             go_simp
                             with_reducible rfl
                            rotate_left
                            ·simp only [Act.put, List.setIfInBounds_toArray, List.set_cons_zero, List.set_cons_succ, i64_w, i32_w]
                             rfl
                            refine pure_ (i := 1) (N := some 66) (v := ?_) (a' := ?_) #[true, true, false, false, false, false, false, false, false, false, false, false, false, false, false, false, false, false, false, false, false, false, false, false, false, false, false] rfl rfl (any_of HT_.out (by kernel_rfl)) (fun _ _ _ h => h) (Or.inl ⟨by rfl, ?_⟩) ?_ ?_
                            rotate_left
                            ·intro w'
                             go_simp
                             with_reducible rfl
                            rotate_left
                            ·simp only [Act.put, List.setIfInBounds_toArray, List.set_cons_zero, List.set_cons_succ, i64_w, i32_w]
                             rfl
                            refine pure_ (i := 2) (N := some 67) (v := ?_) (a' := ?_) #[true, true, true, false, false, false, false, false, false, false, false, false, false, false, false, false, false, false, false, false, false, false, false, false, false, false, false] rfl rfl (any_of HT_.out (by kernel_rfl)) (fun _ _ _ h => h) (Or.inl ⟨by rfl, ?_⟩) ?_ ?_
                            rotate_left
                            ·intro w'
                             go_simp
                             with_reducible rfl
                            rotate_left
                            ·simp only [Act.put, List.setIfInBounds_toArray, List.set_cons_zero, List.set_cons_succ, i64_w, i32_w]
                             rfl
                            refine pure_ (i := 3) (N := some 68) (v := ?_) (a' := ?_) #[true, true, true, true, false, false, false, false, false, false, false, false, false, false, false, false, false, false, false, false, false, false, false, false, false, false, false] rfl rfl (any_of HT_.out (by kernel_rfl)) (fun _ _ _ h => h) (Or.inl ⟨by rfl, ?_⟩) ?_ ?_
                            rotate_left
                            ·intro w'
                             go_simp
                             with_reducible rfl
                            rotate_left
                            ·simp only [Act.put, List.setIfInBounds_toArray, List.set_cons_zero, List.set_cons_succ, i64_w, i32_w]
                             rfl
                            refine pure_ (i := 5) (N := some 70) (v := ?_) (a' := ?_) #[true, true, true, true, false, true, false, false, false, false, false, false, false, false, false, false, false, false, false, false, false, false, false, false, false, false, false] rfl rfl (any_of HT_.out (by kernel_rfl)) (fun _ _ _ h => h) (Or.inl ⟨by rfl, ?_⟩) ?_ ?_
                            rotate_left
                            ·intro w'
                             go_simp
                             with_reducible rfl
                            rotate_left
                            ·simp only [Act.put, List.setIfInBounds_toArray, List.set_cons_zero, List.set_cons_succ, i64_w, i32_w]
                             rfl
                            refine pure_ (i := 6) (N := some 71) (v := ?_) (a' := ?_) #[true, true, true, true, false, true, true, false, false, false, false, false, false, false, false, false, false, false, false, false, false, false, false, false, false, false, false] rfl rfl (any_of HT_.out (by kernel_rfl)) (fun _ _ _ h => h) (Or.inl ⟨by rfl, ?_⟩) ?_ ?_
                            rotate_left
                            ·intro w'
                             go_simp
                             with_reducible rfl
                            rotate_left
                            ·simp only [Act.put, List.setIfInBounds_toArray, List.set_cons_zero, List.set_cons_succ, i64_w, i32_w]
                             rfl
                            refine pure_ (i := 7) (N := some 72) (v := ?_) (a' := ?_) #[true, true, true, true, false, true, true, true, false, false, false, false, false, false, false, false, false, false, false, false, false, false, false, false, false, false, false] rfl rfl (any_of HT_.out (by kernel_rfl)) (fun _ _ _ h => h) (Or.inl ⟨by rfl, ?_⟩) ?_ ?_
                            rotate_left
                            ·intro w'
                             go_simp
                             with_reducible rfl
                            rotate_left
                            ·simp only [Act.put, List.setIfInBounds_toArray, List.set_cons_zero, List.set_cons_succ, i64_w, i32_w]
                             rfl
                            refine pure_ (i := 8) (N := some 73) (v := ?_) (a' := ?_) #[true, true, true, true, false, true, true, true, true, false, false, false, false, false, false, false, false, false, false, false, false, false, false, false, false, false, false] rfl rfl (any_of HT_.out (by kernel_rfl)) (fun _ _ _ h => h) (Or.inl ⟨by rfl, ?_⟩) ?_ ?_
                            rotate_left
                            ·intro w'
                             go_simp
                             with_reducible rfl
                            rotate_left
                            ·simp only [Act.put, List.setIfInBounds_toArray, List.set_cons_zero, List.set_cons_succ, i64_w, i32_w]
                             rfl
                            refine pure_ (i := 10) (N := some 75) (v := ?_) (a' := ?_) #[true, true, true, true, false, true, true, true, true, false, true, false, false, false, false, false, false, false, false, false, false, false, false, false, false, false, false] rfl rfl (any_of HT_.out (by kernel_rfl)) (fun _ _ _ h => h) (Or.inl ⟨by rfl, ?_⟩) ?_ ?_
                            rotate_left
                            ·intro w'
                             go_simp
                             with_reducible rfl
                            rotate_left
                            ·simp only [Act.put, List.setIfInBounds_toArray, List.set_cons_zero, List.set_cons_succ, i64_w, i32_w]
                             rfl
                            refine pure_ (i := 11) (N := some 76) (v := ?_) (a' := ?_) #[true, true, true, true, false, true, true, true, true, false, true, true, false, false, false, false, false, false, false, false, false, false, false, false, false, false, false] rfl rfl (any_of HT_.out (by kernel_rfl)) (fun _ _ _ h => h) (Or.inl ⟨by rfl, ?_⟩) ?_ ?_
                            rotate_left
                            ·intro w'
                             go_simp
                             with_reducible rfl
                            rotate_left
                            ·simp only [Act.put, List.setIfInBounds_toArray, List.set_cons_zero, List.set_cons_succ, i64_w, i32_w]
                             rfl
                            refine pure_ (i := 12) (N := some 77) (v := ?_) (a' := ?_) #[true, true, true, true, false, true, true, true, true, false, true, true, true, false, false, false, false, false, false, false, false, false, false, false, false, false, false] rfl rfl (any_of HT_.out (by kernel_rfl)) (fun _ _ _ h => h) (Or.inl ⟨by rfl, ?_⟩) ?_ ?_
                            rotate_left
                            ·intro w'
                             go_simp
                             with_reducible rfl
                            rotate_left
                            ·simp only [Act.put, List.setIfInBounds_toArray, List.set_cons_zero, List.set_cons_succ, i64_w, i32_w]
                             rfl
                            refine pure_ (i := 13) (N := some 78) (v := ?_) (a' := ?_) #[true, true, true, true, false, true, true, true, true, false, true, true, true, true, false, false, false, false, false, false, false, false, false, false, false, false, false] rfl rfl (any_of HT_.out (by kernel_rfl)) (fun _ _ _ h => h) (Or.inl ⟨by rfl, ?_⟩) ?_ ?_
                            rotate_left
                            ·intro w'
                             go_simp
                             with_reducible rfl
                            rotate_left
                            ·simp only [Act.put, List.setIfInBounds_toArray, List.set_cons_zero, List.set_cons_succ, i64_w, i32_w]
                             rfl
                            refine pure_ (i := 15) (N := some 80) (v := ?_) (a' := ?_) #[true, true, true, true, false, true, true, true, true, false, true, true, true, true, false, true, false, false, false, false, false, false, false, false, false, false, false] rfl rfl (any_of HT_.out (by kernel_rfl)) (fun _ _ _ h => h) (Or.inl ⟨by rfl, ?_⟩) ?_ ?_
                            rotate_left
                            ·intro w'
                             go_simp
                             with_reducible rfl
                            rotate_left
                            ·simp only [Act.put, List.setIfInBounds_toArray, List.set_cons_zero, List.set_cons_succ, i64_w, i32_w]
                             rfl
                            refine pure_ (i := 16) (N := some 81) (v := ?_) (a' := ?_) #[true, true, true, true, false, true, true, true, true, false, true, true, true, true, false, true, true, false, false, false, false, false, false, false, false, false, false] rfl rfl (any_of HT_.out (by kernel_rfl)) (fun _ _ _ h => h) (Or.inl ⟨by rfl, ?_⟩) ?_ ?_
                            rotate_left
                            ·intro w'
                             go_simp
                             with_reducible rfl
                            rotate_left
                            ·simp only [Act.put, List.setIfInBounds_toArray, List.set_cons_zero, List.set_cons_succ, i64_w, i32_w]
                             rfl
                            refine pure_ (i := 17) (N := some 82) (v := ?_) (a' := ?_) #[true, true, true, true, false, true, true, true, true, false, true, true, true, true, false, true, true, true, false, false, false, false, false, false, false, false, false] rfl rfl (any_of HT_.out (by kernel_rfl)) (fun _ _ _ h => h) (Or.inl ⟨by rfl, ?_⟩) ?_ ?_
                            rotate_left
                            ·intro w'
                             go_simp
                             with_reducible rfl
                            rotate_left
                            ·simp only [Act.put, List.setIfInBounds_toArray, List.set_cons_zero, List.set_cons_succ, i64_w, i32_w]
                             rfl
                            refine pure_ (i := 18) (N := some 83) (v := ?_) (a' := ?_) #[true, true, true, true, false, true, true, true, true, false, true, true, true, true, false, true, true, true, true, false, false, false, false, false, false, false, false] rfl rfl (any_of HT_.out (by kernel_rfl)) (fun _ _ _ h => h) (Or.inl ⟨by rfl, ?_⟩) ?_ ?_
                            rotate_left
                            ·intro w'
                             go_simp
                             with_reducible rfl
                            rotate_left
                            ·simp only [Act.put, List.setIfInBounds_toArray, List.set_cons_zero, List.set_cons_succ, i64_w, i32_w]
                             rfl
                            refine take_ (i := 4) (N := some 69) (v := ?_) (a' := ?_) #[true, true, true, true, true, true, true, true, true, false, true, true, true, true, false, true, true, true, true, false, false, false, false, false, false, false, false] rfl rfl (take_ofW HT_.out HW_.out (by kernel_rfl)) (fun _ _ _ h => h) (Or.inl ⟨by rfl, ?_⟩) hHeld ?_ ?_
                            rotate_left
                            ·rintro w' ⟨s0, s1, s2, s3, s4, s5, s6, s7, s8⟩
                             go_simp
                             with_reducible rfl
                            rotate_left
                            ·simp only [Act.put, List.setIfInBounds_toArray, List.set_cons_zero, List.set_cons_succ, i64_w, i32_w]
                             rfl
                            refine pure_ (i := 24) (N := some 89) (v := ?_) (a' := ?_) #[true, true, true, true, true, true, true, true, true, false, true, true, true, true, false, true, true, true, true, false, false, false, false, false, true, false, false] rfl rfl (any_of HT_.out (by kernel_rfl)) (fun _ _ _ h => h) (Or.inl ⟨by rfl, ?_⟩) ?_ ?_
                            rotate_left
                            ·intro w'
                             go_simp
                             with_reducible rfl
                            rotate_left
                            ·simp only [Act.put, List.setIfInBounds_toArray, List.set_cons_zero, List.set_cons_succ, i64_w, i32_w]
                             rfl
                            refine take_ (i := 9) (N := some 74) (v := ?_) (a' := ?_) #[true, true, true, true, true, true, true, true, true, true, true, true, true, true, false, true, true, true, true, false, false, false, false, false, true, false, false] rfl rfl (take_ofW HT_.out HW_.out (by kernel_rfl)) (fun _ _ _ h => h) (Or.inl ⟨by rfl, ?_⟩) hHeld ?_ ?_
                            rotate_left
                            ·rintro w' ⟨s0, s1, s2, s3, s4, s5, s6, s7, s8⟩
                             go_simp
                             with_reducible rfl
                            rotate_left
                            ·simp only [Act.put, List.setIfInBounds_toArray, List.set_cons_zero, List.set_cons_succ, i64_w, i32_w]
                             rfl
                            refine take_ (i := 14) (N := some 79) (v := ?_) (a' := ?_) #[true, true, true, true, true, true, true, true, true, true, true, true, true, true, true, true, true, true, true, false, false, false, false, false, true, false, false] rfl rfl (take_ofW HT_.out HW_.out (by kernel_rfl)) (fun _ _ _ h => h) (Or.inl ⟨by rfl, ?_⟩) hHeld ?_ ?_
                            rotate_left
                            ·rintro w' ⟨s0, s1, s2, s3, s4, s5, s6, s7, s8⟩
                             go_simp
                             with_reducible rfl
                            rotate_left
                            ·simp only [Act.put, List.setIfInBounds_toArray, List.set_cons_zero, List.set_cons_succ, i64_w, i32_w]
                             rfl
                            refine pure_ (i := 20) (N := some 85) (v := ?_) (a' := ?_) #[true, true, true, true, true, true, true, true, true, true, true, true, true, true, true, true, true, true, true, false, true, false, false, false, true, false, false] rfl rfl (any_of HT_.out (by kernel_rfl)) (fun _ _ _ h => h) (Or.inl ⟨by rfl, ?_⟩) ?_ ?_
                            rotate_left
                            ·intro w'
                             go_simp
                             with_reducible rfl
                            rotate_left
                            ·simp only [Act.put, List.setIfInBounds_toArray, List.set_cons_zero, List.set_cons_succ, i64_w, i32_w]
                             rfl
                            refine take_ (i := 19) (N := some 84) (v := ?_) (a' := ?_) #[true, true, true, true, true, true, true, true, true, true, true, true, true, true, true, true, true, true, true, true, true, false, false, false, true, false, false] rfl rfl (take_ofW HT_.out HW_.out (by kernel_rfl)) (fun _ _ _ h => h) (Or.inl ⟨by rfl, ?_⟩) hHeld ?_ ?_
                            rotate_left
                            ·rintro w' ⟨s0, s1, s2, s3, s4, s5, s6, s7, s8⟩
                             go_simp
                             with_reducible rfl
                            rotate_left
                            ·simp only [Act.put, List.setIfInBounds_toArray, List.set_cons_zero, List.set_cons_succ, i64_w, i32_w]
                             rfl
                            refine pure_ (i := 21) (N := some 86) (v := ?_) (a' := ?_) #[true, true, true, true, true, true, true, true, true, true, true, true, true, true, true, true, true, true, true, true, true, true, false, false, true, false, false] rfl rfl (any_of HT_.out (by kernel_rfl)) (fun _ _ _ h => h) (Or.inl ⟨by rfl, ?_⟩) ?_ ?_
                            rotate_left
                            ·intro w'
                             go_simp
                             with_reducible rfl
                            rotate_left
                            ·simp only [Act.put, List.setIfInBounds_toArray, List.set_cons_zero, List.set_cons_succ, i64_w, i32_w]
                             rfl
                            refine take_ (i := 22) (N := some 87) (v := ?_) (a' := ?_) #[true, true, true, true, true, true, true, true, true, true, true, true, true, true, true, true, true, true, true, true, true, true, true, false, true, false, false] rfl rfl (take_ofW HT_.out HW_.out (by kernel_rfl)) (fun _ _ _ h => h) (Or.inl ⟨by rfl, ?_⟩) hHeld ?_ ?_
                            rotate_left
                            ·rintro w' ⟨s0, s1, s2, s3, s4, s5, s6, s7, s8⟩
                             go_simp
                             with_reducible rfl
                            rotate_left
                            ·simp only [Act.put, List.setIfInBounds_toArray, List.set_cons_zero, List.set_cons_succ, i64_w, i32_w]
                             rfl
                            refine pure_ (i := 23) (N := some 88) (v := ?_) (a' := ?_) #[true, true, true, true, true, true, true, true, true, true, true, true, true, true, true, true, true, true, true, true, true, true, true, true, true, false, false] rfl rfl (any_of HT_.out (by kernel_rfl)) (fun _ _ _ h => h) (Or.inl ⟨by rfl, ?_⟩) ?_ ?_
                            rotate_left
                            ·intro w'
                             go_simp
                             with_reducible rfl
                            rotate_left
                            ·simp only [Act.put, List.setIfInBounds_toArray, List.set_cons_zero, List.set_cons_succ, i64_w, i32_w]
                             rfl
                            refine pure_ (i := 25) (N := some 90) (v := ?_) (a' := ?_) #[true, true, true, true, true, true, true, true, true, true, true, true, true, true, true, true, true, true, true, true, true, true, true, true, true, true, false] rfl rfl (any_of HT_.out (by kernel_rfl)) (fun _ _ _ h => h) (Or.inl ⟨by rfl, ?_⟩) ?_ ?_
                            rotate_left
                            ·intro w'
                             go_simp
                             with_reducible rfl
                            rotate_left
                            ·simp only [Act.put, List.setIfInBounds_toArray, List.set_cons_zero, List.set_cons_succ, i64_w, i32_w]
                             rfl
                            refine last_ (i := 26) (N := none) #[true, true, true, true, true, true, true, true, true, true, true, true, true, true, true, true, true, true, true, true, true, true, true, true, true, true, true] rfl rfl (one_of HT_.out (by kernel_rfl)) (by decide) (fun K hK => ?_)
                            have hdd51 : w49.cell? ⟨gb156, ((rd_T34 t161 x11_3).f1).toNat * 10 + ((rd_T34 t161 x11_3).f0).toNat, none⟩ = some (.int .i64 (rd x157000_3.l (((rd_T34 t161 x11_3).f1) * 10 + ((rd_T34 t161 x11_3).f0)))) := mix_at2z 10 BK156.out ((rd_T34 t161 x11_3).f1) ((rd_T34 t161 x11_3).f0) (of_eq_true hpd51) (of_eq_true hpbd51) (by have := of_eq_true hqd51; have := of_eq_true hqbd51; omega)
                            have hfdd51 := blk_frozen BK156.out (((rd_T34 t161 x11_3).f1).toNat * 10 + ((rd_T34 t161 x11_3).f0).toNat)
                            refine storel_step (w1 := (w49.setCell ⟨gb156, ((rd_T34 t161 x11_3).f1).toNat * 10 + ((rd_T34 t161 x11_3).f0).toNat, none⟩ (.int .i64 (wrap64 ((rd x157000_3.l (((rd_T34 x8_3 x9_2).f1) * 10 + ((rd_T34 x8_3 x9_2).f0))) + 1))))) ?hg ?hn ?hr ?_; (case hg => rfl); (case hn => rfl); (case hr => first | (go_simp; done) | (go_simp; rfl))
                            intro w52 hw
                            have hi : w52.heap[gb156]? = some (.cells (mixA (Value.int .i64) [] (LA.set x157000_3 (((rd_T34 t161 x11_3).f1) * 10 + ((rd_T34 t161 x11_3).f0)) (wrap64 ((rd x157000_3.l (((rd_T34 x8_3 x9_2).f1) * 10 + ((rd_T34 x8_3 x9_2).f0))) + 1)))) 125 (0, 0)) := (by rw [hw]; exact mix_set2z 10 BK156.out ((rd_T34 t161 x11_3).f1) ((rd_T34 t161 x11_3).f0) (wrap64 ((rd x157000_3.l (((rd_T34 x8_3 x9_2).f1) * 10 + ((rd_T34 x8_3 x9_2).f0))) + 1)) (of_eq_true hpd51) (of_eq_true hpbd51) (by have := of_eq_true hqd51; have := of_eq_true hqbd51; omega))
                            have hk : KeepBut w49 w52 gb156 none := (by rw [hw]; exact setcell_keep _ _ _ _)
                            have hbl : ∀ B_ a_, Below B_ a_ w49 → B_ ≤ gb156 → Below B_ a_ w52 := (by rw [hw]; exact setcell_below _ _ _ _)
                            clear hw
                            have n0_ := Aside0.mk (Kd.R_mono (Kd.R_keep (Kd.R_types (by (with_reducible repeat (first | apply Kd.R_alloc | apply Kd.R_drewN | apply Kd.R_drew)); exact HO_8.out) (pk BK156) (by decide)) hk (fun _ h => h.2)) (fun _ h => h.1))
                            have n1_ := Aside0.mk (Kd.R_mono (Kd.R_keep (Kd.R_types (by (with_reducible repeat (first | apply Kd.R_alloc | apply Kd.R_drewN | apply Kd.R_drew)); exact HO_10.out) (pk BK156) (by decide)) hk (fun _ h => h.2)) (fun _ h => h.1))
                            have n2_ := Aside0.mk (KeepBut.blk hk (g' := g0) (o := .cells (mixA (Value.int .u16) [.int .i8 s0_0, .int .i8 s0_1] s0_2) 32 (0, 0)) (pk BK0) NB0_156.out (by simp))
                            have n3_ := Aside0.mk (KeepBut.blk hk (g' := gb154) (o := .cells #[.int .i8 a1_0, .int .i8 a1_1] 34 (0, 0)) (pk BK154) NB154_156.out (by simp))
                            have n4_ := Aside0.mk (KeepBut.blk hk (g' := gb155) (o := .cells (mixA (Value.int .i64) [] (LA.zero 100)) 125 (0, 0)) (pk BK155) NB155_156.out (by simp))
                            have n5_ := Aside0.mk (hbl _ _ (pbs HB) GE156.out)
                            have n6_ := Aside0.mk (hi)
                            clear HO_8
                            clear HO_10
                            clear BK0
                            clear BK154
                            clear BK155
                            clear HB
                            clear BK156
                            have HO_8 := n0_
                            have HO_10 := n1_
                            have BK0 := n2_
                            have BK154 := n3_
                            have BK155 := n4_
                            have HB := n5_
                            have BK156 := n6_
                            clear n0_ n1_ n2_ n3_ n4_ n5_ n6_
                            clear hi hk hbl
                            refine hK.out _ _ ?_
                            clear hK K
                            refine done_ (done_of HT_.out (by kernel_rfl)) ?_
                            have p170 : 0 ≤ (x11_3 : Int) := of_decide_eq_true (by first | (with_reducible assumption) | assumption)
                            have q170 : x11_3 < (t161.length : Int) := of_decide_eq_true (by first | (with_reducible assumption) | assumption)
                            obtain ⟨ad170, e170, hx170_0, hx170_1⟩ := at_T34 (Kd.R_reads' HO_10.out).2.2 x11_3 p170 q170
                            obtain rfl : ad164 = ad170 := (by injection e170)
                            replace p170 := eq_true p170
                            replace q170 := eq_true q170
                            try go_wp2_with (first | ((with_reducible refine gate_builtin (b := .append) (xs := #[.tmp 91, .tmp 96]) rfl ?_); at_builtin; refine Kd.R_append k34 (w0 := w) w.heap.size rfl (.tmp 91) (.tmp 96) 29 34 (.agg #[(.int .i8 0), (.int .i8 0)]) 2 rfl Try.underlying29 info34 rfl (by decide) (by omega) (.slice (some ad168) x8_3.length co50) x8_3 (⟨(rd_T34 t161 x11_3).f0, (rd_T34 t161 x11_3).f1⟩ : S34) [.int .i8 ((rd_T34 t161 x11_3).f0), .int .i8 ((rd_T34 t161 x11_3).f1)] (fun k_ => some k_ ≠ (.slice (some ad164) t161.length co46 : Value).ownBlock ∧ k_ ≠ gb154) (fun _ => False) rfl rfl ?aP (fun _ hk => hk.elim) ?aF ?aO ?aB ?aS ?aL ?_; (case aP => exact k34_mkM _ _ _ (⟨(rd_T34 t161 x11_3).f0, (rd_T34 t161 x11_3).f1⟩ : S34)); (case aB => exact (pbs HB)); (case aF => exact (fun k_ hk => ⟨Kd.fresh' (Kd.R_lt (by (with_reducible repeat (first | apply Kd.R_alloc | apply Kd.R_drewN | apply Kd.R_drew)); exact HO_10.out)) k_ hk, Kd.freshB (g := gb154) (o := .cells #[.int .i8 a1_0, .int .i8 a1_1] 34 (0, 0)) (pk BK154) k_ hk⟩)); (case aO => exact (by (with_reducible repeat (first | apply Kd.R_alloc | apply Kd.R_drewN | apply Kd.R_drew)); exact HO_8.out)); (case aS => exact (below_size (by repeat (first | (with_reducible first | exact HB.out | apply below_alloc | apply pw_below_drewN | apply below_drew1 | refine below_set ?_ GE0.out | refine below_set ?_ GE154.out | refine below_set ?_ GE155.out | refine below_set ?_ GE156.out) | exact HB.out)))); (case aL => have := LMc45.out; omega); intro v172 w54 ho hb hg hat; rw [← Ny171.out] at ho; have n0_ := Aside0.mk (Kd.R_after (ok := (fun k_ => k_ ≠ gb154)) (by (with_reducible repeat (first | apply Kd.R_alloc | apply Kd.R_drewN | apply Kd.R_drew)); exact Kd.R_mono HO_10.out (fun _ hk => ⟨hk.2, hk.1⟩)) hg hat); have n1_ := Aside0.mk (blk_grown (g := g0) (o := .cells (mixA (Value.int .u16) [.int .i8 s0_0, .int .i8 s0_1] s0_2) 32 (0, 0)) (pk BK0) hg (Kd.R_ne HO_8.out BK0.out (by decide))); have n2_ := Aside0.mk (blk_grown (g := gb154) (o := .cells #[.int .i8 a1_0, .int .i8 a1_1] 34 (0, 0)) (pk BK154) hg (Kd.R_away HO_8.out (fun _ hk => hk.2))); have n3_ := Aside0.mk (blk_grown (g := gb155) (o := .cells (mixA (Value.int .i64) [] (LA.zero 100)) 125 (0, 0)) (pk BK155) hg (Kd.R_ne HO_8.out BK155.out (by decide))); have n4_ := Aside0.mk (blk_grown (g := gb156) (o := .cells (mixA (Value.int .i64) [] (LA.set x157000_3 (((rd_T34 t161 x11_3).f1) * 10 + ((rd_T34 t161 x11_3).f0)) (wrap64 ((rd x157000_3.l (((rd_T34 x8_3 x9_2).f1) * 10 + ((rd_T34 x8_3 x9_2).f0))) + 1)))) 125 (0, 0)) (pk BK156) hg (Kd.R_ne HO_8.out BK156.out (by decide))); have n5_ := Aside0.mk (hb); have n6_ := Aside0.mk (ho); clear HO_10; clear BK0; clear BK154; clear BK155; clear BK156; clear HB; clear HO_8; have HO_10 := n0_; have BK0 := n1_; have BK154 := n2_; have BK155 := n3_; have BK156 := n4_; have HB := n5_; have HO173 := n6_; clear n0_ n1_ n2_ n3_ n4_ n5_ n6_; clear ho hb hg hat))
                            go_roundg k3
                            case measure => have := HK1.out; have := HK2.out; have := HK3.out; omega
                            case rel => exact ⟨(y171), (wrap64 (x11_3 + 1)), ((LA.set x157000_3 (((rd_T34 t161 x11_3).f1) * 10 + ((rd_T34 t161 x11_3).f0)) (wrap64 ((rd x157000_3.l (((rd_T34 x8_3 x9_2).f1) * 10 + ((rd_T34 x8_3 x9_2).f0))) + 1)))), (by first | rfl | (simp; done) | (simp [*]; done)), H', ⟨by have := HK1.out; have := HK2.out; have := HK3.out; omega⟩, ⟨by (with_reducible repeat (first | apply Kd.R_alloc | apply Kd.R_drewN | apply Kd.R_drew)); exact HO173.out⟩, ⟨by (with_reducible repeat (first | apply Kd.R_alloc | apply Kd.R_drewN | apply Kd.R_drew)); exact Kd.R_mono HO_10.out (fun _ hk => ⟨hk.2, hk.1⟩)⟩, ⟨pk BK0⟩, ⟨pk BK154⟩, ⟨pk BK155⟩, ⟨pk BK156⟩, ⟨pbs HB⟩⟩
                           ·rw [if_neg c45] at H
                            exact absurd H (by simp)
                          ·rw [if_neg c44] at H
                           exact absurd H (by simp)
                         ·rw [if_neg c43] at H
                          exact absurd H (by simp)
                        ·rw [if_neg c42] at H
                         exact absurd H (by simp)
                       ·rw [if_neg c41] at H
                        exact absurd H (by simp)
                      ·rw [if_neg c40] at H
                       exact absurd H (by simp)
                     ·rw [if_neg c39] at H
                      exact absurd H (by simp)
                    ·rw [if_neg c38] at H
                     have c38b0 : decide ((rd x157000_3.l (((rd_T34 t161 x11_3).f1) * 10 + ((rd_T34 t161 x11_3).f0))) < 0) = false := decide_eq_false c38
                     clear c38
                     have H' := Aside0.mk H
                     clear H
                     obtain ⟨Ao55, co55, eo55⟩ := Kd.R_slice HO_10.out
                     subst eo55
                     try go_wp2
                     have n0_ := Aside0.mk (Kd.R_drew HO_8.out)
                     have n1_ := Aside0.mk (Kd.R_drew HO_10.out)
                     have n2_ := Aside0.mk (blk_drew BK0.out)
                     have n3_ := Aside0.mk (blk_drew BK154.out)
                     have n4_ := Aside0.mk (blk_drew BK155.out)
                     have n5_ := Aside0.mk (blk_drew BK156.out)
                     have n6_ := Aside0.mk (below_drew1 HB.out)
                     clear HO_8
                     clear HO_10
                     clear BK0
                     clear BK154
                     clear BK155
                     clear BK156
                     clear HB
                     have HO_8 := n0_
                     have HO_10 := n1_
                     have BK0 := n2_
                     have BK154 := n3_
                     have BK155 := n4_
                     have BK156 := n5_
                     have HB := n6_
                     clear n0_ n1_ n2_ n3_ n4_ n5_ n6_
                     have p164 : 0 ≤ (x11_3 : Int) := of_decide_eq_true (by first | (with_reducible assumption) | assumption)
                     have q164 : x11_3 < (t161.length : Int) := of_decide_eq_true (by first | (with_reducible assumption) | assumption)
                     obtain ⟨ad164, e164, hx164_0, hx164_1⟩ := at_T34 (Kd.R_reads' HO_10.out).2.2 x11_3 p164 q164
                     cases e164
                     replace p164 := eq_true p164
                     replace q164 := eq_true q164
                     have p165 : 0 ≤ (x11_3 : Int) := of_decide_eq_true (by first | (with_reducible assumption) | assumption)
                     have q165 : x11_3 < (t161.length : Int) := of_decide_eq_true (by first | (with_reducible assumption) | assumption)
                     obtain ⟨ad165, e165, hx165_0, hx165_1⟩ := at_T34 (Kd.R_reads' HO_10.out).2.2 x11_3 p165 q165
                     obtain rfl : ad164 = ad165 := (by injection e165)
                     replace p165 := eq_true p165
                     replace q165 := eq_true q165
                     have hpd57 : (0 ≤ ((rd_T34 t161 x11_3).f1)) = True := eq_true (by first | omega | exact of_decide_eq_true (by first | (with_reducible assumption) | assumption))
                     have hqd57 : (((rd_T34 t161 x11_3).f1) < 10) = True := eq_true (by first | omega | exact of_decide_eq_true (by first | (with_reducible assumption) | assumption))
                     have hrd57 : (((rd_T34 t161 x11_3).f1) < ((10 : Nat) : Int)) = True := eq_true (by first | omega | exact of_decide_eq_true (by first | (with_reducible assumption) | assumption))
                     have hpbd57 : (0 ≤ ((rd_T34 t161 x11_3).f0)) = True := eq_true (by first | omega | exact of_decide_eq_true (by first | (with_reducible assumption) | assumption))
                     have hqbd57 : (((rd_T34 t161 x11_3).f0) < 10) = True := eq_true (by first | omega | exact of_decide_eq_true (by first | (with_reducible assumption) | assumption))
                     have hrbd57 : (((rd_T34 t161 x11_3).f0) < ((10 : Nat) : Int)) = True := eq_true (by first | omega | exact of_decide_eq_true (by first | (with_reducible assumption) | assumption))
                     refine start_ (n := 14) (S := fun w' => w'.cell? ⟨gb156, ((rd_T34 t161 x11_3).f1).toNat * 10 + ((rd_T34 t161 x11_3).f0).toNat, none⟩ = some (.int .i64 (rd x157000_3.l (((rd_T34 t161 x11_3).f1) * 10 + ((rd_T34 t161 x11_3).f0)))) ∧ w'.cell? (ad164.add ((x11_3).toNat * 2)) = some (.int .i8 ((rd_T34 t161 x11_3).f0)) ∧ w'.cell? ⟨(ad164.add ((x11_3).toNat * 2)).block, (ad164.add ((x11_3).toNat * 2)).off + 1, none⟩ = some (.int .i8 ((rd_T34 t161 x11_3).f1)) ∧ w'.cell? (ad164.add ((x11_3).toNat * 2)) = some (.int .i8 ((rd_T34 t161 x11_3).f0)) ∧ w'.cell? ⟨(ad164.add ((x11_3).toNat * 2)).block, (ad164.add ((x11_3).toNat * 2)).off + 1, none⟩ = some (.int .i8 ((rd_T34 t161 x11_3).f1))) (ds := []) #[false, false, false, false, false, false, false, false, false, false, false, false, false, false] (by kernel_rfl) rfl rfl ⟨mix_at2z 10 BK156.out ((rd_T34 t161 x11_3).f1) ((rd_T34 t161 x11_3).f0) (of_eq_true hpd57) (of_eq_true hpbd57) (by have := of_eq_true hqd57; have := of_eq_true hqbd57; omega), hx164_0, hx164_1, hx165_0, hx165_1⟩ (fun hHeld => ?_); refine with_tabW spec_l01Steps.tab18 spec_l01Steps.bits18 (fun HT_ HW_ => ?_)
                     generalize wr.drew = w56 at HO_8 HO_10 BK0 BK154 BK155 BK156 HB hx164_0 hx164_1 hx165_0 hx165_1 hHeld ⊢
                     refine pure_ (i := 0) (N := some 51) (v := ?_) (a' := ?_) #[true, false, false, false, false, false, false, false, false, false, false, false, false, false] rfl rfl (any_of HT_.out (by kernel_rfl)) (fun _ _ _ h => h) (Or.inl ⟨by rfl, ?_⟩) ?_ ?_
                     rotate_left
                     ·intro w'
                      go_simp
                      with_reducible rfl
                     rotate_left
                     ·simp only [Act.put, List.setIfInBounds_toArray, List.set_cons_zero, List.set_cons_succ, i64_w, i32_w]
                      rfl
                     refine pure_ (i := 1) (N := some 52) (v := ?_) (a' := ?_) #[true, true, false, false, false, false, false, false, false, false, false, false, false, false] rfl rfl (any_of HT_.out (by kernel_rfl)) (fun _ _ _ h => h) (Or.inl ⟨by rfl, ?_⟩) ?_ ?_
                     rotate_left
                     ·intro w'
                      go_simp
                      with_reducible rfl
                     rotate_left
                     ·simp only [Act.put, List.setIfInBounds_toArray, List.set_cons_zero, List.set_cons_succ, i64_w, i32_w]
                      rfl
                     refine pure_ (i := 2) (N := some 53) (v := ?_) (a' := ?_) #[true, true, true, false, false, false, false, false, false, false, false, false, false, false] rfl rfl (any_of HT_.out (by kernel_rfl)) (fun _ _ _ h => h) (Or.inl ⟨by rfl, ?_⟩) ?_ ?_
                     rotate_left
                     ·intro w'
                      go_simp
                      with_reducible rfl
                     rotate_left
                     ·simp only [Act.put, List.setIfInBounds_toArray, List.set_cons_zero, List.set_cons_succ, i64_w, i32_w]
                      rfl
                     refine pure_ (i := 3) (N := some 54) (v := ?_) (a' := ?_) #[true, true, true, true, false, false, false, false, false, false, false, false, false, false] rfl rfl (any_of HT_.out (by kernel_rfl)) (fun _ _ _ h => h) (Or.inl ⟨by rfl, ?_⟩) ?_ ?_
                     rotate_left
                     ·intro w'
                      go_simp
                      with_reducible rfl
                     rotate_left
                     ·simp only [Act.put, List.setIfInBounds_toArray, List.set_cons_zero, List.set_cons_succ, i64_w, i32_w]
                      rfl
                     refine pure_ (i := 5) (N := some 56) (v := ?_) (a' := ?_) #[true, true, true, true, false, true, false, false, false, false, false, false, false, false] rfl rfl (any_of HT_.out (by kernel_rfl)) (fun _ _ _ h => h) (Or.inl ⟨by rfl, ?_⟩) ?_ ?_
                     rotate_left
                     ·intro w'
                      go_simp
                      with_reducible rfl
                     rotate_left
                     ·simp only [Act.put, List.setIfInBounds_toArray, List.set_cons_zero, List.set_cons_succ, i64_w, i32_w]
                      rfl
                     refine pure_ (i := 6) (N := some 57) (v := ?_) (a' := ?_) #[true, true, true, true, false, true, true, false, false, false, false, false, false, false] rfl rfl (any_of HT_.out (by kernel_rfl)) (fun _ _ _ h => h) (Or.inl ⟨by rfl, ?_⟩) ?_ ?_
                     rotate_left
                     ·intro w'
                      go_simp
                      with_reducible rfl
                     rotate_left
                     ·simp only [Act.put, List.setIfInBounds_toArray, List.set_cons_zero, List.set_cons_succ, i64_w, i32_w]
                      rfl
                     refine pure_ (i := 7) (N := some 58) (v := ?_) (a' := ?_) #[true, true, true, true, false, true, true, true, false, false, false, false, false, false] rfl rfl (any_of HT_.out (by kernel_rfl)) (fun _ _ _ h => h) (Or.inl ⟨by rfl, ?_⟩) ?_ ?_
                     rotate_left
                     ·intro w'
                      go_simp
                      with_reducible rfl
                     rotate_left
                     ·simp only [Act.put, List.setIfInBounds_toArray, List.set_cons_zero, List.set_cons_succ, i64_w, i32_w]
                      rfl
                     refine pure_ (i := 8) (N := some 59) (v := ?_) (a' := ?_) #[true, true, true, true, false, true, true, true, true, false, false, false, false, false] rfl rfl (any_of HT_.out (by kernel_rfl)) (fun _ _ _ h => h) (Or.inl ⟨by rfl, ?_⟩) ?_ ?_
                     rotate_left
                     ·intro w'
                      go_simp
                      with_reducible rfl
                     rotate_left
                     ·simp only [Act.put, List.setIfInBounds_toArray, List.set_cons_zero, List.set_cons_succ, i64_w, i32_w]
                      rfl
                     refine take_ (i := 4) (N := some 55) (v := ?_) (a' := ?_) #[true, true, true, true, true, true, true, true, true, false, false, false, false, false] rfl rfl (take_ofW HT_.out HW_.out (by kernel_rfl)) (fun _ _ _ h => h) (Or.inl ⟨by rfl, ?_⟩) hHeld ?_ ?_
                     rotate_left
                     ·rintro w' ⟨s0, s1, s2, s3, s4⟩
                      go_simp
                      with_reducible rfl
                     rotate_left
                     ·simp only [Act.put, List.setIfInBounds_toArray, List.set_cons_zero, List.set_cons_succ, i64_w, i32_w]
                      rfl
                     refine pure_ (i := 10) (N := some 61) (v := ?_) (a' := ?_) #[true, true, true, true, true, true, true, true, true, false, true, false, false, false] rfl rfl (any_of HT_.out (by kernel_rfl)) (fun _ _ _ h => h) (Or.inl ⟨by rfl, ?_⟩) ?_ ?_
                     rotate_left
                     ·intro w'
                      go_simp
                      with_reducible rfl
                     rotate_left
                     ·simp only [Act.put, List.setIfInBounds_toArray, List.set_cons_zero, List.set_cons_succ, i64_w, i32_w]
                      rfl
                     refine take_ (i := 9) (N := some 60) (v := ?_) (a' := ?_) #[true, true, true, true, true, true, true, true, true, true, true, false, false, false] rfl rfl (take_ofW HT_.out HW_.out (by kernel_rfl)) (fun _ _ _ h => h) (Or.inl ⟨by rfl, ?_⟩) hHeld ?_ ?_
                     rotate_left
                     ·rintro w' ⟨s0, s1, s2, s3, s4⟩
                      go_simp
                      with_reducible rfl
                     rotate_left
                     ·simp only [Act.put, List.setIfInBounds_toArray, List.set_cons_zero, List.set_cons_succ, i64_w, i32_w]
                      rfl
                     refine pure_ (i := 11) (N := some 62) (v := ?_) (a' := ?_) #[true, true, true, true, true, true, true, true, true, true, true, true, false, false] rfl rfl (any_of HT_.out (by kernel_rfl)) (fun _ _ _ h => h) (Or.inl ⟨by rfl, ?_⟩) ?_ ?_
                     rotate_left
                     ·intro w'
                      go_simp
                      with_reducible rfl
                     rotate_left
                     ·simp only [Act.put, List.setIfInBounds_toArray, List.set_cons_zero, List.set_cons_succ, i64_w, i32_w]
                      rfl
                     refine take_ (i := 12) (N := some 63) (v := ?_) (a' := ?_) #[true, true, true, true, true, true, true, true, true, true, true, true, true, false] rfl rfl (take_ofW HT_.out HW_.out (by kernel_rfl)) (fun _ _ _ h => h) (Or.inl ⟨by rfl, ?_⟩) hHeld ?_ ?_
                     rotate_left
                     ·rintro w' ⟨s0, s1, s2, s3, s4⟩
                      go_simp
                      with_reducible rfl
                     rotate_left
                     ·simp only [Act.put, List.setIfInBounds_toArray, List.set_cons_zero, List.set_cons_succ, i64_w, i32_w]
                      rfl
                     refine pure_ (i := 13) (N := some 64) (v := ?_) (a' := ?_) #[true, true, true, true, true, true, true, true, true, true, true, true, true, true] rfl rfl (any_of HT_.out (by kernel_rfl)) (fun _ _ _ h => h) (Or.inl ⟨by rfl, ?_⟩) ?_ ?_
                     rotate_left
                     ·intro w'
                      go_simp
                      with_reducible rfl
                     rotate_left
                     ·simp only [Act.put, List.setIfInBounds_toArray, List.set_cons_zero, List.set_cons_succ, i64_w, i32_w]
                      rfl
                     refine done_ (done_of HT_.out (by kernel_rfl)) ?_
                     try go_wp2
                     go_roundg k3
                     case measure => have := HK1.out; have := HK2.out; have := HK3.out; omega
                     case rel => exact ⟨(x8_3), (wrap64 (x11_3 + 1)), (x157000_3), (by first | rfl | (simp; done) | (simp [*]; done)), H', ⟨by have := HK1.out; have := HK2.out; have := HK3.out; omega⟩, ⟨by (with_reducible repeat (first | apply Kd.R_alloc | apply Kd.R_drewN | apply Kd.R_drew)); exact HO_8.out⟩, ⟨by (with_reducible repeat (first | apply Kd.R_alloc | apply Kd.R_drewN | apply Kd.R_drew)); exact HO_10.out⟩, ⟨pk BK0⟩, ⟨pk BK154⟩, ⟨pk BK155⟩, ⟨pk BK156⟩, ⟨pbs HB⟩⟩
                   ·rw [if_neg c37] at H
                    exact absurd H (by simp)
                  ·rw [if_neg c36] at H
                   exact absurd H (by simp)
                 ·rw [if_neg c35] at H
                  exact absurd H (by simp)
                ·rw [if_neg c34] at H
                 exact absurd H (by simp)
               ·rw [if_neg c33] at H
                exact absurd H (by simp)
              ·rw [if_neg c32] at H
               have c32b0 : decide (x11_3 < (t161.length : Int)) = false := decide_eq_false c32
               clear c32
               have H' := Aside0.mk H
               clear H
               obtain ⟨Ao58, co58, eo58⟩ := Kd.R_slice HO_10.out
               subst eo58
               go_wp2
               go_roundg k3
               case measure => have := HK1.out; have := HK2.out; have := HK3.out; omega
               case rel => exact ⟨(x8_3), (wrap64 (x9_2 + 1)), (x157000_3), (by first | rfl | (simp; done) | (simp [*]; done)), H', ⟨by have := HK1.out; have := HK2.out; have := HK3.out; omega⟩, ⟨by (with_reducible repeat (first | apply Kd.R_alloc | apply Kd.R_drewN | apply Kd.R_drew)); exact Kd.R_mono HO_8.out (fun _ hk => hk.2)⟩, ⟨pk BK0⟩, ⟨pk BK154⟩, ⟨pk BK155⟩, ⟨pk BK156⟩, ⟨pbs HB⟩⟩
           ·rw [if_neg c28] at H
            exact absurd H (by simp)
          ·rw [if_neg c27] at H
           have c27b0 : decide (x9_2 < (x8_2.length : Int)) = false := decide_eq_false c27
           clear c27
           obtain rfl := Option.some.inj H
           obtain ⟨Ao59, co59, eo59⟩ := Kd.R_slice HO_8.out
           subst eo59
           go_wp2_with (first | ((with_reducible refine gate_dst (N := 98) rfl ?_); refine wpList_run0 (v := .agg (mixA (Value.int .i64) [] x157000_2)) rfl (load_mix_run (P := Try.prog) 125 (.tmp 5) rfl gb156 rfl (show World.rangeAt _ gb156 0 ([] ++ x157000_2.l.map (Value.int .i64)) from mix_range (show (World.heap _)[gb156]? = some (.cells (mixA (Value.int .i64) [] x157000_2) 125 (0, 0)) from by (with_reducible repeat (first | refine blk_drewN ?_ _ | refine blk_drew ?_ | refine blk_alloc ?_ _)); exact BK156.out)) Try.underlying125 rfl (by kernel_rfl) rfl) ?_) | ((with_reducible refine gate_store (p := 4) rfl ?_); refine wpList_store_lmix rfl 125 _ _ rfl gb155 (e := (Value.int .i64)) (cs' := []) (W' := x157000_2) (cs := []) (W := (LA.zero 100)) (T := 125) rfl rfl (pk BK155) rfl (by kernel_rfl) rfl (fun _ => rfl) rfl ?_; intro w61 hi hk hbl; have n0_ := Aside0.mk (Kd.R_mono (Kd.R_keep (Kd.R_types (by (with_reducible repeat (first | apply Kd.R_alloc | apply Kd.R_drewN | apply Kd.R_drew)); exact HO_8.out) (pk BK155) (by decide)) hk (fun _ h => h.2)) (fun _ h => h.1)); have n1_ := Aside0.mk (KeepBut.blk hk (g' := g0) (o := .cells (mixA (Value.int .u16) [.int .i8 s0_0, .int .i8 s0_1] s0_2) 32 (0, 0)) (pk BK0) NB0_155.out (by simp)); have n2_ := Aside0.mk (KeepBut.blk hk (g' := gb154) (o := .cells #[.int .i8 a1_0, .int .i8 a1_1] 34 (0, 0)) (pk BK154) NB154_155.out (by simp)); have n3_ := Aside0.mk (KeepBut.blk hk (g' := gb156) (o := .cells (mixA (Value.int .i64) [] x157000_2) 125 (0, 0)) (pk BK156) NB156_155.out (by simp)); have n4_ := Aside0.mk (hbl _ _ (pbs HB) GE155.out); have n5_ := Aside0.mk (hi); clear HO_8; clear BK0; clear BK154; clear BK156; clear HB; clear BK155; have HO_8 := n0_; have BK0 := n1_; have BK154 := n2_; have BK156 := n3_; have HB := n4_; have BK155 := n5_; clear n0_ n1_ n2_ n3_ n4_ n5_; clear hi hk hbl))
           refine bodyPost_ret (results_cell_row rfl _ _ gb155 125 (mixA (Value.int .i64) [] x157000_2) (0, 0) _ rfl (pk BK155) Try.underlying125 rfl (by rw [mix_size]; kernel_rfl)) rfl ?_
           exact ⟨by first | rfl | (simp [errW_none, errW_some] <;> rfl) | (simp [*, errW_none, errW_some] <;> rfl), pbs HB⟩
       ·rw [if_neg c17] at H
        exact absurd H (by simp)
      ·rw [if_neg c16] at H
       exact absurd H (by simp)
     ·rw [if_neg c15] at H
      exact absurd H (by simp)
    ·rw [if_neg c14] at H
     exact absurd H (by simp)
end Go.Proofs.Ytoiiabnnddlcbaa.PB
end
section
namespace Go.Proofs.Ytoiiabnnddlcbaa.PB
open Go.RowKit Go.Proofs.YtoiiabnnddlcbaaW.PrintWords Go.Proofs.YtoiiabnnddlcbaaW.PrintLast Go.Proofs.YtoiiabnnddlcbaaW.PrintMore Go.Proofs.Ytoiiabnnddlcbaa.La Go.Proofs.Ytoiiabnnddlcbaa.Mp
attribute [local go_sem] max2_int min2_int max_two min_two max_three min_three max_four min_four   -- for this text's walks alone
set_option linter.unusedVariables false
set_option linter.unusedSimpArgs false
def laws_szSpotS.f (l0 : List (S28)) (a1 : Int) : Option (Int) := if (wrap64 (a1 - (l0.length : Int))) < 0 then (some (-1)) else (some (wrap64 (a1 - (l0.length : Int))))
set_option maxHeartbeats 8000000 in
set_option maxRecDepth 100000 in
theorem laws_szSpotS.calls (A0 : Option Addr) (c0 : Nat) (l0 : List (S28)) (a1 : Int) (r : Int) (w : World) (hr0 : Kd.C k28 w A0 l0.length l0) (hc0 : l0.length ≤ c0) (h : laws_szSpotS.f l0 a1 = some r) :
  Calls Try.prog 20 #[.slice A0 l0.length c0, .int .i64 a1] w fun e w' => e = .returned (.int .i64 r) ∧ Drawn0 w w' := by
 have HR0 := Aside0.mk hr0
 have HC0 := Aside0.mk hc0
 clear hr0 hc0
 have H : (if (wrap64 (a1 - (l0.length : Int))) < 0 then (some (-1)) else (some (wrap64 (a1 - (l0.length : Int))))) = some r := h
 clear h
 by_cases c3 : (wrap64 (a1 - (l0.length : Int))) < 0
 ·rw [if_pos c3] at H
  have c3b0 : decide ((wrap64 (a1 - (l0.length : Int))) < 0) = true := decide_eq_true c3
  clear c3
  obtain rfl := Option.some.inj H
  go_enter Try.func20, Try.ntmps20
  go_wp2
  go_ret
  exact ⟨by first | rfl | (simp; done) | (simp [*]; done), by repeat (first | exact Drawn0.refl _ | apply Drawn0.step)⟩
 ·rw [if_neg c3] at H
  have c3b0 : decide ((wrap64 (a1 - (l0.length : Int))) < 0) = false := decide_eq_false c3
  clear c3
  obtain rfl := Option.some.inj H
  go_enter Try.func20, Try.ntmps20
  go_wp2
  go_ret
  exact ⟨by first | rfl | (simp; done) | (simp [*]; done), by repeat (first | exact Drawn0.refl _ | apply Drawn0.step)⟩
def laws_toSpotS.l0 : Nat → List (S28) → List (S34) → Int → Option ((List (S34)))
 | 0, _, _, _ => none
 | k + 1, x0, x3, x4 => if x4 < (x0.length : Int) then (if 0 ≤ x4 then ((laws_toSpot.f ((rd_T28 x0 x4).f0) ((rd_T28 x0 x4).f1)).bind fun bt340 => (if x4 < (x3.length : Int) then (laws_toSpotS.l0 k x0 (x3.set (x4 : Int).toNat (⟨bt340.1, bt340.2⟩ : S34)) (wrap64 (x4 + 1))) else (none))) else (none)) else (some x3)
def laws_toSpotS.f (k : Nat) (l0 : List (S28)) : Option ((List (S34))) := if 0 ≤ (l0.length : Int) then (if ((l0.length : Int) : Int).toNat ≤ 140737488355328 then (laws_toSpotS.l0 k l0 (List.replicate ((l0.length : Int) : Int).toNat z34) 0) else (none)) else (none)
theorem laws_toSpotS.mono_l : ∀ k, (∀ y0 y1 y2, LeO (laws_toSpotS.l0 k y0 y1 y2) (laws_toSpotS.l0 (k + 1) y0 y1 y2))
 | 0 => fun _ _ _ r h => by simp [laws_toSpotS.l0] at h
 | k + 1 => by
  have ih0 := laws_toSpotS.mono_l k
  ·intro y0 y1 y2
   unfold laws_toSpotS.l0
   repeat' first
   | (with_reducible exact ih0 _ _ _)
   | (with_reducible exact LeO.refl _)
   | (with_reducible exact LeO.none _)
   | (with_reducible refine LeO.ite ?_ ?_)
   | (with_reducible refine LeO.bind ?_ (fun _ => ?_))
   | exact ih0 _ _ _
   | exact LeO.none _
   | refine LeO.ite ?_ ?_
   | refine LeO.bind ?_ (fun _ => ?_)
theorem laws_toSpotS.mono : ∀ a0 k, LeO (laws_toSpotS.f k a0) (laws_toSpotS.f (k + 1) a0) := by
 intro a0 k
 have ih0 := laws_toSpotS.mono_l k
 unfold laws_toSpotS.f
 repeat' first
   | (with_reducible exact ih0 _ _ _)
   | (with_reducible exact LeO.refl _)
   | (with_reducible exact LeO.none _)
   | (with_reducible refine LeO.ite ?_ ?_)
   | (with_reducible refine LeO.bind ?_ (fun _ => ?_))
   | exact ih0 _ _ _
   | exact LeO.none _
   | refine LeO.ite ?_ ?_
   | refine LeO.bind ?_ (fun _ => ?_)
set_option maxHeartbeats 8000000 in
set_option maxRecDepth 100000 in
theorem laws_toSpotS.calls (k : Nat) (A0 : Option Addr) (c0 : Nat) (l0 : List (S28)) (r : List (S34)) (w : World) (hr0 : Kd.C k28 w A0 l0.length l0) (hc0 : l0.length ≤ c0) (h : laws_toSpotS.f k l0 = some r) :
  Calls Try.prog 22 #[.slice A0 l0.length c0] w fun e w' => ∃ v0_ : Value, e = .returned (v0_) ∧ Kd.R k34 34 w' w.heap.size (fun _ => True) v0_ r ∧ Below w.heap.size w w' := by
 have hu28 := Try.underlying28
 have hu34 := Try.underlying34
 have HR0 := Aside0.mk hr0
 have HC0 := Aside0.mk hc0
 clear hr0 hc0
 have HB := Aside0.mk (Below.refl w.heap.size w)
 have H : (if 0 ≤ (l0.length : Int) then (if ((l0.length : Int) : Int).toNat ≤ 140737488355328 then (laws_toSpotS.l0 k l0 (List.replicate ((l0.length : Int) : Int).toNat z34) 0) else (none)) else (none)) = some r := h
 clear h
 by_cases c2 : 0 ≤ (l0.length : Int)
 ·rw [if_pos c2] at H
  have c2b0 := eq_true c2
  have c2b1 : decide (0 ≤ (l0.length : Int)) = true := decide_eq_true c2
  clear c2
  by_cases c3 : ((l0.length : Int) : Int).toNat ≤ 140737488355328
  ·rw [if_pos c3] at H
   have c3b0 := eq_true c3
   have c3b1 : decide (((l0.length : Int) : Int).toNat ≤ 140737488355328) = true := decide_eq_true c3
   clear c3
   obtain ⟨y336, hy336⟩ : ∃ y_ : List (S34), y_ = (List.replicate ((l0.length : Int) : Int).toNat z34) := ⟨_, rfl⟩
   replace H : (laws_toSpotS.l0 k l0 y336 0) = some r := by first | (rw [hy336]; with_reducible exact H) | (have H2_ := (Option.bind_some _ _).symm.trans H; rw [hy336]; with_reducible exact H2_) | (have H2_ := (Option.bind_some _ _).symm.trans H; with_reducible exact H2_) | with_reducible exact H | (rw [hy336]; exact H) | exact H
   have Ny336 := Aside0.mk hy336
   clear hy336
   have H' := Aside0.mk H
   clear H
   go_enter Try.func22, Try.ntmps22
   go_wp2_with (first | ((with_reducible refine gate_dst (N := 7) rfl ?_); refine Kd.R_make k34 _ 34 rfl (N := 7) rfl 29 _ _ rfl (l0.length : Int) rfl rfl Try.underlying29 (.agg #[(.int .i8 0), (.int .i8 0)]) 2 info34 rfl (by decide) (by omega) z34 (ok := fun _ => True) (okp := fun _ => True) (k34_mkM _ _ _ z34 ) (fun _ hk => hk) trivial (of_decide_eq_true (by first | (with_reducible assumption) | assumption)) (Nat.le_trans (Nat.mul_le_mul_right _ (of_decide_eq_true (by first | (with_reducible assumption) | assumption) : (l0.length : Int).toNat ≤ 140737488355328)) (by omega)) (Below.refl _ _) (Nat.le_refl _) ?_; intro v337 w4 ho5 hb hg_ hnew_; clear hg_ hnew_; (first | rw [← Ny336.out] at ho5 | (simp only [Int.reduceToNat] at ho5; rw [← Ny336.out] at ho5)); have n0_ := Aside0.mk (Kd.R_lower ho5 (below_size (by repeat (first | (with_reducible first | exact HB.out | apply below_alloc | apply pw_below_drewN | apply below_drew1) | exact HB.out)))); have n1_ := bst HB hb; clear HB; have HO338 := n0_; have HB := n1_; clear n0_ n1_; clear hb ho5))
   go_loopg [4] k (fun kq v4 w' => ∃ (x3_1 : List (S34)) (x4_1 : Int), v4 = .int .i64 x4_1 ∧ Aside0 (laws_toSpotS.l0 kq l0 x3_1 x4_1 = some r) ∧ Aside0 (kq ≤ k) ∧ Aside0 (Kd.R k34 34 w' w.heap.size (fun _ => True) v337 x3_1) ∧ Aside0 (Below w.heap.size w w'))
   case atStart => exact ⟨(y336), (0), (by first | rfl | (simp; done) | (simp [*]; done)), H', ⟨Nat.le_refl _⟩, ⟨by (with_reducible repeat (first | apply Kd.R_alloc | apply Kd.R_drewN | apply Kd.R_drew)); exact HO338.out⟩, ⟨pb HB⟩⟩
   case round =>
    clear H'
    try clear c2
    try clear c2b0
    try clear c2b1
    try clear p2
    try clear c3
    try clear c3b0
    try clear c3b1
    obtain ⟨x3_1, x4_1, rfl, HA, HK1, HO_3, HB⟩ := hrel
    cases gk with
    | zero => exact absurd HA.out (by simp [laws_toSpotS.l0])
    | succ k1 =>
     have H := HA.out
     clear HA
     simp only [laws_toSpotS.l0] at H
     by_cases c6 : x4_1 < (l0.length : Int)
     ·rw [if_pos c6] at H
      have c6b0 : decide (x4_1 < (l0.length : Int)) = true := decide_eq_true c6
      clear c6
      by_cases c7 : 0 ≤ x4_1
      ·rw [if_pos c7] at H
       have c7b0 : decide (0 ≤ x4_1) = true := decide_eq_true c7
       clear c7
       replace H := Option.bind_eq_some_iff.mp H
       obtain ⟨⟨t340, t341⟩, A80, H⟩ := H
       replace H : (if x4_1 < (x3_1.length : Int) then (laws_toSpotS.l0 k1 l0 (x3_1.set (x4_1 : Int).toNat (⟨t340, t341⟩ : S34)) (wrap64 (x4_1 + 1))) else (none)) = some r := H
       have A8 := Aside0.mk A80
       clear A80
       by_cases c9 : x4_1 < (x3_1.length : Int)
       ·rw [if_pos c9] at H
        have c9b0 : decide (x4_1 < (x3_1.length : Int)) = true := decide_eq_true c9
        clear c9
        obtain ⟨y342, hy342⟩ : ∃ y_ : List (S34), y_ = (x3_1.set (x4_1 : Int).toNat (⟨t340, t341⟩ : S34)) := ⟨_, rfl⟩
        replace H : (laws_toSpotS.l0 k1 l0 y342 (wrap64 (x4_1 + 1))) = some r := by first | (rw [hy342]; with_reducible exact H) | (have H2_ := (Option.bind_some _ _).symm.trans H; rw [hy342]; with_reducible exact H2_) | (have H2_ := (Option.bind_some _ _).symm.trans H; with_reducible exact H2_) | with_reducible exact H | (rw [hy342]; exact H) | exact H
        have Ny342 := Aside0.mk hy342
        clear hy342
        have H' := Aside0.mk H
        clear H
        have p339 : 0 ≤ (x4_1 : Int) := of_decide_eq_true (by first | (with_reducible assumption) | assumption)
        have q339 : x4_1 < (l0.length : Int) := of_decide_eq_true (by first | (with_reducible assumption) | assumption)
        obtain ⟨ad339, e339, hx339_0, hx339_1⟩ := at_T28 HR0.out x4_1 p339 q339
        cases e339
        replace hx339_0 := (HB.out.cell (World.block_lt_of_cell? w _ hx339_0)).trans hx339_0
        replace hx339_1 := (HB.out.cell (World.block_lt_of_cell? w _ hx339_1)).trans hx339_1
        replace p339 := eq_true p339
        replace q339 := eq_true q339
        go_wp2_with (first | ((with_reducible refine gate_callee (f := 15) rfl ?_); refine goesL_ (some 20) rfl rfl Try.func15 (by kernel_rfl) rfl #[.agg #[.int .i8 ((rd_T28 l0 x4_1).f0), .int .i8 ((rd_T28 l0 x4_1).f1)]] rfl (by (try simp only [List.map_toArray, List.map_cons, List.map_nil]); first | done | rfl | (simp only [List.length_drop, List.length_take]; rfl)) ?_; (with_reducible refine (laws_toSpot.calls ((rd_T28 l0 x4_1).f0) ((rd_T28 l0 x4_1).f1) t340 t341 _ A8.out).mono ?_); rintro e w11 ⟨rfl, hb⟩; refine ⟨_, rfl, ?_⟩; have n0_ := krb HO_3 hb; have n1_ := bst HB hb; clear HO_3; clear HB; have HO_3 := n0_; have HB := n1_; clear n0_ n1_; (try clear hb); (try clear hb2); (try clear hk); (try clear hi); have p10 : 0 ≤ (x4_1 : Int) := of_decide_eq_true (by first | (with_reducible assumption) | assumption); have q10 : (x4_1 : Int) < ((x3_1.length : Int) : Int) := of_decide_eq_true (by first | (with_reducible assumption) | assumption); obtain ⟨go10, co10, eo10, gb10, gl10, cl10, HG10⟩ := Kd.R_form HO_3.out (by omega); (first | cases eo10 | (injection eo10 with ea_ en_ ec_; (first | subst ea_ | (injection ea_ with ea_; subst ea_)); subst ec_; clear en_)); have GB10 := Aside0.mk gb10; have GG10 := Aside0.mk HG10; clear gb10 gl10 HG10; obtain ⟨ce10, hcl10, hM10, hcc10, hfr10⟩ := Kd.R_elem HO_3.out z34 (x4_1 : Int) p10 q10; obtain rfl := k34_openM hM10; have hx10_0 : w11.cell? ⟨go10, (x4_1 : Int).toNat * 2, none⟩ = some (.int .i8 ((rd_T34 x3_1 x4_1).f0)) := hcc10 0 _ rfl; have hx10_1 : w11.cell? ⟨go10, (x4_1 : Int).toNat * 2 + 1, none⟩ = some (.int .i8 ((rd_T34 x3_1 x4_1).f1)) := hcc10 1 _ rfl; have hf10_0 : w11.frozen? ⟨go10, (x4_1 : Int).toNat * 2, none⟩ = false := hfr10 0; have hf10_1 : w11.frozen? ⟨go10, (x4_1 : Int).toNat * 2 + 1, none⟩ = false := hfr10 1; clear hcl10 hcc10 hfr10 hM10; replace p10 := eq_true p10; replace q10 := eq_true q10; have HX12 := Aside0.mk (show Kd.R k34 34 w11 w.heap.size (fun _ => True) (.slice (some ⟨go10, 0, none⟩) x3_1.length co10) x3_1 from (by (with_reducible repeat (first | apply Kd.R_alloc | apply Kd.R_drewN | apply Kd.R_drew)); exact HO_3.out)); obtain ⟨ce12, hcl12, hM12, hcc12, hfr12⟩ := Kd.R_elem HX12.out z34 (x4_1 : Int) (of_decide_eq_true (by first | (with_reducible assumption) | assumption)) (by have h_ : (x4_1 : Int) < ((x3_1.length : Int) : Int) := of_decide_eq_true (by first | (with_reducible assumption) | assumption); first | exact h_ | (have e_ := (Kd.R_reads' HO_3.out).1; omega) | simpa using h_); obtain rfl := k34_openM hM12; have HP12 := Kd.R_seg HX12.out (x4_1 : Int) (of_decide_eq_true (by first | (with_reducible assumption) | assumption)) (by have h_ : (x4_1 : Int) < ((x3_1.length : Int) : Int) := of_decide_eq_true (by first | (with_reducible assumption) | assumption); first | exact h_ | (have e_ := (Kd.R_reads' HO_3.out).1; omega) | simpa using h_) (seg := [.int .i8 t340, .int .i8 t341]) (j := 0) hcl12 hcc12 (show 2 ≤ 2 from by decide) (x' := (⟨t340, t341⟩ : S34)) (k34_mkM _ _ _ (⟨t340, t341⟩ : S34) ) (fun _ hk => hk); have hx12_0 := hcc12 0 _ rfl; (try simp only [show (k34).sz = 2 from rfl, Nat.mul_one, Nat.add_zero] at hx12_0); have hf12_0 := hfr12 0; (try simp only [show (k34).sz = 2 from rfl, Nat.mul_one, Nat.add_zero] at hf12_0); have hx12_1 := hcc12 1 _ rfl; (try simp only [show (k34).sz = 2 from rfl, Nat.mul_one, Nat.add_zero] at hx12_1); have hf12_1 := hfr12 1; (try simp only [show (k34).sz = 2 from rfl, Nat.mul_one, Nat.add_zero] at hf12_1); clear hcl12 hcc12 hfr12 hM12) | ((with_reducible refine gate_store (t := 34) (p := 21) rfl ?_); refine store_event (t := 34) (p := 21) (v := ?vo_w13) (w1 := ((w11.setCell ⟨go10, (x4_1 : Int).toNat * 2, none⟩ (.int .i8 t340)).setCell ⟨go10, (x4_1 : Int).toNat * 2 + 1, none⟩ (.int .i8 t341))) ?hg ?ho ?hn ?hr ?_; (case ho => rfl); (case hg => rfl); (case hn => rfl); (case hr => first | (go_simp; done) | (go_simp; rfl)); intro w13 hw; have hg : w11.grownBy w13 (some go10) := (by rw [hw]; exact HP12.2); have hp_ : Kd.R k34 34 w13 w.heap.size (fun _ => True) (.slice (some ⟨go10, 0, none⟩) x3_1.length co10) y342 := (by rw [hw, Ny342.out]; exact HP12.1); clear HP12; have n0_ := Aside0.mk (hp_); have n1_ := Aside0.mk ((by rw [hw]; exact below_set (below_set (HB.out) GB10.out) GB10.out : Below w.heap.size w w13)); clear HO_3; clear HB; have HO_3 := n0_; have HB := n1_; clear n0_ n1_; clear hg hw hp_))
        go_roundg k1
        case measure => have := HK1.out; omega
        case rel => exact ⟨(y342), (wrap64 (x4_1 + 1)), (by first | rfl | (simp; done) | (simp [*]; done)), H', ⟨by have := HK1.out; omega⟩, ⟨by (with_reducible repeat (first | apply Kd.R_alloc | apply Kd.R_drewN | apply Kd.R_drew)); exact HO_3.out⟩, ⟨pb HB⟩⟩
       ·rw [if_neg c9] at H
        exact absurd H (by simp)
      ·rw [if_neg c7] at H
       exact absurd H (by simp)
     ·rw [if_neg c6] at H
      have c6b0 : decide (x4_1 < (l0.length : Int)) = false := decide_eq_false c6
      clear c6
      obtain rfl := Option.some.inj H
      go_wp2
      go_ret
      exact ⟨_, by first | rfl | (simp [errW_none, errW_some] <;> rfl) | (simp [*, errW_none, errW_some] <;> rfl), by (with_reducible repeat (first | apply Kd.R_alloc | apply Kd.R_drewN | apply Kd.R_drew)); exact HO_3.out, pb HB⟩
  ·rw [if_neg c3] at H
   exact absurd H (by simp)
 ·rw [if_neg c2] at H
  exact absurd H (by simp)
def spec_l06Calling.f (k : Nat) (s0_0 : Int) (s0_1 : Int) (s0_2 : LA 10) (l1 : List (S34)) (a2 : Int) : Option (Int) := (spec_l06Loud.f a2).bind fun t343 => ((spec_l06Asked.f k s0_0 s0_1 s0_2 l1 t343).bind fun t344 => (if t344 = 0 then (if (l1.length : Int) > 20 then (some 3) else (some t344)) else (some t344)))
theorem spec_l06Calling.mono : ∀ a0 a1 a2 a3 a4 k, LeO (spec_l06Calling.f k a0 a1 a2 a3 a4) (spec_l06Calling.f (k + 1) a0 a1 a2 a3 a4) := by
 intro a0 a1 a2 a3 a4 k
 unfold spec_l06Calling.f
 repeat' first
   | (with_reducible exact spec_l06Asked.mono _ _ _ _ _ _)
   | (with_reducible exact LeO.refl _)
   | (with_reducible exact LeO.none _)
   | (with_reducible refine LeO.ite ?_ ?_)
   | (with_reducible refine LeO.bind ?_ (fun _ => ?_))
   | exact spec_l06Asked.mono _ _ _ _ _ _
   | exact LeO.none _
   | refine LeO.ite ?_ ?_
   | refine LeO.bind ?_ (fun _ => ?_)
set_option maxHeartbeats 8000000 in
set_option maxRecDepth 100000 in
theorem spec_l06Calling.calls (k : Nat) (g0 : Nat) (s0_0 : Int) (s0_1 : Int) (s0_2 : LA 10) (A1 : Option Addr) (c1 : Nat) (l1 : List (S34)) (a2 : Int) (r : Int) (w : World) (hb0 : w.heap[g0]? = some (.cells (mixA (Value.int .u16) [.int .i8 s0_0, .int .i8 s0_1] s0_2) 32 (0, 0))) (hr1 : Kd.C k34 w A1 l1.length l1) (hc1 : l1.length ≤ c1) (h : spec_l06Calling.f k s0_0 s0_1 s0_2 l1 a2 = some r) :
  Calls Try.prog 72 #[.pointer (some ⟨g0, 0, none⟩), .slice A1 l1.length c1, .int .i64 a2] w fun e w' => e = .returned (.int .i64 r) ∧ Below w.heap.size w w' := by
 have HR1 := Aside0.mk hr1
 have HC1 := Aside0.mk hc1
 clear hr1 hc1
 have BK0 := Aside0.mk hb0
 clear hb0
 have HB := Aside0.mk (Below.refl w.heap.size w)
 have H : ((spec_l06Loud.f a2).bind fun t343 => ((spec_l06Asked.f k s0_0 s0_1 s0_2 l1 t343).bind fun t344 => (if t344 = 0 then (if (l1.length : Int) > 20 then (some 3) else (some t344)) else (some t344)))) = some r := h
 clear h
 replace H := Option.bind_eq_some_iff.mp H
 obtain ⟨t343, A40, H⟩ := H
 replace H : ((spec_l06Asked.f k s0_0 s0_1 s0_2 l1 t343).bind fun t344 => (if t344 = 0 then (if (l1.length : Int) > 20 then (some 3) else (some t344)) else (some t344))) = some r := H
 have A4 := Aside0.mk A40
 clear A40
 replace H := Option.bind_eq_some_iff.mp H
 obtain ⟨t344, A50, H⟩ := H
 replace H : (if t344 = 0 then (if (l1.length : Int) > 20 then (some 3) else (some t344)) else (some t344)) = some r := H
 have A5 := Aside0.mk A50
 clear A50
 by_cases c6 : t344 = 0
 ·rw [if_pos c6] at H
  have c6b0 : (t344 == 0) = true := beq_iff_eq.mpr c6
  have c6b1 : (t344 != 0) = false := bne_eq_false_iff_eq.mpr c6
  clear c6
  by_cases c7 : (l1.length : Int) > 20
  ·rw [if_pos c7] at H
   have c7b0 : decide (20 < (l1.length : Int)) = true := decide_eq_true c7
   have c7b1 : decide (20 < l1.length) = true := decide_eq_true (by omega)
   clear c7
   obtain rfl := Option.some.inj H
   go_enter Try.func72, Try.ntmps72
   go_wp2_with (first | ((with_reducible refine gate_callee (f := 66) rfl ?_); refine goesL_ (some 11) rfl rfl Try.func66 (by kernel_rfl) rfl #[.int .i64 a2] rfl (by (try simp only [List.map_toArray, List.map_cons, List.map_nil]); first | done | rfl | (simp only [List.length_drop, List.length_take]; rfl)) ?_; (with_reducible refine (spec_l06Loud.calls a2 t343 _ A4.out).mono ?_); rintro e w' ⟨rfl, ⟨nd, rfl⟩⟩; refine ⟨_, rfl, ?_⟩) | ((with_reducible refine gate_callee (f := 65) rfl ?_); refine goesL_ (some 12) rfl rfl Try.func65 (by kernel_rfl) rfl #[.pointer (some ⟨g0, 0, none⟩), .slice A1 l1.length c1, .bool t343] rfl (by (try simp only [List.map_toArray, List.map_cons, List.map_nil]); first | done | rfl | (simp only [List.length_drop, List.length_take]; rfl)) ?_; (with_reducible refine (spec_l06Asked.calls k g0 s0_0 s0_1 s0_2 _ _ l1 t343 t344 _ ?side1 ?side2 ?side3 A5.out).mono ?_); (case side1 => exact (pk BK0)); (case side2 => repeat (first | exact HR1.out | (with_reducible refine Kd.C_alloc ?_ _) | (with_reducible refine Kd.C_drewN ?_ _) | (with_reducible refine Kd.C_drew ?_))); (case side3 => exact HC1.out); rintro e w8 ⟨rfl, hb⟩; refine ⟨_, rfl, ?_⟩; have n0_ := bkb BK0 hb; have n1_ := bst HB hb; clear BK0; clear HB; have BK0 := n0_; have HB := n1_; clear n0_ n1_; (try clear hb); (try clear hb2); (try clear hk); (try clear hi)))
   go_ret
   exact ⟨by first | rfl | (simp [errW_none, errW_some] <;> rfl) | (simp [*, errW_none, errW_some] <;> rfl), pbs HB⟩
  ·rw [if_neg c7] at H
   have c7b0 : decide (20 < (l1.length : Int)) = false := decide_eq_false c7
   have c7b1 : decide (20 < l1.length) = false := decide_eq_false (by omega)
   clear c7
   obtain rfl := Option.some.inj H
   go_enter Try.func72, Try.ntmps72
   go_wp2_with (first | ((with_reducible refine gate_callee (f := 66) rfl ?_); refine goesL_ (some 11) rfl rfl Try.func66 (by kernel_rfl) rfl #[.int .i64 a2] rfl (by (try simp only [List.map_toArray, List.map_cons, List.map_nil]); first | done | rfl | (simp only [List.length_drop, List.length_take]; rfl)) ?_; (with_reducible refine (spec_l06Loud.calls a2 t343 _ A4.out).mono ?_); rintro e w' ⟨rfl, ⟨nd, rfl⟩⟩; refine ⟨_, rfl, ?_⟩) | ((with_reducible refine gate_callee (f := 65) rfl ?_); refine goesL_ (some 12) rfl rfl Try.func65 (by kernel_rfl) rfl #[.pointer (some ⟨g0, 0, none⟩), .slice A1 l1.length c1, .bool t343] rfl (by (try simp only [List.map_toArray, List.map_cons, List.map_nil]); first | done | rfl | (simp only [List.length_drop, List.length_take]; rfl)) ?_; (with_reducible refine (spec_l06Asked.calls k g0 s0_0 s0_1 s0_2 _ _ l1 t343 t344 _ ?side1 ?side2 ?side3 A5.out).mono ?_); (case side1 => exact (pk BK0)); (case side2 => repeat (first | exact HR1.out | (with_reducible refine Kd.C_alloc ?_ _) | (with_reducible refine Kd.C_drewN ?_ _) | (with_reducible refine Kd.C_drew ?_))); (case side3 => exact HC1.out); rintro e w9 ⟨rfl, hb⟩; refine ⟨_, rfl, ?_⟩; have n0_ := bkb BK0 hb; have n1_ := bst HB hb; clear BK0; clear HB; have BK0 := n0_; have HB := n1_; clear n0_ n1_; (try clear hb); (try clear hb2); (try clear hk); (try clear hi)))
   go_ret
   exact ⟨by first | rfl | (simp [errW_none, errW_some] <;> rfl) | (simp [*, errW_none, errW_some] <;> rfl), pbs HB⟩
 ·rw [if_neg c6] at H
  have c6b0 : (t344 == 0) = false := beq_eq_false_iff_ne.mpr c6
  have c6b1 : (t344 != 0) = true := bne_iff_ne.mpr c6
  obtain rfl := Option.some.inj H
  go_enter Try.func72, Try.ntmps72
  go_wp2_with (first | ((with_reducible refine gate_callee (f := 66) rfl ?_); refine goesL_ (some 11) rfl rfl Try.func66 (by kernel_rfl) rfl #[.int .i64 a2] rfl (by (try simp only [List.map_toArray, List.map_cons, List.map_nil]); first | done | rfl | (simp only [List.length_drop, List.length_take]; rfl)) ?_; (with_reducible refine (spec_l06Loud.calls a2 t343 _ A4.out).mono ?_); rintro e w' ⟨rfl, ⟨nd, rfl⟩⟩; refine ⟨_, rfl, ?_⟩) | ((with_reducible refine gate_callee (f := 65) rfl ?_); refine goesL_ (some 12) rfl rfl Try.func65 (by kernel_rfl) rfl #[.pointer (some ⟨g0, 0, none⟩), .slice A1 l1.length c1, .bool t343] rfl (by (try simp only [List.map_toArray, List.map_cons, List.map_nil]); first | done | rfl | (simp only [List.length_drop, List.length_take]; rfl)) ?_; (with_reducible refine (spec_l06Asked.calls k g0 s0_0 s0_1 s0_2 _ _ l1 t343 t344 _ ?side1 ?side2 ?side3 A5.out).mono ?_); (case side1 => exact (pk BK0)); (case side2 => repeat (first | exact HR1.out | (with_reducible refine Kd.C_alloc ?_ _) | (with_reducible refine Kd.C_drewN ?_ _) | (with_reducible refine Kd.C_drew ?_))); (case side3 => exact HC1.out); rintro e w10 ⟨rfl, hb⟩; refine ⟨_, rfl, ?_⟩; have n0_ := bkb BK0 hb; have n1_ := bst HB hb; clear BK0; clear HB; have BK0 := n0_; have HB := n1_; clear n0_ n1_; (try clear hb); (try clear hb2); (try clear hk); (try clear hi)))
  go_ret
  exact ⟨by first | rfl | (simp [errW_none, errW_some] <;> rfl) | (simp [*, errW_none, errW_some] <;> rfl), pbs HB⟩
mutual
def spec_l06Heard.l0 : Nat → List (S34) → Int → List (S34) → List Int → Int → Int → Int → LA 10 → Option (List Int)
 | 0, _, _, _, _, _, _, _, _ => none
 | k + 1, x1, x2, x7, x8, x9, x1000, x1001, x1002 => if x9 < (x7.length : Int) then (if 0 ≤ x9 then ((spec_l01Steps.f k x1000 x1001 x1002 ((rd_T34 x7 x9).f0) ((rd_T34 x7 x9).f1)).bind fun t352 => (spec_l06Heard.l1 k x1 x2 x7 x8 x9 0 0 x1000 x1001 x1002 t352)) else (none)) else (some x8)
def spec_l06Heard.l1 : Nat → List (S34) → Int → List (S34) → List Int → Int → Int → Int → Int → Int → LA 10 → LA 100 → Option (List Int)
 | 0, _, _, _, _, _, _, _, _, _, _, _ => none
 | k + 1, x1, x2, x7, x8, x9, x11, x12, x1000, x1001, x1002, x354000 => if x12 < (x1.length : Int) then (if 0 ≤ x12 then (if 0 ≤ ((rd_T34 x1 x12).f1) then (if ((rd_T34 x1 x12).f1) < 10 then (if 0 ≤ ((rd_T34 x1 x12).f0) then (if ((rd_T34 x1 x12).f0) < 10 then ((spec_l00In.f (rd x354000.l (((rd_T34 x1 x12).f1) * 10 + ((rd_T34 x1 x12).f0))) 0 x2).bind fun t356 => (if t356 = true then (if 0 ≤ (IntKind.u64.wrap (x12)) then (spec_l06Heard.l1 k x1 x2 x7 x8 x9 (Go.bits .or .u32 x11 (shl .u32 1 (IntKind.u64.wrap (x12)))) (wrap64 (x12 + 1)) x1000 x1001 x1002 x354000) else (none)) else (spec_l06Heard.l1 k x1 x2 x7 x8 x9 x11 (wrap64 (x12 + 1)) x1000 x1001 x1002 x354000))) else (none)) else (none)) else (none)) else (none)) else (none)) else (if x8.length < 35184372088832 then (spec_l06Heard.l0 k x1 x2 x7 (x8 ++ [x11]) (wrap64 (x9 + 1)) x1000 x1001 x1002) else (none))
end
def spec_l06Heard.f (k : Nat) (s0_0 : Int) (s0_1 : Int) (s0_2 : LA 10) (l1 : List (S34)) (a2 : Int) : Option (List Int) := (spec_l01All.f k s0_0 s0_1 s0_2).bind fun t345 => (spec_l06Heard.l0 k l1 a2 t345 (([] : List Int)) 0 s0_0 s0_1 s0_2)
theorem spec_l06Heard.mono_l : ∀ k, (∀ y0 y1 y2 y3 y4 y5 y6 y7, LeO (spec_l06Heard.l0 k y0 y1 y2 y3 y4 y5 y6 y7) (spec_l06Heard.l0 (k + 1) y0 y1 y2 y3 y4 y5 y6 y7)) ∧ (∀ y0 y1 y2 y3 y4 y5 y6 y7 y8 y9 y10, LeO (spec_l06Heard.l1 k y0 y1 y2 y3 y4 y5 y6 y7 y8 y9 y10) (spec_l06Heard.l1 (k + 1) y0 y1 y2 y3 y4 y5 y6 y7 y8 y9 y10))
 | 0 => ⟨fun _ _ _ _ _ _ _ _ r h => by simp [spec_l06Heard.l0] at h, fun _ _ _ _ _ _ _ _ _ _ _ r h => by simp [spec_l06Heard.l1] at h⟩
 | k + 1 => by
  obtain ⟨ih0, ih1⟩ := spec_l06Heard.mono_l k
  refine ⟨?_, ?_⟩
  ·intro y0 y1 y2 y3 y4 y5 y6 y7
   unfold spec_l06Heard.l0
   repeat' first
   | (with_reducible exact ih0 _ _ _ _ _ _ _ _)
   | (with_reducible exact ih1 _ _ _ _ _ _ _ _ _ _ _)
   | (with_reducible exact spec_l01All.mono _ _ _ _)
   | (with_reducible exact spec_l01Steps.mono _ _ _ _ _ _)
   | (with_reducible exact LeO.refl _)
   | (with_reducible exact LeO.none _)
   | (with_reducible refine LeO.ite ?_ ?_)
   | (with_reducible refine LeO.bind ?_ (fun _ => ?_))
   | exact ih0 _ _ _ _ _ _ _ _
   | exact ih1 _ _ _ _ _ _ _ _ _ _ _
   | exact spec_l01All.mono _ _ _ _
   | exact spec_l01Steps.mono _ _ _ _ _ _
   | exact LeO.none _
   | refine LeO.ite ?_ ?_
   | refine LeO.bind ?_ (fun _ => ?_)
  ·intro y0 y1 y2 y3 y4 y5 y6 y7 y8 y9 y10
   unfold spec_l06Heard.l1
   repeat' first
   | (with_reducible exact ih0 _ _ _ _ _ _ _ _)
   | (with_reducible exact ih1 _ _ _ _ _ _ _ _ _ _ _)
   | (with_reducible exact spec_l01All.mono _ _ _ _)
   | (with_reducible exact spec_l01Steps.mono _ _ _ _ _ _)
   | (with_reducible exact LeO.refl _)
   | (with_reducible exact LeO.none _)
   | (with_reducible refine LeO.ite ?_ ?_)
   | (with_reducible refine LeO.bind ?_ (fun _ => ?_))
   | exact ih0 _ _ _ _ _ _ _ _
   | exact ih1 _ _ _ _ _ _ _ _ _ _ _
   | exact spec_l01All.mono _ _ _ _
   | exact spec_l01Steps.mono _ _ _ _ _ _
   | exact LeO.none _
   | refine LeO.ite ?_ ?_
   | refine LeO.bind ?_ (fun _ => ?_)
theorem spec_l06Heard.mono : ∀ a0 a1 a2 a3 a4 k, LeO (spec_l06Heard.f k a0 a1 a2 a3 a4) (spec_l06Heard.f (k + 1) a0 a1 a2 a3 a4) := by
 intro a0 a1 a2 a3 a4 k
 obtain ⟨ih0, ih1⟩ := spec_l06Heard.mono_l k
 unfold spec_l06Heard.f
 repeat' first
   | (with_reducible exact ih0 _ _ _ _ _ _ _ _)
   | (with_reducible exact ih1 _ _ _ _ _ _ _ _ _ _ _)
   | (with_reducible exact spec_l01All.mono _ _ _ _)
   | (with_reducible exact spec_l01Steps.mono _ _ _ _ _ _)
   | (with_reducible exact LeO.refl _)
   | (with_reducible exact LeO.none _)
   | (with_reducible refine LeO.ite ?_ ?_)
   | (with_reducible refine LeO.bind ?_ (fun _ => ?_))
   | exact ih0 _ _ _ _ _ _ _ _
   | exact ih1 _ _ _ _ _ _ _ _ _ _ _
   | exact spec_l01All.mono _ _ _ _
   | exact spec_l01Steps.mono _ _ _ _ _ _
   | exact LeO.none _
   | refine LeO.ite ?_ ?_
   | refine LeO.bind ?_ (fun _ => ?_)
set_option maxHeartbeats 8000000 in
set_option maxRecDepth 100000 in
theorem spec_l06Heard.calls (k : Nat) (g0 : Nat) (s0_0 : Int) (s0_1 : Int) (s0_2 : LA 10) (A1 : Option Addr) (c1 : Nat) (l1 : List (S34)) (a2 : Int) (r : List Int) (w : World) (hb0 : w.heap[g0]? = some (.cells (mixA (Value.int .u16) [.int .i8 s0_0, .int .i8 s0_1] s0_2) 32 (0, 0))) (hr1 : Kd.C k34 w A1 l1.length l1) (hc1 : l1.length ≤ c1) (h : spec_l06Heard.f k s0_0 s0_1 s0_2 l1 a2 = some r) :
  Calls Try.prog 73 #[.pointer (some ⟨g0, 0, none⟩), .slice A1 l1.length c1, .int .i64 a2] w fun e w' => ∃ v0_ : Value, e = .returned (v0_) ∧ Kd.R (Kd.int .u32) 86 w' w.heap.size (fun _ => True) v0_ r ∧ Below w.heap.size w w' := by
 have hu34 := Try.underlying34
 have HR1 := Aside0.mk hr1
 have HC1 := Aside0.mk hc1
 clear hr1 hc1
 have BK0 := Aside0.mk hb0
 clear hb0
 have HB := Aside0.mk (Below.refl w.heap.size w)
 have H : ((spec_l01All.f k s0_0 s0_1 s0_2).bind fun t345 => (spec_l06Heard.l0 k l1 a2 t345 (([] : List Int)) 0 s0_0 s0_1 s0_2)) = some r := h
 clear h
 replace H := Option.bind_eq_some_iff.mp H
 obtain ⟨t345, A40, H⟩ := H
 replace H : (spec_l06Heard.l0 k l1 a2 t345 (([] : List Int)) 0 s0_0 s0_1 s0_2) = some r := H
 have A4 := Aside0.mk A40
 clear A40
 obtain ⟨y348, hy348⟩ : ∃ y_ : List Int, y_ = (([] : List Int)) := ⟨_, rfl⟩
 replace H : (spec_l06Heard.l0 k l1 a2 t345 y348 0 s0_0 s0_1 s0_2) = some r := by first | (rw [hy348]; with_reducible exact H) | (have H2_ := (Option.bind_some _ _).symm.trans H; rw [hy348]; with_reducible exact H2_) | (have H2_ := (Option.bind_some _ _).symm.trans H; with_reducible exact H2_) | with_reducible exact H | (rw [hy348]; exact H) | exact H
 have Ny348 := Aside0.mk hy348
 clear hy348
 have H' := Aside0.mk H
 clear H
 go_enter Try.func73, Try.ntmps73
 go_wp2_with (first | (go_at_call 56; (with_reducible refine (spec_l01All.calls k g0 s0_0 s0_1 s0_2 t345 _ ?side1 A4.out).mono ?_); (case side1 => exact (pk BK0)); rintro e w5 ⟨v346, rfl, ho0, hb⟩; have n0_ := Aside0.mk (Kd.R_lower ho0 (below_size (by repeat (first | (with_reducible first | exact HB.out | apply below_alloc | apply pw_below_drewN | apply below_drew1 | refine below_set ?_ GE0.out) | exact HB.out)))); have n1_ := bkb BK0 hb; have n2_ := bst HB hb; clear BK0; clear HB; have HO347 := n0_; have BK0 := n1_; have HB := n2_; clear n0_ n1_ n2_; (try clear hb); (try clear hb2); (try clear hk); (try clear hi); (try clear ho0)) | ((with_reducible refine gate_dst (N := 15) rfl ?_); refine Kd.R_lit (Kd.int .u32) _ 86 ?hg (N := 15) ?hd (xs := ([] : List Int)) (inner := []) (ok := fun _ => True) (okp := fun _ => True) ?hr ?hp (fun _ hk => hk) trivial (Below.refl _ _) (Nat.le_refl _) (by simp) ?_; (case hd => rfl); (case hg => rfl); (case hr => first | (go_simp; done) | (go_simp; rfl)); (case hp => exact (Reps.none _ _)); intro v349 w6 ho7 hb hg_ hnew_; clear hg_ hnew_; (first | rw [← Ny348.out] at ho7 | (simp only [Int.reduceToNat] at ho7; rw [← Ny348.out] at ho7)); have n0_ := krb HO347 hb; have n1_ := Aside0.mk (Kd.R_lower ho7 (below_size (by repeat (first | (with_reducible first | exact HB.out | apply below_alloc | apply pw_below_drewN | apply below_drew1 | refine below_set ?_ GE0.out) | exact HB.out)))); have n2_ := bkb BK0 hb; have n3_ := bst HB hb; clear HO347; clear BK0; clear HB; have HO347 := n0_; have HO350 := n1_; have BK0 := n2_; have HB := n3_; clear n0_ n1_ n2_ n3_; clear hb ho7))
 repeat (go_quiet (first | (go_at_call 56; (with_reducible refine (spec_l01All.calls k g0 s0_0 s0_1 s0_2 t345 _ ?side1 A4.out).mono ?_); (case side1 => exact (pk BK0)); rintro e w5 ⟨v346, rfl, ho0, hb⟩; have n0_ := Aside0.mk (Kd.R_lower ho0 (below_size (by repeat (first | (with_reducible first | exact HB.out | apply below_alloc | apply pw_below_drewN | apply below_drew1 | refine below_set ?_ GE0.out) | exact HB.out)))); have n1_ := bkb BK0 hb; have n2_ := bst HB hb; clear BK0; clear HB; have HO347 := n0_; have BK0 := n1_; have HB := n2_; clear n0_ n1_ n2_; (try clear hb); (try clear hb2); (try clear hk); (try clear hi); (try clear ho0)) | ((with_reducible refine gate_dst (N := 15) rfl ?_); refine Kd.R_lit (Kd.int .u32) _ 86 ?hg (N := 15) ?hd (xs := ([] : List Int)) (inner := []) (ok := fun _ => True) (okp := fun _ => True) ?hr ?hp (fun _ hk => hk) trivial (Below.refl _ _) (Nat.le_refl _) (by simp) ?_; (case hd => rfl); (case hg => rfl); (case hr => first | (go_simp; done) | (go_simp; rfl)); (case hp => exact (Reps.none _ _)); intro v349 w6 ho7 hb hg_ hnew_; clear hg_ hnew_; (first | rw [← Ny348.out] at ho7 | (simp only [Int.reduceToNat] at ho7; rw [← Ny348.out] at ho7)); have n0_ := krb HO347 hb; have n1_ := Aside0.mk (Kd.R_lower ho7 (below_size (by repeat (first | (with_reducible first | exact HB.out | apply below_alloc | apply pw_below_drewN | apply below_drew1 | refine below_set ?_ GE0.out) | exact HB.out)))); have n2_ := bkb BK0 hb; have n3_ := bst HB hb; clear HO347; clear BK0; clear HB; have HO347 := n0_; have HO350 := n1_; have BK0 := n2_; have HB := n3_; clear n0_ n1_ n2_ n3_; clear hb ho7)); try go_wp2_with (first | (go_at_call 56; (with_reducible refine (spec_l01All.calls k g0 s0_0 s0_1 s0_2 t345 _ ?side1 A4.out).mono ?_); (case side1 => exact (pk BK0)); rintro e w5 ⟨v346, rfl, ho0, hb⟩; have n0_ := Aside0.mk (Kd.R_lower ho0 (below_size (by repeat (first | (with_reducible first | exact HB.out | apply below_alloc | apply pw_below_drewN | apply below_drew1 | refine below_set ?_ GE0.out) | exact HB.out)))); have n1_ := bkb BK0 hb; have n2_ := bst HB hb; clear BK0; clear HB; have HO347 := n0_; have BK0 := n1_; have HB := n2_; clear n0_ n1_ n2_; (try clear hb); (try clear hb2); (try clear hk); (try clear hi); (try clear ho0)) | ((with_reducible refine gate_dst (N := 15) rfl ?_); refine Kd.R_lit (Kd.int .u32) _ 86 ?hg (N := 15) ?hd (xs := ([] : List Int)) (inner := []) (ok := fun _ => True) (okp := fun _ => True) ?hr ?hp (fun _ hk => hk) trivial (Below.refl _ _) (Nat.le_refl _) (by simp) ?_; (case hd => rfl); (case hg => rfl); (case hr => first | (go_simp; done) | (go_simp; rfl)); (case hp => exact (Reps.none _ _)); intro v349 w6 ho7 hb hg_ hnew_; clear hg_ hnew_; (first | rw [← Ny348.out] at ho7 | (simp only [Int.reduceToNat] at ho7; rw [← Ny348.out] at ho7)); have n0_ := krb HO347 hb; have n1_ := Aside0.mk (Kd.R_lower ho7 (below_size (by repeat (first | (with_reducible first | exact HB.out | apply below_alloc | apply pw_below_drewN | apply below_drew1 | refine below_set ?_ GE0.out) | exact HB.out)))); have n2_ := bkb BK0 hb; have n3_ := bst HB hb; clear HO347; clear BK0; clear HB; have HO347 := n0_; have HO350 := n1_; have BK0 := n2_; have HB := n3_; clear n0_ n1_ n2_ n3_; clear hb ho7)))
 go_loopg [8, 9] k (fun kq v8 v9 w' => ∃ (x8_1 : List Int) (x9_1 : Int), v9 = .int .i64 x9_1 ∧ Aside0 (spec_l06Heard.l0 kq l1 a2 t345 x8_1 x9_1 s0_0 s0_1 s0_2 = some r) ∧ Aside0 (kq ≤ k) ∧ Aside0 (Kd.R k34 34 w' w.heap.size (fun _ => True) v346 t345) ∧ Aside0 (Kd.R (Kd.int .u32) 86 w' w.heap.size (fun _ => True) v8 x8_1) ∧ Aside0 (w'.heap[g0]? = some (.cells (mixA (Value.int .u16) [.int .i8 s0_0, .int .i8 s0_1] s0_2) 32 (0, 0))) ∧ Aside0 (Below w.heap.size w w'))
 case atStart => exact ⟨(y348), (0), (by first | rfl | (simp; done) | (simp [*]; done)), H', ⟨Nat.le_refl _⟩, ⟨by (with_reducible repeat (first | apply Kd.R_alloc | apply Kd.R_drewN | apply Kd.R_drew)); exact HO347.out⟩, ⟨by (with_reducible repeat (first | apply Kd.R_alloc | apply Kd.R_drewN | apply Kd.R_drew)); exact HO350.out⟩, ⟨pk BK0⟩, ⟨pbs HB⟩⟩
 case round =>
  clear H'
  try clear c1
  try clear p2
  try clear c7
  obtain ⟨x8_1, x9_1, rfl, HA, HK1, HO_7, HO_8, BK0, HB⟩ := hrel
  cases gk with
  | zero => exact absurd HA.out (by simp [spec_l06Heard.l0])
  | succ k1 =>
   have H := HA.out
   clear HA
   simp only [spec_l06Heard.l0] at H
   by_cases c8 : x9_1 < (t345.length : Int)
   ·rw [if_pos c8] at H
    have c8b0 : decide (x9_1 < (t345.length : Int)) = true := decide_eq_true c8
    clear c8
    by_cases c9 : 0 ≤ x9_1
    ·rw [if_pos c9] at H
     have c9b0 : decide (0 ≤ x9_1) = true := decide_eq_true c9
     clear c9
     replace H := Option.bind_eq_some_iff.mp H
     obtain ⟨t352, A100, H⟩ := H
     replace H : (spec_l06Heard.l1 k1 l1 a2 t345 x8_1 x9_1 0 0 s0_0 s0_1 s0_2 t352) = some r := H
     have A10 := Aside0.mk A100
     clear A100
     have H' := Aside0.mk H
     clear H
     obtain ⟨Ao11, co11, eo11⟩ := Kd.R_slice HO_7.out
     subst eo11
     have p351 : 0 ≤ (x9_1 : Int) := of_decide_eq_true (by first | (with_reducible assumption) | assumption)
     have q351 : x9_1 < (t345.length : Int) := of_decide_eq_true (by first | (with_reducible assumption) | assumption)
     obtain ⟨ad351, e351, hx351_0, hx351_1⟩ := at_T34 (Kd.R_reads' HO_7.out).2.2 x9_1 p351 q351
     cases e351
     replace p351 := eq_true p351
     replace q351 := eq_true q351
     go_wp2_with (first | (go_at_call 100; (with_reducible refine (spec_l01Steps.calls k1 g0 s0_0 s0_1 s0_2 ((rd_T34 t345 x9_1).f0) ((rd_T34 t345 x9_1).f1) t352 _ ?side1 A10.out).mono ?_); (case side1 => exact (pk BK0)); rintro e w12 ⟨rfl, hb⟩; have n0_ := krb HO_7 hb; have n1_ := krb HO_8 hb; have n2_ := bkb BK0 hb; have n3_ := bst HB hb; clear HO_7; clear HO_8; clear BK0; clear HB; have HO_7 := n0_; have HO_8 := n1_; have BK0 := n2_; have HB := n3_; clear n0_ n1_ n2_ n3_; (try clear hb); (try clear hb2); (try clear hk); (try clear hi)) | ((with_reducible refine gate_dst (N := 10) rfl ?_); refine box_event ?hg (N := 10) ?hd (cs := (mixA (Value.int .i64) [] (LA.zero 100))) (t := 125) ?hr ?_; (case hd => rfl); (case hg => rfl); (case hr => first | (go_simp; done) | (go_simp; rfl)); intro gb353 hg w13 hbox hb; have n0_ := krb HO_7 hb; have n1_ := krb HO_8 hb; have n2_ := bkb BK0 hb; have n3_ := bst HB hb; have n4_ := Aside0.mk (hbox); have n5_ := gwl HB hg; have n6_ := gwl HB hg; have n7_ := nbl BK0 hg; have n8_ := nbg BK0 hg; clear HO_7; clear HO_8; clear BK0; clear HB; have HO_7 := n0_; have HO_8 := n1_; have BK0 := n2_; have HB := n3_; have BK353 := n4_; have GW353 := n5_; have GE353 := n6_; have NB0_353 := n7_; have NB353_0 := n8_; clear n0_ n1_ n2_ n3_ n4_ n5_ n6_ n7_ n8_; clear hb hbox hg) | ((with_reducible refine gate_store (p := 10) rfl ?_); (try (rw [drewN_self w13]; generalize hq_ : World.drewN w13 _ = w13; have n0_ := Aside0.mk (Kd.R_at hq_ HO_7.out); have n1_ := Aside0.mk (Kd.R_at hq_ HO_8.out); have n2_ := Aside0.mk (blk_at hq_ BK0.out); have n3_ := Aside0.mk (blk_at hq_ BK353.out); have n4_ := Aside0.mk (below_at hq_ HB.out); clear hq_ HO_7 HO_8 BK0 BK353 HB; have HO_7 := n0_; have HO_8 := n1_; have BK0 := n2_; have BK353 := n3_; have HB := n4_; clear n0_ n1_ n2_ n3_ n4_)); refine wpList_store_lmix rfl 125 _ _ rfl gb353 (e := (Value.int .i64)) (cs' := []) (W' := t352) (cs := []) (W := (LA.zero 100)) (T := 125) rfl rfl (pk BK353) rfl (by kernel_rfl) rfl (fun _ => rfl) rfl ?_; intro w14 hi hk hbl; have n0_ := Aside0.mk (Kd.R_mono (Kd.R_keep (Kd.R_types (by (with_reducible repeat (first | apply Kd.R_alloc | apply Kd.R_drewN | apply Kd.R_drew)); exact HO_7.out) (pk BK353) (by decide)) hk (fun _ h => h.2)) (fun _ h => h.1)); have n1_ := Aside0.mk (Kd.R_mono (Kd.R_keep (Kd.R_types (by (with_reducible repeat (first | apply Kd.R_alloc | apply Kd.R_drewN | apply Kd.R_drew)); exact HO_8.out) (pk BK353) (by decide)) hk (fun _ h => h.2)) (fun _ h => h.1)); have n2_ := Aside0.mk (KeepBut.blk hk (g' := g0) (o := .cells (mixA (Value.int .u16) [.int .i8 s0_0, .int .i8 s0_1] s0_2) 32 (0, 0)) (pk BK0) NB0_353.out (by simp)); have n3_ := Aside0.mk (hbl _ _ (pbs HB) GE353.out); have n4_ := Aside0.mk (hi); clear HO_7; clear HO_8; clear BK0; clear HB; clear BK353; have HO_7 := n0_; have HO_8 := n1_; have BK0 := n2_; have HB := n3_; have BK353 := n4_; clear n0_ n1_ n2_ n3_ n4_; clear hi hk hbl))
     repeat (go_quiet (first | (go_at_call 100; (with_reducible refine (spec_l01Steps.calls k1 g0 s0_0 s0_1 s0_2 ((rd_T34 t345 x9_1).f0) ((rd_T34 t345 x9_1).f1) t352 _ ?side1 A10.out).mono ?_); (case side1 => exact (pk BK0)); rintro e w12 ⟨rfl, hb⟩; have n0_ := krb HO_7 hb; have n1_ := krb HO_8 hb; have n2_ := bkb BK0 hb; have n3_ := bst HB hb; clear HO_7; clear HO_8; clear BK0; clear HB; have HO_7 := n0_; have HO_8 := n1_; have BK0 := n2_; have HB := n3_; clear n0_ n1_ n2_ n3_; (try clear hb); (try clear hb2); (try clear hk); (try clear hi)) | ((with_reducible refine gate_dst (N := 10) rfl ?_); refine box_event ?hg (N := 10) ?hd (cs := (mixA (Value.int .i64) [] (LA.zero 100))) (t := 125) ?hr ?_; (case hd => rfl); (case hg => rfl); (case hr => first | (go_simp; done) | (go_simp; rfl)); intro gb353 hg w13 hbox hb; have n0_ := krb HO_7 hb; have n1_ := krb HO_8 hb; have n2_ := bkb BK0 hb; have n3_ := bst HB hb; have n4_ := Aside0.mk (hbox); have n5_ := gwl HB hg; have n6_ := gwl HB hg; have n7_ := nbl BK0 hg; have n8_ := nbg BK0 hg; clear HO_7; clear HO_8; clear BK0; clear HB; have HO_7 := n0_; have HO_8 := n1_; have BK0 := n2_; have HB := n3_; have BK353 := n4_; have GW353 := n5_; have GE353 := n6_; have NB0_353 := n7_; have NB353_0 := n8_; clear n0_ n1_ n2_ n3_ n4_ n5_ n6_ n7_ n8_; clear hb hbox hg) | ((with_reducible refine gate_store (p := 10) rfl ?_); (try (rw [drewN_self w13]; generalize hq_ : World.drewN w13 _ = w13; have n0_ := Aside0.mk (Kd.R_at hq_ HO_7.out); have n1_ := Aside0.mk (Kd.R_at hq_ HO_8.out); have n2_ := Aside0.mk (blk_at hq_ BK0.out); have n3_ := Aside0.mk (blk_at hq_ BK353.out); have n4_ := Aside0.mk (below_at hq_ HB.out); clear hq_ HO_7 HO_8 BK0 BK353 HB; have HO_7 := n0_; have HO_8 := n1_; have BK0 := n2_; have BK353 := n3_; have HB := n4_; clear n0_ n1_ n2_ n3_ n4_)); refine wpList_store_lmix rfl 125 _ _ rfl gb353 (e := (Value.int .i64)) (cs' := []) (W' := t352) (cs := []) (W := (LA.zero 100)) (T := 125) rfl rfl (pk BK353) rfl (by kernel_rfl) rfl (fun _ => rfl) rfl ?_; intro w14 hi hk hbl; have n0_ := Aside0.mk (Kd.R_mono (Kd.R_keep (Kd.R_types (by (with_reducible repeat (first | apply Kd.R_alloc | apply Kd.R_drewN | apply Kd.R_drew)); exact HO_7.out) (pk BK353) (by decide)) hk (fun _ h => h.2)) (fun _ h => h.1)); have n1_ := Aside0.mk (Kd.R_mono (Kd.R_keep (Kd.R_types (by (with_reducible repeat (first | apply Kd.R_alloc | apply Kd.R_drewN | apply Kd.R_drew)); exact HO_8.out) (pk BK353) (by decide)) hk (fun _ h => h.2)) (fun _ h => h.1)); have n2_ := Aside0.mk (KeepBut.blk hk (g' := g0) (o := .cells (mixA (Value.int .u16) [.int .i8 s0_0, .int .i8 s0_1] s0_2) 32 (0, 0)) (pk BK0) NB0_353.out (by simp)); have n3_ := Aside0.mk (hbl _ _ (pbs HB) GE353.out); have n4_ := Aside0.mk (hi); clear HO_7; clear HO_8; clear BK0; clear HB; clear BK353; have HO_7 := n0_; have HO_8 := n1_; have BK0 := n2_; have HB := n3_; have BK353 := n4_; clear n0_ n1_ n2_ n3_ n4_; clear hi hk hbl)); try go_wp2_with (first | (go_at_call 100; (with_reducible refine (spec_l01Steps.calls k1 g0 s0_0 s0_1 s0_2 ((rd_T34 t345 x9_1).f0) ((rd_T34 t345 x9_1).f1) t352 _ ?side1 A10.out).mono ?_); (case side1 => exact (pk BK0)); rintro e w12 ⟨rfl, hb⟩; have n0_ := krb HO_7 hb; have n1_ := krb HO_8 hb; have n2_ := bkb BK0 hb; have n3_ := bst HB hb; clear HO_7; clear HO_8; clear BK0; clear HB; have HO_7 := n0_; have HO_8 := n1_; have BK0 := n2_; have HB := n3_; clear n0_ n1_ n2_ n3_; (try clear hb); (try clear hb2); (try clear hk); (try clear hi)) | ((with_reducible refine gate_dst (N := 10) rfl ?_); refine box_event ?hg (N := 10) ?hd (cs := (mixA (Value.int .i64) [] (LA.zero 100))) (t := 125) ?hr ?_; (case hd => rfl); (case hg => rfl); (case hr => first | (go_simp; done) | (go_simp; rfl)); intro gb353 hg w13 hbox hb; have n0_ := krb HO_7 hb; have n1_ := krb HO_8 hb; have n2_ := bkb BK0 hb; have n3_ := bst HB hb; have n4_ := Aside0.mk (hbox); have n5_ := gwl HB hg; have n6_ := gwl HB hg; have n7_ := nbl BK0 hg; have n8_ := nbg BK0 hg; clear HO_7; clear HO_8; clear BK0; clear HB; have HO_7 := n0_; have HO_8 := n1_; have BK0 := n2_; have HB := n3_; have BK353 := n4_; have GW353 := n5_; have GE353 := n6_; have NB0_353 := n7_; have NB353_0 := n8_; clear n0_ n1_ n2_ n3_ n4_ n5_ n6_ n7_ n8_; clear hb hbox hg) | ((with_reducible refine gate_store (p := 10) rfl ?_); (try (rw [drewN_self w13]; generalize hq_ : World.drewN w13 _ = w13; have n0_ := Aside0.mk (Kd.R_at hq_ HO_7.out); have n1_ := Aside0.mk (Kd.R_at hq_ HO_8.out); have n2_ := Aside0.mk (blk_at hq_ BK0.out); have n3_ := Aside0.mk (blk_at hq_ BK353.out); have n4_ := Aside0.mk (below_at hq_ HB.out); clear hq_ HO_7 HO_8 BK0 BK353 HB; have HO_7 := n0_; have HO_8 := n1_; have BK0 := n2_; have BK353 := n3_; have HB := n4_; clear n0_ n1_ n2_ n3_ n4_)); refine wpList_store_lmix rfl 125 _ _ rfl gb353 (e := (Value.int .i64)) (cs' := []) (W' := t352) (cs := []) (W := (LA.zero 100)) (T := 125) rfl rfl (pk BK353) rfl (by kernel_rfl) rfl (fun _ => rfl) rfl ?_; intro w14 hi hk hbl; have n0_ := Aside0.mk (Kd.R_mono (Kd.R_keep (Kd.R_types (by (with_reducible repeat (first | apply Kd.R_alloc | apply Kd.R_drewN | apply Kd.R_drew)); exact HO_7.out) (pk BK353) (by decide)) hk (fun _ h => h.2)) (fun _ h => h.1)); have n1_ := Aside0.mk (Kd.R_mono (Kd.R_keep (Kd.R_types (by (with_reducible repeat (first | apply Kd.R_alloc | apply Kd.R_drewN | apply Kd.R_drew)); exact HO_8.out) (pk BK353) (by decide)) hk (fun _ h => h.2)) (fun _ h => h.1)); have n2_ := Aside0.mk (KeepBut.blk hk (g' := g0) (o := .cells (mixA (Value.int .u16) [.int .i8 s0_0, .int .i8 s0_1] s0_2) 32 (0, 0)) (pk BK0) NB0_353.out (by simp)); have n3_ := Aside0.mk (hbl _ _ (pbs HB) GE353.out); have n4_ := Aside0.mk (hi); clear HO_7; clear HO_8; clear BK0; clear HB; clear BK353; have HO_7 := n0_; have HO_8 := n1_; have BK0 := n2_; have HB := n3_; have BK353 := n4_; clear n0_ n1_ n2_ n3_ n4_; clear hi hk hbl)))
     go_loopg [11, 12] k1 (fun kq v11 v12 w' => ∃ (x11_2 : Int) (x12_2 : Int), v11 = .int .u32 x11_2 ∧ v12 = .int .i64 x12_2 ∧ Aside0 (spec_l06Heard.l1 kq l1 a2 t345 x8_1 x9_1 x11_2 x12_2 s0_0 s0_1 s0_2 t352 = some r) ∧ Aside0 (kq ≤ k1) ∧ Aside0 (Kd.R k34 34 w' w.heap.size (fun _ => True) (.slice (some ad351) t345.length co11) t345) ∧ Aside0 (Kd.R (Kd.int .u32) 86 w' w.heap.size (fun _ => True) u8 x8_1) ∧ Aside0 (w'.heap[g0]? = some (.cells (mixA (Value.int .u16) [.int .i8 s0_0, .int .i8 s0_1] s0_2) 32 (0, 0))) ∧ Aside0 (w'.heap[gb353]? = some (.cells (mixA (Value.int .i64) [] t352) 125 (0, 0))) ∧ Aside0 (Below w.heap.size w w'))
     case atStart => exact ⟨(0), (0), (by first | rfl | (simp; done) | (simp [*]; done)), (by first | rfl | (simp; done) | (simp [*]; done)), H', ⟨Nat.le_refl _⟩, ⟨by (with_reducible repeat (first | apply Kd.R_alloc | apply Kd.R_drewN | apply Kd.R_drew)); exact HO_7.out⟩, ⟨by (with_reducible repeat (first | apply Kd.R_alloc | apply Kd.R_drewN | apply Kd.R_drew)); exact HO_8.out⟩, ⟨pk BK0⟩, ⟨pk BK353⟩, ⟨pbs HB⟩⟩
     case round =>
      clear H'
      try clear c1
      try clear p2
      try clear p3
      try clear q3
      try clear hx3
      try clear c7
      try clear c8
      try clear c8b0
      try clear c9
      try clear c9b0
      try clear hx351_0
      try clear hx351_1
      try clear p2
      try clear p351
      try clear q351
      obtain ⟨x11_2, x12_2, rfl, rfl, HA, HK2, HO_7, HO_8, BK0, BK353, HB⟩ := hrel
      cases gk with
      | zero => exact absurd HA.out (by simp [spec_l06Heard.l1])
      | succ k2 =>
       have H := HA.out
       clear HA
       simp only [spec_l06Heard.l1] at H
       by_cases c15 : x12_2 < (l1.length : Int)
       ·rw [if_pos c15] at H
        have c15b0 : decide (x12_2 < (l1.length : Int)) = true := decide_eq_true c15
        clear c15
        by_cases c16 : 0 ≤ x12_2
        ·rw [if_pos c16] at H
         have c16b0 : decide (0 ≤ x12_2) = true := decide_eq_true c16
         clear c16
         by_cases c17 : 0 ≤ ((rd_T34 l1 x12_2).f1)
         ·rw [if_pos c17] at H
          have c17b0 : decide (0 ≤ ((rd_T34 l1 x12_2).f1)) = true := decide_eq_true c17
          clear c17
          by_cases c18 : ((rd_T34 l1 x12_2).f1) < 10
          ·rw [if_pos c18] at H
           have c18b0 : decide (((rd_T34 l1 x12_2).f1) < 10) = true := decide_eq_true c18
           clear c18
           by_cases c19 : 0 ≤ ((rd_T34 l1 x12_2).f0)
           ·rw [if_pos c19] at H
            have c19b0 : decide (0 ≤ ((rd_T34 l1 x12_2).f0)) = true := decide_eq_true c19
            clear c19
            by_cases c20 : ((rd_T34 l1 x12_2).f0) < 10
            ·rw [if_pos c20] at H
             have c20b0 : decide (((rd_T34 l1 x12_2).f0) < 10) = true := decide_eq_true c20
             clear c20
             replace H := Option.bind_eq_some_iff.mp H
             obtain ⟨t356, A210, H⟩ := H
             replace H : (if t356 = true then (if 0 ≤ (IntKind.u64.wrap (x12_2)) then (spec_l06Heard.l1 k2 l1 a2 t345 x8_1 x9_1 (Go.bits .or .u32 x11_2 (shl .u32 1 (IntKind.u64.wrap (x12_2)))) (wrap64 (x12_2 + 1)) s0_0 s0_1 s0_2 t352) else (none)) else (spec_l06Heard.l1 k2 l1 a2 t345 x8_1 x9_1 x11_2 (wrap64 (x12_2 + 1)) s0_0 s0_1 s0_2 t352)) = some r := H
             have A21 := Aside0.mk A210
             clear A210
             by_cases c22 : t356 = true
             ·subst c22
              have H1 : (if 0 ≤ (IntKind.u64.wrap (x12_2)) then (spec_l06Heard.l1 k2 l1 a2 t345 x8_1 x9_1 (Go.bits .or .u32 x11_2 (shl .u32 1 (IntKind.u64.wrap (x12_2)))) (wrap64 (x12_2 + 1)) s0_0 s0_1 s0_2 t352) else (none)) = some r := by rw [if_pos rfl] at H; exact H
              clear H
              have H := H1
              clear H1
              obtain ⟨ji23, hji23⟩ : ∃ j_ : Int, (IntKind.u64.wrap (x12_2)) = j_ := ⟨_, rfl⟩
              replace H : (if 0 ≤ (ji23) then (spec_l06Heard.l1 k2 l1 a2 t345 x8_1 x9_1 (Go.bits .or .u32 x11_2 (shl .u32 1 (ji23))) (wrap64 (x12_2 + 1)) s0_0 s0_1 s0_2 t352) else (none)) = some r := by first | (rw [hji23] at H; exact H) | (simp only [hji23] at H ⊢; exact H)
              (try rw [hji23] at A21)
              by_cases c24 : 0 ≤ (ji23)
              ·rw [if_pos c24] at H
               have c24b0 := eq_true c24
               have c24b1 : decide (0 ≤ (ji23)) = true := decide_eq_true c24
               clear c24
               obtain ⟨ji25, hji25⟩ : ∃ j_ : Int, (shl .u32 1 (ji23)) = j_ := ⟨_, rfl⟩
               replace H : (spec_l06Heard.l1 k2 l1 a2 t345 x8_1 x9_1 (Go.bits .or .u32 x11_2 (ji25)) (wrap64 (x12_2 + 1)) s0_0 s0_1 s0_2 t352) = some r := by first | (rw [hji25] at H; exact H) | (simp only [hji25] at H ⊢; exact H)
               (try rw [hji25] at A21)
               have hji25_ : (IntKind.u32.wrap (1 * 2 ^ min (ji23).toNat 32)) = ji25 := hji25
               have hji25z : (ji23) ≤ 32 → (IntKind.u32.wrap (1 * 2 ^ (ji23).toNat)) = ji25 := shl_small hji25
               have hji25u : (IntKind.u32.wrap (2 ^ min (ji23).toNat 32)) = ji25 := by have h_ := hji25_; rw [Int.one_mul] at h_; exact h_
               have hji25v : (ji23) ≤ 32 → (IntKind.u32.wrap (2 ^ (ji23).toNat)) = ji25 := fun hle_ => by have h_ := hji25z hle_; rw [Int.one_mul] at h_; exact h_
               have H' := Aside0.mk H
               clear H
               have p354 : 0 ≤ (x12_2 : Int) := of_decide_eq_true (by first | (with_reducible assumption) | assumption)
               have q354 : x12_2 < (l1.length : Int) := of_decide_eq_true (by first | (with_reducible assumption) | assumption)
               obtain ⟨ad354, e354, hx354_0, hx354_1⟩ := at_T34 HR1.out x12_2 p354 q354
               cases e354
               replace hx354_0 := (HB.out.cell (World.block_lt_of_cell? w _ hx354_0)).trans hx354_0
               replace hx354_1 := (HB.out.cell (World.block_lt_of_cell? w _ hx354_1)).trans hx354_1
               replace p354 := eq_true p354
               replace q354 := eq_true q354
               have p355 : 0 ≤ (x12_2 : Int) := of_decide_eq_true (by first | (with_reducible assumption) | assumption)
               have q355 : x12_2 < (l1.length : Int) := of_decide_eq_true (by first | (with_reducible assumption) | assumption)
               obtain ⟨ad355, e355, hx355_0, hx355_1⟩ := at_T34 HR1.out x12_2 p355 q355
               obtain rfl : ad354 = ad355 := (by injection e355)
               replace hx355_0 := (HB.out.cell (World.block_lt_of_cell? w _ hx355_0)).trans hx355_0
               replace hx355_1 := (HB.out.cell (World.block_lt_of_cell? w _ hx355_1)).trans hx355_1
               replace p355 := eq_true p355
               replace q355 := eq_true q355
               have hnb26 := NB353_0.out
               have hnc26 := NB0_353.out
               have hpd28 : (0 ≤ ((rd_T34 l1 x12_2).f1)) = True := eq_true (by first | omega | exact of_decide_eq_true (by first | (with_reducible assumption) | assumption))
               have hqd28 : (((rd_T34 l1 x12_2).f1) < 10) = True := eq_true (by first | omega | exact of_decide_eq_true (by first | (with_reducible assumption) | assumption))
               have hrd28 : (((rd_T34 l1 x12_2).f1) < ((10 : Nat) : Int)) = True := eq_true (by first | omega | exact of_decide_eq_true (by first | (with_reducible assumption) | assumption))
               have hpbd28 : (0 ≤ ((rd_T34 l1 x12_2).f0)) = True := eq_true (by first | omega | exact of_decide_eq_true (by first | (with_reducible assumption) | assumption))
               have hqbd28 : (((rd_T34 l1 x12_2).f0) < 10) = True := eq_true (by first | omega | exact of_decide_eq_true (by first | (with_reducible assumption) | assumption))
               have hrbd28 : (((rd_T34 l1 x12_2).f0) < ((10 : Nat) : Int)) = True := eq_true (by first | omega | exact of_decide_eq_true (by first | (with_reducible assumption) | assumption))
               have hdd28 : wr.cell? ⟨gb353, ((rd_T34 l1 x12_2).f1).toNat * 10 + ((rd_T34 l1 x12_2).f0).toNat, none⟩ = some (.int .i64 (rd t352.l (((rd_T34 l1 x12_2).f1) * 10 + ((rd_T34 l1 x12_2).f0)))) := mix_at2z 10 BK353.out ((rd_T34 l1 x12_2).f1) ((rd_T34 l1 x12_2).f0) (of_eq_true hpd28) (of_eq_true hpbd28) (by have := of_eq_true hqd28; have := of_eq_true hqbd28; omega)
               have hfdd28 := blk_frozen BK353.out (((rd_T34 l1 x12_2).f1).toNat * 10 + ((rd_T34 l1 x12_2).f0).toNat)
               go_wp2_with (first | (go_at_call 55; (with_reducible refine (spec_l00In.calls (rd t352.l (((rd_T34 l1 x12_2).f1) * 10 + ((rd_T34 l1 x12_2).f0))) 0 a2 true _ A21.out).mono ?_); rintro e w' ⟨rfl, ⟨nd, rfl⟩⟩; (try first | exact ⟨rfl, _, World.drewN_drewN _ _ _⟩ | exact ⟨rfl, _, Eq.trans (World.drewN_drewN _ _ _) (congrArg (World.drewN _) (Nat.add_assoc _ _ _))⟩)))
               repeat (go_quiet (first | (go_at_call 55; (with_reducible refine (spec_l00In.calls (rd t352.l (((rd_T34 l1 x12_2).f1) * 10 + ((rd_T34 l1 x12_2).f0))) 0 a2 true _ A21.out).mono ?_); rintro e w' ⟨rfl, ⟨nd, rfl⟩⟩; (try first | exact ⟨rfl, _, World.drewN_drewN _ _ _⟩ | exact ⟨rfl, _, Eq.trans (World.drewN_drewN _ _ _) (congrArg (World.drewN _) (Nat.add_assoc _ _ _))⟩))); try go_wp2_with (first | (go_at_call 55; (with_reducible refine (spec_l00In.calls (rd t352.l (((rd_T34 l1 x12_2).f1) * 10 + ((rd_T34 l1 x12_2).f0))) 0 a2 true _ A21.out).mono ?_); rintro e w' ⟨rfl, ⟨nd, rfl⟩⟩; (try first | exact ⟨rfl, _, World.drewN_drewN _ _ _⟩ | exact ⟨rfl, _, Eq.trans (World.drewN_drewN _ _ _) (congrArg (World.drewN _) (Nat.add_assoc _ _ _))⟩))))
               go_roundg k2
               case measure => have := HK1.out; have := HK2.out; omega
               case rel => exact ⟨(Go.bits .or .u32 x11_2 (ji25)), (wrap64 (x12_2 + 1)), (by first | rfl | (simp; done) | (simp only [← hji25] <;> (first | rfl | simp)) | (simp [*]; done)), (by first | rfl | (simp; done) | (simp [*]; done)), H', ⟨by have := HK1.out; have := HK2.out; omega⟩, ⟨by (with_reducible repeat (first | apply Kd.R_alloc | apply Kd.R_drewN | apply Kd.R_drew)); exact HO_7.out⟩, ⟨by (with_reducible repeat (first | apply Kd.R_alloc | apply Kd.R_drewN | apply Kd.R_drew)); exact HO_8.out⟩, ⟨pk BK0⟩, ⟨pk BK353⟩, ⟨pbs HB⟩⟩
              ·rw [if_neg c24] at H
               exact absurd H (by simp)
             ·replace c22 := Bool.eq_false_iff.mpr c22
              subst c22
              have H1 : (spec_l06Heard.l1 k2 l1 a2 t345 x8_1 x9_1 x11_2 (wrap64 (x12_2 + 1)) s0_0 s0_1 s0_2 t352) = some r := by rw [if_neg (show ¬ (false = true) by decide)] at H; exact H
              clear H
              have H := H1
              clear H1
              have H' := Aside0.mk H
              clear H
              have p354 : 0 ≤ (x12_2 : Int) := of_decide_eq_true (by first | (with_reducible assumption) | assumption)
              have q354 : x12_2 < (l1.length : Int) := of_decide_eq_true (by first | (with_reducible assumption) | assumption)
              obtain ⟨ad354, e354, hx354_0, hx354_1⟩ := at_T34 HR1.out x12_2 p354 q354
              cases e354
              replace hx354_0 := (HB.out.cell (World.block_lt_of_cell? w _ hx354_0)).trans hx354_0
              replace hx354_1 := (HB.out.cell (World.block_lt_of_cell? w _ hx354_1)).trans hx354_1
              replace p354 := eq_true p354
              replace q354 := eq_true q354
              have p355 : 0 ≤ (x12_2 : Int) := of_decide_eq_true (by first | (with_reducible assumption) | assumption)
              have q355 : x12_2 < (l1.length : Int) := of_decide_eq_true (by first | (with_reducible assumption) | assumption)
              obtain ⟨ad355, e355, hx355_0, hx355_1⟩ := at_T34 HR1.out x12_2 p355 q355
              obtain rfl : ad354 = ad355 := (by injection e355)
              replace hx355_0 := (HB.out.cell (World.block_lt_of_cell? w _ hx355_0)).trans hx355_0
              replace hx355_1 := (HB.out.cell (World.block_lt_of_cell? w _ hx355_1)).trans hx355_1
              replace p355 := eq_true p355
              replace q355 := eq_true q355
              have hnb29 := NB353_0.out
              have hnc29 := NB0_353.out
              have hpd31 : (0 ≤ ((rd_T34 l1 x12_2).f1)) = True := eq_true (by first | omega | exact of_decide_eq_true (by first | (with_reducible assumption) | assumption))
              have hqd31 : (((rd_T34 l1 x12_2).f1) < 10) = True := eq_true (by first | omega | exact of_decide_eq_true (by first | (with_reducible assumption) | assumption))
              have hrd31 : (((rd_T34 l1 x12_2).f1) < ((10 : Nat) : Int)) = True := eq_true (by first | omega | exact of_decide_eq_true (by first | (with_reducible assumption) | assumption))
              have hpbd31 : (0 ≤ ((rd_T34 l1 x12_2).f0)) = True := eq_true (by first | omega | exact of_decide_eq_true (by first | (with_reducible assumption) | assumption))
              have hqbd31 : (((rd_T34 l1 x12_2).f0) < 10) = True := eq_true (by first | omega | exact of_decide_eq_true (by first | (with_reducible assumption) | assumption))
              have hrbd31 : (((rd_T34 l1 x12_2).f0) < ((10 : Nat) : Int)) = True := eq_true (by first | omega | exact of_decide_eq_true (by first | (with_reducible assumption) | assumption))
              have hdd31 : wr.cell? ⟨gb353, ((rd_T34 l1 x12_2).f1).toNat * 10 + ((rd_T34 l1 x12_2).f0).toNat, none⟩ = some (.int .i64 (rd t352.l (((rd_T34 l1 x12_2).f1) * 10 + ((rd_T34 l1 x12_2).f0)))) := mix_at2z 10 BK353.out ((rd_T34 l1 x12_2).f1) ((rd_T34 l1 x12_2).f0) (of_eq_true hpd31) (of_eq_true hpbd31) (by have := of_eq_true hqd31; have := of_eq_true hqbd31; omega)
              have hfdd31 := blk_frozen BK353.out (((rd_T34 l1 x12_2).f1).toNat * 10 + ((rd_T34 l1 x12_2).f0).toNat)
              go_wp2_with (first | (go_at_call 55; (with_reducible refine (spec_l00In.calls (rd t352.l (((rd_T34 l1 x12_2).f1) * 10 + ((rd_T34 l1 x12_2).f0))) 0 a2 false _ A21.out).mono ?_); rintro e w' ⟨rfl, ⟨nd, rfl⟩⟩; (try first | exact ⟨rfl, _, World.drewN_drewN _ _ _⟩ | exact ⟨rfl, _, Eq.trans (World.drewN_drewN _ _ _) (congrArg (World.drewN _) (Nat.add_assoc _ _ _))⟩)))
              repeat (go_quiet (first | (go_at_call 55; (with_reducible refine (spec_l00In.calls (rd t352.l (((rd_T34 l1 x12_2).f1) * 10 + ((rd_T34 l1 x12_2).f0))) 0 a2 false _ A21.out).mono ?_); rintro e w' ⟨rfl, ⟨nd, rfl⟩⟩; (try first | exact ⟨rfl, _, World.drewN_drewN _ _ _⟩ | exact ⟨rfl, _, Eq.trans (World.drewN_drewN _ _ _) (congrArg (World.drewN _) (Nat.add_assoc _ _ _))⟩))); try go_wp2_with (first | (go_at_call 55; (with_reducible refine (spec_l00In.calls (rd t352.l (((rd_T34 l1 x12_2).f1) * 10 + ((rd_T34 l1 x12_2).f0))) 0 a2 false _ A21.out).mono ?_); rintro e w' ⟨rfl, ⟨nd, rfl⟩⟩; (try first | exact ⟨rfl, _, World.drewN_drewN _ _ _⟩ | exact ⟨rfl, _, Eq.trans (World.drewN_drewN _ _ _) (congrArg (World.drewN _) (Nat.add_assoc _ _ _))⟩))))
              go_roundg k2
              case measure => have := HK1.out; have := HK2.out; omega
              case rel => exact ⟨(x11_2), (wrap64 (x12_2 + 1)), (by first | rfl | (simp; done) | (simp [*]; done)), (by first | rfl | (simp; done) | (simp [*]; done)), H', ⟨by have := HK1.out; have := HK2.out; omega⟩, ⟨by (with_reducible repeat (first | apply Kd.R_alloc | apply Kd.R_drewN | apply Kd.R_drew)); exact HO_7.out⟩, ⟨by (with_reducible repeat (first | apply Kd.R_alloc | apply Kd.R_drewN | apply Kd.R_drew)); exact HO_8.out⟩, ⟨pk BK0⟩, ⟨pk BK353⟩, ⟨pbs HB⟩⟩
            ·rw [if_neg c20] at H
             exact absurd H (by simp)
           ·rw [if_neg c19] at H
            exact absurd H (by simp)
          ·rw [if_neg c18] at H
           exact absurd H (by simp)
         ·rw [if_neg c17] at H
          exact absurd H (by simp)
        ·rw [if_neg c16] at H
         exact absurd H (by simp)
       ·rw [if_neg c15] at H
        have c15b0 : decide (x12_2 < (l1.length : Int)) = false := decide_eq_false c15
        clear c15
        by_cases c32 : x8_1.length < 35184372088832
        ·rw [if_pos c32] at H
         have LMc32 := Aside0.mk c32
         clear c32
         obtain ⟨y357, hy357⟩ : ∃ y_ : List Int, y_ = (x8_1 ++ [x11_2]) := ⟨_, rfl⟩
         replace H : (spec_l06Heard.l0 k2 l1 a2 t345 y357 (wrap64 (x9_1 + 1)) s0_0 s0_1 s0_2) = some r := by first | (rw [hy357]; with_reducible exact H) | (have H2_ := (Option.bind_some _ _).symm.trans H; rw [hy357]; with_reducible exact H2_) | (have H2_ := (Option.bind_some _ _).symm.trans H; with_reducible exact H2_) | with_reducible exact H | (rw [hy357]; exact H) | exact H
         have Ny357 := Aside0.mk hy357
         clear hy357
         have H' := Aside0.mk H
         clear H
         go_wp2_with (first | ((with_reducible refine gate_builtin (b := .append) (xs := #[.tmp 54, .tmp 56]) rfl ?_); at_builtin; refine Kd.R_append (Kd.int .u32) (w0 := w) w.heap.size rfl (.tmp 54) (.tmp 56) 84 86 (.int .u32 0) 4 rfl Try.underlying84 info86 rfl (by decide) (by omega) u8 x8_1 x11_2 [.int .u32 x11_2] (fun _ => True) (fun _ => False) rfl rfl ?aP (fun _ hk => hk.elim) ?aF ?aO ?aB ?aS ?aL ?_; (case aP => exact rfl); (case aB => exact (pbs HB)); (case aF => exact (fun _ _ => trivial)); (case aO => exact (by (with_reducible repeat (first | apply Kd.R_alloc | apply Kd.R_drewN | apply Kd.R_drew)); exact HO_8.out)); (case aS => exact (below_size (by repeat (first | (with_reducible first | exact HB.out | apply below_alloc | apply pw_below_drewN | apply below_drew1 | refine below_set ?_ GE0.out | refine below_set ?_ GE353.out) | exact HB.out)))); (case aL => have := LMc32.out; omega); intro v358 w33 ho hb hg hat; rw [← Ny357.out] at ho; have n0_ := Aside0.mk (Kd.R_over' (by (with_reducible repeat (first | apply Kd.R_alloc | apply Kd.R_drewN | apply Kd.R_drew)); exact HO_7.out) (Kd.R_typed (by (with_reducible repeat (first | apply Kd.R_alloc | apply Kd.R_drewN | apply Kd.R_drew)); exact HO_8.out)) (by decide) hg); have n1_ := Aside0.mk (blk_grown (g := g0) (o := .cells (mixA (Value.int .u16) [.int .i8 s0_0, .int .i8 s0_1] s0_2) 32 (0, 0)) (pk BK0) hg (Kd.R_ne HO_8.out BK0.out (by decide))); have n2_ := Aside0.mk (blk_grown (g := gb353) (o := .cells (mixA (Value.int .i64) [] t352) 125 (0, 0)) (pk BK353) hg (Kd.R_ne HO_8.out BK353.out (by decide))); have n3_ := Aside0.mk (hb); have n4_ := Aside0.mk (ho); clear HO_7; clear BK0; clear BK353; clear HB; clear HO_8; have HO_7 := n0_; have BK0 := n1_; have BK353 := n2_; have HB := n3_; have HO359 := n4_; clear n0_ n1_ n2_ n3_ n4_; clear ho hb hg hat))
         repeat (go_quiet (first | ((with_reducible refine gate_builtin (b := .append) (xs := #[.tmp 54, .tmp 56]) rfl ?_); at_builtin; refine Kd.R_append (Kd.int .u32) (w0 := w) w.heap.size rfl (.tmp 54) (.tmp 56) 84 86 (.int .u32 0) 4 rfl Try.underlying84 info86 rfl (by decide) (by omega) u8 x8_1 x11_2 [.int .u32 x11_2] (fun _ => True) (fun _ => False) rfl rfl ?aP (fun _ hk => hk.elim) ?aF ?aO ?aB ?aS ?aL ?_; (case aP => exact rfl); (case aB => exact (pbs HB)); (case aF => exact (fun _ _ => trivial)); (case aO => exact (by (with_reducible repeat (first | apply Kd.R_alloc | apply Kd.R_drewN | apply Kd.R_drew)); exact HO_8.out)); (case aS => exact (below_size (by repeat (first | (with_reducible first | exact HB.out | apply below_alloc | apply pw_below_drewN | apply below_drew1 | refine below_set ?_ GE0.out | refine below_set ?_ GE353.out) | exact HB.out)))); (case aL => have := LMc32.out; omega); intro v358 w33 ho hb hg hat; rw [← Ny357.out] at ho; have n0_ := Aside0.mk (Kd.R_over' (by (with_reducible repeat (first | apply Kd.R_alloc | apply Kd.R_drewN | apply Kd.R_drew)); exact HO_7.out) (Kd.R_typed (by (with_reducible repeat (first | apply Kd.R_alloc | apply Kd.R_drewN | apply Kd.R_drew)); exact HO_8.out)) (by decide) hg); have n1_ := Aside0.mk (blk_grown (g := g0) (o := .cells (mixA (Value.int .u16) [.int .i8 s0_0, .int .i8 s0_1] s0_2) 32 (0, 0)) (pk BK0) hg (Kd.R_ne HO_8.out BK0.out (by decide))); have n2_ := Aside0.mk (blk_grown (g := gb353) (o := .cells (mixA (Value.int .i64) [] t352) 125 (0, 0)) (pk BK353) hg (Kd.R_ne HO_8.out BK353.out (by decide))); have n3_ := Aside0.mk (hb); have n4_ := Aside0.mk (ho); clear HO_7; clear BK0; clear BK353; clear HB; clear HO_8; have HO_7 := n0_; have BK0 := n1_; have BK353 := n2_; have HB := n3_; have HO359 := n4_; clear n0_ n1_ n2_ n3_ n4_; clear ho hb hg hat)); try go_wp2_with (first | ((with_reducible refine gate_builtin (b := .append) (xs := #[.tmp 54, .tmp 56]) rfl ?_); at_builtin; refine Kd.R_append (Kd.int .u32) (w0 := w) w.heap.size rfl (.tmp 54) (.tmp 56) 84 86 (.int .u32 0) 4 rfl Try.underlying84 info86 rfl (by decide) (by omega) u8 x8_1 x11_2 [.int .u32 x11_2] (fun _ => True) (fun _ => False) rfl rfl ?aP (fun _ hk => hk.elim) ?aF ?aO ?aB ?aS ?aL ?_; (case aP => exact rfl); (case aB => exact (pbs HB)); (case aF => exact (fun _ _ => trivial)); (case aO => exact (by (with_reducible repeat (first | apply Kd.R_alloc | apply Kd.R_drewN | apply Kd.R_drew)); exact HO_8.out)); (case aS => exact (below_size (by repeat (first | (with_reducible first | exact HB.out | apply below_alloc | apply pw_below_drewN | apply below_drew1 | refine below_set ?_ GE0.out | refine below_set ?_ GE353.out) | exact HB.out)))); (case aL => have := LMc32.out; omega); intro v358 w33 ho hb hg hat; rw [← Ny357.out] at ho; have n0_ := Aside0.mk (Kd.R_over' (by (with_reducible repeat (first | apply Kd.R_alloc | apply Kd.R_drewN | apply Kd.R_drew)); exact HO_7.out) (Kd.R_typed (by (with_reducible repeat (first | apply Kd.R_alloc | apply Kd.R_drewN | apply Kd.R_drew)); exact HO_8.out)) (by decide) hg); have n1_ := Aside0.mk (blk_grown (g := g0) (o := .cells (mixA (Value.int .u16) [.int .i8 s0_0, .int .i8 s0_1] s0_2) 32 (0, 0)) (pk BK0) hg (Kd.R_ne HO_8.out BK0.out (by decide))); have n2_ := Aside0.mk (blk_grown (g := gb353) (o := .cells (mixA (Value.int .i64) [] t352) 125 (0, 0)) (pk BK353) hg (Kd.R_ne HO_8.out BK353.out (by decide))); have n3_ := Aside0.mk (hb); have n4_ := Aside0.mk (ho); clear HO_7; clear BK0; clear BK353; clear HB; clear HO_8; have HO_7 := n0_; have BK0 := n1_; have BK353 := n2_; have HB := n3_; have HO359 := n4_; clear n0_ n1_ n2_ n3_ n4_; clear ho hb hg hat)))
         go_roundg k2
         case measure => have := HK1.out; have := HK2.out; omega
         case rel => exact ⟨(y357), (wrap64 (x9_1 + 1)), (by first | rfl | (simp; done) | (simp [*]; done)), H', ⟨by have := HK1.out; have := HK2.out; omega⟩, ⟨by (with_reducible repeat (first | apply Kd.R_alloc | apply Kd.R_drewN | apply Kd.R_drew)); exact HO_7.out⟩, ⟨by (with_reducible repeat (first | apply Kd.R_alloc | apply Kd.R_drewN | apply Kd.R_drew)); exact HO359.out⟩, ⟨pk BK0⟩, ⟨pbs HB⟩⟩
        ·rw [if_neg c32] at H
         exact absurd H (by simp)
    ·rw [if_neg c9] at H
     exact absurd H (by simp)
   ·rw [if_neg c8] at H
    have c8b0 : decide (x9_1 < (t345.length : Int)) = false := decide_eq_false c8
    clear c8
    obtain rfl := Option.some.inj H
    obtain ⟨Ao34, co34, eo34⟩ := Kd.R_slice HO_7.out
    subst eo34
    go_wp2
    repeat (go_quiet (fail); try go_wp2)
    go_ret
    exact ⟨_, by first | rfl | (simp [errW_none, errW_some] <;> rfl) | (simp [*, errW_none, errW_some] <;> rfl), by (with_reducible repeat (first | apply Kd.R_alloc | apply Kd.R_drewN | apply Kd.R_drew)); exact HO_8.out, pbs HB⟩
end Go.Proofs.Ytoiiabnnddlcbaa.PB
end
