/- The statement FnExactPostsBound of this program: what its proof uses, part 9 of 14. The call returns true for all arguments. No condition of its own. -/
import Derived.Test.YtmcjgpbhjpakhaaZFnExactPostsBound7
section
namespace Go.Proofs.Ytmcjgpbhjpakhaa.PB
open Go.RowKit Go.Proofs.YtmcjgpbhjpakhaaW.PrintWords Go.Proofs.YtmcjgpbhjpakhaaW.PrintLast Go.Proofs.YtmcjgpbhjpakhaaW.PrintMore Go.Proofs.Ytmcjgpbhjpakhaa.La Go.Proofs.Ytmcjgpbhjpakhaa.Mp
attribute [local go_sem] max2_int min2_int max_two min_two max_three min_three max_four min_four   -- for this text's walks alone
set_option linter.unusedVariables false
set_option linter.unusedSimpArgs false
mutual
def spec_l01Steps.l0 : Nat → Int → Int → Int → LA 10 → Int → Int → LA 100 → Option (LA 100)
 | 0, _, _, _, _, _, _, _ => none
 | k + 1, x6, x1000, x1001, x1002, x157000, x157001, x159000 => if x6 < 10 then (spec_l01Steps.l1 k x6 0 x1000 x1001 x1002 x157000 x157001 x159000) else (if 0 ≤ x157001 then (if x157001 < 10 then (if 0 ≤ x157000 then (if x157000 < 10 then (spec_l01Steps.l2 k (([(⟨x157000, x157001⟩ : S54)] : List (S54))) 0 x1000 x1001 x1002 (LA.set x159000 (x157001 * 10 + x157000) 0)) else (none)) else (none)) else (none)) else (none))
def spec_l01Steps.l1 : Nat → Int → Int → Int → Int → LA 10 → Int → Int → LA 100 → Option (LA 100)
 | 0, _, _, _, _, _, _, _, _ => none
 | k + 1, x6, x7, x1000, x1001, x1002, x157000, x157001, x159000 => if x7 < 10 then (if 0 ≤ x6 then (if x6 < 10 then (if 0 ≤ x7 then (spec_l01Steps.l1 k x6 (wrap64 (x7 + 1)) x1000 x1001 x1002 x157000 x157001 (LA.set x159000 (x6 * 10 + x7) (-1))) else (none)) else (none)) else (none)) else (spec_l01Steps.l0 k (wrap64 (x6 + 1)) x1000 x1001 x1002 x157000 x157001 x159000)
def spec_l01Steps.l2 : Nat → List (S54) → Int → Int → Int → LA 10 → LA 100 → Option (LA 100)
 | 0, _, _, _, _, _, _ => none
 | k + 1, x8, x9, x1000, x1001, x1002, x159000 => if x9 < (x8.length : Int) then (if 0 ≤ x9 then ((spec_l01Beside.f k x1000 x1001 x1002 ((rd_T54 x8 x9).f0) ((rd_T54 x8 x9).f1)).bind fun t163 => (spec_l01Steps.l3 k x8 x9 t163 0 x1000 x1001 x1002 x159000)) else (none)) else (some x159000)
def spec_l01Steps.l3 : Nat → List (S54) → Int → List (S54) → Int → Int → Int → LA 10 → LA 100 → Option (LA 100)
 | 0, _, _, _, _, _, _, _, _ => none
 | k + 1, x8, x9, x10, x11, x1000, x1001, x1002, x159000 => if x11 < (x10.length : Int) then (if 0 ≤ x11 then (if 0 ≤ ((rd_T54 x10 x11).f1) then (if ((rd_T54 x10 x11).f1) < 10 then (if 0 ≤ ((rd_T54 x10 x11).f0) then (if ((rd_T54 x10 x11).f0) < 10 then (if (rd x159000.l (((rd_T54 x10 x11).f1) * 10 + ((rd_T54 x10 x11).f0))) < 0 then (if 0 ≤ x9 then (if x9 < (x8.length : Int) then (if 0 ≤ ((rd_T54 x8 x9).f1) then (if ((rd_T54 x8 x9).f1) < 10 then (if 0 ≤ ((rd_T54 x8 x9).f0) then (if ((rd_T54 x8 x9).f0) < 10 then (if x8.length < 70368744177664 then (spec_l01Steps.l3 k (x8 ++ [(⟨(rd_T54 x10 x11).f0, (rd_T54 x10 x11).f1⟩ : S54)]) x9 x10 (wrap64 (x11 + 1)) x1000 x1001 x1002 (LA.set x159000 (((rd_T54 x10 x11).f1) * 10 + ((rd_T54 x10 x11).f0)) (wrap64 ((rd x159000.l (((rd_T54 x8 x9).f1) * 10 + ((rd_T54 x8 x9).f0))) + 1)))) else (none)) else (none)) else (none)) else (none)) else (none)) else (none)) else (none)) else (spec_l01Steps.l3 k x8 x9 x10 (wrap64 (x11 + 1)) x1000 x1001 x1002 x159000)) else (none)) else (none)) else (none)) else (none)) else (none)) else (spec_l01Steps.l2 k x8 (wrap64 (x9 + 1)) x1000 x1001 x1002 x159000)
end
def spec_l01Steps.f (k : Nat) (s0_0 : Int) (s0_1 : Int) (s0_2 : LA 10) (a1_0 : Int) (a1_1 : Int) : Option (LA 100) := spec_l01Steps.l0 k 0 s0_0 s0_1 s0_2 a1_0 a1_1 (LA.zero 100)
theorem spec_l01Steps.mono_l : ∀ k, (∀ y0 y1 y2 y3 y4 y5 y6, LeO (spec_l01Steps.l0 k y0 y1 y2 y3 y4 y5 y6) (spec_l01Steps.l0 (k + 1) y0 y1 y2 y3 y4 y5 y6)) ∧ (∀ y0 y1 y2 y3 y4 y5 y6 y7, LeO (spec_l01Steps.l1 k y0 y1 y2 y3 y4 y5 y6 y7) (spec_l01Steps.l1 (k + 1) y0 y1 y2 y3 y4 y5 y6 y7)) ∧ (∀ y0 y1 y2 y3 y4 y5, LeO (spec_l01Steps.l2 k y0 y1 y2 y3 y4 y5) (spec_l01Steps.l2 (k + 1) y0 y1 y2 y3 y4 y5)) ∧ (∀ y0 y1 y2 y3 y4 y5 y6 y7, LeO (spec_l01Steps.l3 k y0 y1 y2 y3 y4 y5 y6 y7) (spec_l01Steps.l3 (k + 1) y0 y1 y2 y3 y4 y5 y6 y7))
 | 0 => ⟨fun _ _ _ _ _ _ _ r h => by simp [spec_l01Steps.l0] at h, fun _ _ _ _ _ _ _ _ r h => by simp [spec_l01Steps.l1] at h, fun _ _ _ _ _ _ r h => by simp [spec_l01Steps.l2] at h, fun _ _ _ _ _ _ _ _ r h => by simp [spec_l01Steps.l3] at h⟩
 | k + 1 => by
  obtain ⟨ih0, ih1, ih2, ih3⟩ := spec_l01Steps.mono_l k
  refine ⟨?_, ?_, ?_, ?_⟩
  ·intro y0 y1 y2 y3 y4 y5 y6
   unfold spec_l01Steps.l0
   repeat' first
   | (with_reducible exact ih0 _ _ _ _ _ _ _)
   | (with_reducible exact ih1 _ _ _ _ _ _ _ _)
   | (with_reducible exact ih2 _ _ _ _ _ _)
   | (with_reducible exact ih3 _ _ _ _ _ _ _ _)
   | (with_reducible exact spec_l01Beside.mono _ _ _ _ _ _)
   | (with_reducible exact LeO.refl _)
   | (with_reducible exact LeO.none _)
   | (with_reducible refine LeO.ite ?_ ?_)
   | (with_reducible refine LeO.bind ?_ (fun _ => ?_))
   | exact ih0 _ _ _ _ _ _ _
   | exact ih1 _ _ _ _ _ _ _ _
   | exact ih2 _ _ _ _ _ _
   | exact ih3 _ _ _ _ _ _ _ _
   | exact spec_l01Beside.mono _ _ _ _ _ _
   | exact LeO.none _
   | refine LeO.ite ?_ ?_
   | refine LeO.bind ?_ (fun _ => ?_)
  ·intro y0 y1 y2 y3 y4 y5 y6 y7
   unfold spec_l01Steps.l1
   repeat' first
   | (with_reducible exact ih0 _ _ _ _ _ _ _)
   | (with_reducible exact ih1 _ _ _ _ _ _ _ _)
   | (with_reducible exact ih2 _ _ _ _ _ _)
   | (with_reducible exact ih3 _ _ _ _ _ _ _ _)
   | (with_reducible exact spec_l01Beside.mono _ _ _ _ _ _)
   | (with_reducible exact LeO.refl _)
   | (with_reducible exact LeO.none _)
   | (with_reducible refine LeO.ite ?_ ?_)
   | (with_reducible refine LeO.bind ?_ (fun _ => ?_))
   | exact ih0 _ _ _ _ _ _ _
   | exact ih1 _ _ _ _ _ _ _ _
   | exact ih2 _ _ _ _ _ _
   | exact ih3 _ _ _ _ _ _ _ _
   | exact spec_l01Beside.mono _ _ _ _ _ _
   | exact LeO.none _
   | refine LeO.ite ?_ ?_
   | refine LeO.bind ?_ (fun _ => ?_)
  ·intro y0 y1 y2 y3 y4 y5
   unfold spec_l01Steps.l2
   repeat' first
   | (with_reducible exact ih0 _ _ _ _ _ _ _)
   | (with_reducible exact ih1 _ _ _ _ _ _ _ _)
   | (with_reducible exact ih2 _ _ _ _ _ _)
   | (with_reducible exact ih3 _ _ _ _ _ _ _ _)
   | (with_reducible exact spec_l01Beside.mono _ _ _ _ _ _)
   | (with_reducible exact LeO.refl _)
   | (with_reducible exact LeO.none _)
   | (with_reducible refine LeO.ite ?_ ?_)
   | (with_reducible refine LeO.bind ?_ (fun _ => ?_))
   | exact ih0 _ _ _ _ _ _ _
   | exact ih1 _ _ _ _ _ _ _ _
   | exact ih2 _ _ _ _ _ _
   | exact ih3 _ _ _ _ _ _ _ _
   | exact spec_l01Beside.mono _ _ _ _ _ _
   | exact LeO.none _
   | refine LeO.ite ?_ ?_
   | refine LeO.bind ?_ (fun _ => ?_)
  ·intro y0 y1 y2 y3 y4 y5 y6 y7
   unfold spec_l01Steps.l3
   repeat' first
   | (with_reducible exact ih0 _ _ _ _ _ _ _)
   | (with_reducible exact ih1 _ _ _ _ _ _ _ _)
   | (with_reducible exact ih2 _ _ _ _ _ _)
   | (with_reducible exact ih3 _ _ _ _ _ _ _ _)
   | (with_reducible exact spec_l01Beside.mono _ _ _ _ _ _)
   | (with_reducible exact LeO.refl _)
   | (with_reducible exact LeO.none _)
   | (with_reducible refine LeO.ite ?_ ?_)
   | (with_reducible refine LeO.bind ?_ (fun _ => ?_))
   | exact ih0 _ _ _ _ _ _ _
   | exact ih1 _ _ _ _ _ _ _ _
   | exact ih2 _ _ _ _ _ _
   | exact ih3 _ _ _ _ _ _ _ _
   | exact spec_l01Beside.mono _ _ _ _ _ _
   | exact LeO.none _
   | refine LeO.ite ?_ ?_
   | refine LeO.bind ?_ (fun _ => ?_)
theorem spec_l01Steps.mono : ∀ a0 a1 a2 a3 a4 k, LeO (spec_l01Steps.f k a0 a1 a2 a3 a4) (spec_l01Steps.f (k + 1) a0 a1 a2 a3 a4) := by
 intro a0 a1 a2 a3 a4 k
 obtain ⟨ih0, ih1, ih2, ih3⟩ := spec_l01Steps.mono_l k
 unfold spec_l01Steps.f
 repeat' first
   | (with_reducible exact ih0 _ _ _ _ _ _ _)
   | (with_reducible exact ih1 _ _ _ _ _ _ _ _)
   | (with_reducible exact ih2 _ _ _ _ _ _)
   | (with_reducible exact ih3 _ _ _ _ _ _ _ _)
   | (with_reducible exact spec_l01Beside.mono _ _ _ _ _ _)
   | (with_reducible exact LeO.refl _)
   | (with_reducible exact LeO.none _)
   | (with_reducible refine LeO.ite ?_ ?_)
   | (with_reducible refine LeO.bind ?_ (fun _ => ?_))
   | exact ih0 _ _ _ _ _ _ _
   | exact ih1 _ _ _ _ _ _ _ _
   | exact ih2 _ _ _ _ _ _
   | exact ih3 _ _ _ _ _ _ _ _
   | exact spec_l01Beside.mono _ _ _ _ _ _
   | exact LeO.none _
   | refine LeO.ite ?_ ?_
   | refine LeO.bind ?_ (fun _ => ?_)
def spec_l01Steps.T18 : Bool × List (List Nat × List Nat) := (true, [([], []), ([], []), ([0, 1], [0, 1]), ([2], [2]), ([3], [3]), ([], []), ([], []), ([5, 6], [5, 6]), ([7], [7]), ([8], [8]), ([4], [4]), ([10, 9], [9, 10]), ([11], [11]), ([12], [12])])
def spec_l01Steps.B18 : List Nat := [0, 0, 3, 7, 15, 0, 0, 96, 224, 480, 31, 2047, 4095, 8191]
theorem spec_l01Steps.tab18 : rtab .any (opsOf Try.f47 18) = spec_l01Steps.T18 := by kernel_rfl
theorem spec_l01Steps.bits18 : waitsOk spec_l01Steps.T18.2 spec_l01Steps.B18 = true := by kernel_rfl
def spec_l01Steps.T19 : Bool × List (List Nat × List Nat) := (true, [([], []), ([], []), ([0, 1], [0, 1]), ([2], [2]), ([3], [3]), ([], []), ([], []), ([5, 6], [5, 6]), ([7], [7]), ([8], [8]), ([], []), ([], []), ([10, 11], [10, 11]), ([12], [12]), ([13], [13]), ([], []), ([], []), ([15, 16], [15, 16]), ([17], [17]), ([18], [18]), ([14], [14]), ([20, 19], [19, 20]), ([21], [21]), ([22], [22]), ([4], [4]), ([24, 9, 0, 1, 2, 3, 4, 5, 6, 7, 8, 9, 10, 11, 12, 13, 14, 15, 16, 17, 18, 19, 20, 21, 22, 23], [9, 24]), ([25, 23, 0, 1, 2, 3, 4, 5, 6, 7, 8, 9, 10, 11, 12, 13, 14, 15, 16, 17, 18, 19, 20, 21, 22, 23], [23, 25])])
def spec_l01Steps.B19 : List Nat := [0, 0, 3, 7, 15, 0, 0, 96, 224, 480, 0, 0, 3072, 7168, 15360, 0, 0, 98304, 229376, 491520, 31744, 2096128, 4193280, 8387584, 31, 33554431, 67108863]
theorem spec_l01Steps.tab19 : rtab .any (opsOf Try.f47 19) = spec_l01Steps.T19 := by kernel_rfl
theorem spec_l01Steps.bits19 : waitsOk spec_l01Steps.T19.2 spec_l01Steps.B19 = true := by kernel_rfl
set_option maxHeartbeats 8000000 in
set_option maxRecDepth 100000 in
theorem spec_l01Steps.calls (k : Nat) (g0 : Nat) (s0_0 : Int) (s0_1 : Int) (s0_2 : LA 10) (a1_0 : Int) (a1_1 : Int) (r : LA 100) (w : World) (hb0 : w.heap[g0]? = some (.cells (mixA (Value.int .u16) [.int .i8 s0_0, .int .i8 s0_1] s0_2) 31 (0, 0))) (h : spec_l01Steps.f k s0_0 s0_1 s0_2 a1_0 a1_1 = some r) :
  Calls Try.prog 47 #[.pointer (some ⟨g0, 0, none⟩), .agg #[.int .i8 a1_0, .int .i8 a1_1]] w fun e w' => e = .returned (.agg (mixA (Value.int .i64) [] r)) ∧ Below w.heap.size w w' := by
 have hu54 := Try.underlying54
 have BK0 := Aside0.mk hb0
 clear hb0
 have HB := Aside0.mk (Below.refl w.heap.size w)
 have H : (spec_l01Steps.l0 k 0 s0_0 s0_1 s0_2 a1_0 a1_1 (LA.zero 100)) = some r := h
 clear h
 have H' := Aside0.mk H
 clear H
 go_enter Try.func47, Try.ntmps47
 go_wp2_with (first | ((with_reducible refine gate_dst (N := 3) rfl ?_); refine box_event ?hg (N := 3) ?hd (cs := #[.int .i8 a1_0, .int .i8 a1_1]) (t := 54) ?hr ?_; (case hd => rfl); (case hg => rfl); (case hr => first | (go_simp; done) | (go_simp; rfl)); intro gb156 hg w3 hbox hb; have n0_ := bkb BK0 hb; have n1_ := bst HB hb; have n2_ := Aside0.mk (hbox); have n3_ := gwl HB hg; have n4_ := gwl HB hg; have n5_ := nbl BK0 hg; have n6_ := nbg BK0 hg; clear BK0; clear HB; have BK0 := n0_; have HB := n1_; have BK156 := n2_; have GW156 := n3_; have GE156 := n4_; have NB0_156 := n5_; have NB156_0 := n6_; clear n0_ n1_ n2_ n3_ n4_ n5_ n6_; clear hb hbox hg) | ((with_reducible refine gate_dst (N := 4) rfl ?_); refine box_event ?hg (N := 4) ?hd (cs := (mixA (Value.int .i64) [] (LA.zero 100))) (t := 78) ?hr ?_; (case hd => rfl); (case hg => rfl); (case hr => first | (go_simp; done) | (go_simp; rfl)); intro gb157 hg w4 hbox hb; have n0_ := bkb BK0 hb; have n1_ := bkb BK156 hb; have n2_ := bst HB hb; have n3_ := Aside0.mk (hbox); have n4_ := gwl HB hg; have n5_ := gwl HB hg; have n6_ := nbl BK0 hg; have n7_ := nbg BK0 hg; have n8_ := nbl BK156 hg; have n9_ := nbg BK156 hg; clear BK0; clear BK156; clear HB; have BK0 := n0_; have BK156 := n1_; have HB := n2_; have BK157 := n3_; have GW157 := n4_; have GE157 := n5_; have NB0_157 := n6_; have NB157_0 := n7_; have NB156_157 := n8_; have NB157_156 := n9_; clear n0_ n1_ n2_ n3_ n4_ n5_ n6_ n7_ n8_ n9_; clear hb hbox hg) | ((with_reducible refine gate_dst (N := 5) rfl ?_); refine box_event ?hg (N := 5) ?hd (cs := (mixA (Value.int .i64) [] (LA.zero 100))) (t := 78) ?hr ?_; (case hd => rfl); (case hg => rfl); (case hr => first | (go_simp; done) | (go_simp; rfl)); intro gb158 hg w5 hbox hb; have n0_ := bkb BK0 hb; have n1_ := bkb BK156 hb; have n2_ := bkb BK157 hb; have n3_ := bst HB hb; have n4_ := Aside0.mk (hbox); have n5_ := gwl HB hg; have n6_ := gwl HB hg; have n7_ := nbl BK0 hg; have n8_ := nbg BK0 hg; have n9_ := nbl BK156 hg; have n10_ := nbg BK156 hg; have n11_ := nbl BK157 hg; have n12_ := nbg BK157 hg; clear BK0; clear BK156; clear BK157; clear HB; have BK0 := n0_; have BK156 := n1_; have BK157 := n2_; have HB := n3_; have BK158 := n4_; have GW158 := n5_; have GE158 := n6_; have NB0_158 := n7_; have NB158_0 := n8_; have NB156_158 := n9_; have NB158_156 := n10_; have NB157_158 := n11_; have NB158_157 := n12_; clear n0_ n1_ n2_ n3_ n4_ n5_ n6_ n7_ n8_ n9_ n10_ n11_ n12_; clear hb hbox hg) | ((with_reducible refine gate_store (p := 5) rfl ?_); refine wpList_store_lmix rfl 78 _ _ rfl gb158 (e := (Value.int .i64)) (cs' := []) (W' := (LA.zero 100)) (cs := []) (W := (LA.zero 100)) (T := 78) rfl rfl (pk BK158) rfl (by kernel_rfl) rfl (fun _ => rfl) rfl ?_; intro w6 hi hk hbl; have n0_ := Aside0.mk (KeepBut.blk hk (g' := g0) (o := .cells (mixA (Value.int .u16) [.int .i8 s0_0, .int .i8 s0_1] s0_2) 31 (0, 0)) (pk BK0) NB0_158.out (by simp)); have n1_ := Aside0.mk (KeepBut.blk hk (g' := gb156) (o := .cells #[.int .i8 a1_0, .int .i8 a1_1] 54 (0, 0)) (pk BK156) NB156_158.out (by simp)); have n2_ := Aside0.mk (KeepBut.blk hk (g' := gb157) (o := .cells (mixA (Value.int .i64) [] (LA.zero 100)) 78 (0, 0)) (pk BK157) NB157_158.out (by simp)); have n3_ := Aside0.mk (hbl _ _ (pbs HB) GE158.out); have n4_ := Aside0.mk (hi); clear BK0; clear BK156; clear BK157; clear HB; clear BK158; have BK0 := n0_; have BK156 := n1_; have BK157 := n2_; have HB := n3_; have BK158 := n4_; clear n0_ n1_ n2_ n3_ n4_; clear hi hk hbl))
 go_loopg [6] k (fun kq v6 w' => ∃ (x6_1 : Int) (x159000_1 : LA 100), v6 = .int .i64 x6_1 ∧ Aside0 (spec_l01Steps.l0 kq x6_1 s0_0 s0_1 s0_2 a1_0 a1_1 x159000_1 = some r) ∧ Aside0 (kq ≤ k) ∧ Aside0 (w'.heap[g0]? = some (.cells (mixA (Value.int .u16) [.int .i8 s0_0, .int .i8 s0_1] s0_2) 31 (0, 0))) ∧ Aside0 (w'.heap[gb156]? = some (.cells #[.int .i8 a1_0, .int .i8 a1_1] 54 (0, 0))) ∧ Aside0 (w'.heap[gb157]? = some (.cells (mixA (Value.int .i64) [] (LA.zero 100)) 78 (0, 0))) ∧ Aside0 (w'.heap[gb158]? = some (.cells (mixA (Value.int .i64) [] x159000_1) 78 (0, 0))) ∧ Aside0 (Below w.heap.size w w'))
 case atStart => exact ⟨(0), ((LA.zero 100)), (by first | rfl | (simp; done) | (simp [*]; done)), H', ⟨Nat.le_refl _⟩, ⟨pk BK0⟩, ⟨pk BK156⟩, ⟨pk BK157⟩, ⟨pk BK158⟩, ⟨pbs HB⟩⟩
 case round =>
  clear H'
  try clear p2
  try clear c4
  obtain ⟨x6_1, x159000_1, rfl, HA, HK1, BK0, BK156, BK157, BK158, HB⟩ := hrel
  cases gk with
  | zero => exact absurd HA.out (by simp [spec_l01Steps.l0])
  | succ k1 =>
   have H := HA.out
   clear HA
   simp only [spec_l01Steps.l0] at H
   by_cases c7 : x6_1 < 10
   ·rw [if_pos c7] at H
    have c7b0 : decide (x6_1 < 10) = true := decide_eq_true c7
    clear c7
    have H' := Aside0.mk H
    clear H
    go_wp2
    go_loopg [7] k1 (fun kq v7 w' => ∃ (x7_2 : Int) (x159000_2 : LA 100), v7 = .int .i64 x7_2 ∧ Aside0 (spec_l01Steps.l1 kq x6_1 x7_2 s0_0 s0_1 s0_2 a1_0 a1_1 x159000_2 = some r) ∧ Aside0 (kq ≤ k1) ∧ Aside0 (w'.heap[g0]? = some (.cells (mixA (Value.int .u16) [.int .i8 s0_0, .int .i8 s0_1] s0_2) 31 (0, 0))) ∧ Aside0 (w'.heap[gb156]? = some (.cells #[.int .i8 a1_0, .int .i8 a1_1] 54 (0, 0))) ∧ Aside0 (w'.heap[gb157]? = some (.cells (mixA (Value.int .i64) [] (LA.zero 100)) 78 (0, 0))) ∧ Aside0 (w'.heap[gb158]? = some (.cells (mixA (Value.int .i64) [] x159000_2) 78 (0, 0))) ∧ Aside0 (Below w.heap.size w w'))
    case atStart => exact ⟨(0), (x159000_1), (by first | rfl | (simp; done) | (simp [*]; done)), H', ⟨Nat.le_refl _⟩, ⟨pk BK0⟩, ⟨pk BK156⟩, ⟨pk BK157⟩, ⟨pk BK158⟩, ⟨pbs HB⟩⟩
    case round =>
     clear H'
     try clear p2
     try clear c4
     try clear c7
     try clear c7b0
     try clear p2
     obtain ⟨x7_2, x159000_2, rfl, HA, HK2, BK0, BK156, BK157, BK158, HB⟩ := hrel
     cases gk with
     | zero => exact absurd HA.out (by simp [spec_l01Steps.l1])
     | succ k2 =>
      have H := HA.out
      clear HA
      simp only [spec_l01Steps.l1] at H
      by_cases c8 : x7_2 < 10
      ·rw [if_pos c8] at H
       have c8b0 : decide (x7_2 < 10) = true := decide_eq_true c8
       clear c8
       by_cases c9 : 0 ≤ x6_1
       ·rw [if_pos c9] at H
        have c9b0 : decide (0 ≤ x6_1) = true := decide_eq_true c9
        clear c9
        by_cases c10 : x6_1 < 10
        ·rw [if_pos c10] at H
         have c10b0 : decide (x6_1 < 10) = true := decide_eq_true c10
         clear c10
         by_cases c11 : 0 ≤ x7_2
         ·rw [if_pos c11] at H
          have c11b0 : decide (0 ≤ x7_2) = true := decide_eq_true c11
          clear c11
          have H' := Aside0.mk H
          clear H
          have hpd12 : (0 ≤ x6_1) = True := eq_true (by first | omega | exact of_decide_eq_true (by first | (with_reducible assumption) | assumption))
          have hqd12 : (x6_1 < 10) = True := eq_true (by first | omega | exact of_decide_eq_true (by first | (with_reducible assumption) | assumption))
          have hrd12 : (x6_1 < ((10 : Nat) : Int)) = True := eq_true (by first | omega | exact of_decide_eq_true (by first | (with_reducible assumption) | assumption))
          have hpbd12 : (0 ≤ x7_2) = True := eq_true (by first | omega | exact of_decide_eq_true (by first | (with_reducible assumption) | assumption))
          have hqbd12 : (x7_2 < 10) = True := eq_true (by first | omega | exact of_decide_eq_true (by first | (with_reducible assumption) | assumption))
          have hrbd12 : (x7_2 < ((10 : Nat) : Int)) = True := eq_true (by first | omega | exact of_decide_eq_true (by first | (with_reducible assumption) | assumption))
          have hdd12 : wr.cell? ⟨gb158, x6_1.toNat * 10 + x7_2.toNat, none⟩ = some (.int .i64 (rd x159000_2.l (x6_1 * 10 + x7_2))) := mix_at2z 10 BK158.out x6_1 x7_2 (of_eq_true hpd12) (of_eq_true hpbd12) (by have := of_eq_true hqd12; have := of_eq_true hqbd12; omega)
          have hfdd12 := blk_frozen BK158.out (x6_1.toNat * 10 + x7_2.toNat)
          go_wp2_with (first | ((with_reducible refine gate_store (t := 2) (p := 24) rfl ?_); refine store_event (t := 2) (p := 24) (v := ?vo_w13) (w1 := (wr.setCell ⟨gb158, x6_1.toNat * 10 + x7_2.toNat, none⟩ (.int .i64 (-1)))) ?hg ?ho ?hn ?hr ?_; (case ho => rfl); (case hg => rfl); (case hn => rfl); (case hr => first | (go_simp; done) | (go_simp; rfl)); intro w13 hw; have hi : w13.heap[gb158]? = some (.cells (mixA (Value.int .i64) [] (LA.set x159000_2 (x6_1 * 10 + x7_2) (-1))) 78 (0, 0)) := (by rw [hw]; exact mix_set2z 10 BK158.out x6_1 x7_2 (-1) (of_eq_true hpd12) (of_eq_true hpbd12) (by have := of_eq_true hqd12; have := of_eq_true hqbd12; omega)); have hk : KeepBut wr w13 gb158 none := (by rw [hw]; exact setcell_keep _ _ _ _); have hbl : ∀ B_ a_, Below B_ a_ wr → B_ ≤ gb158 → Below B_ a_ w13 := (by rw [hw]; exact setcell_below _ _ _ _); clear hw; have n0_ := Aside0.mk (KeepBut.blk hk (g' := g0) (o := .cells (mixA (Value.int .u16) [.int .i8 s0_0, .int .i8 s0_1] s0_2) 31 (0, 0)) (pk BK0) NB0_158.out (by simp)); have n1_ := Aside0.mk (KeepBut.blk hk (g' := gb156) (o := .cells #[.int .i8 a1_0, .int .i8 a1_1] 54 (0, 0)) (pk BK156) NB156_158.out (by simp)); have n2_ := Aside0.mk (KeepBut.blk hk (g' := gb157) (o := .cells (mixA (Value.int .i64) [] (LA.zero 100)) 78 (0, 0)) (pk BK157) NB157_158.out (by simp)); have n3_ := Aside0.mk (hbl _ _ (pbs HB) GE158.out); have n4_ := Aside0.mk (hi); clear BK0; clear BK156; clear BK157; clear HB; clear BK158; have BK0 := n0_; have BK156 := n1_; have BK157 := n2_; have HB := n3_; have BK158 := n4_; clear n0_ n1_ n2_ n3_ n4_; clear hi hk hbl))
          go_roundg k2
          case measure => have := HK1.out; have := HK2.out; omega
          case rel => exact ⟨(wrap64 (x7_2 + 1)), ((LA.set x159000_2 (x6_1 * 10 + x7_2) (-1))), (by first | rfl | (simp; done) | (simp [*]; done)), H', ⟨by have := HK1.out; have := HK2.out; omega⟩, ⟨pk BK0⟩, ⟨pk BK156⟩, ⟨pk BK157⟩, ⟨pk BK158⟩, ⟨pbs HB⟩⟩
         ·rw [if_neg c11] at H
          exact absurd H (by simp)
        ·rw [if_neg c10] at H
         exact absurd H (by simp)
       ·rw [if_neg c9] at H
        exact absurd H (by simp)
      ·rw [if_neg c8] at H
       have c8b0 : decide (x7_2 < 10) = false := decide_eq_false c8
       clear c8
       have H' := Aside0.mk H
       clear H
       go_wp2
       go_roundg k2
       case measure => have := HK1.out; have := HK2.out; omega
       case rel => exact ⟨(wrap64 (x6_1 + 1)), (x159000_2), (by first | rfl | (simp; done) | (simp [*]; done)), H', ⟨by have := HK1.out; have := HK2.out; omega⟩, ⟨pk BK0⟩, ⟨pk BK156⟩, ⟨pk BK157⟩, ⟨pk BK158⟩, ⟨pbs HB⟩⟩
   ·rw [if_neg c7] at H
    have c7b0 : decide (x6_1 < 10) = false := decide_eq_false c7
    clear c7
    by_cases c14 : 0 ≤ a1_1
    ·rw [if_pos c14] at H
     have c14b0 : decide (0 ≤ a1_1) = true := decide_eq_true c14
     clear c14
     by_cases c15 : a1_1 < 10
     ·rw [if_pos c15] at H
      have c15b0 : decide (a1_1 < 10) = true := decide_eq_true c15
      clear c15
      by_cases c16 : 0 ≤ a1_0
      ·rw [if_pos c16] at H
       have c16b0 : decide (0 ≤ a1_0) = true := decide_eq_true c16
       clear c16
       by_cases c17 : a1_0 < 10
       ·rw [if_pos c17] at H
        have c17b0 : decide (a1_0 < 10) = true := decide_eq_true c17
        clear c17
        obtain ⟨y159, hy159⟩ : ∃ y_ : List (S54), y_ = (([(⟨a1_0, a1_1⟩ : S54)] : List (S54))) := ⟨_, rfl⟩
        replace H : (spec_l01Steps.l2 k1 y159 0 s0_0 s0_1 s0_2 (LA.set x159000_1 (a1_1 * 10 + a1_0) 0)) = some r := by first | (rw [hy159]; with_reducible exact H) | (have H2_ := (Option.bind_some _ _).symm.trans H; rw [hy159]; with_reducible exact H2_) | (have H2_ := (Option.bind_some _ _).symm.trans H; with_reducible exact H2_) | with_reducible exact H | (rw [hy159]; exact H) | exact H
        have Ny159 := Aside0.mk hy159
        clear hy159
        have H' := Aside0.mk H
        clear H
        try go_wp2
        have n0_ := Aside0.mk (blk_drew BK0.out)
        have n1_ := Aside0.mk (blk_drew BK156.out)
        have n2_ := Aside0.mk (blk_drew BK157.out)
        have n3_ := Aside0.mk (blk_drew BK158.out)
        have n4_ := Aside0.mk (below_drew1 HB.out)
        clear BK0
        clear BK156
        clear BK157
        clear BK158
        clear HB
        have BK0 := n0_
        have BK156 := n1_
        have BK157 := n2_
        have BK158 := n3_
        have HB := n4_
        clear n0_ n1_ n2_ n3_ n4_
        have hpd19 : (0 ≤ a1_1) = True := eq_true (by first | omega | exact of_decide_eq_true (by first | (with_reducible assumption) | assumption))
        have hqd19 : (a1_1 < 10) = True := eq_true (by first | omega | exact of_decide_eq_true (by first | (with_reducible assumption) | assumption))
        have hrd19 : (a1_1 < ((10 : Nat) : Int)) = True := eq_true (by first | omega | exact of_decide_eq_true (by first | (with_reducible assumption) | assumption))
        have hpbd19 : (0 ≤ a1_0) = True := eq_true (by first | omega | exact of_decide_eq_true (by first | (with_reducible assumption) | assumption))
        have hqbd19 : (a1_0 < 10) = True := eq_true (by first | omega | exact of_decide_eq_true (by first | (with_reducible assumption) | assumption))
        have hrbd19 : (a1_0 < ((10 : Nat) : Int)) = True := eq_true (by first | omega | exact of_decide_eq_true (by first | (with_reducible assumption) | assumption))
        refine start_ (n := 7) (S := fun w' => w'.cell? ⟨gb156, 0, none⟩ = some (.int .i8 a1_0) ∧ w'.cell? ⟨gb156, 1, none⟩ = some (.int .i8 a1_1)) (ds := []) #[false, false, false, false, false, false, false] (by kernel_rfl) rfl rfl ⟨(blk_cell BK156.out 0).trans rfl, (blk_cell BK156.out 1).trans rfl⟩ (fun hHeld => ?_)
        generalize wr.drew = w18 at BK0 BK156 BK157 BK158 HB hHeld ⊢
        refine pure_ (i := 0) (N := some 25) (v := ?_) (a' := ?_) #[true, false, false, false, false, false, false] rfl rfl (by kernel_rfl) (fun _ _ _ h => h) (Or.inl ⟨by rfl, ?_⟩) ?_ ?_
        rotate_left
        ·intro w'
         go_simp
         with_reducible rfl
        rotate_left
        ·simp only [Act.put, List.setIfInBounds_toArray, List.set_cons_zero, List.set_cons_succ, i64_w, i32_w]
         rfl
        refine pure_ (i := 2) (N := some 27) (v := ?_) (a' := ?_) #[true, false, true, false, false, false, false] rfl rfl (by kernel_rfl) (fun _ _ _ h => h) (Or.inl ⟨by rfl, ?_⟩) ?_ ?_
        rotate_left
        ·intro w'
         go_simp
         with_reducible rfl
        rotate_left
        ·simp only [Act.put, List.setIfInBounds_toArray, List.set_cons_zero, List.set_cons_succ, i64_w, i32_w]
         rfl
        refine take_ (i := 1) (N := some 26) (v := ?_) (a' := ?_) #[true, true, true, false, false, false, false] rfl rfl (by kernel_rfl) (fun _ _ _ h => h) (Or.inl ⟨by rfl, ?_⟩) hHeld ?_ ?_
        rotate_left
        ·rintro w' ⟨s0, s1⟩
         go_simp
         with_reducible rfl
        rotate_left
        ·simp only [Act.put, List.setIfInBounds_toArray, List.set_cons_zero, List.set_cons_succ, i64_w, i32_w]
         rfl
        refine pure_ (i := 4) (N := some 29) (v := ?_) (a' := ?_) #[true, true, true, false, true, false, false] rfl rfl (by kernel_rfl) (fun _ _ _ h => h) (Or.inl ⟨by rfl, ?_⟩) ?_ ?_
        rotate_left
        ·intro w'
         go_simp
         with_reducible rfl
        rotate_left
        ·simp only [Act.put, List.setIfInBounds_toArray, List.set_cons_zero, List.set_cons_succ, i64_w, i32_w]
         rfl
        refine take_ (i := 3) (N := some 28) (v := ?_) (a' := ?_) #[true, true, true, true, true, false, false] rfl rfl (by kernel_rfl) (fun _ _ _ h => h) (Or.inl ⟨by rfl, ?_⟩) hHeld ?_ ?_
        rotate_left
        ·rintro w' ⟨s0, s1⟩
         go_simp
         with_reducible rfl
        rotate_left
        ·simp only [Act.put, List.setIfInBounds_toArray, List.set_cons_zero, List.set_cons_succ, i64_w, i32_w]
         rfl
        refine pure_ (i := 5) (N := some 30) (v := ?_) (a' := ?_) #[true, true, true, true, true, true, false] rfl rfl (by kernel_rfl) (fun _ _ _ h => h) (Or.inl ⟨by rfl, ?_⟩) ?_ ?_
        rotate_left
        ·intro w'
         go_simp
         with_reducible rfl
        rotate_left
        ·simp only [Act.put, List.setIfInBounds_toArray, List.set_cons_zero, List.set_cons_succ, i64_w, i32_w]
         rfl
        refine one_ (i := 6) (N := none) #[true, true, true, true, true, true, true] rfl rfl (by kernel_rfl) (by decide) (fun K hK => ?_)
        have hdd19 : w18.cell? ⟨gb158, a1_1.toNat * 10 + a1_0.toNat, none⟩ = some (.int .i64 (rd x159000_1.l (a1_1 * 10 + a1_0))) := mix_at2z 10 BK158.out a1_1 a1_0 (of_eq_true hpd19) (of_eq_true hpbd19) (by have := of_eq_true hqd19; have := of_eq_true hqbd19; omega)
        have hfdd19 := blk_frozen BK158.out (a1_1.toNat * 10 + a1_0.toNat)
        refine storel_step (w1 := (w18.setCell ⟨gb158, a1_1.toNat * 10 + a1_0.toNat, none⟩ (.int .i64 0))) ?hg ?hn ?hr ?_; (case hg => rfl); (case hn => rfl); (case hr => first | (go_simp; done) | (go_simp; rfl))
        intro w20 hw
        have hi : w20.heap[gb158]? = some (.cells (mixA (Value.int .i64) [] (LA.set x159000_1 (a1_1 * 10 + a1_0) 0)) 78 (0, 0)) := (by rw [hw]; exact mix_set2z 10 BK158.out a1_1 a1_0 0 (of_eq_true hpd19) (of_eq_true hpbd19) (by have := of_eq_true hqd19; have := of_eq_true hqbd19; omega))
        have hk : KeepBut w18 w20 gb158 none := (by rw [hw]; exact setcell_keep _ _ _ _)
        have hbl : ∀ B_ a_, Below B_ a_ w18 → B_ ≤ gb158 → Below B_ a_ w20 := (by rw [hw]; exact setcell_below _ _ _ _)
        clear hw
        have n0_ := Aside0.mk (KeepBut.blk hk (g' := g0) (o := .cells (mixA (Value.int .u16) [.int .i8 s0_0, .int .i8 s0_1] s0_2) 31 (0, 0)) (pk BK0) NB0_158.out (by simp))
        have n1_ := Aside0.mk (KeepBut.blk hk (g' := gb156) (o := .cells #[.int .i8 a1_0, .int .i8 a1_1] 54 (0, 0)) (pk BK156) NB156_158.out (by simp))
        have n2_ := Aside0.mk (KeepBut.blk hk (g' := gb157) (o := .cells (mixA (Value.int .i64) [] (LA.zero 100)) 78 (0, 0)) (pk BK157) NB157_158.out (by simp))
        have n3_ := Aside0.mk (hbl _ _ (pbs HB) GE158.out)
        have n4_ := Aside0.mk (hi)
        clear BK0
        clear BK156
        clear BK157
        clear HB
        clear BK158
        have BK0 := n0_
        have BK156 := n1_
        have BK157 := n2_
        have HB := n3_
        have BK158 := n4_
        clear n0_ n1_ n2_ n3_ n4_
        clear hi hk hbl
        refine hK.out _ _ ⟨(blk_cell BK156.out 0).trans rfl, (blk_cell BK156.out 1).trans rfl⟩ (fun hHeld => ?_)
        clear hK K
        refine done_ (by kernel_rfl) ?_
        have hnb21 := NB156_0.out
        have hnc21 := NB0_156.out
        have hnb22 := NB156_157.out
        have hnc22 := NB157_156.out
        have hnb23 := NB156_158.out
        have hnc23 := NB158_156.out
        have hcz24_0 : w20.cell? ⟨gb156, 0, none⟩ = some (.int .i8 a1_0) := bc_ BK156.out 0
        have hcz24_1 : w20.cell? ⟨gb156, 1, none⟩ = some (.int .i8 a1_1) := bc_ BK156.out 1
        have hfz24_0 := blk_frozen BK156.out 0
        have hfz24_1 := blk_frozen BK156.out 1
        try go_wp2_with (first | ((with_reducible refine gate_dst (N := 32) rfl ?_); refine Kd.R_lit k54 _ 54 ?hg (N := 32) ?hd (xs := ([(⟨a1_0, a1_1⟩ : S54)] : List (S54))) (inner := [.int .i8 a1_0, .int .i8 a1_1]) (ok := fun _ => True) (okp := fun _ => True) ?hr ?hp (fun _ hk => hk) trivial (Below.refl _ _) (Nat.le_refl _) (by simp) ?_; (case hd => rfl); (case hg => rfl); (case hr => first | (go_simp; done) | (go_simp; rfl)); (case hp => exact (Reps.c2 (show Kd.M k54 _ _ _ (⟨a1_0, a1_1⟩ : S54) [.int .i8 a1_0, .int .i8 a1_1] from (k54_mkM _ _ _ (⟨a1_0, a1_1⟩ : S54) )) (Reps.none _ _))); intro v160 w25 ho26 hb hg_ hnew_; clear hg_ hnew_; (first | rw [← Ny159.out] at ho26 | (simp only [Int.reduceToNat] at ho26; rw [← Ny159.out] at ho26)); have n0_ := Aside0.mk (Kd.R_lower (Kd.R_newB ho26 (g := gb156) (o := .cells #[.int .i8 a1_0, .int .i8 a1_1] 54 (0, 0)) (pk BK156)) (below_size (by repeat (first | (with_reducible first | exact HB.out | apply below_alloc | apply pw_below_drewN | apply below_drew1 | refine below_set ?_ GE0.out | refine below_set ?_ GE156.out | refine below_set ?_ GE157.out | refine below_set ?_ GE158.out) | exact HB.out)))); have n1_ := bkb BK0 hb; have n2_ := bkb BK156 hb; have n3_ := bkb BK157 hb; have n4_ := bkb BK158 hb; have n5_ := bst HB hb; clear BK0; clear BK156; clear BK157; clear BK158; clear HB; have HO161 := n0_; have BK0 := n1_; have BK156 := n2_; have BK157 := n3_; have BK158 := n4_; have HB := n5_; clear n0_ n1_ n2_ n3_ n4_ n5_; clear hb ho26))
        go_loopg [8, 9] k1 (fun kq v8 v9 w' => ∃ (x8_2 : List (S54)) (x9_2 : Int) (x159000_2 : LA 100), v9 = .int .i64 x9_2 ∧ Aside0 (spec_l01Steps.l2 kq x8_2 x9_2 s0_0 s0_1 s0_2 x159000_2 = some r) ∧ Aside0 (kq ≤ k1) ∧ Aside0 (Kd.R k54 54 w' w.heap.size (fun k_ => k_ ≠ gb156) v8 x8_2) ∧ Aside0 (w'.heap[g0]? = some (.cells (mixA (Value.int .u16) [.int .i8 s0_0, .int .i8 s0_1] s0_2) 31 (0, 0))) ∧ Aside0 (w'.heap[gb156]? = some (.cells #[.int .i8 a1_0, .int .i8 a1_1] 54 (0, 0))) ∧ Aside0 (w'.heap[gb157]? = some (.cells (mixA (Value.int .i64) [] (LA.zero 100)) 78 (0, 0))) ∧ Aside0 (w'.heap[gb158]? = some (.cells (mixA (Value.int .i64) [] x159000_2) 78 (0, 0))) ∧ Aside0 (Below w.heap.size w w'))
        case atStart => exact ⟨(y159), (0), ((LA.set x159000_1 (a1_1 * 10 + a1_0) 0)), (by first | rfl | (simp; done) | (simp [*]; done)), H', ⟨Nat.le_refl _⟩, ⟨by (with_reducible repeat (first | apply Kd.R_alloc | apply Kd.R_drewN | apply Kd.R_drew)); exact Kd.R_mono HO161.out (fun _ hk => hk.2)⟩, ⟨pk BK0⟩, ⟨pk BK156⟩, ⟨pk BK157⟩, ⟨pk BK158⟩, ⟨pbs HB⟩⟩
        case round =>
         clear H'
         try clear c1
         try clear c2
         try clear p2
         try clear c4
         try clear p6
         try clear c7
         try clear c7b0
         try clear c8
         try clear c8b0
         try clear c9
         try clear c9b0
         try clear c10
         try clear c10b0
         try clear c11
         try clear c11b0
         try clear c14
         try clear c14b0
         try clear c15
         try clear c15b0
         try clear c16
         try clear c16b0
         try clear c17
         try clear c17b0
         try clear c21
         try clear c22
         try clear c23
         try clear hcz24_0
         try clear hcz24_1
         try clear hfz24_0
         try clear hfz24_1
         try clear p2
         obtain ⟨x8_2, x9_2, x159000_2, rfl, HA, HK2, HO_8, BK0, BK156, BK157, BK158, HB⟩ := hrel
         cases gk with
         | zero => exact absurd HA.out (by simp [spec_l01Steps.l2])
         | succ k2 =>
          have H := HA.out
          clear HA
          simp only [spec_l01Steps.l2] at H
          by_cases c27 : x9_2 < (x8_2.length : Int)
          ·rw [if_pos c27] at H
           have c27b0 : decide (x9_2 < (x8_2.length : Int)) = true := decide_eq_true c27
           clear c27
           by_cases c28 : 0 ≤ x9_2
           ·rw [if_pos c28] at H
            have c28b0 : decide (0 ≤ x9_2) = true := decide_eq_true c28
            clear c28
            replace H := Option.bind_eq_some_iff.mp H
            obtain ⟨t163, A290, H⟩ := H
            replace H : (spec_l01Steps.l3 k2 x8_2 x9_2 t163 0 s0_0 s0_1 s0_2 x159000_2) = some r := H
            have A29 := Aside0.mk A290
            clear A290
            have H' := Aside0.mk H
            clear H
            obtain ⟨Ao30, co30, eo30⟩ := Kd.R_slice HO_8.out
            subst eo30
            have p162 : 0 ≤ (x9_2 : Int) := of_decide_eq_true (by first | (with_reducible assumption) | assumption)
            have q162 : x9_2 < (x8_2.length : Int) := of_decide_eq_true (by first | (with_reducible assumption) | assumption)
            obtain ⟨ad162, e162, hx162_0, hx162_1⟩ := at_T54 (Kd.R_reads' HO_8.out).2.2 x9_2 p162 q162
            cases e162
            replace p162 := eq_true p162
            replace q162 := eq_true q162
            go_wp2_with (first | ((with_reducible refine gate_callee (f := 72) rfl ?_); refine goesL_ (some 44) rfl rfl Try.func72 (by kernel_rfl) rfl #[.pointer (some ⟨g0, 0, none⟩), .agg #[.int .i8 ((rd_T54 x8_2 x9_2).f0), .int .i8 ((rd_T54 x8_2 x9_2).f1)]] rfl (by (try simp only [List.map_toArray, List.map_cons, List.map_nil]); first | done | rfl | (simp only [List.length_drop, List.length_take]; rfl)) ?_; (with_reducible refine (spec_l01Beside.calls k2 g0 s0_0 s0_1 s0_2 ((rd_T54 x8_2 x9_2).f0) ((rd_T54 x8_2 x9_2).f1) t163 _ ?side1 A29.out).mono ?_); (case side1 => exact (pk BK0)); rintro e w31 ⟨v164, rfl, ho0, hb⟩; refine ⟨_, rfl, ?_⟩; have n0_ := Aside0.mk (Kd.R_elder' (by (with_reducible repeat (first | apply Kd.R_alloc | apply Kd.R_drewN | apply Kd.R_drew)); exact HO_8.out) (Kd.R_base ho0) hb); have n1_ := Aside0.mk (Kd.R_lower (Kd.R_newB (Kd.R_new' ho0 (Kd.R_lt (by (with_reducible repeat (first | apply Kd.R_alloc | apply Kd.R_drewN | apply Kd.R_drew)); exact HO_8.out))) (g := gb156) (o := .cells #[.int .i8 a1_0, .int .i8 a1_1] 54 (0, 0)) (pk BK156)) (below_size (by repeat (first | (with_reducible first | exact HB.out | apply below_alloc | apply pw_below_drewN | apply below_drew1 | refine below_set ?_ GE0.out | refine below_set ?_ GE156.out | refine below_set ?_ GE157.out | refine below_set ?_ GE158.out) | exact HB.out)))); have n2_ := bkb BK0 hb; have n3_ := bkb BK156 hb; have n4_ := bkb BK157 hb; have n5_ := bkb BK158 hb; have n6_ := bst HB hb; clear HO_8; clear BK0; clear BK156; clear BK157; clear BK158; clear HB; have HO_8 := n0_; have HO165 := n1_; have BK0 := n2_; have BK156 := n3_; have BK157 := n4_; have BK158 := n5_; have HB := n6_; clear n0_ n1_ n2_ n3_ n4_ n5_ n6_; (try clear hb); (try clear hb2); (try clear hk); (try clear hi); (try clear ho0)))
            go_loopg [8, 11] k2 (fun kq v8 v11 w' => ∃ (x8_3 : List (S54)) (x11_3 : Int) (x159000_3 : LA 100), v11 = .int .i64 x11_3 ∧ Aside0 (spec_l01Steps.l3 kq x8_3 x9_2 t163 x11_3 s0_0 s0_1 s0_2 x159000_3 = some r) ∧ Aside0 (kq ≤ k2) ∧ Aside0 (Kd.R k54 54 w' w.heap.size (fun k_ => some k_ ≠ (v164 : Value).ownBlock ∧ k_ ≠ gb156) v8 x8_3) ∧ Aside0 (Kd.R k54 54 w' w.heap.size (fun k_ => some k_ ≠ (v8 : Value).ownBlock ∧ k_ ≠ gb156) v164 t163) ∧ Aside0 (w'.heap[g0]? = some (.cells (mixA (Value.int .u16) [.int .i8 s0_0, .int .i8 s0_1] s0_2) 31 (0, 0))) ∧ Aside0 (w'.heap[gb156]? = some (.cells #[.int .i8 a1_0, .int .i8 a1_1] 54 (0, 0))) ∧ Aside0 (w'.heap[gb157]? = some (.cells (mixA (Value.int .i64) [] (LA.zero 100)) 78 (0, 0))) ∧ Aside0 (w'.heap[gb158]? = some (.cells (mixA (Value.int .i64) [] x159000_3) 78 (0, 0))) ∧ Aside0 (Below w.heap.size w w'))
            case atStart => exact ⟨(x8_2), (0), (x159000_2), (by first | rfl | (simp; done) | (simp [*]; done)), H', ⟨Nat.le_refl _⟩, ⟨by (with_reducible repeat (first | apply Kd.R_alloc | apply Kd.R_drewN | apply Kd.R_drew)); exact Kd.R_mono HO_8.out (fun _ hk => ⟨hk.2, hk.1⟩)⟩, ⟨by (with_reducible repeat (first | apply Kd.R_alloc | apply Kd.R_drewN | apply Kd.R_drew)); exact Kd.R_mono HO165.out (fun _ hk => ⟨hk.1.2, hk.2⟩)⟩, ⟨pk BK0⟩, ⟨pk BK156⟩, ⟨pk BK157⟩, ⟨pk BK158⟩, ⟨pbs HB⟩⟩
            case round =>
             clear H'
             try clear c1
             try clear p1
             try clear q1
             try clear hx1
             try clear c2
             try clear p2
             try clear c4
             try clear p6
             try clear c7
             try clear c7b0
             try clear c8
             try clear c8b0
             try clear c9
             try clear c9b0
             try clear c10
             try clear c10b0
             try clear c11
             try clear c11b0
             try clear c14
             try clear c14b0
             try clear c15
             try clear c15b0
             try clear c16
             try clear c16b0
             try clear p16
             try clear q16
             try clear hx16
             try clear c17
             try clear c17b0
             try clear c21
             try clear c22
             try clear c23
             try clear c27
             try clear c27b0
             try clear c28
             try clear c28b0
             try clear hcz24_0
             try clear hcz24_1
             try clear hfz24_0
             try clear hfz24_1
             try clear hx162_0
             try clear hx162_1
             try clear p162
             try clear p2
             try clear p6
             try clear q162
             obtain ⟨x8_3, x11_3, x159000_3, rfl, HA, HK3, HO_8, HO_10, BK0, BK156, BK157, BK158, HB⟩ := hrel
             cases gk with
             | zero => exact absurd HA.out (by simp [spec_l01Steps.l3])
             | succ k3 =>
              have H := HA.out
              clear HA
              simp only [spec_l01Steps.l3] at H
              by_cases c32 : x11_3 < (t163.length : Int)
              ·rw [if_pos c32] at H
               have c32b0 : decide (x11_3 < (t163.length : Int)) = true := decide_eq_true c32
               clear c32
               by_cases c33 : 0 ≤ x11_3
               ·rw [if_pos c33] at H
                have c33b0 : decide (0 ≤ x11_3) = true := decide_eq_true c33
                clear c33
                by_cases c34 : 0 ≤ ((rd_T54 t163 x11_3).f1)
                ·rw [if_pos c34] at H
                 have c34b0 : decide (0 ≤ ((rd_T54 t163 x11_3).f1)) = true := decide_eq_true c34
                 clear c34
                 by_cases c35 : ((rd_T54 t163 x11_3).f1) < 10
                 ·rw [if_pos c35] at H
                  have c35b0 : decide (((rd_T54 t163 x11_3).f1) < 10) = true := decide_eq_true c35
                  clear c35
                  by_cases c36 : 0 ≤ ((rd_T54 t163 x11_3).f0)
                  ·rw [if_pos c36] at H
                   have c36b0 : decide (0 ≤ ((rd_T54 t163 x11_3).f0)) = true := decide_eq_true c36
                   clear c36
                   by_cases c37 : ((rd_T54 t163 x11_3).f0) < 10
                   ·rw [if_pos c37] at H
                    have c37b0 : decide (((rd_T54 t163 x11_3).f0) < 10) = true := decide_eq_true c37
                    clear c37
                    by_cases c38 : (rd x159000_3.l (((rd_T54 t163 x11_3).f1) * 10 + ((rd_T54 t163 x11_3).f0))) < 0
                    ·rw [if_pos c38] at H
                     have c38b0 : decide ((rd x159000_3.l (((rd_T54 t163 x11_3).f1) * 10 + ((rd_T54 t163 x11_3).f0))) < 0) = true := decide_eq_true c38
                     clear c38
                     by_cases c39 : 0 ≤ x9_2
                     ·rw [if_pos c39] at H
                      have c39b0 : decide (0 ≤ x9_2) = true := decide_eq_true c39
                      clear c39
                      by_cases c40 : x9_2 < (x8_3.length : Int)
                      ·rw [if_pos c40] at H
                       have c40b0 : decide (x9_2 < (x8_3.length : Int)) = true := decide_eq_true c40
                       clear c40
                       by_cases c41 : 0 ≤ ((rd_T54 x8_3 x9_2).f1)
                       ·rw [if_pos c41] at H
                        have c41b0 : decide (0 ≤ ((rd_T54 x8_3 x9_2).f1)) = true := decide_eq_true c41
                        clear c41
                        by_cases c42 : ((rd_T54 x8_3 x9_2).f1) < 10
                        ·rw [if_pos c42] at H
                         have c42b0 : decide (((rd_T54 x8_3 x9_2).f1) < 10) = true := decide_eq_true c42
                         clear c42
                         by_cases c43 : 0 ≤ ((rd_T54 x8_3 x9_2).f0)
                         ·rw [if_pos c43] at H
                          have c43b0 : decide (0 ≤ ((rd_T54 x8_3 x9_2).f0)) = true := decide_eq_true c43
                          clear c43
                          by_cases c44 : ((rd_T54 x8_3 x9_2).f0) < 10
                          ·rw [if_pos c44] at H
                           have c44b0 : decide (((rd_T54 x8_3 x9_2).f0) < 10) = true := decide_eq_true c44
                           clear c44
                           by_cases c45 : x8_3.length < 70368744177664
                           ·rw [if_pos c45] at H
                            have LMc45 := Aside0.mk c45
                            clear c45
                            obtain ⟨y173, hy173⟩ : ∃ y_ : List (S54), y_ = (x8_3 ++ [(⟨(rd_T54 t163 x11_3).f0, (rd_T54 t163 x11_3).f1⟩ : S54)]) := ⟨_, rfl⟩
                            replace H : (spec_l01Steps.l3 k3 y173 x9_2 t163 (wrap64 (x11_3 + 1)) s0_0 s0_1 s0_2 (LA.set x159000_3 (((rd_T54 t163 x11_3).f1) * 10 + ((rd_T54 t163 x11_3).f0)) (wrap64 ((rd x159000_3.l (((rd_T54 x8_3 x9_2).f1) * 10 + ((rd_T54 x8_3 x9_2).f0))) + 1)))) = some r := by first | (rw [hy173]; with_reducible exact H) | (have H2_ := (Option.bind_some _ _).symm.trans H; rw [hy173]; with_reducible exact H2_) | (have H2_ := (Option.bind_some _ _).symm.trans H; with_reducible exact H2_) | with_reducible exact H | (rw [hy173]; exact H) | exact H
                            have Ny173 := Aside0.mk hy173
                            clear hy173
                            have H' := Aside0.mk H
                            clear H
                            obtain ⟨Ao46, co46, eo46⟩ := Kd.R_slice HO_10.out
                            subst eo46
                            try go_wp2
                            have n0_ := Aside0.mk (Kd.R_drew HO_8.out)
                            have n1_ := Aside0.mk (Kd.R_drew HO_10.out)
                            have n2_ := Aside0.mk (blk_drew BK0.out)
                            have n3_ := Aside0.mk (blk_drew BK156.out)
                            have n4_ := Aside0.mk (blk_drew BK157.out)
                            have n5_ := Aside0.mk (blk_drew BK158.out)
                            have n6_ := Aside0.mk (below_drew1 HB.out)
                            clear HO_8
                            clear HO_10
                            clear BK0
                            clear BK156
                            clear BK157
                            clear BK158
                            clear HB
                            have HO_8 := n0_
                            have HO_10 := n1_
                            have BK0 := n2_
                            have BK156 := n3_
                            have BK157 := n4_
                            have BK158 := n5_
                            have HB := n6_
                            clear n0_ n1_ n2_ n3_ n4_ n5_ n6_
                            have p166 : 0 ≤ (x11_3 : Int) := of_decide_eq_true (by first | (with_reducible assumption) | assumption)
                            have q166 : x11_3 < (t163.length : Int) := of_decide_eq_true (by first | (with_reducible assumption) | assumption)
                            obtain ⟨ad166, e166, hx166_0, hx166_1⟩ := at_T54 (Kd.R_reads' HO_10.out).2.2 x11_3 p166 q166
                            cases e166
                            replace p166 := eq_true p166
                            replace q166 := eq_true q166
                            have p167 : 0 ≤ (x11_3 : Int) := of_decide_eq_true (by first | (with_reducible assumption) | assumption)
                            have q167 : x11_3 < (t163.length : Int) := of_decide_eq_true (by first | (with_reducible assumption) | assumption)
                            obtain ⟨ad167, e167, hx167_0, hx167_1⟩ := at_T54 (Kd.R_reads' HO_10.out).2.2 x11_3 p167 q167
                            obtain rfl : ad166 = ad167 := (by injection e167)
                            replace p167 := eq_true p167
                            replace q167 := eq_true q167
                            have hpd48 : (0 ≤ ((rd_T54 t163 x11_3).f1)) = True := eq_true (by first | omega | exact of_decide_eq_true (by first | (with_reducible assumption) | assumption))
                            have hqd48 : (((rd_T54 t163 x11_3).f1) < 10) = True := eq_true (by first | omega | exact of_decide_eq_true (by first | (with_reducible assumption) | assumption))
                            have hrd48 : (((rd_T54 t163 x11_3).f1) < ((10 : Nat) : Int)) = True := eq_true (by first | omega | exact of_decide_eq_true (by first | (with_reducible assumption) | assumption))
                            have hpbd48 : (0 ≤ ((rd_T54 t163 x11_3).f0)) = True := eq_true (by first | omega | exact of_decide_eq_true (by first | (with_reducible assumption) | assumption))
                            have hqbd48 : (((rd_T54 t163 x11_3).f0) < 10) = True := eq_true (by first | omega | exact of_decide_eq_true (by first | (with_reducible assumption) | assumption))
                            have hrbd48 : (((rd_T54 t163 x11_3).f0) < ((10 : Nat) : Int)) = True := eq_true (by first | omega | exact of_decide_eq_true (by first | (with_reducible assumption) | assumption))
                            refine start_ (n := 14) (S := fun w' => w'.cell? ⟨gb158, ((rd_T54 t163 x11_3).f1).toNat * 10 + ((rd_T54 t163 x11_3).f0).toNat, none⟩ = some (.int .i64 (rd x159000_3.l (((rd_T54 t163 x11_3).f1) * 10 + ((rd_T54 t163 x11_3).f0)))) ∧ w'.cell? (ad166.add ((x11_3).toNat * 2)) = some (.int .i8 ((rd_T54 t163 x11_3).f0)) ∧ w'.cell? ⟨(ad166.add ((x11_3).toNat * 2)).block, (ad166.add ((x11_3).toNat * 2)).off + 1, none⟩ = some (.int .i8 ((rd_T54 t163 x11_3).f1)) ∧ w'.cell? (ad166.add ((x11_3).toNat * 2)) = some (.int .i8 ((rd_T54 t163 x11_3).f0)) ∧ w'.cell? ⟨(ad166.add ((x11_3).toNat * 2)).block, (ad166.add ((x11_3).toNat * 2)).off + 1, none⟩ = some (.int .i8 ((rd_T54 t163 x11_3).f1))) (ds := []) #[false, false, false, false, false, false, false, false, false, false, false, false, false, false] (by kernel_rfl) rfl rfl ⟨mix_at2z 10 BK158.out ((rd_T54 t163 x11_3).f1) ((rd_T54 t163 x11_3).f0) (of_eq_true hpd48) (of_eq_true hpbd48) (by have := of_eq_true hqd48; have := of_eq_true hqbd48; omega), hx166_0, hx166_1, hx167_0, hx167_1⟩ (fun hHeld => ?_); refine with_tabW spec_l01Steps.tab18 spec_l01Steps.bits18 (fun HT_ HW_ => ?_)
                            generalize wr.drew = w47 at HO_8 HO_10 BK0 BK156 BK157 BK158 HB hx166_0 hx166_1 hx167_0 hx167_1 hHeld ⊢
                            refine pure_ (i := 0) (N := some 51) (v := ?_) (a' := ?_) #[true, false, false, false, false, false, false, false, false, false, false, false, false, false] rfl rfl (any_of HT_.out (by kernel_rfl)) (fun _ _ _ h => h) (Or.inl ⟨by rfl, ?_⟩) ?_ ?_
                            rotate_left
                            ·intro w'
                             go_simp
                             with_reducible rfl
                            rotate_left
                            ·simp only [Act.put, List.setIfInBounds_toArray, List.set_cons_zero, List.set_cons_succ, i64_w, i32_w]
                             rfl
                            refine pure_ (i := 1) (N := some 52) (v := ?_) (a' := ?_) #[true, true, false, false, false, false, false, false, false, false, false, false, false, false] rfl rfl (any_of HT_.out (by kernel_rfl)) (fun _ _ _ h => h) (Or.inl ⟨by rfl, ?_⟩) ?_ ?_
                            rotate_left
                            ·intro w'
                             go_simp
                             with_reducible rfl
                            rotate_left
                            ·simp only [Act.put, List.setIfInBounds_toArray, List.set_cons_zero, List.set_cons_succ, i64_w, i32_w]
                             rfl
                            refine pure_ (i := 2) (N := some 53) (v := ?_) (a' := ?_) #[true, true, true, false, false, false, false, false, false, false, false, false, false, false] rfl rfl (any_of HT_.out (by kernel_rfl)) (fun _ _ _ h => h) (Or.inl ⟨by rfl, ?_⟩) ?_ ?_
                            rotate_left
                            ·intro w'
                             go_simp
                             with_reducible rfl
                            rotate_left
                            ·simp only [Act.put, List.setIfInBounds_toArray, List.set_cons_zero, List.set_cons_succ, i64_w, i32_w]
                             rfl
                            refine pure_ (i := 3) (N := some 54) (v := ?_) (a' := ?_) #[true, true, true, true, false, false, false, false, false, false, false, false, false, false] rfl rfl (any_of HT_.out (by kernel_rfl)) (fun _ _ _ h => h) (Or.inl ⟨by rfl, ?_⟩) ?_ ?_
                            rotate_left
                            ·intro w'
                             go_simp
                             with_reducible rfl
                            rotate_left
                            ·simp only [Act.put, List.setIfInBounds_toArray, List.set_cons_zero, List.set_cons_succ, i64_w, i32_w]
                             rfl
                            refine pure_ (i := 5) (N := some 56) (v := ?_) (a' := ?_) #[true, true, true, true, false, true, false, false, false, false, false, false, false, false] rfl rfl (any_of HT_.out (by kernel_rfl)) (fun _ _ _ h => h) (Or.inl ⟨by rfl, ?_⟩) ?_ ?_
                            rotate_left
                            ·intro w'
                             go_simp
                             with_reducible rfl
                            rotate_left
                            ·simp only [Act.put, List.setIfInBounds_toArray, List.set_cons_zero, List.set_cons_succ, i64_w, i32_w]
                             rfl
                            refine pure_ (i := 6) (N := some 57) (v := ?_) (a' := ?_) #[true, true, true, true, false, true, true, false, false, false, false, false, false, false] rfl rfl (any_of HT_.out (by kernel_rfl)) (fun _ _ _ h => h) (Or.inl ⟨by rfl, ?_⟩) ?_ ?_
                            rotate_left
                            ·intro w'
                             go_simp
                             with_reducible rfl
                            rotate_left
                            ·simp only [Act.put, List.setIfInBounds_toArray, List.set_cons_zero, List.set_cons_succ, i64_w, i32_w]
                             rfl
                            refine pure_ (i := 7) (N := some 58) (v := ?_) (a' := ?_) #[true, true, true, true, false, true, true, true, false, false, false, false, false, false] rfl rfl (any_of HT_.out (by kernel_rfl)) (fun _ _ _ h => h) (Or.inl ⟨by rfl, ?_⟩) ?_ ?_
                            rotate_left
                            ·intro w'
                             go_simp
                             with_reducible rfl
                            rotate_left
                            ·simp only [Act.put, List.setIfInBounds_toArray, List.set_cons_zero, List.set_cons_succ, i64_w, i32_w]
                             rfl
                            refine pure_ (i := 8) (N := some 59) (v := ?_) (a' := ?_) #[true, true, true, true, false, true, true, true, true, false, false, false, false, false] rfl rfl (any_of HT_.out (by kernel_rfl)) (fun _ _ _ h => h) (Or.inl ⟨by rfl, ?_⟩) ?_ ?_
                            rotate_left
                            ·intro w'
                             go_simp
                             with_reducible rfl
                            rotate_left
                            ·simp only [Act.put, List.setIfInBounds_toArray, List.set_cons_zero, List.set_cons_succ, i64_w, i32_w]
                             rfl
                            refine take_ (i := 4) (N := some 55) (v := ?_) (a' := ?_) #[true, true, true, true, true, true, true, true, true, false, false, false, false, false] rfl rfl (take_ofW HT_.out HW_.out (by kernel_rfl)) (fun _ _ _ h => h) (Or.inl ⟨by rfl, ?_⟩) hHeld ?_ ?_
                            rotate_left
                            ·rintro w' ⟨s0, s1, s2, s3, s4⟩
                             go_simp
                             with_reducible rfl
                            rotate_left
                            ·simp only [Act.put, List.setIfInBounds_toArray, List.set_cons_zero, List.set_cons_succ, i64_w, i32_w]
                             rfl
                            refine pure_ (i := 10) (N := some 61) (v := ?_) (a' := ?_) #[true, true, true, true, true, true, true, true, true, false, true, false, false, false] rfl rfl (any_of HT_.out (by kernel_rfl)) (fun _ _ _ h => h) (Or.inl ⟨by rfl, ?_⟩) ?_ ?_
                            rotate_left
                            ·intro w'
                             go_simp
                             with_reducible rfl
                            rotate_left
                            ·simp only [Act.put, List.setIfInBounds_toArray, List.set_cons_zero, List.set_cons_succ, i64_w, i32_w]
                             rfl
                            refine take_ (i := 9) (N := some 60) (v := ?_) (a' := ?_) #[true, true, true, true, true, true, true, true, true, true, true, false, false, false] rfl rfl (take_ofW HT_.out HW_.out (by kernel_rfl)) (fun _ _ _ h => h) (Or.inl ⟨by rfl, ?_⟩) hHeld ?_ ?_
                            rotate_left
                            ·rintro w' ⟨s0, s1, s2, s3, s4⟩
                             go_simp
                             with_reducible rfl
                            rotate_left
                            ·simp only [Act.put, List.setIfInBounds_toArray, List.set_cons_zero, List.set_cons_succ, i64_w, i32_w]
                             rfl
                            refine pure_ (i := 11) (N := some 62) (v := ?_) (a' := ?_) #[true, true, true, true, true, true, true, true, true, true, true, true, false, false] rfl rfl (any_of HT_.out (by kernel_rfl)) (fun _ _ _ h => h) (Or.inl ⟨by rfl, ?_⟩) ?_ ?_
                            rotate_left
                            ·intro w'
                             go_simp
                             with_reducible rfl
                            rotate_left
                            ·simp only [Act.put, List.setIfInBounds_toArray, List.set_cons_zero, List.set_cons_succ, i64_w, i32_w]
                             rfl
                            refine take_ (i := 12) (N := some 63) (v := ?_) (a' := ?_) #[true, true, true, true, true, true, true, true, true, true, true, true, true, false] rfl rfl (take_ofW HT_.out HW_.out (by kernel_rfl)) (fun _ _ _ h => h) (Or.inl ⟨by rfl, ?_⟩) hHeld ?_ ?_
                            rotate_left
                            ·rintro w' ⟨s0, s1, s2, s3, s4⟩
                             go_simp
                             with_reducible rfl
                            rotate_left
                            ·simp only [Act.put, List.setIfInBounds_toArray, List.set_cons_zero, List.set_cons_succ, i64_w, i32_w]
                             rfl
                            refine pure_ (i := 13) (N := some 64) (v := ?_) (a' := ?_) #[true, true, true, true, true, true, true, true, true, true, true, true, true, true] rfl rfl (any_of HT_.out (by kernel_rfl)) (fun _ _ _ h => h) (Or.inl ⟨by rfl, ?_⟩) ?_ ?_
                            rotate_left
                            ·intro w'
                             go_simp
                             with_reducible rfl
                            rotate_left
                            ·simp only [Act.put, List.setIfInBounds_toArray, List.set_cons_zero, List.set_cons_succ, i64_w, i32_w]
                             rfl
                            refine done_ (done_of HT_.out (by kernel_rfl)) ?_
                            try go_wp2
                            have n0_ := Aside0.mk (Kd.R_drew HO_8.out)
                            have n1_ := Aside0.mk (Kd.R_drew HO_10.out)
                            have n2_ := Aside0.mk (blk_drew BK0.out)
                            have n3_ := Aside0.mk (blk_drew BK156.out)
                            have n4_ := Aside0.mk (blk_drew BK157.out)
                            have n5_ := Aside0.mk (blk_drew BK158.out)
                            have n6_ := Aside0.mk (below_drew1 HB.out)
                            clear HO_8
                            clear HO_10
                            clear BK0
                            clear BK156
                            clear BK157
                            clear BK158
                            clear HB
                            have HO_8 := n0_
                            have HO_10 := n1_
                            have BK0 := n2_
                            have BK156 := n3_
                            have BK157 := n4_
                            have BK158 := n5_
                            have HB := n6_
                            clear n0_ n1_ n2_ n3_ n4_ n5_ n6_
                            have p168 : 0 ≤ (x11_3 : Int) := of_decide_eq_true (by first | (with_reducible assumption) | assumption)
                            have q168 : x11_3 < (t163.length : Int) := of_decide_eq_true (by first | (with_reducible assumption) | assumption)
                            obtain ⟨ad168, e168, hx168_0, hx168_1⟩ := at_T54 (Kd.R_reads' HO_10.out).2.2 x11_3 p168 q168
                            obtain rfl : ad166 = ad168 := (by injection e168)
                            replace p168 := eq_true p168
                            replace q168 := eq_true q168
                            have p169 : 0 ≤ (x11_3 : Int) := of_decide_eq_true (by first | (with_reducible assumption) | assumption)
                            have q169 : x11_3 < (t163.length : Int) := of_decide_eq_true (by first | (with_reducible assumption) | assumption)
                            obtain ⟨ad169, e169, hx169_0, hx169_1⟩ := at_T54 (Kd.R_reads' HO_10.out).2.2 x11_3 p169 q169
                            obtain rfl : ad166 = ad169 := (by injection e169)
                            replace p169 := eq_true p169
                            replace q169 := eq_true q169
                            obtain ⟨Ao50, co50, eo50⟩ := Kd.R_slice HO_8.out
                            (first | subst eo50 | (injection eo50 with f1_ f2_ f3_; have f4_ := f1_.symm; have f5_ := f3_.symm; clear f1_ f2_ f3_; subst f4_; subst f5_))
                            have p170 : 0 ≤ (x9_2 : Int) := of_decide_eq_true (by first | (with_reducible assumption) | assumption)
                            have q170 : x9_2 < (x8_3.length : Int) := of_decide_eq_true (by first | (with_reducible assumption) | assumption)
                            obtain ⟨ad170, e170, hx170_0, hx170_1⟩ := at_T54 (Kd.R_reads' HO_8.out).2.2 x9_2 p170 q170
                            cases e170
                            replace p170 := eq_true p170
                            replace q170 := eq_true q170
                            have p171 : 0 ≤ (x9_2 : Int) := of_decide_eq_true (by first | (with_reducible assumption) | assumption)
                            have q171 : x9_2 < (x8_3.length : Int) := of_decide_eq_true (by first | (with_reducible assumption) | assumption)
                            obtain ⟨ad171, e171, hx171_0, hx171_1⟩ := at_T54 (Kd.R_reads' HO_8.out).2.2 x9_2 p171 q171
                            obtain rfl : ad170 = ad171 := (by injection e171)
                            replace p171 := eq_true p171
                            replace q171 := eq_true q171
                            have hpd51 : (0 ≤ ((rd_T54 t163 x11_3).f1)) = True := eq_true (by first | omega | exact of_decide_eq_true (by first | (with_reducible assumption) | assumption))
                            have hqd51 : (((rd_T54 t163 x11_3).f1) < 10) = True := eq_true (by first | omega | exact of_decide_eq_true (by first | (with_reducible assumption) | assumption))
                            have hrd51 : (((rd_T54 t163 x11_3).f1) < ((10 : Nat) : Int)) = True := eq_true (by first | omega | exact of_decide_eq_true (by first | (with_reducible assumption) | assumption))
                            have hpbd51 : (0 ≤ ((rd_T54 t163 x11_3).f0)) = True := eq_true (by first | omega | exact of_decide_eq_true (by first | (with_reducible assumption) | assumption))
                            have hqbd51 : (((rd_T54 t163 x11_3).f0) < 10) = True := eq_true (by first | omega | exact of_decide_eq_true (by first | (with_reducible assumption) | assumption))
                            have hrbd51 : (((rd_T54 t163 x11_3).f0) < ((10 : Nat) : Int)) = True := eq_true (by first | omega | exact of_decide_eq_true (by first | (with_reducible assumption) | assumption))
                            have hpd53 : (0 ≤ ((rd_T54 x8_3 x9_2).f1)) = True := eq_true (by first | omega | exact of_decide_eq_true (by first | (with_reducible assumption) | assumption))
                            have hqd53 : (((rd_T54 x8_3 x9_2).f1) < 10) = True := eq_true (by first | omega | exact of_decide_eq_true (by first | (with_reducible assumption) | assumption))
                            have hrd53 : (((rd_T54 x8_3 x9_2).f1) < ((10 : Nat) : Int)) = True := eq_true (by first | omega | exact of_decide_eq_true (by first | (with_reducible assumption) | assumption))
                            have hpbd53 : (0 ≤ ((rd_T54 x8_3 x9_2).f0)) = True := eq_true (by first | omega | exact of_decide_eq_true (by first | (with_reducible assumption) | assumption))
                            have hqbd53 : (((rd_T54 x8_3 x9_2).f0) < 10) = True := eq_true (by first | omega | exact of_decide_eq_true (by first | (with_reducible assumption) | assumption))
                            have hrbd53 : (((rd_T54 x8_3 x9_2).f0) < ((10 : Nat) : Int)) = True := eq_true (by first | omega | exact of_decide_eq_true (by first | (with_reducible assumption) | assumption))
                            refine start_ (n := 27) (S := fun w' => w'.cell? ⟨gb158, ((rd_T54 x8_3 x9_2).f1).toNat * 10 + ((rd_T54 x8_3 x9_2).f0).toNat, none⟩ = some (.int .i64 (rd x159000_3.l (((rd_T54 x8_3 x9_2).f1) * 10 + ((rd_T54 x8_3 x9_2).f0)))) ∧ w'.cell? (ad166.add ((x11_3).toNat * 2)) = some (.int .i8 ((rd_T54 t163 x11_3).f0)) ∧ w'.cell? ⟨(ad166.add ((x11_3).toNat * 2)).block, (ad166.add ((x11_3).toNat * 2)).off + 1, none⟩ = some (.int .i8 ((rd_T54 t163 x11_3).f1)) ∧ w'.cell? (ad166.add ((x11_3).toNat * 2)) = some (.int .i8 ((rd_T54 t163 x11_3).f0)) ∧ w'.cell? ⟨(ad166.add ((x11_3).toNat * 2)).block, (ad166.add ((x11_3).toNat * 2)).off + 1, none⟩ = some (.int .i8 ((rd_T54 t163 x11_3).f1)) ∧ w'.cell? (ad170.add ((x9_2).toNat * 2)) = some (.int .i8 ((rd_T54 x8_3 x9_2).f0)) ∧ w'.cell? ⟨(ad170.add ((x9_2).toNat * 2)).block, (ad170.add ((x9_2).toNat * 2)).off + 1, none⟩ = some (.int .i8 ((rd_T54 x8_3 x9_2).f1)) ∧ w'.cell? (ad170.add ((x9_2).toNat * 2)) = some (.int .i8 ((rd_T54 x8_3 x9_2).f0)) ∧ w'.cell? ⟨(ad170.add ((x9_2).toNat * 2)).block, (ad170.add ((x9_2).toNat * 2)).off + 1, none⟩ = some (.int .i8 ((rd_T54 x8_3 x9_2).f1))) (ds := [26]) #[false, false, false, false, false, false, false, false, false, false, false, false, false, false, false, false, false, false, false, false, false, false, false, false, false, false, false] (by kernel_rfl) rfl rfl ⟨mix_at2z 10 BK158.out ((rd_T54 x8_3 x9_2).f1) ((rd_T54 x8_3 x9_2).f0) (of_eq_true hpd53) (of_eq_true hpbd53) (by have := of_eq_true hqd53; have := of_eq_true hqbd53; omega), hx168_0, hx168_1, hx169_0, hx169_1, hx170_0, hx170_1, hx171_0, hx171_1⟩ (fun hHeld => ?_); refine with_tabW spec_l01Steps.tab19 spec_l01Steps.bits19 (fun HT_ HW_ => ?_)
                            generalize w47.drew = w49 at HO_8 HO_10 BK0 BK156 BK157 BK158 HB hx168_0 hx168_1 hx169_0 hx169_1 hx170_0 hx170_1 hx171_0 hx171_1 hHeld ⊢
                            refine pure_ (i := 0) (N := some 65) (v := ?_) (a' := ?_) #[true, false, false, false, false, false, false, false, false, false, false, false, false, false, false, false, false, false, false, false, false, false, false, false, false, false, false] rfl rfl (any_of HT_.out (by kernel_rfl)) (fun _ _ _ h => h) (Or.inl ⟨by rfl, ?_⟩) ?_ ?_
                            rotate_left
                            ·intro w'
                             go_simp
                             with_reducible rfl
                            rotate_left
                            ·simp only [Act.put, List.setIfInBounds_toArray, List.set_cons_zero, List.set_cons_succ, i64_w, i32_w]
                             rfl
                            refine pure_ (i := 1) (N := some 66) (v := ?_) (a' := ?_) #[true, true, false, false, false, false, false, false, false, false, false, false, false, false, false, false, false, false, false, false, false, false, false, false, false, false, false] rfl rfl (any_of HT_.out (by kernel_rfl)) (fun _ _ _ h => h) (Or.inl ⟨by rfl, ?_⟩) ?_ ?_
                            rotate_left
                            ·intro w'
                             go_simp
                             with_reducible rfl
                            rotate_left
                            ·simp only [Act.put, List.setIfInBounds_toArray, List.set_cons_zero, List.set_cons_succ, i64_w, i32_w]
                             rfl
                            refine pure_ (i := 2) (N := some 67) (v := ?_) (a' := ?_) #[true, true, true, false, false, false, false, false, false, false, false, false, false, false, false, false, false, false, false, false, false, false, false, false, false, false, false] rfl rfl (any_of HT_.out (by kernel_rfl)) (fun _ _ _ h => h) (Or.inl ⟨by rfl, ?_⟩) ?_ ?_
                            rotate_left
                            ·intro w'
                             go_simp
                             with_reducible rfl
                            rotate_left
                            ·simp only [Act.put, List.setIfInBounds_toArray, List.set_cons_zero, List.set_cons_succ, i64_w, i32_w]
                             rfl
                            refine pure_ (i := 3) (N := some 68) (v := ?_) (a' := ?_) #[true, true, true, true, false, false, false, false, false, false, false, false, false, false, false, false, false, false, false, false, false, false, false, false, false, false, false] rfl rfl (any_of HT_.out (by kernel_rfl)) (fun _ _ _ h => h) (Or.inl ⟨by rfl, ?_⟩) ?_ ?_
                            rotate_left
                            ·intro w'
                             go_simp
                             with_reducible rfl
                            rotate_left
                            ·simp only [Act.put, List.setIfInBounds_toArray, List.set_cons_zero, List.set_cons_succ, i64_w, i32_w]
                             rfl
                            refine pure_ (i := 5) (N := some 70) (v := ?_) (a' := ?_) #[true, true, true, true, false, true, false, false, false, false, false, false, false, false, false, false, false, false, false, false, false, false, false, false, false, false, false] rfl rfl (any_of HT_.out (by kernel_rfl)) (fun _ _ _ h => h) (Or.inl ⟨by rfl, ?_⟩) ?_ ?_
                            rotate_left
                            ·intro w'
                             go_simp
                             with_reducible rfl
                            rotate_left
                            ·simp only [Act.put, List.setIfInBounds_toArray, List.set_cons_zero, List.set_cons_succ, i64_w, i32_w]
                             rfl
                            refine pure_ (i := 6) (N := some 71) (v := ?_) (a' := ?_) #[true, true, true, true, false, true, true, false, false, false, false, false, false, false, false, false, false, false, false, false, false, false, false, false, false, false, false] rfl rfl (any_of HT_.out (by kernel_rfl)) (fun _ _ _ h => h) (Or.inl ⟨by rfl, ?_⟩) ?_ ?_
                            rotate_left
                            ·intro w'
                             go_simp
                             with_reducible rfl
                            rotate_left
                            ·simp only [Act.put, List.setIfInBounds_toArray, List.set_cons_zero, List.set_cons_succ, i64_w, i32_w]
                             rfl
                            refine pure_ (i := 7) (N := some 72) (v := ?_) (a' := ?_) #[true, true, true, true, false, true, true, true, false, false, false, false, false, false, false, false, false, false, false, false, false, false, false, false, false, false, false] rfl rfl (any_of HT_.out (by kernel_rfl)) (fun _ _ _ h => h) (Or.inl ⟨by rfl, ?_⟩) ?_ ?_
                            rotate_left
                            ·intro w'
                             go_simp
                             with_reducible rfl
                            rotate_left
                            ·simp only [Act.put, List.setIfInBounds_toArray, List.set_cons_zero, List.set_cons_succ, i64_w, i32_w]
                             rfl
                            refine pure_ (i := 8) (N := some 73) (v := ?_) (a' := ?_) #[true, true, true, true, false, true, true, true, true, false, false, false, false, false, false, false, false, false, false, false, false, false, false, false, false, false, false] rfl rfl (any_of HT_.out (by kernel_rfl)) (fun _ _ _ h => h) (Or.inl ⟨by rfl, ?_⟩) ?_ ?_
                            rotate_left
                            ·intro w'
                             go_simp
                             with_reducible rfl
                            rotate_left
                            ·simp only [Act.put, List.setIfInBounds_toArray, List.set_cons_zero, List.set_cons_succ, i64_w, i32_w]
                             rfl
                            refine pure_ (i := 10) (N := some 75) (v := ?_) (a' := ?_) #[true, true, true, true, false, true, true, true, true, false, true, false, false, false, false, false, false, false, false, false, false, false, false, false, false, false, false] rfl rfl (any_of HT_.out (by kernel_rfl)) (fun _ _ _ h => h) (Or.inl ⟨by rfl, ?_⟩) ?_ ?_
                            rotate_left
                            ·intro w'
                             go_simp
                             with_reducible rfl
                            rotate_left
                            ·simp only [Act.put, List.setIfInBounds_toArray, List.set_cons_zero, List.set_cons_succ, i64_w, i32_w]
                             rfl
                            refine pure_ (i := 11) (N := some 76) (v := ?_) (a' := ?_) #[true, true, true, true, false, true, true, true, true, false, true, true, false, false, false, false, false, false, false, false, false, false, false, false, false, false, false] rfl rfl (any_of HT_.out (by kernel_rfl)) (fun _ _ _ h => h) (Or.inl ⟨by rfl, ?_⟩) ?_ ?_
                            rotate_left
                            ·intro w'
                             go_simp
                             with_reducible rfl
                            rotate_left
                            ·simp only [Act.put, List.setIfInBounds_toArray, List.set_cons_zero, List.set_cons_succ, i64_w, i32_w]
                             rfl
                            refine pure_ (i := 12) (N := some 77) (v := ?_) (a' := ?_) #[true, true, true, true, false, true, true, true, true, false, true, true, true, false, false, false, false, false, false, false, false, false, false, false, false, false, false] rfl rfl (any_of HT_.out (by kernel_rfl)) (fun _ _ _ h => h) (Or.inl ⟨by rfl, ?_⟩) ?_ ?_
                            rotate_left
                            ·intro w'
                             go_simp
                             with_reducible rfl
                            rotate_left
                            ·simp only [Act.put, List.setIfInBounds_toArray, List.set_cons_zero, List.set_cons_succ, i64_w, i32_w]
                             rfl
                            refine pure_ (i := 13) (N := some 78) (v := ?_) (a' := ?_) #[true, true, true, true, false, true, true, true, true, false, true, true, true, true, false, false, false, false, false, false, false, false, false, false, false, false, false] rfl rfl (any_of HT_.out (by kernel_rfl)) (fun _ _ _ h => h) (Or.inl ⟨by rfl, ?_⟩) ?_ ?_
                            rotate_left
                            ·intro w'
                             go_simp
                             with_reducible rfl
                            rotate_left
                            ·simp only [Act.put, List.setIfInBounds_toArray, List.set_cons_zero, List.set_cons_succ, i64_w, i32_w]
                             rfl
                            refine pure_ (i := 15) (N := some 80) (v := ?_) (a' := ?_) #[true, true, true, true, false, true, true, true, true, false, true, true, true, true, false, true, false, false, false, false, false, false, false, false, false, false, false] rfl rfl (any_of HT_.out (by kernel_rfl)) (fun _ _ _ h => h) (Or.inl ⟨by rfl, ?_⟩) ?_ ?_
                            rotate_left
                            ·intro w'
                             go_simp
                             with_reducible rfl
                            rotate_left
                            ·simp only [Act.put, List.setIfInBounds_toArray, List.set_cons_zero, List.set_cons_succ, i64_w, i32_w]
                             rfl
                            refine pure_ (i := 16) (N := some 81) (v := ?_) (a' := ?_) #[true, true, true, true, false, true, true, true, true, false, true, true, true, true, false, true, true, false, false, false, false, false, false, false, false, false, false] rfl rfl (any_of HT_.out (by kernel_rfl)) (fun _ _ _ h => h) (Or.inl ⟨by rfl, ?_⟩) ?_ ?_
                            rotate_left
                            ·intro w'
                             go_simp
                             with_reducible rfl
                            rotate_left
                            ·simp only [Act.put, List.setIfInBounds_toArray, List.set_cons_zero, List.set_cons_succ, i64_w, i32_w]
                             rfl
                            refine pure_ (i := 17) (N := some 82) (v := ?_) (a' := ?_) #[true, true, true, true, false, true, true, true, true, false, true, true, true, true, false, true, true, true, false, false, false, false, false, false, false, false, false] rfl rfl (any_of HT_.out (by kernel_rfl)) (fun _ _ _ h => h) (Or.inl ⟨by rfl, ?_⟩) ?_ ?_
                            rotate_left
                            ·intro w'
                             go_simp
                             with_reducible rfl
                            rotate_left
                            ·simp only [Act.put, List.setIfInBounds_toArray, List.set_cons_zero, List.set_cons_succ, i64_w, i32_w]
                             rfl
                            refine pure_ (i := 18) (N := some 83) (v := ?_) (a' := ?_) #[true, true, true, true, false, true, true, true, true, false, true, true, true, true, false, true, true, true, true, false, false, false, false, false, false, false, false] rfl rfl (any_of HT_.out (by kernel_rfl)) (fun _ _ _ h => h) (Or.inl ⟨by rfl, ?_⟩) ?_ ?_
                            rotate_left
                            ·intro w'
                             go_simp
                             with_reducible rfl
                            rotate_left
                            ·simp only [Act.put, List.setIfInBounds_toArray, List.set_cons_zero, List.set_cons_succ, i64_w, i32_w]
                             rfl
                            refine take_ (i := 4) (N := some 69) (v := ?_) (a' := ?_) #[true, true, true, true, true, true, true, true, true, false, true, true, true, true, false, true, true, true, true, false, false, false, false, false, false, false, false] rfl rfl (take_ofW HT_.out HW_.out (by kernel_rfl)) (fun _ _ _ h => h) (Or.inl ⟨by rfl, ?_⟩) hHeld ?_ ?_
                            rotate_left
                            ·rintro w' ⟨s0, s1, s2, s3, s4, s5, s6, s7, s8⟩
                             go_simp
                             with_reducible rfl
                            rotate_left
                            ·simp only [Act.put, List.setIfInBounds_toArray, List.set_cons_zero, List.set_cons_succ, i64_w, i32_w]
                             rfl
                            refine pure_ (i := 24) (N := some 89) (v := ?_) (a' := ?_) #[true, true, true, true, true, true, true, true, true, false, true, true, true, true, false, true, true, true, true, false, false, false, false, false, true, false, false] rfl rfl (any_of HT_.out (by kernel_rfl)) (fun _ _ _ h => h) (Or.inl ⟨by rfl, ?_⟩) ?_ ?_
                            rotate_left
                            ·intro w'
                             go_simp
                             with_reducible rfl
                            rotate_left
                            ·simp only [Act.put, List.setIfInBounds_toArray, List.set_cons_zero, List.set_cons_succ, i64_w, i32_w]
                             rfl
                            refine take_ (i := 9) (N := some 74) (v := ?_) (a' := ?_) #[true, true, true, true, true, true, true, true, true, true, true, true, true, true, false, true, true, true, true, false, false, false, false, false, true, false, false] rfl rfl (take_ofW HT_.out HW_.out (by kernel_rfl)) (fun _ _ _ h => h) (Or.inl ⟨by rfl, ?_⟩) hHeld ?_ ?_
                            rotate_left
                            ·rintro w' ⟨s0, s1, s2, s3, s4, s5, s6, s7, s8⟩
                             go_simp
                             with_reducible rfl
                            rotate_left
                            ·simp only [Act.put, List.setIfInBounds_toArray, List.set_cons_zero, List.set_cons_succ, i64_w, i32_w]
                             rfl
                            refine take_ (i := 14) (N := some 79) (v := ?_) (a' := ?_) #[true, true, true, true, true, true, true, true, true, true, true, true, true, true, true, true, true, true, true, false, false, false, false, false, true, false, false] rfl rfl (take_ofW HT_.out HW_.out (by kernel_rfl)) (fun _ _ _ h => h) (Or.inl ⟨by rfl, ?_⟩) hHeld ?_ ?_
                            rotate_left
                            ·rintro w' ⟨s0, s1, s2, s3, s4, s5, s6, s7, s8⟩
                             go_simp
                             with_reducible rfl
                            rotate_left
                            ·simp only [Act.put, List.setIfInBounds_toArray, List.set_cons_zero, List.set_cons_succ, i64_w, i32_w]
                             rfl
                            refine pure_ (i := 20) (N := some 85) (v := ?_) (a' := ?_) #[true, true, true, true, true, true, true, true, true, true, true, true, true, true, true, true, true, true, true, false, true, false, false, false, true, false, false] rfl rfl (any_of HT_.out (by kernel_rfl)) (fun _ _ _ h => h) (Or.inl ⟨by rfl, ?_⟩) ?_ ?_
                            rotate_left
                            ·intro w'
                             go_simp
                             with_reducible rfl
                            rotate_left
                            ·simp only [Act.put, List.setIfInBounds_toArray, List.set_cons_zero, List.set_cons_succ, i64_w, i32_w]
                             rfl
                            refine take_ (i := 19) (N := some 84) (v := ?_) (a' := ?_) #[true, true, true, true, true, true, true, true, true, true, true, true, true, true, true, true, true, true, true, true, true, false, false, false, true, false, false] rfl rfl (take_ofW HT_.out HW_.out (by kernel_rfl)) (fun _ _ _ h => h) (Or.inl ⟨by rfl, ?_⟩) hHeld ?_ ?_
                            rotate_left
                            ·rintro w' ⟨s0, s1, s2, s3, s4, s5, s6, s7, s8⟩
                             go_simp
                             with_reducible rfl
                            rotate_left
                            ·simp only [Act.put, List.setIfInBounds_toArray, List.set_cons_zero, List.set_cons_succ, i64_w, i32_w]
                             rfl
                            refine pure_ (i := 21) (N := some 86) (v := ?_) (a' := ?_) #[true, true, true, true, true, true, true, true, true, true, true, true, true, true, true, true, true, true, true, true, true, true, false, false, true, false, false] rfl rfl (any_of HT_.out (by kernel_rfl)) (fun _ _ _ h => h) (Or.inl ⟨by rfl, ?_⟩) ?_ ?_
                            rotate_left
                            ·intro w'
                             go_simp
                             with_reducible rfl
                            rotate_left
                            ·simp only [Act.put, List.setIfInBounds_toArray, List.set_cons_zero, List.set_cons_succ, i64_w, i32_w]
                             rfl
                            refine take_ (i := 22) (N := some 87) (v := ?_) (a' := ?_) #[true, true, true, true, true, true, true, true, true, true, true, true, true, true, true, true, true, true, true, true, true, true, true, false, true, false, false] rfl rfl (take_ofW HT_.out HW_.out (by kernel_rfl)) (fun _ _ _ h => h) (Or.inl ⟨by rfl, ?_⟩) hHeld ?_ ?_
                            rotate_left
                            ·rintro w' ⟨s0, s1, s2, s3, s4, s5, s6, s7, s8⟩
                             go_simp
                             with_reducible rfl
                            rotate_left
                            ·simp only [Act.put, List.setIfInBounds_toArray, List.set_cons_zero, List.set_cons_succ, i64_w, i32_w]
                             rfl
                            refine pure_ (i := 23) (N := some 88) (v := ?_) (a' := ?_) #[true, true, true, true, true, true, true, true, true, true, true, true, true, true, true, true, true, true, true, true, true, true, true, true, true, false, false] rfl rfl (any_of HT_.out (by kernel_rfl)) (fun _ _ _ h => h) (Or.inl ⟨by rfl, ?_⟩) ?_ ?_
                            rotate_left
                            ·intro w'
                             go_simp
                             with_reducible rfl
                            rotate_left
                            ·simp only [Act.put, List.setIfInBounds_toArray, List.set_cons_zero, List.set_cons_succ, i64_w, i32_w]
                             rfl
                            refine pure_ (i := 25) (N := some 90) (v := ?_) (a' := ?_) #[true, true, true, true, true, true, true, true, true, true, true, true, true, true, true, true, true, true, true, true, true, true, true, true, true, true, false] rfl rfl (any_of HT_.out (by kernel_rfl)) (fun _ _ _ h => h) (Or.inl ⟨by rfl, ?_⟩) ?_ ?_
                            rotate_left
                            ·intro w'
                             go_simp
                             with_reducible rfl
                            rotate_left
                            ·simp only [Act.put, List.setIfInBounds_toArray, List.set_cons_zero, List.set_cons_succ, i64_w, i32_w]
                             rfl
                            refine last_ (i := 26) (N := none) #[true, true, true, true, true, true, true, true, true, true, true, true, true, true, true, true, true, true, true, true, true, true, true, true, true, true, true] rfl rfl (one_of HT_.out (by kernel_rfl)) (by decide) (fun K hK => ?_)
                            have hdd51 : w49.cell? ⟨gb158, ((rd_T54 t163 x11_3).f1).toNat * 10 + ((rd_T54 t163 x11_3).f0).toNat, none⟩ = some (.int .i64 (rd x159000_3.l (((rd_T54 t163 x11_3).f1) * 10 + ((rd_T54 t163 x11_3).f0)))) := mix_at2z 10 BK158.out ((rd_T54 t163 x11_3).f1) ((rd_T54 t163 x11_3).f0) (of_eq_true hpd51) (of_eq_true hpbd51) (by have := of_eq_true hqd51; have := of_eq_true hqbd51; omega)
                            have hfdd51 := blk_frozen BK158.out (((rd_T54 t163 x11_3).f1).toNat * 10 + ((rd_T54 t163 x11_3).f0).toNat)
                            refine storel_step (w1 := (w49.setCell ⟨gb158, ((rd_T54 t163 x11_3).f1).toNat * 10 + ((rd_T54 t163 x11_3).f0).toNat, none⟩ (.int .i64 (wrap64 ((rd x159000_3.l (((rd_T54 x8_3 x9_2).f1) * 10 + ((rd_T54 x8_3 x9_2).f0))) + 1))))) ?hg ?hn ?hr ?_; (case hg => rfl); (case hn => rfl); (case hr => first | (go_simp; done) | (go_simp; rfl))
                            intro w52 hw
                            have hi : w52.heap[gb158]? = some (.cells (mixA (Value.int .i64) [] (LA.set x159000_3 (((rd_T54 t163 x11_3).f1) * 10 + ((rd_T54 t163 x11_3).f0)) (wrap64 ((rd x159000_3.l (((rd_T54 x8_3 x9_2).f1) * 10 + ((rd_T54 x8_3 x9_2).f0))) + 1)))) 78 (0, 0)) := (by rw [hw]; exact mix_set2z 10 BK158.out ((rd_T54 t163 x11_3).f1) ((rd_T54 t163 x11_3).f0) (wrap64 ((rd x159000_3.l (((rd_T54 x8_3 x9_2).f1) * 10 + ((rd_T54 x8_3 x9_2).f0))) + 1)) (of_eq_true hpd51) (of_eq_true hpbd51) (by have := of_eq_true hqd51; have := of_eq_true hqbd51; omega))
                            have hk : KeepBut w49 w52 gb158 none := (by rw [hw]; exact setcell_keep _ _ _ _)
                            have hbl : ∀ B_ a_, Below B_ a_ w49 → B_ ≤ gb158 → Below B_ a_ w52 := (by rw [hw]; exact setcell_below _ _ _ _)
                            clear hw
                            have n0_ := Aside0.mk (Kd.R_mono (Kd.R_keep (Kd.R_types (by (with_reducible repeat (first | apply Kd.R_alloc | apply Kd.R_drewN | apply Kd.R_drew)); exact HO_8.out) (pk BK158) (by decide)) hk (fun _ h => h.2)) (fun _ h => h.1))
                            have n1_ := Aside0.mk (Kd.R_mono (Kd.R_keep (Kd.R_types (by (with_reducible repeat (first | apply Kd.R_alloc | apply Kd.R_drewN | apply Kd.R_drew)); exact HO_10.out) (pk BK158) (by decide)) hk (fun _ h => h.2)) (fun _ h => h.1))
                            have n2_ := Aside0.mk (KeepBut.blk hk (g' := g0) (o := .cells (mixA (Value.int .u16) [.int .i8 s0_0, .int .i8 s0_1] s0_2) 31 (0, 0)) (pk BK0) NB0_158.out (by simp))
                            have n3_ := Aside0.mk (KeepBut.blk hk (g' := gb156) (o := .cells #[.int .i8 a1_0, .int .i8 a1_1] 54 (0, 0)) (pk BK156) NB156_158.out (by simp))
                            have n4_ := Aside0.mk (KeepBut.blk hk (g' := gb157) (o := .cells (mixA (Value.int .i64) [] (LA.zero 100)) 78 (0, 0)) (pk BK157) NB157_158.out (by simp))
                            have n5_ := Aside0.mk (hbl _ _ (pbs HB) GE158.out)
                            have n6_ := Aside0.mk (hi)
                            clear HO_8
                            clear HO_10
                            clear BK0
                            clear BK156
                            clear BK157
                            clear HB
                            clear BK158
                            have HO_8 := n0_
                            have HO_10 := n1_
                            have BK0 := n2_
                            have BK156 := n3_
                            have BK157 := n4_
                            have HB := n5_
                            have BK158 := n6_
                            clear n0_ n1_ n2_ n3_ n4_ n5_ n6_
                            clear hi hk hbl
                            refine hK.out _ _ ?_
                            clear hK K
                            refine done_ (done_of HT_.out (by kernel_rfl)) ?_
                            have p172 : 0 ≤ (x11_3 : Int) := of_decide_eq_true (by first | (with_reducible assumption) | assumption)
                            have q172 : x11_3 < (t163.length : Int) := of_decide_eq_true (by first | (with_reducible assumption) | assumption)
                            obtain ⟨ad172, e172, hx172_0, hx172_1⟩ := at_T54 (Kd.R_reads' HO_10.out).2.2 x11_3 p172 q172
                            obtain rfl : ad166 = ad172 := (by injection e172)
                            replace p172 := eq_true p172
                            replace q172 := eq_true q172
                            try go_wp2_with (first | ((with_reducible refine gate_builtin (b := .append) (xs := #[.tmp 91, .tmp 96]) rfl ?_); at_builtin; refine Kd.R_append k54 (w0 := w) w.heap.size rfl (.tmp 91) (.tmp 96) 33 54 (.agg #[(.int .i8 0), (.int .i8 0)]) 2 rfl Try.underlying33 info54 rfl (by decide) (by omega) (.slice (some ad170) x8_3.length co50) x8_3 (⟨(rd_T54 t163 x11_3).f0, (rd_T54 t163 x11_3).f1⟩ : S54) [.int .i8 ((rd_T54 t163 x11_3).f0), .int .i8 ((rd_T54 t163 x11_3).f1)] (fun k_ => some k_ ≠ (.slice (some ad166) t163.length co46 : Value).ownBlock ∧ k_ ≠ gb156) (fun _ => False) rfl rfl ?aP (fun _ hk => hk.elim) ?aF ?aO ?aB ?aS ?aL ?_; (case aP => exact k54_mkM _ _ _ (⟨(rd_T54 t163 x11_3).f0, (rd_T54 t163 x11_3).f1⟩ : S54)); (case aB => exact (pbs HB)); (case aF => exact (fun k_ hk => ⟨Kd.fresh' (Kd.R_lt (by (with_reducible repeat (first | apply Kd.R_alloc | apply Kd.R_drewN | apply Kd.R_drew)); exact HO_10.out)) k_ hk, Kd.freshB (g := gb156) (o := .cells #[.int .i8 a1_0, .int .i8 a1_1] 54 (0, 0)) (pk BK156) k_ hk⟩)); (case aO => exact (by (with_reducible repeat (first | apply Kd.R_alloc | apply Kd.R_drewN | apply Kd.R_drew)); exact HO_8.out)); (case aS => exact (below_size (by repeat (first | (with_reducible first | exact HB.out | apply below_alloc | apply pw_below_drewN | apply below_drew1 | refine below_set ?_ GE0.out | refine below_set ?_ GE156.out | refine below_set ?_ GE157.out | refine below_set ?_ GE158.out) | exact HB.out)))); (case aL => have := LMc45.out; omega); intro v174 w54 ho hb hg hat; rw [← Ny173.out] at ho; have n0_ := Aside0.mk (Kd.R_after (ok := (fun k_ => k_ ≠ gb156)) (by (with_reducible repeat (first | apply Kd.R_alloc | apply Kd.R_drewN | apply Kd.R_drew)); exact Kd.R_mono HO_10.out (fun _ hk => ⟨hk.2, hk.1⟩)) hg hat); have n1_ := Aside0.mk (blk_grown (g := g0) (o := .cells (mixA (Value.int .u16) [.int .i8 s0_0, .int .i8 s0_1] s0_2) 31 (0, 0)) (pk BK0) hg (Kd.R_ne HO_8.out BK0.out (by decide))); have n2_ := Aside0.mk (blk_grown (g := gb156) (o := .cells #[.int .i8 a1_0, .int .i8 a1_1] 54 (0, 0)) (pk BK156) hg (Kd.R_away HO_8.out (fun _ hk => hk.2))); have n3_ := Aside0.mk (blk_grown (g := gb157) (o := .cells (mixA (Value.int .i64) [] (LA.zero 100)) 78 (0, 0)) (pk BK157) hg (Kd.R_ne HO_8.out BK157.out (by decide))); have n4_ := Aside0.mk (blk_grown (g := gb158) (o := .cells (mixA (Value.int .i64) [] (LA.set x159000_3 (((rd_T54 t163 x11_3).f1) * 10 + ((rd_T54 t163 x11_3).f0)) (wrap64 ((rd x159000_3.l (((rd_T54 x8_3 x9_2).f1) * 10 + ((rd_T54 x8_3 x9_2).f0))) + 1)))) 78 (0, 0)) (pk BK158) hg (Kd.R_ne HO_8.out BK158.out (by decide))); have n5_ := Aside0.mk (hb); have n6_ := Aside0.mk (ho); clear HO_10; clear BK0; clear BK156; clear BK157; clear BK158; clear HB; clear HO_8; have HO_10 := n0_; have BK0 := n1_; have BK156 := n2_; have BK157 := n3_; have BK158 := n4_; have HB := n5_; have HO175 := n6_; clear n0_ n1_ n2_ n3_ n4_ n5_ n6_; clear ho hb hg hat))
                            go_roundg k3
                            case measure => have := HK1.out; have := HK2.out; have := HK3.out; omega
                            case rel => exact ⟨(y173), (wrap64 (x11_3 + 1)), ((LA.set x159000_3 (((rd_T54 t163 x11_3).f1) * 10 + ((rd_T54 t163 x11_3).f0)) (wrap64 ((rd x159000_3.l (((rd_T54 x8_3 x9_2).f1) * 10 + ((rd_T54 x8_3 x9_2).f0))) + 1)))), (by first | rfl | (simp; done) | (simp [*]; done)), H', ⟨by have := HK1.out; have := HK2.out; have := HK3.out; omega⟩, ⟨by (with_reducible repeat (first | apply Kd.R_alloc | apply Kd.R_drewN | apply Kd.R_drew)); exact HO175.out⟩, ⟨by (with_reducible repeat (first | apply Kd.R_alloc | apply Kd.R_drewN | apply Kd.R_drew)); exact Kd.R_mono HO_10.out (fun _ hk => ⟨hk.2, hk.1⟩)⟩, ⟨pk BK0⟩, ⟨pk BK156⟩, ⟨pk BK157⟩, ⟨pk BK158⟩, ⟨pbs HB⟩⟩
                           ·rw [if_neg c45] at H
                            exact absurd H (by simp)
                          ·rw [if_neg c44] at H
                           exact absurd H (by simp)
                         ·rw [if_neg c43] at H
                          exact absurd H (by simp)
                        ·rw [if_neg c42] at H
                         exact absurd H (by simp)
                       ·rw [if_neg c41] at H
                        exact absurd H (by simp)
                      ·rw [if_neg c40] at H
                       exact absurd H (by simp)
                     ·rw [if_neg c39] at H
                      exact absurd H (by simp)
                    ·rw [if_neg c38] at H
                     have c38b0 : decide ((rd x159000_3.l (((rd_T54 t163 x11_3).f1) * 10 + ((rd_T54 t163 x11_3).f0))) < 0) = false := decide_eq_false c38
                     clear c38
                     have H' := Aside0.mk H
                     clear H
                     obtain ⟨Ao55, co55, eo55⟩ := Kd.R_slice HO_10.out
                     subst eo55
                     try go_wp2
                     have n0_ := Aside0.mk (Kd.R_drew HO_8.out)
                     have n1_ := Aside0.mk (Kd.R_drew HO_10.out)
                     have n2_ := Aside0.mk (blk_drew BK0.out)
                     have n3_ := Aside0.mk (blk_drew BK156.out)
                     have n4_ := Aside0.mk (blk_drew BK157.out)
                     have n5_ := Aside0.mk (blk_drew BK158.out)
                     have n6_ := Aside0.mk (below_drew1 HB.out)
                     clear HO_8
                     clear HO_10
                     clear BK0
                     clear BK156
                     clear BK157
                     clear BK158
                     clear HB
                     have HO_8 := n0_
                     have HO_10 := n1_
                     have BK0 := n2_
                     have BK156 := n3_
                     have BK157 := n4_
                     have BK158 := n5_
                     have HB := n6_
                     clear n0_ n1_ n2_ n3_ n4_ n5_ n6_
                     have p166 : 0 ≤ (x11_3 : Int) := of_decide_eq_true (by first | (with_reducible assumption) | assumption)
                     have q166 : x11_3 < (t163.length : Int) := of_decide_eq_true (by first | (with_reducible assumption) | assumption)
                     obtain ⟨ad166, e166, hx166_0, hx166_1⟩ := at_T54 (Kd.R_reads' HO_10.out).2.2 x11_3 p166 q166
                     cases e166
                     replace p166 := eq_true p166
                     replace q166 := eq_true q166
                     have p167 : 0 ≤ (x11_3 : Int) := of_decide_eq_true (by first | (with_reducible assumption) | assumption)
                     have q167 : x11_3 < (t163.length : Int) := of_decide_eq_true (by first | (with_reducible assumption) | assumption)
                     obtain ⟨ad167, e167, hx167_0, hx167_1⟩ := at_T54 (Kd.R_reads' HO_10.out).2.2 x11_3 p167 q167
                     obtain rfl : ad166 = ad167 := (by injection e167)
                     replace p167 := eq_true p167
                     replace q167 := eq_true q167
                     have hpd57 : (0 ≤ ((rd_T54 t163 x11_3).f1)) = True := eq_true (by first | omega | exact of_decide_eq_true (by first | (with_reducible assumption) | assumption))
                     have hqd57 : (((rd_T54 t163 x11_3).f1) < 10) = True := eq_true (by first | omega | exact of_decide_eq_true (by first | (with_reducible assumption) | assumption))
                     have hrd57 : (((rd_T54 t163 x11_3).f1) < ((10 : Nat) : Int)) = True := eq_true (by first | omega | exact of_decide_eq_true (by first | (with_reducible assumption) | assumption))
                     have hpbd57 : (0 ≤ ((rd_T54 t163 x11_3).f0)) = True := eq_true (by first | omega | exact of_decide_eq_true (by first | (with_reducible assumption) | assumption))
                     have hqbd57 : (((rd_T54 t163 x11_3).f0) < 10) = True := eq_true (by first | omega | exact of_decide_eq_true (by first | (with_reducible assumption) | assumption))
                     have hrbd57 : (((rd_T54 t163 x11_3).f0) < ((10 : Nat) : Int)) = True := eq_true (by first | omega | exact of_decide_eq_true (by first | (with_reducible assumption) | assumption))
                     refine start_ (n := 14) (S := fun w' => w'.cell? ⟨gb158, ((rd_T54 t163 x11_3).f1).toNat * 10 + ((rd_T54 t163 x11_3).f0).toNat, none⟩ = some (.int .i64 (rd x159000_3.l (((rd_T54 t163 x11_3).f1) * 10 + ((rd_T54 t163 x11_3).f0)))) ∧ w'.cell? (ad166.add ((x11_3).toNat * 2)) = some (.int .i8 ((rd_T54 t163 x11_3).f0)) ∧ w'.cell? ⟨(ad166.add ((x11_3).toNat * 2)).block, (ad166.add ((x11_3).toNat * 2)).off + 1, none⟩ = some (.int .i8 ((rd_T54 t163 x11_3).f1)) ∧ w'.cell? (ad166.add ((x11_3).toNat * 2)) = some (.int .i8 ((rd_T54 t163 x11_3).f0)) ∧ w'.cell? ⟨(ad166.add ((x11_3).toNat * 2)).block, (ad166.add ((x11_3).toNat * 2)).off + 1, none⟩ = some (.int .i8 ((rd_T54 t163 x11_3).f1))) (ds := []) #[false, false, false, false, false, false, false, false, false, false, false, false, false, false] (by kernel_rfl) rfl rfl ⟨mix_at2z 10 BK158.out ((rd_T54 t163 x11_3).f1) ((rd_T54 t163 x11_3).f0) (of_eq_true hpd57) (of_eq_true hpbd57) (by have := of_eq_true hqd57; have := of_eq_true hqbd57; omega), hx166_0, hx166_1, hx167_0, hx167_1⟩ (fun hHeld => ?_); refine with_tabW spec_l01Steps.tab18 spec_l01Steps.bits18 (fun HT_ HW_ => ?_)
                     generalize wr.drew = w56 at HO_8 HO_10 BK0 BK156 BK157 BK158 HB hx166_0 hx166_1 hx167_0 hx167_1 hHeld ⊢
                     refine pure_ (i := 0) (N := some 51) (v := ?_) (a' := ?_) #[true, false, false, false, false, false, false, false, false, false, false, false, false, false] rfl rfl (any_of HT_.out (by kernel_rfl)) (fun _ _ _ h => h) (Or.inl ⟨by rfl, ?_⟩) ?_ ?_
                     rotate_left
                     ·intro w'
                      go_simp
                      with_reducible rfl
                     rotate_left
                     ·simp only [Act.put, List.setIfInBounds_toArray, List.set_cons_zero, List.set_cons_succ, i64_w, i32_w]
                      rfl
                     refine pure_ (i := 1) (N := some 52) (v := ?_) (a' := ?_) #[true, true, false, false, false, false, false, false, false, false, false, false, false, false] rfl rfl (any_of HT_.out (by kernel_rfl)) (fun _ _ _ h => h) (Or.inl ⟨by rfl, ?_⟩) ?_ ?_
                     rotate_left
                     ·intro w'
                      go_simp
                      with_reducible rfl
                     rotate_left
                     ·simp only [Act.put, List.setIfInBounds_toArray, List.set_cons_zero, List.set_cons_succ, i64_w, i32_w]
                      rfl
                     refine pure_ (i := 2) (N := some 53) (v := ?_) (a' := ?_) #[true, true, true, false, false, false, false, false, false, false, false, false, false, false] rfl rfl (any_of HT_.out (by kernel_rfl)) (fun _ _ _ h => h) (Or.inl ⟨by rfl, ?_⟩) ?_ ?_
                     rotate_left
                     ·intro w'
                      go_simp
                      with_reducible rfl
                     rotate_left
                     ·simp only [Act.put, List.setIfInBounds_toArray, List.set_cons_zero, List.set_cons_succ, i64_w, i32_w]
                      rfl
                     refine pure_ (i := 3) (N := some 54) (v := ?_) (a' := ?_) #[true, true, true, true, false, false, false, false, false, false, false, false, false, false] rfl rfl (any_of HT_.out (by kernel_rfl)) (fun _ _ _ h => h) (Or.inl ⟨by rfl, ?_⟩) ?_ ?_
                     rotate_left
                     ·intro w'
                      go_simp
                      with_reducible rfl
                     rotate_left
                     ·simp only [Act.put, List.setIfInBounds_toArray, List.set_cons_zero, List.set_cons_succ, i64_w, i32_w]
                      rfl
                     refine pure_ (i := 5) (N := some 56) (v := ?_) (a' := ?_) #[true, true, true, true, false, true, false, false, false, false, false, false, false, false] rfl rfl (any_of HT_.out (by kernel_rfl)) (fun _ _ _ h => h) (Or.inl ⟨by rfl, ?_⟩) ?_ ?_
                     rotate_left
                     ·intro w'
                      go_simp
                      with_reducible rfl
                     rotate_left
                     ·simp only [Act.put, List.setIfInBounds_toArray, List.set_cons_zero, List.set_cons_succ, i64_w, i32_w]
                      rfl
                     refine pure_ (i := 6) (N := some 57) (v := ?_) (a' := ?_) #[true, true, true, true, false, true, true, false, false, false, false, false, false, false] rfl rfl (any_of HT_.out (by kernel_rfl)) (fun _ _ _ h => h) (Or.inl ⟨by rfl, ?_⟩) ?_ ?_
                     rotate_left
                     ·intro w'
                      go_simp
                      with_reducible rfl
                     rotate_left
                     ·simp only [Act.put, List.setIfInBounds_toArray, List.set_cons_zero, List.set_cons_succ, i64_w, i32_w]
                      rfl
                     refine pure_ (i := 7) (N := some 58) (v := ?_) (a' := ?_) #[true, true, true, true, false, true, true, true, false, false, false, false, false, false] rfl rfl (any_of HT_.out (by kernel_rfl)) (fun _ _ _ h => h) (Or.inl ⟨by rfl, ?_⟩) ?_ ?_
                     rotate_left
                     ·intro w'
                      go_simp
                      with_reducible rfl
                     rotate_left
                     ·simp only [Act.put, List.setIfInBounds_toArray, List.set_cons_zero, List.set_cons_succ, i64_w, i32_w]
                      rfl
                     refine pure_ (i := 8) (N := some 59) (v := ?_) (a' := ?_) #[true, true, true, true, false, true, true, true, true, false, false, false, false, false] rfl rfl (any_of HT_.out (by kernel_rfl)) (fun _ _ _ h => h) (Or.inl ⟨by rfl, ?_⟩) ?_ ?_
                     rotate_left
                     ·intro w'
                      go_simp
                      with_reducible rfl
                     rotate_left
                     ·simp only [Act.put, List.setIfInBounds_toArray, List.set_cons_zero, List.set_cons_succ, i64_w, i32_w]
                      rfl
                     refine take_ (i := 4) (N := some 55) (v := ?_) (a' := ?_) #[true, true, true, true, true, true, true, true, true, false, false, false, false, false] rfl rfl (take_ofW HT_.out HW_.out (by kernel_rfl)) (fun _ _ _ h => h) (Or.inl ⟨by rfl, ?_⟩) hHeld ?_ ?_
                     rotate_left
                     ·rintro w' ⟨s0, s1, s2, s3, s4⟩
                      go_simp
                      with_reducible rfl
                     rotate_left
                     ·simp only [Act.put, List.setIfInBounds_toArray, List.set_cons_zero, List.set_cons_succ, i64_w, i32_w]
                      rfl
                     refine pure_ (i := 10) (N := some 61) (v := ?_) (a' := ?_) #[true, true, true, true, true, true, true, true, true, false, true, false, false, false] rfl rfl (any_of HT_.out (by kernel_rfl)) (fun _ _ _ h => h) (Or.inl ⟨by rfl, ?_⟩) ?_ ?_
                     rotate_left
                     ·intro w'
                      go_simp
                      with_reducible rfl
                     rotate_left
                     ·simp only [Act.put, List.setIfInBounds_toArray, List.set_cons_zero, List.set_cons_succ, i64_w, i32_w]
                      rfl
                     refine take_ (i := 9) (N := some 60) (v := ?_) (a' := ?_) #[true, true, true, true, true, true, true, true, true, true, true, false, false, false] rfl rfl (take_ofW HT_.out HW_.out (by kernel_rfl)) (fun _ _ _ h => h) (Or.inl ⟨by rfl, ?_⟩) hHeld ?_ ?_
                     rotate_left
                     ·rintro w' ⟨s0, s1, s2, s3, s4⟩
                      go_simp
                      with_reducible rfl
                     rotate_left
                     ·simp only [Act.put, List.setIfInBounds_toArray, List.set_cons_zero, List.set_cons_succ, i64_w, i32_w]
                      rfl
                     refine pure_ (i := 11) (N := some 62) (v := ?_) (a' := ?_) #[true, true, true, true, true, true, true, true, true, true, true, true, false, false] rfl rfl (any_of HT_.out (by kernel_rfl)) (fun _ _ _ h => h) (Or.inl ⟨by rfl, ?_⟩) ?_ ?_
                     rotate_left
                     ·intro w'
                      go_simp
                      with_reducible rfl
                     rotate_left
                     ·simp only [Act.put, List.setIfInBounds_toArray, List.set_cons_zero, List.set_cons_succ, i64_w, i32_w]
                      rfl
                     refine take_ (i := 12) (N := some 63) (v := ?_) (a' := ?_) #[true, true, true, true, true, true, true, true, true, true, true, true, true, false] rfl rfl (take_ofW HT_.out HW_.out (by kernel_rfl)) (fun _ _ _ h => h) (Or.inl ⟨by rfl, ?_⟩) hHeld ?_ ?_
                     rotate_left
                     ·rintro w' ⟨s0, s1, s2, s3, s4⟩
                      go_simp
                      with_reducible rfl
                     rotate_left
                     ·simp only [Act.put, List.setIfInBounds_toArray, List.set_cons_zero, List.set_cons_succ, i64_w, i32_w]
                      rfl
                     refine pure_ (i := 13) (N := some 64) (v := ?_) (a' := ?_) #[true, true, true, true, true, true, true, true, true, true, true, true, true, true] rfl rfl (any_of HT_.out (by kernel_rfl)) (fun _ _ _ h => h) (Or.inl ⟨by rfl, ?_⟩) ?_ ?_
                     rotate_left
                     ·intro w'
                      go_simp
                      with_reducible rfl
                     rotate_left
                     ·simp only [Act.put, List.setIfInBounds_toArray, List.set_cons_zero, List.set_cons_succ, i64_w, i32_w]
                      rfl
                     refine done_ (done_of HT_.out (by kernel_rfl)) ?_
                     try go_wp2
                     go_roundg k3
                     case measure => have := HK1.out; have := HK2.out; have := HK3.out; omega
                     case rel => exact ⟨(x8_3), (wrap64 (x11_3 + 1)), (x159000_3), (by first | rfl | (simp; done) | (simp [*]; done)), H', ⟨by have := HK1.out; have := HK2.out; have := HK3.out; omega⟩, ⟨by (with_reducible repeat (first | apply Kd.R_alloc | apply Kd.R_drewN | apply Kd.R_drew)); exact HO_8.out⟩, ⟨by (with_reducible repeat (first | apply Kd.R_alloc | apply Kd.R_drewN | apply Kd.R_drew)); exact HO_10.out⟩, ⟨pk BK0⟩, ⟨pk BK156⟩, ⟨pk BK157⟩, ⟨pk BK158⟩, ⟨pbs HB⟩⟩
                   ·rw [if_neg c37] at H
                    exact absurd H (by simp)
                  ·rw [if_neg c36] at H
                   exact absurd H (by simp)
                 ·rw [if_neg c35] at H
                  exact absurd H (by simp)
                ·rw [if_neg c34] at H
                 exact absurd H (by simp)
               ·rw [if_neg c33] at H
                exact absurd H (by simp)
              ·rw [if_neg c32] at H
               have c32b0 : decide (x11_3 < (t163.length : Int)) = false := decide_eq_false c32
               clear c32
               have H' := Aside0.mk H
               clear H
               obtain ⟨Ao58, co58, eo58⟩ := Kd.R_slice HO_10.out
               subst eo58
               go_wp2
               go_roundg k3
               case measure => have := HK1.out; have := HK2.out; have := HK3.out; omega
               case rel => exact ⟨(x8_3), (wrap64 (x9_2 + 1)), (x159000_3), (by first | rfl | (simp; done) | (simp [*]; done)), H', ⟨by have := HK1.out; have := HK2.out; have := HK3.out; omega⟩, ⟨by (with_reducible repeat (first | apply Kd.R_alloc | apply Kd.R_drewN | apply Kd.R_drew)); exact Kd.R_mono HO_8.out (fun _ hk => hk.2)⟩, ⟨pk BK0⟩, ⟨pk BK156⟩, ⟨pk BK157⟩, ⟨pk BK158⟩, ⟨pbs HB⟩⟩
           ·rw [if_neg c28] at H
            exact absurd H (by simp)
          ·rw [if_neg c27] at H
           have c27b0 : decide (x9_2 < (x8_2.length : Int)) = false := decide_eq_false c27
           clear c27
           obtain rfl := Option.some.inj H
           obtain ⟨Ao59, co59, eo59⟩ := Kd.R_slice HO_8.out
           subst eo59
           go_wp2_with (first | ((with_reducible refine gate_dst (N := 98) rfl ?_); refine wpList_run0 (v := .agg (mixA (Value.int .i64) [] x159000_2)) rfl (load_mix_run (P := Try.prog) 78 (.tmp 5) rfl gb158 rfl (show World.rangeAt _ gb158 0 ([] ++ x159000_2.l.map (Value.int .i64)) from mix_range (show (World.heap _)[gb158]? = some (.cells (mixA (Value.int .i64) [] x159000_2) 78 (0, 0)) from by (with_reducible repeat (first | refine blk_drewN ?_ _ | refine blk_drew ?_ | refine blk_alloc ?_ _)); exact BK158.out)) Try.underlying78 rfl (by kernel_rfl) rfl) ?_) | ((with_reducible refine gate_store (p := 4) rfl ?_); refine wpList_store_lmix rfl 78 _ _ rfl gb157 (e := (Value.int .i64)) (cs' := []) (W' := x159000_2) (cs := []) (W := (LA.zero 100)) (T := 78) rfl rfl (pk BK157) rfl (by kernel_rfl) rfl (fun _ => rfl) rfl ?_; intro w61 hi hk hbl; have n0_ := Aside0.mk (Kd.R_mono (Kd.R_keep (Kd.R_types (by (with_reducible repeat (first | apply Kd.R_alloc | apply Kd.R_drewN | apply Kd.R_drew)); exact HO_8.out) (pk BK157) (by decide)) hk (fun _ h => h.2)) (fun _ h => h.1)); have n1_ := Aside0.mk (KeepBut.blk hk (g' := g0) (o := .cells (mixA (Value.int .u16) [.int .i8 s0_0, .int .i8 s0_1] s0_2) 31 (0, 0)) (pk BK0) NB0_157.out (by simp)); have n2_ := Aside0.mk (KeepBut.blk hk (g' := gb156) (o := .cells #[.int .i8 a1_0, .int .i8 a1_1] 54 (0, 0)) (pk BK156) NB156_157.out (by simp)); have n3_ := Aside0.mk (KeepBut.blk hk (g' := gb158) (o := .cells (mixA (Value.int .i64) [] x159000_2) 78 (0, 0)) (pk BK158) NB158_157.out (by simp)); have n4_ := Aside0.mk (hbl _ _ (pbs HB) GE157.out); have n5_ := Aside0.mk (hi); clear HO_8; clear BK0; clear BK156; clear BK158; clear HB; clear BK157; have HO_8 := n0_; have BK0 := n1_; have BK156 := n2_; have BK158 := n3_; have HB := n4_; have BK157 := n5_; clear n0_ n1_ n2_ n3_ n4_ n5_; clear hi hk hbl))
           refine bodyPost_ret (results_cell_row rfl _ _ gb157 78 (mixA (Value.int .i64) [] x159000_2) (0, 0) _ rfl (pk BK157) Try.underlying78 rfl (by rw [mix_size]; kernel_rfl)) rfl ?_
           exact ⟨by first | rfl | (simp [errW_none, errW_some] <;> rfl) | (simp [*, errW_none, errW_some] <;> rfl), pbs HB⟩
       ·rw [if_neg c17] at H
        exact absurd H (by simp)
      ·rw [if_neg c16] at H
       exact absurd H (by simp)
     ·rw [if_neg c15] at H
      exact absurd H (by simp)
    ·rw [if_neg c14] at H
     exact absurd H (by simp)
end Go.Proofs.Ytmcjgpbhjpakhaa.PB
end
section
namespace Go.Proofs.Ytmcjgpbhjpakhaa.PB
open Go.RowKit Go.Proofs.YtmcjgpbhjpakhaaW.PrintWords Go.Proofs.YtmcjgpbhjpakhaaW.PrintLast Go.Proofs.YtmcjgpbhjpakhaaW.PrintMore Go.Proofs.Ytmcjgpbhjpakhaa.La Go.Proofs.Ytmcjgpbhjpakhaa.Mp
attribute [local go_sem] max2_int min2_int max_two min_two max_three min_three max_four min_four   -- for this text's walks alone
set_option linter.unusedVariables false
set_option linter.unusedSimpArgs false
def spec_l01Near.l0 : Nat → Int → List (S54) → List (S54) → Int → LA 100 → Option ((List (S54)))
 | 0, _, _, _, _, _ => none
 | k + 1, x2, x8, x9, x10, x179000 => if x10 < (x9.length : Int) then (if 0 ≤ x10 then (if 0 ≤ ((rd_T54 x9 x10).f1) then (if ((rd_T54 x9 x10).f1) < 10 then (if 0 ≤ ((rd_T54 x9 x10).f0) then (if ((rd_T54 x9 x10).f0) < 10 then ((spec_l00In.f (rd x179000.l (((rd_T54 x9 x10).f1) * 10 + ((rd_T54 x9 x10).f0))) 0 x2).bind fun t187 => (if t187 = true then (if x8.length < 70368744177664 then (spec_l01Near.l0 k x2 (x8 ++ [(⟨(rd_T54 x9 x10).f0, (rd_T54 x9 x10).f1⟩ : S54)]) x9 (wrap64 (x10 + 1)) x179000) else (none)) else (spec_l01Near.l0 k x2 x8 x9 (wrap64 (x10 + 1)) x179000))) else (none)) else (none)) else (none)) else (none)) else (none)) else (some x8)
def spec_l01Near.f (k : Nat) (s0_0 : Int) (s0_1 : Int) (s0_2 : LA 10) (a1_0 : Int) (a1_1 : Int) (a2 : Int) : Option ((List (S54))) := (spec_l01Steps.f k s0_0 s0_1 s0_2 a1_0 a1_1).bind fun t177 => ((spec_l01All.f k s0_0 s0_1 s0_2).bind fun t182 => (spec_l01Near.l0 k a2 (([] : List (S54))) t182 0 t177))
theorem spec_l01Near.mono_l : ∀ k, (∀ y0 y1 y2 y3 y4, LeO (spec_l01Near.l0 k y0 y1 y2 y3 y4) (spec_l01Near.l0 (k + 1) y0 y1 y2 y3 y4))
 | 0 => fun _ _ _ _ _ r h => by simp [spec_l01Near.l0] at h
 | k + 1 => by
  have ih0 := spec_l01Near.mono_l k
  ·intro y0 y1 y2 y3 y4
   unfold spec_l01Near.l0
   repeat' first
   | (with_reducible exact ih0 _ _ _ _ _)
   | (with_reducible exact spec_l01All.mono _ _ _ _)
   | (with_reducible exact spec_l01Steps.mono _ _ _ _ _ _)
   | (with_reducible exact LeO.refl _)
   | (with_reducible exact LeO.none _)
   | (with_reducible refine LeO.ite ?_ ?_)
   | (with_reducible refine LeO.bind ?_ (fun _ => ?_))
   | exact ih0 _ _ _ _ _
   | exact spec_l01All.mono _ _ _ _
   | exact spec_l01Steps.mono _ _ _ _ _ _
   | exact LeO.none _
   | refine LeO.ite ?_ ?_
   | refine LeO.bind ?_ (fun _ => ?_)
theorem spec_l01Near.mono : ∀ a0 a1 a2 a3 a4 a5 k, LeO (spec_l01Near.f k a0 a1 a2 a3 a4 a5) (spec_l01Near.f (k + 1) a0 a1 a2 a3 a4 a5) := by
 intro a0 a1 a2 a3 a4 a5 k
 have ih0 := spec_l01Near.mono_l k
 unfold spec_l01Near.f
 repeat' first
   | (with_reducible exact ih0 _ _ _ _ _)
   | (with_reducible exact spec_l01All.mono _ _ _ _)
   | (with_reducible exact spec_l01Steps.mono _ _ _ _ _ _)
   | (with_reducible exact LeO.refl _)
   | (with_reducible exact LeO.none _)
   | (with_reducible refine LeO.ite ?_ ?_)
   | (with_reducible refine LeO.bind ?_ (fun _ => ?_))
   | exact ih0 _ _ _ _ _
   | exact spec_l01All.mono _ _ _ _
   | exact spec_l01Steps.mono _ _ _ _ _ _
   | exact LeO.none _
   | refine LeO.ite ?_ ?_
   | refine LeO.bind ?_ (fun _ => ?_)
set_option maxHeartbeats 8000000 in
set_option maxRecDepth 100000 in
theorem spec_l01Near.calls (k : Nat) (g0 : Nat) (s0_0 : Int) (s0_1 : Int) (s0_2 : LA 10) (a1_0 : Int) (a1_1 : Int) (a2 : Int) (r : List (S54)) (w : World) (hb0 : w.heap[g0]? = some (.cells (mixA (Value.int .u16) [.int .i8 s0_0, .int .i8 s0_1] s0_2) 31 (0, 0))) (h : spec_l01Near.f k s0_0 s0_1 s0_2 a1_0 a1_1 a2 = some r) :
  Calls Try.prog 43 #[.pointer (some ⟨g0, 0, none⟩), .agg #[.int .i8 a1_0, .int .i8 a1_1], .int .i64 a2] w fun e w' => ∃ v0_ : Value, e = .returned (v0_) ∧ Kd.R k54 54 w' w.heap.size (fun _ => True) v0_ r ∧ Below w.heap.size w w' := by
 have hu54 := Try.underlying54
 have BK0 := Aside0.mk hb0
 clear hb0
 have HB := Aside0.mk (Below.refl w.heap.size w)
 have H : ((spec_l01Steps.f k s0_0 s0_1 s0_2 a1_0 a1_1).bind fun t177 => ((spec_l01All.f k s0_0 s0_1 s0_2).bind fun t182 => (spec_l01Near.l0 k a2 (([] : List (S54))) t182 0 t177))) = some r := h
 clear h
 replace H := Option.bind_eq_some_iff.mp H
 obtain ⟨t177, A40, H⟩ := H
 replace H : ((spec_l01All.f k s0_0 s0_1 s0_2).bind fun t182 => (spec_l01Near.l0 k a2 (([] : List (S54))) t182 0 t177)) = some r := H
 have A4 := Aside0.mk A40
 clear A40
 obtain ⟨y179, hy179⟩ : ∃ y_ : List (S54), y_ = (([] : List (S54))) := ⟨_, rfl⟩
 replace H : ((spec_l01All.f k s0_0 s0_1 s0_2).bind fun t182 => (spec_l01Near.l0 k a2 y179 t182 0 t177)) = some r := by first | (rw [hy179]; with_reducible exact H) | (have H2_ := (Option.bind_some _ _).symm.trans H; rw [hy179]; with_reducible exact H2_) | (have H2_ := (Option.bind_some _ _).symm.trans H; with_reducible exact H2_) | with_reducible exact H | (rw [hy179]; exact H) | exact H
 have Ny179 := Aside0.mk hy179
 clear hy179
 replace H := Option.bind_eq_some_iff.mp H
 obtain ⟨t182, A50, H⟩ := H
 replace H : (spec_l01Near.l0 k a2 y179 t182 0 t177) = some r := H
 have A5 := Aside0.mk A50
 clear A50
 have H' := Aside0.mk H
 clear H
 go_enter Try.func43, Try.ntmps43
 go_wp2_with (first | ((with_reducible refine gate_dst (N := 4) rfl ?_); refine box_event ?hg (N := 4) ?hd (cs := #[.int .i8 a1_0, .int .i8 a1_1]) (t := 54) ?hr ?_; (case hd => rfl); (case hg => rfl); (case hr => first | (go_simp; done) | (go_simp; rfl)); intro gb176 hg w6 hbox hb; have n0_ := bkb BK0 hb; have n1_ := bst HB hb; have n2_ := Aside0.mk (hbox); have n3_ := gwl HB hg; have n4_ := gwl HB hg; have n5_ := nbl BK0 hg; have n6_ := nbg BK0 hg; clear BK0; clear HB; have BK0 := n0_; have HB := n1_; have BK176 := n2_; have GW176 := n3_; have GE176 := n4_; have NB0_176 := n5_; have NB176_0 := n6_; clear n0_ n1_ n2_ n3_ n4_ n5_ n6_; clear hb hbox hg; have hnb7 := NB176_0.out; have hnc7 := NB0_176.out; have hcz8_0 : w6.cell? ⟨gb176, 0, none⟩ = some (.int .i8 a1_0) := (blk_cell BK176.out 0).trans rfl; have hcz8_1 : w6.cell? ⟨gb176, 1, none⟩ = some (.int .i8 a1_1) := (blk_cell BK176.out 1).trans rfl; have hfz8_0 := blk_frozen BK176.out 0; have hfz8_1 := blk_frozen BK176.out 1) | (go_at_call 47; (with_reducible refine (spec_l01Steps.calls k g0 s0_0 s0_1 s0_2 a1_0 a1_1 t177 _ ?side1 A4.out).mono ?_); (case side1 => exact (pk BK0)); rintro e w9 ⟨rfl, hb⟩; have n0_ := bkb BK0 hb; have n1_ := bkb BK176 hb; have n2_ := bst HB hb; clear BK0; clear BK176; clear HB; have BK0 := n0_; have BK176 := n1_; have HB := n2_; clear n0_ n1_ n2_; (try clear hb); (try clear hb2); (try clear hk); (try clear hi)) | ((with_reducible refine gate_dst (N := 7) rfl ?_); refine box_event ?hg (N := 7) ?hd (cs := (mixA (Value.int .i64) [] (LA.zero 100))) (t := 78) ?hr ?_; (case hd => rfl); (case hg => rfl); (case hr => first | (go_simp; done) | (go_simp; rfl)); intro gb178 hg w10 hbox hb; have n0_ := bkb BK0 hb; have n1_ := bkb BK176 hb; have n2_ := bst HB hb; have n3_ := Aside0.mk (hbox); have n4_ := gwl HB hg; have n5_ := gwl HB hg; have n6_ := nbl BK0 hg; have n7_ := nbg BK0 hg; have n8_ := nbl BK176 hg; have n9_ := nbg BK176 hg; clear BK0; clear BK176; clear HB; have BK0 := n0_; have BK176 := n1_; have HB := n2_; have BK178 := n3_; have GW178 := n4_; have GE178 := n5_; have NB0_178 := n6_; have NB178_0 := n7_; have NB176_178 := n8_; have NB178_176 := n9_; clear n0_ n1_ n2_ n3_ n4_ n5_ n6_ n7_ n8_ n9_; clear hb hbox hg) | ((with_reducible refine gate_store (p := 7) rfl ?_); (try (rw [drewN_self w10]; generalize hq_ : World.drewN w10 _ = w10; have n0_ := Aside0.mk (blk_at hq_ BK0.out); have n1_ := Aside0.mk (blk_at hq_ BK176.out); have n2_ := Aside0.mk (blk_at hq_ BK178.out); have n3_ := Aside0.mk (below_at hq_ HB.out); clear hq_ BK0 BK176 BK178 HB; have BK0 := n0_; have BK176 := n1_; have BK178 := n2_; have HB := n3_; clear n0_ n1_ n2_ n3_)); refine wpList_store_lmix rfl 78 _ _ rfl gb178 (e := (Value.int .i64)) (cs' := []) (W' := t177) (cs := []) (W := (LA.zero 100)) (T := 78) rfl rfl (pk BK178) rfl (by kernel_rfl) rfl (fun _ => rfl) rfl ?_; intro w11 hi hk hbl; have n0_ := Aside0.mk (KeepBut.blk hk (g' := g0) (o := .cells (mixA (Value.int .u16) [.int .i8 s0_0, .int .i8 s0_1] s0_2) 31 (0, 0)) (pk BK0) NB0_178.out (by simp)); have n1_ := Aside0.mk (KeepBut.blk hk (g' := gb176) (o := .cells #[.int .i8 a1_0, .int .i8 a1_1] 54 (0, 0)) (pk BK176) NB176_178.out (by simp)); have n2_ := Aside0.mk (hbl _ _ (pbs HB) GE178.out); have n3_ := Aside0.mk (hi); clear BK0; clear BK176; clear HB; clear BK178; have BK0 := n0_; have BK176 := n1_; have HB := n2_; have BK178 := n3_; clear n0_ n1_ n2_ n3_; clear hi hk hbl) | ((with_reducible refine gate_dst (N := 14) rfl ?_); refine Kd.R_lit k54 _ 54 ?hg (N := 14) ?hd (xs := ([] : List (S54))) (inner := []) (ok := fun _ => True) (okp := fun _ => True) ?hr ?hp (fun _ hk => hk) trivial (Below.refl _ _) (Nat.le_refl _) (by simp) ?_; (case hd => rfl); (case hg => rfl); (case hr => first | (go_simp; done) | (go_simp; rfl)); (case hp => exact (Reps.none _ _)); intro v180 w12 ho13 hb hg_ hnew_; clear hg_ hnew_; (first | rw [← Ny179.out] at ho13 | (simp only [Int.reduceToNat] at ho13; rw [← Ny179.out] at ho13)); have n0_ := Aside0.mk (Kd.R_lower (Kd.R_newB ho13 (g := gb176) (o := .cells #[.int .i8 a1_0, .int .i8 a1_1] 54 (0, 0)) (pk BK176)) (below_size (by repeat (first | (with_reducible first | exact HB.out | apply below_alloc | apply pw_below_drewN | apply below_drew1 | refine below_set ?_ GE0.out | refine below_set ?_ GE176.out | refine below_set ?_ GE178.out) | exact HB.out)))); have n1_ := bkb BK0 hb; have n2_ := bkb BK176 hb; have n3_ := bkb BK178 hb; have n4_ := bst HB hb; clear BK0; clear BK176; clear BK178; clear HB; have HO181 := n0_; have BK0 := n1_; have BK176 := n2_; have BK178 := n3_; have HB := n4_; clear n0_ n1_ n2_ n3_ n4_; clear hb ho13) | (go_at_call 42; (with_reducible refine (spec_l01All.calls k g0 s0_0 s0_1 s0_2 t182 _ ?side1 A5.out).mono ?_); (case side1 => exact (pk BK0)); rintro e w14 ⟨v183, rfl, ho0, hb⟩; have n0_ := Aside0.mk (Kd.R_elder' (by (with_reducible repeat (first | apply Kd.R_alloc | apply Kd.R_drewN | apply Kd.R_drew)); exact HO181.out) (Kd.R_base ho0) hb); have n1_ := Aside0.mk (Kd.R_lower (Kd.R_newB (Kd.R_new' ho0 (Kd.R_lt (by (with_reducible repeat (first | apply Kd.R_alloc | apply Kd.R_drewN | apply Kd.R_drew)); exact HO181.out))) (g := gb176) (o := .cells #[.int .i8 a1_0, .int .i8 a1_1] 54 (0, 0)) (pk BK176)) (below_size (by repeat (first | (with_reducible first | exact HB.out | apply below_alloc | apply pw_below_drewN | apply below_drew1 | refine below_set ?_ GE0.out | refine below_set ?_ GE176.out | refine below_set ?_ GE178.out) | exact HB.out)))); have n2_ := bkb BK0 hb; have n3_ := bkb BK176 hb; have n4_ := bkb BK178 hb; have n5_ := bst HB hb; clear HO181; clear BK0; clear BK176; clear BK178; clear HB; have HO181 := n0_; have HO184 := n1_; have BK0 := n2_; have BK176 := n3_; have BK178 := n4_; have HB := n5_; clear n0_ n1_ n2_ n3_ n4_ n5_; (try clear hb); (try clear hb2); (try clear hk); (try clear hi); (try clear ho0)))
 repeat (go_quiet (first | ((with_reducible refine gate_dst (N := 4) rfl ?_); refine box_event ?hg (N := 4) ?hd (cs := #[.int .i8 a1_0, .int .i8 a1_1]) (t := 54) ?hr ?_; (case hd => rfl); (case hg => rfl); (case hr => first | (go_simp; done) | (go_simp; rfl)); intro gb176 hg w6 hbox hb; have n0_ := bkb BK0 hb; have n1_ := bst HB hb; have n2_ := Aside0.mk (hbox); have n3_ := gwl HB hg; have n4_ := gwl HB hg; have n5_ := nbl BK0 hg; have n6_ := nbg BK0 hg; clear BK0; clear HB; have BK0 := n0_; have HB := n1_; have BK176 := n2_; have GW176 := n3_; have GE176 := n4_; have NB0_176 := n5_; have NB176_0 := n6_; clear n0_ n1_ n2_ n3_ n4_ n5_ n6_; clear hb hbox hg; have hnb7 := NB176_0.out; have hnc7 := NB0_176.out; have hcz8_0 : w6.cell? ⟨gb176, 0, none⟩ = some (.int .i8 a1_0) := (blk_cell BK176.out 0).trans rfl; have hcz8_1 : w6.cell? ⟨gb176, 1, none⟩ = some (.int .i8 a1_1) := (blk_cell BK176.out 1).trans rfl; have hfz8_0 := blk_frozen BK176.out 0; have hfz8_1 := blk_frozen BK176.out 1) | (go_at_call 47; (with_reducible refine (spec_l01Steps.calls k g0 s0_0 s0_1 s0_2 a1_0 a1_1 t177 _ ?side1 A4.out).mono ?_); (case side1 => exact (pk BK0)); rintro e w9 ⟨rfl, hb⟩; have n0_ := bkb BK0 hb; have n1_ := bkb BK176 hb; have n2_ := bst HB hb; clear BK0; clear BK176; clear HB; have BK0 := n0_; have BK176 := n1_; have HB := n2_; clear n0_ n1_ n2_; (try clear hb); (try clear hb2); (try clear hk); (try clear hi)) | ((with_reducible refine gate_dst (N := 7) rfl ?_); refine box_event ?hg (N := 7) ?hd (cs := (mixA (Value.int .i64) [] (LA.zero 100))) (t := 78) ?hr ?_; (case hd => rfl); (case hg => rfl); (case hr => first | (go_simp; done) | (go_simp; rfl)); intro gb178 hg w10 hbox hb; have n0_ := bkb BK0 hb; have n1_ := bkb BK176 hb; have n2_ := bst HB hb; have n3_ := Aside0.mk (hbox); have n4_ := gwl HB hg; have n5_ := gwl HB hg; have n6_ := nbl BK0 hg; have n7_ := nbg BK0 hg; have n8_ := nbl BK176 hg; have n9_ := nbg BK176 hg; clear BK0; clear BK176; clear HB; have BK0 := n0_; have BK176 := n1_; have HB := n2_; have BK178 := n3_; have GW178 := n4_; have GE178 := n5_; have NB0_178 := n6_; have NB178_0 := n7_; have NB176_178 := n8_; have NB178_176 := n9_; clear n0_ n1_ n2_ n3_ n4_ n5_ n6_ n7_ n8_ n9_; clear hb hbox hg) | ((with_reducible refine gate_store (p := 7) rfl ?_); (try (rw [drewN_self w10]; generalize hq_ : World.drewN w10 _ = w10; have n0_ := Aside0.mk (blk_at hq_ BK0.out); have n1_ := Aside0.mk (blk_at hq_ BK176.out); have n2_ := Aside0.mk (blk_at hq_ BK178.out); have n3_ := Aside0.mk (below_at hq_ HB.out); clear hq_ BK0 BK176 BK178 HB; have BK0 := n0_; have BK176 := n1_; have BK178 := n2_; have HB := n3_; clear n0_ n1_ n2_ n3_)); refine wpList_store_lmix rfl 78 _ _ rfl gb178 (e := (Value.int .i64)) (cs' := []) (W' := t177) (cs := []) (W := (LA.zero 100)) (T := 78) rfl rfl (pk BK178) rfl (by kernel_rfl) rfl (fun _ => rfl) rfl ?_; intro w11 hi hk hbl; have n0_ := Aside0.mk (KeepBut.blk hk (g' := g0) (o := .cells (mixA (Value.int .u16) [.int .i8 s0_0, .int .i8 s0_1] s0_2) 31 (0, 0)) (pk BK0) NB0_178.out (by simp)); have n1_ := Aside0.mk (KeepBut.blk hk (g' := gb176) (o := .cells #[.int .i8 a1_0, .int .i8 a1_1] 54 (0, 0)) (pk BK176) NB176_178.out (by simp)); have n2_ := Aside0.mk (hbl _ _ (pbs HB) GE178.out); have n3_ := Aside0.mk (hi); clear BK0; clear BK176; clear HB; clear BK178; have BK0 := n0_; have BK176 := n1_; have HB := n2_; have BK178 := n3_; clear n0_ n1_ n2_ n3_; clear hi hk hbl) | ((with_reducible refine gate_dst (N := 14) rfl ?_); refine Kd.R_lit k54 _ 54 ?hg (N := 14) ?hd (xs := ([] : List (S54))) (inner := []) (ok := fun _ => True) (okp := fun _ => True) ?hr ?hp (fun _ hk => hk) trivial (Below.refl _ _) (Nat.le_refl _) (by simp) ?_; (case hd => rfl); (case hg => rfl); (case hr => first | (go_simp; done) | (go_simp; rfl)); (case hp => exact (Reps.none _ _)); intro v180 w12 ho13 hb hg_ hnew_; clear hg_ hnew_; (first | rw [← Ny179.out] at ho13 | (simp only [Int.reduceToNat] at ho13; rw [← Ny179.out] at ho13)); have n0_ := Aside0.mk (Kd.R_lower (Kd.R_newB ho13 (g := gb176) (o := .cells #[.int .i8 a1_0, .int .i8 a1_1] 54 (0, 0)) (pk BK176)) (below_size (by repeat (first | (with_reducible first | exact HB.out | apply below_alloc | apply pw_below_drewN | apply below_drew1 | refine below_set ?_ GE0.out | refine below_set ?_ GE176.out | refine below_set ?_ GE178.out) | exact HB.out)))); have n1_ := bkb BK0 hb; have n2_ := bkb BK176 hb; have n3_ := bkb BK178 hb; have n4_ := bst HB hb; clear BK0; clear BK176; clear BK178; clear HB; have HO181 := n0_; have BK0 := n1_; have BK176 := n2_; have BK178 := n3_; have HB := n4_; clear n0_ n1_ n2_ n3_ n4_; clear hb ho13) | (go_at_call 42; (with_reducible refine (spec_l01All.calls k g0 s0_0 s0_1 s0_2 t182 _ ?side1 A5.out).mono ?_); (case side1 => exact (pk BK0)); rintro e w14 ⟨v183, rfl, ho0, hb⟩; have n0_ := Aside0.mk (Kd.R_elder' (by (with_reducible repeat (first | apply Kd.R_alloc | apply Kd.R_drewN | apply Kd.R_drew)); exact HO181.out) (Kd.R_base ho0) hb); have n1_ := Aside0.mk (Kd.R_lower (Kd.R_newB (Kd.R_new' ho0 (Kd.R_lt (by (with_reducible repeat (first | apply Kd.R_alloc | apply Kd.R_drewN | apply Kd.R_drew)); exact HO181.out))) (g := gb176) (o := .cells #[.int .i8 a1_0, .int .i8 a1_1] 54 (0, 0)) (pk BK176)) (below_size (by repeat (first | (with_reducible first | exact HB.out | apply below_alloc | apply pw_below_drewN | apply below_drew1 | refine below_set ?_ GE0.out | refine below_set ?_ GE176.out | refine below_set ?_ GE178.out) | exact HB.out)))); have n2_ := bkb BK0 hb; have n3_ := bkb BK176 hb; have n4_ := bkb BK178 hb; have n5_ := bst HB hb; clear HO181; clear BK0; clear BK176; clear BK178; clear HB; have HO181 := n0_; have HO184 := n1_; have BK0 := n2_; have BK176 := n3_; have BK178 := n4_; have HB := n5_; clear n0_ n1_ n2_ n3_ n4_ n5_; (try clear hb); (try clear hb2); (try clear hk); (try clear hi); (try clear ho0))); try go_wp2_with (first | ((with_reducible refine gate_dst (N := 4) rfl ?_); refine box_event ?hg (N := 4) ?hd (cs := #[.int .i8 a1_0, .int .i8 a1_1]) (t := 54) ?hr ?_; (case hd => rfl); (case hg => rfl); (case hr => first | (go_simp; done) | (go_simp; rfl)); intro gb176 hg w6 hbox hb; have n0_ := bkb BK0 hb; have n1_ := bst HB hb; have n2_ := Aside0.mk (hbox); have n3_ := gwl HB hg; have n4_ := gwl HB hg; have n5_ := nbl BK0 hg; have n6_ := nbg BK0 hg; clear BK0; clear HB; have BK0 := n0_; have HB := n1_; have BK176 := n2_; have GW176 := n3_; have GE176 := n4_; have NB0_176 := n5_; have NB176_0 := n6_; clear n0_ n1_ n2_ n3_ n4_ n5_ n6_; clear hb hbox hg; have hnb7 := NB176_0.out; have hnc7 := NB0_176.out; have hcz8_0 : w6.cell? ⟨gb176, 0, none⟩ = some (.int .i8 a1_0) := (blk_cell BK176.out 0).trans rfl; have hcz8_1 : w6.cell? ⟨gb176, 1, none⟩ = some (.int .i8 a1_1) := (blk_cell BK176.out 1).trans rfl; have hfz8_0 := blk_frozen BK176.out 0; have hfz8_1 := blk_frozen BK176.out 1) | (go_at_call 47; (with_reducible refine (spec_l01Steps.calls k g0 s0_0 s0_1 s0_2 a1_0 a1_1 t177 _ ?side1 A4.out).mono ?_); (case side1 => exact (pk BK0)); rintro e w9 ⟨rfl, hb⟩; have n0_ := bkb BK0 hb; have n1_ := bkb BK176 hb; have n2_ := bst HB hb; clear BK0; clear BK176; clear HB; have BK0 := n0_; have BK176 := n1_; have HB := n2_; clear n0_ n1_ n2_; (try clear hb); (try clear hb2); (try clear hk); (try clear hi)) | ((with_reducible refine gate_dst (N := 7) rfl ?_); refine box_event ?hg (N := 7) ?hd (cs := (mixA (Value.int .i64) [] (LA.zero 100))) (t := 78) ?hr ?_; (case hd => rfl); (case hg => rfl); (case hr => first | (go_simp; done) | (go_simp; rfl)); intro gb178 hg w10 hbox hb; have n0_ := bkb BK0 hb; have n1_ := bkb BK176 hb; have n2_ := bst HB hb; have n3_ := Aside0.mk (hbox); have n4_ := gwl HB hg; have n5_ := gwl HB hg; have n6_ := nbl BK0 hg; have n7_ := nbg BK0 hg; have n8_ := nbl BK176 hg; have n9_ := nbg BK176 hg; clear BK0; clear BK176; clear HB; have BK0 := n0_; have BK176 := n1_; have HB := n2_; have BK178 := n3_; have GW178 := n4_; have GE178 := n5_; have NB0_178 := n6_; have NB178_0 := n7_; have NB176_178 := n8_; have NB178_176 := n9_; clear n0_ n1_ n2_ n3_ n4_ n5_ n6_ n7_ n8_ n9_; clear hb hbox hg) | ((with_reducible refine gate_store (p := 7) rfl ?_); (try (rw [drewN_self w10]; generalize hq_ : World.drewN w10 _ = w10; have n0_ := Aside0.mk (blk_at hq_ BK0.out); have n1_ := Aside0.mk (blk_at hq_ BK176.out); have n2_ := Aside0.mk (blk_at hq_ BK178.out); have n3_ := Aside0.mk (below_at hq_ HB.out); clear hq_ BK0 BK176 BK178 HB; have BK0 := n0_; have BK176 := n1_; have BK178 := n2_; have HB := n3_; clear n0_ n1_ n2_ n3_)); refine wpList_store_lmix rfl 78 _ _ rfl gb178 (e := (Value.int .i64)) (cs' := []) (W' := t177) (cs := []) (W := (LA.zero 100)) (T := 78) rfl rfl (pk BK178) rfl (by kernel_rfl) rfl (fun _ => rfl) rfl ?_; intro w11 hi hk hbl; have n0_ := Aside0.mk (KeepBut.blk hk (g' := g0) (o := .cells (mixA (Value.int .u16) [.int .i8 s0_0, .int .i8 s0_1] s0_2) 31 (0, 0)) (pk BK0) NB0_178.out (by simp)); have n1_ := Aside0.mk (KeepBut.blk hk (g' := gb176) (o := .cells #[.int .i8 a1_0, .int .i8 a1_1] 54 (0, 0)) (pk BK176) NB176_178.out (by simp)); have n2_ := Aside0.mk (hbl _ _ (pbs HB) GE178.out); have n3_ := Aside0.mk (hi); clear BK0; clear BK176; clear HB; clear BK178; have BK0 := n0_; have BK176 := n1_; have HB := n2_; have BK178 := n3_; clear n0_ n1_ n2_ n3_; clear hi hk hbl) | ((with_reducible refine gate_dst (N := 14) rfl ?_); refine Kd.R_lit k54 _ 54 ?hg (N := 14) ?hd (xs := ([] : List (S54))) (inner := []) (ok := fun _ => True) (okp := fun _ => True) ?hr ?hp (fun _ hk => hk) trivial (Below.refl _ _) (Nat.le_refl _) (by simp) ?_; (case hd => rfl); (case hg => rfl); (case hr => first | (go_simp; done) | (go_simp; rfl)); (case hp => exact (Reps.none _ _)); intro v180 w12 ho13 hb hg_ hnew_; clear hg_ hnew_; (first | rw [← Ny179.out] at ho13 | (simp only [Int.reduceToNat] at ho13; rw [← Ny179.out] at ho13)); have n0_ := Aside0.mk (Kd.R_lower (Kd.R_newB ho13 (g := gb176) (o := .cells #[.int .i8 a1_0, .int .i8 a1_1] 54 (0, 0)) (pk BK176)) (below_size (by repeat (first | (with_reducible first | exact HB.out | apply below_alloc | apply pw_below_drewN | apply below_drew1 | refine below_set ?_ GE0.out | refine below_set ?_ GE176.out | refine below_set ?_ GE178.out) | exact HB.out)))); have n1_ := bkb BK0 hb; have n2_ := bkb BK176 hb; have n3_ := bkb BK178 hb; have n4_ := bst HB hb; clear BK0; clear BK176; clear BK178; clear HB; have HO181 := n0_; have BK0 := n1_; have BK176 := n2_; have BK178 := n3_; have HB := n4_; clear n0_ n1_ n2_ n3_ n4_; clear hb ho13) | (go_at_call 42; (with_reducible refine (spec_l01All.calls k g0 s0_0 s0_1 s0_2 t182 _ ?side1 A5.out).mono ?_); (case side1 => exact (pk BK0)); rintro e w14 ⟨v183, rfl, ho0, hb⟩; have n0_ := Aside0.mk (Kd.R_elder' (by (with_reducible repeat (first | apply Kd.R_alloc | apply Kd.R_drewN | apply Kd.R_drew)); exact HO181.out) (Kd.R_base ho0) hb); have n1_ := Aside0.mk (Kd.R_lower (Kd.R_newB (Kd.R_new' ho0 (Kd.R_lt (by (with_reducible repeat (first | apply Kd.R_alloc | apply Kd.R_drewN | apply Kd.R_drew)); exact HO181.out))) (g := gb176) (o := .cells #[.int .i8 a1_0, .int .i8 a1_1] 54 (0, 0)) (pk BK176)) (below_size (by repeat (first | (with_reducible first | exact HB.out | apply below_alloc | apply pw_below_drewN | apply below_drew1 | refine below_set ?_ GE0.out | refine below_set ?_ GE176.out | refine below_set ?_ GE178.out) | exact HB.out)))); have n2_ := bkb BK0 hb; have n3_ := bkb BK176 hb; have n4_ := bkb BK178 hb; have n5_ := bst HB hb; clear HO181; clear BK0; clear BK176; clear BK178; clear HB; have HO181 := n0_; have HO184 := n1_; have BK0 := n2_; have BK176 := n3_; have BK178 := n4_; have HB := n5_; clear n0_ n1_ n2_ n3_ n4_ n5_; (try clear hb); (try clear hb2); (try clear hk); (try clear hi); (try clear ho0))))
 go_loopg [8, 10] k (fun kq v8 v10 w' => ∃ (x8_1 : List (S54)) (x10_1 : Int), v10 = .int .i64 x10_1 ∧ Aside0 (spec_l01Near.l0 kq a2 x8_1 t182 x10_1 t177 = some r) ∧ Aside0 (kq ≤ k) ∧ Aside0 (Kd.R k54 54 w' w.heap.size (fun k_ => some k_ ≠ (v183 : Value).ownBlock ∧ k_ ≠ gb176) v8 x8_1) ∧ Aside0 (Kd.R k54 54 w' w.heap.size (fun k_ => some k_ ≠ (v8 : Value).ownBlock ∧ k_ ≠ gb176) v183 t182) ∧ Aside0 (w'.heap[g0]? = some (.cells (mixA (Value.int .u16) [.int .i8 s0_0, .int .i8 s0_1] s0_2) 31 (0, 0))) ∧ Aside0 (w'.heap[gb176]? = some (.cells #[.int .i8 a1_0, .int .i8 a1_1] 54 (0, 0))) ∧ Aside0 (w'.heap[gb178]? = some (.cells (mixA (Value.int .i64) [] t177) 78 (0, 0))) ∧ Aside0 (Below w.heap.size w w'))
 case atStart => exact ⟨(y179), (0), (by first | rfl | (simp; done) | (simp [*]; done)), H', ⟨Nat.le_refl _⟩, ⟨by (with_reducible repeat (first | apply Kd.R_alloc | apply Kd.R_drewN | apply Kd.R_drew)); exact Kd.R_mono HO181.out (fun _ hk => ⟨hk.2, hk.1.2⟩)⟩, ⟨by (with_reducible repeat (first | apply Kd.R_alloc | apply Kd.R_drewN | apply Kd.R_drew)); exact Kd.R_mono HO184.out (fun _ hk => ⟨hk.1.2, hk.2⟩)⟩, ⟨pk BK0⟩, ⟨pk BK176⟩, ⟨pk BK178⟩, ⟨pbs HB⟩⟩
 case round =>
  clear H'
  try clear p2
  try clear c4
  try clear c7
  try clear hcz8_0
  try clear hcz8_1
  try clear hfz8_0
  try clear hfz8_1
  obtain ⟨x8_1, x10_1, rfl, HA, HK1, HO_8, HO_9, BK0, BK176, BK178, HB⟩ := hrel
  cases gk with
  | zero => exact absurd HA.out (by simp [spec_l01Near.l0])
  | succ k1 =>
   have H := HA.out
   clear HA
   simp only [spec_l01Near.l0] at H
   by_cases c15 : x10_1 < (t182.length : Int)
   ·rw [if_pos c15] at H
    have c15b0 : decide (x10_1 < (t182.length : Int)) = true := decide_eq_true c15
    clear c15
    by_cases c16 : 0 ≤ x10_1
    ·rw [if_pos c16] at H
     have c16b0 : decide (0 ≤ x10_1) = true := decide_eq_true c16
     clear c16
     by_cases c17 : 0 ≤ ((rd_T54 t182 x10_1).f1)
     ·rw [if_pos c17] at H
      have c17b0 : decide (0 ≤ ((rd_T54 t182 x10_1).f1)) = true := decide_eq_true c17
      clear c17
      by_cases c18 : ((rd_T54 t182 x10_1).f1) < 10
      ·rw [if_pos c18] at H
       have c18b0 : decide (((rd_T54 t182 x10_1).f1) < 10) = true := decide_eq_true c18
       clear c18
       by_cases c19 : 0 ≤ ((rd_T54 t182 x10_1).f0)
       ·rw [if_pos c19] at H
        have c19b0 : decide (0 ≤ ((rd_T54 t182 x10_1).f0)) = true := decide_eq_true c19
        clear c19
        by_cases c20 : ((rd_T54 t182 x10_1).f0) < 10
        ·rw [if_pos c20] at H
         have c20b0 : decide (((rd_T54 t182 x10_1).f0) < 10) = true := decide_eq_true c20
         clear c20
         replace H := Option.bind_eq_some_iff.mp H
         obtain ⟨t187, A210, H⟩ := H
         replace H : (if t187 = true then (if x8_1.length < 70368744177664 then (spec_l01Near.l0 k1 a2 (x8_1 ++ [(⟨(rd_T54 t182 x10_1).f0, (rd_T54 t182 x10_1).f1⟩ : S54)]) t182 (wrap64 (x10_1 + 1)) t177) else (none)) else (spec_l01Near.l0 k1 a2 x8_1 t182 (wrap64 (x10_1 + 1)) t177)) = some r := H
         have A21 := Aside0.mk A210
         clear A210
         by_cases c22 : t187 = true
         ·subst c22
          have H1 : (if x8_1.length < 70368744177664 then (spec_l01Near.l0 k1 a2 (x8_1 ++ [(⟨(rd_T54 t182 x10_1).f0, (rd_T54 t182 x10_1).f1⟩ : S54)]) t182 (wrap64 (x10_1 + 1)) t177) else (none)) = some r := by rw [if_pos rfl] at H; exact H
          clear H
          have H := H1
          clear H1
          by_cases c23 : x8_1.length < 70368744177664
          ·rw [if_pos c23] at H
           have LMc23 := Aside0.mk c23
           clear c23
           obtain ⟨y189, hy189⟩ : ∃ y_ : List (S54), y_ = (x8_1 ++ [(⟨(rd_T54 t182 x10_1).f0, (rd_T54 t182 x10_1).f1⟩ : S54)]) := ⟨_, rfl⟩
           replace H : (spec_l01Near.l0 k1 a2 y189 t182 (wrap64 (x10_1 + 1)) t177) = some r := by first | (rw [hy189]; with_reducible exact H) | (have H2_ := (Option.bind_some _ _).symm.trans H; rw [hy189]; with_reducible exact H2_) | (have H2_ := (Option.bind_some _ _).symm.trans H; with_reducible exact H2_) | with_reducible exact H | (rw [hy189]; exact H) | exact H
           have Ny189 := Aside0.mk hy189
           clear hy189
           have H' := Aside0.mk H
           clear H
           obtain ⟨Ao24, co24, eo24⟩ := Kd.R_slice HO_9.out
           subst eo24
           have p185 : 0 ≤ (x10_1 : Int) := of_decide_eq_true (by first | (with_reducible assumption) | assumption)
           have q185 : x10_1 < (t182.length : Int) := of_decide_eq_true (by first | (with_reducible assumption) | assumption)
           obtain ⟨ad185, e185, hx185_0, hx185_1⟩ := at_T54 (Kd.R_reads' HO_9.out).2.2 x10_1 p185 q185
           cases e185
           replace p185 := eq_true p185
           replace q185 := eq_true q185
           have p186 : 0 ≤ (x10_1 : Int) := of_decide_eq_true (by first | (with_reducible assumption) | assumption)
           have q186 : x10_1 < (t182.length : Int) := of_decide_eq_true (by first | (with_reducible assumption) | assumption)
           obtain ⟨ad186, e186, hx186_0, hx186_1⟩ := at_T54 (Kd.R_reads' HO_9.out).2.2 x10_1 p186 q186
           obtain rfl : ad185 = ad186 := (by injection e186)
           replace p186 := eq_true p186
           replace q186 := eq_true q186
           have hnb25 := NB178_0.out
           have hnc25 := NB0_178.out
           have hnb26 := NB178_176.out
           have hnc26 := NB176_178.out
           have hpd28 : (0 ≤ ((rd_T54 t182 x10_1).f1)) = True := eq_true (by first | omega | exact of_decide_eq_true (by first | (with_reducible assumption) | assumption))
           have hqd28 : (((rd_T54 t182 x10_1).f1) < 10) = True := eq_true (by first | omega | exact of_decide_eq_true (by first | (with_reducible assumption) | assumption))
           have hrd28 : (((rd_T54 t182 x10_1).f1) < ((10 : Nat) : Int)) = True := eq_true (by first | omega | exact of_decide_eq_true (by first | (with_reducible assumption) | assumption))
           have hpbd28 : (0 ≤ ((rd_T54 t182 x10_1).f0)) = True := eq_true (by first | omega | exact of_decide_eq_true (by first | (with_reducible assumption) | assumption))
           have hqbd28 : (((rd_T54 t182 x10_1).f0) < 10) = True := eq_true (by first | omega | exact of_decide_eq_true (by first | (with_reducible assumption) | assumption))
           have hrbd28 : (((rd_T54 t182 x10_1).f0) < ((10 : Nat) : Int)) = True := eq_true (by first | omega | exact of_decide_eq_true (by first | (with_reducible assumption) | assumption))
           have hdd28 : wr.cell? ⟨gb178, ((rd_T54 t182 x10_1).f1).toNat * 10 + ((rd_T54 t182 x10_1).f0).toNat, none⟩ = some (.int .i64 (rd t177.l (((rd_T54 t182 x10_1).f1) * 10 + ((rd_T54 t182 x10_1).f0)))) := mix_at2z 10 BK178.out ((rd_T54 t182 x10_1).f1) ((rd_T54 t182 x10_1).f0) (of_eq_true hpd28) (of_eq_true hpbd28) (by have := of_eq_true hqd28; have := of_eq_true hqbd28; omega)
           have hfdd28 := blk_frozen BK178.out (((rd_T54 t182 x10_1).f1).toNat * 10 + ((rd_T54 t182 x10_1).f0).toNat)
           go_wp2_with (first | (go_at_call 54; (with_reducible refine (spec_l00In.calls (rd t177.l (((rd_T54 t182 x10_1).f1) * 10 + ((rd_T54 t182 x10_1).f0))) 0 a2 true _ A21.out).mono ?_); rintro e w' ⟨rfl, ⟨nd, rfl⟩⟩; (try first | exact ⟨rfl, _, World.drewN_drewN _ _ _⟩ | exact ⟨rfl, _, Eq.trans (World.drewN_drewN _ _ _) (congrArg (World.drewN _) (Nat.add_assoc _ _ _))⟩); have p188 : 0 ≤ (x10_1 : Int) := of_decide_eq_true (by first | (with_reducible assumption) | assumption); have q188 : x10_1 < (t182.length : Int) := of_decide_eq_true (by first | (with_reducible assumption) | assumption); obtain ⟨ad188, e188, hx188_0, hx188_1⟩ := at_T54 (Kd.R_reads' HO_9.out).2.2 x10_1 p188 q188; obtain rfl : ad185 = ad188 := (by injection e188); replace p188 := eq_true p188; replace q188 := eq_true q188) | ((with_reducible refine gate_builtin (b := .append) (xs := #[.tmp 38, .tmp 43]) rfl ?_); at_builtin; refine Kd.R_append k54 (w0 := w) w.heap.size rfl (.tmp 38) (.tmp 43) 33 54 (.agg #[(.int .i8 0), (.int .i8 0)]) 2 rfl Try.underlying33 info54 rfl (by decide) (by omega) u8 x8_1 (⟨(rd_T54 t182 x10_1).f0, (rd_T54 t182 x10_1).f1⟩ : S54) [.int .i8 ((rd_T54 t182 x10_1).f0), .int .i8 ((rd_T54 t182 x10_1).f1)] (fun k_ => some k_ ≠ (.slice (some ad185) t182.length co24 : Value).ownBlock ∧ k_ ≠ gb176) (fun _ => False) rfl rfl ?aP (fun _ hk => hk.elim) ?aF ?aO ?aB ?aS ?aL ?_; (case aP => exact k54_mkM _ _ _ (⟨(rd_T54 t182 x10_1).f0, (rd_T54 t182 x10_1).f1⟩ : S54)); (case aB => exact (pbs HB)); (case aF => exact (fun k_ hk => ⟨Kd.fresh' (Kd.R_lt (by (with_reducible repeat (first | apply Kd.R_alloc | apply Kd.R_drewN | apply Kd.R_drew)); exact HO_9.out)) k_ hk, Kd.freshB (g := gb176) (o := .cells #[.int .i8 a1_0, .int .i8 a1_1] 54 (0, 0)) (pk BK176) k_ hk⟩)); (case aO => exact (by (with_reducible repeat (first | apply Kd.R_alloc | apply Kd.R_drewN | apply Kd.R_drew)); exact HO_8.out)); (case aS => exact (below_size (by repeat (first | (with_reducible first | exact HB.out | apply below_alloc | apply pw_below_drewN | apply below_drew1 | refine below_set ?_ GE0.out | refine below_set ?_ GE176.out | refine below_set ?_ GE178.out) | exact HB.out)))); (case aL => have := LMc23.out; omega); intro v190 w29 ho hb hg hat; rw [← Ny189.out] at ho; have n0_ := Aside0.mk (Kd.R_after (ok := (fun k_ => k_ ≠ gb176)) (by (with_reducible repeat (first | apply Kd.R_alloc | apply Kd.R_drewN | apply Kd.R_drew)); exact Kd.R_mono HO_9.out (fun _ hk => ⟨hk.2, hk.1⟩)) hg hat); have n1_ := Aside0.mk (blk_grown (g := g0) (o := .cells (mixA (Value.int .u16) [.int .i8 s0_0, .int .i8 s0_1] s0_2) 31 (0, 0)) (pk BK0) hg (Kd.R_ne HO_8.out BK0.out (by decide))); have n2_ := Aside0.mk (blk_grown (g := gb176) (o := .cells #[.int .i8 a1_0, .int .i8 a1_1] 54 (0, 0)) (pk BK176) hg (Kd.R_away HO_8.out (fun _ hk => hk.2))); have n3_ := Aside0.mk (blk_grown (g := gb178) (o := .cells (mixA (Value.int .i64) [] t177) 78 (0, 0)) (pk BK178) hg (Kd.R_ne HO_8.out BK178.out (by decide))); have n4_ := Aside0.mk (hb); have n5_ := Aside0.mk (ho); clear HO_9; clear BK0; clear BK176; clear BK178; clear HB; clear HO_8; have HO_9 := n0_; have BK0 := n1_; have BK176 := n2_; have BK178 := n3_; have HB := n4_; have HO191 := n5_; clear n0_ n1_ n2_ n3_ n4_ n5_; clear ho hb hg hat))
           repeat (go_quiet (first | (go_at_call 54; (with_reducible refine (spec_l00In.calls (rd t177.l (((rd_T54 t182 x10_1).f1) * 10 + ((rd_T54 t182 x10_1).f0))) 0 a2 true _ A21.out).mono ?_); rintro e w' ⟨rfl, ⟨nd, rfl⟩⟩; (try first | exact ⟨rfl, _, World.drewN_drewN _ _ _⟩ | exact ⟨rfl, _, Eq.trans (World.drewN_drewN _ _ _) (congrArg (World.drewN _) (Nat.add_assoc _ _ _))⟩); have p188 : 0 ≤ (x10_1 : Int) := of_decide_eq_true (by first | (with_reducible assumption) | assumption); have q188 : x10_1 < (t182.length : Int) := of_decide_eq_true (by first | (with_reducible assumption) | assumption); obtain ⟨ad188, e188, hx188_0, hx188_1⟩ := at_T54 (Kd.R_reads' HO_9.out).2.2 x10_1 p188 q188; obtain rfl : ad185 = ad188 := (by injection e188); replace p188 := eq_true p188; replace q188 := eq_true q188) | ((with_reducible refine gate_builtin (b := .append) (xs := #[.tmp 38, .tmp 43]) rfl ?_); at_builtin; refine Kd.R_append k54 (w0 := w) w.heap.size rfl (.tmp 38) (.tmp 43) 33 54 (.agg #[(.int .i8 0), (.int .i8 0)]) 2 rfl Try.underlying33 info54 rfl (by decide) (by omega) u8 x8_1 (⟨(rd_T54 t182 x10_1).f0, (rd_T54 t182 x10_1).f1⟩ : S54) [.int .i8 ((rd_T54 t182 x10_1).f0), .int .i8 ((rd_T54 t182 x10_1).f1)] (fun k_ => some k_ ≠ (.slice (some ad185) t182.length co24 : Value).ownBlock ∧ k_ ≠ gb176) (fun _ => False) rfl rfl ?aP (fun _ hk => hk.elim) ?aF ?aO ?aB ?aS ?aL ?_; (case aP => exact k54_mkM _ _ _ (⟨(rd_T54 t182 x10_1).f0, (rd_T54 t182 x10_1).f1⟩ : S54)); (case aB => exact (pbs HB)); (case aF => exact (fun k_ hk => ⟨Kd.fresh' (Kd.R_lt (by (with_reducible repeat (first | apply Kd.R_alloc | apply Kd.R_drewN | apply Kd.R_drew)); exact HO_9.out)) k_ hk, Kd.freshB (g := gb176) (o := .cells #[.int .i8 a1_0, .int .i8 a1_1] 54 (0, 0)) (pk BK176) k_ hk⟩)); (case aO => exact (by (with_reducible repeat (first | apply Kd.R_alloc | apply Kd.R_drewN | apply Kd.R_drew)); exact HO_8.out)); (case aS => exact (below_size (by repeat (first | (with_reducible first | exact HB.out | apply below_alloc | apply pw_below_drewN | apply below_drew1 | refine below_set ?_ GE0.out | refine below_set ?_ GE176.out | refine below_set ?_ GE178.out) | exact HB.out)))); (case aL => have := LMc23.out; omega); intro v190 w29 ho hb hg hat; rw [← Ny189.out] at ho; have n0_ := Aside0.mk (Kd.R_after (ok := (fun k_ => k_ ≠ gb176)) (by (with_reducible repeat (first | apply Kd.R_alloc | apply Kd.R_drewN | apply Kd.R_drew)); exact Kd.R_mono HO_9.out (fun _ hk => ⟨hk.2, hk.1⟩)) hg hat); have n1_ := Aside0.mk (blk_grown (g := g0) (o := .cells (mixA (Value.int .u16) [.int .i8 s0_0, .int .i8 s0_1] s0_2) 31 (0, 0)) (pk BK0) hg (Kd.R_ne HO_8.out BK0.out (by decide))); have n2_ := Aside0.mk (blk_grown (g := gb176) (o := .cells #[.int .i8 a1_0, .int .i8 a1_1] 54 (0, 0)) (pk BK176) hg (Kd.R_away HO_8.out (fun _ hk => hk.2))); have n3_ := Aside0.mk (blk_grown (g := gb178) (o := .cells (mixA (Value.int .i64) [] t177) 78 (0, 0)) (pk BK178) hg (Kd.R_ne HO_8.out BK178.out (by decide))); have n4_ := Aside0.mk (hb); have n5_ := Aside0.mk (ho); clear HO_9; clear BK0; clear BK176; clear BK178; clear HB; clear HO_8; have HO_9 := n0_; have BK0 := n1_; have BK176 := n2_; have BK178 := n3_; have HB := n4_; have HO191 := n5_; clear n0_ n1_ n2_ n3_ n4_ n5_; clear ho hb hg hat)); try go_wp2_with (first | (go_at_call 54; (with_reducible refine (spec_l00In.calls (rd t177.l (((rd_T54 t182 x10_1).f1) * 10 + ((rd_T54 t182 x10_1).f0))) 0 a2 true _ A21.out).mono ?_); rintro e w' ⟨rfl, ⟨nd, rfl⟩⟩; (try first | exact ⟨rfl, _, World.drewN_drewN _ _ _⟩ | exact ⟨rfl, _, Eq.trans (World.drewN_drewN _ _ _) (congrArg (World.drewN _) (Nat.add_assoc _ _ _))⟩); have p188 : 0 ≤ (x10_1 : Int) := of_decide_eq_true (by first | (with_reducible assumption) | assumption); have q188 : x10_1 < (t182.length : Int) := of_decide_eq_true (by first | (with_reducible assumption) | assumption); obtain ⟨ad188, e188, hx188_0, hx188_1⟩ := at_T54 (Kd.R_reads' HO_9.out).2.2 x10_1 p188 q188; obtain rfl : ad185 = ad188 := (by injection e188); replace p188 := eq_true p188; replace q188 := eq_true q188) | ((with_reducible refine gate_builtin (b := .append) (xs := #[.tmp 38, .tmp 43]) rfl ?_); at_builtin; refine Kd.R_append k54 (w0 := w) w.heap.size rfl (.tmp 38) (.tmp 43) 33 54 (.agg #[(.int .i8 0), (.int .i8 0)]) 2 rfl Try.underlying33 info54 rfl (by decide) (by omega) u8 x8_1 (⟨(rd_T54 t182 x10_1).f0, (rd_T54 t182 x10_1).f1⟩ : S54) [.int .i8 ((rd_T54 t182 x10_1).f0), .int .i8 ((rd_T54 t182 x10_1).f1)] (fun k_ => some k_ ≠ (.slice (some ad185) t182.length co24 : Value).ownBlock ∧ k_ ≠ gb176) (fun _ => False) rfl rfl ?aP (fun _ hk => hk.elim) ?aF ?aO ?aB ?aS ?aL ?_; (case aP => exact k54_mkM _ _ _ (⟨(rd_T54 t182 x10_1).f0, (rd_T54 t182 x10_1).f1⟩ : S54)); (case aB => exact (pbs HB)); (case aF => exact (fun k_ hk => ⟨Kd.fresh' (Kd.R_lt (by (with_reducible repeat (first | apply Kd.R_alloc | apply Kd.R_drewN | apply Kd.R_drew)); exact HO_9.out)) k_ hk, Kd.freshB (g := gb176) (o := .cells #[.int .i8 a1_0, .int .i8 a1_1] 54 (0, 0)) (pk BK176) k_ hk⟩)); (case aO => exact (by (with_reducible repeat (first | apply Kd.R_alloc | apply Kd.R_drewN | apply Kd.R_drew)); exact HO_8.out)); (case aS => exact (below_size (by repeat (first | (with_reducible first | exact HB.out | apply below_alloc | apply pw_below_drewN | apply below_drew1 | refine below_set ?_ GE0.out | refine below_set ?_ GE176.out | refine below_set ?_ GE178.out) | exact HB.out)))); (case aL => have := LMc23.out; omega); intro v190 w29 ho hb hg hat; rw [← Ny189.out] at ho; have n0_ := Aside0.mk (Kd.R_after (ok := (fun k_ => k_ ≠ gb176)) (by (with_reducible repeat (first | apply Kd.R_alloc | apply Kd.R_drewN | apply Kd.R_drew)); exact Kd.R_mono HO_9.out (fun _ hk => ⟨hk.2, hk.1⟩)) hg hat); have n1_ := Aside0.mk (blk_grown (g := g0) (o := .cells (mixA (Value.int .u16) [.int .i8 s0_0, .int .i8 s0_1] s0_2) 31 (0, 0)) (pk BK0) hg (Kd.R_ne HO_8.out BK0.out (by decide))); have n2_ := Aside0.mk (blk_grown (g := gb176) (o := .cells #[.int .i8 a1_0, .int .i8 a1_1] 54 (0, 0)) (pk BK176) hg (Kd.R_away HO_8.out (fun _ hk => hk.2))); have n3_ := Aside0.mk (blk_grown (g := gb178) (o := .cells (mixA (Value.int .i64) [] t177) 78 (0, 0)) (pk BK178) hg (Kd.R_ne HO_8.out BK178.out (by decide))); have n4_ := Aside0.mk (hb); have n5_ := Aside0.mk (ho); clear HO_9; clear BK0; clear BK176; clear BK178; clear HB; clear HO_8; have HO_9 := n0_; have BK0 := n1_; have BK176 := n2_; have BK178 := n3_; have HB := n4_; have HO191 := n5_; clear n0_ n1_ n2_ n3_ n4_ n5_; clear ho hb hg hat)))
           go_roundg k1
           case measure => have := HK1.out; omega
           case rel => exact ⟨(y189), (wrap64 (x10_1 + 1)), (by first | rfl | (simp; done) | (simp [*]; done)), H', ⟨by have := HK1.out; omega⟩, ⟨by (with_reducible repeat (first | apply Kd.R_alloc | apply Kd.R_drewN | apply Kd.R_drew)); exact HO191.out⟩, ⟨by (with_reducible repeat (first | apply Kd.R_alloc | apply Kd.R_drewN | apply Kd.R_drew)); exact Kd.R_mono HO_9.out (fun _ hk => ⟨hk.2, hk.1⟩)⟩, ⟨pk BK0⟩, ⟨pk BK176⟩, ⟨pk BK178⟩, ⟨pbs HB⟩⟩
          ·rw [if_neg c23] at H
           exact absurd H (by simp)
         ·replace c22 := Bool.eq_false_iff.mpr c22
          subst c22
          have H1 : (spec_l01Near.l0 k1 a2 x8_1 t182 (wrap64 (x10_1 + 1)) t177) = some r := by rw [if_neg (show ¬ (false = true) by decide)] at H; exact H
          clear H
          have H := H1
          clear H1
          have H' := Aside0.mk H
          clear H
          obtain ⟨Ao30, co30, eo30⟩ := Kd.R_slice HO_9.out
          subst eo30
          have p185 : 0 ≤ (x10_1 : Int) := of_decide_eq_true (by first | (with_reducible assumption) | assumption)
          have q185 : x10_1 < (t182.length : Int) := of_decide_eq_true (by first | (with_reducible assumption) | assumption)
          obtain ⟨ad185, e185, hx185_0, hx185_1⟩ := at_T54 (Kd.R_reads' HO_9.out).2.2 x10_1 p185 q185
          cases e185
          replace p185 := eq_true p185
          replace q185 := eq_true q185
          have p186 : 0 ≤ (x10_1 : Int) := of_decide_eq_true (by first | (with_reducible assumption) | assumption)
          have q186 : x10_1 < (t182.length : Int) := of_decide_eq_true (by first | (with_reducible assumption) | assumption)
          obtain ⟨ad186, e186, hx186_0, hx186_1⟩ := at_T54 (Kd.R_reads' HO_9.out).2.2 x10_1 p186 q186
          obtain rfl : ad185 = ad186 := (by injection e186)
          replace p186 := eq_true p186
          replace q186 := eq_true q186
          have hnb31 := NB178_0.out
          have hnc31 := NB0_178.out
          have hnb32 := NB178_176.out
          have hnc32 := NB176_178.out
          have hpd34 : (0 ≤ ((rd_T54 t182 x10_1).f1)) = True := eq_true (by first | omega | exact of_decide_eq_true (by first | (with_reducible assumption) | assumption))
          have hqd34 : (((rd_T54 t182 x10_1).f1) < 10) = True := eq_true (by first | omega | exact of_decide_eq_true (by first | (with_reducible assumption) | assumption))
          have hrd34 : (((rd_T54 t182 x10_1).f1) < ((10 : Nat) : Int)) = True := eq_true (by first | omega | exact of_decide_eq_true (by first | (with_reducible assumption) | assumption))
          have hpbd34 : (0 ≤ ((rd_T54 t182 x10_1).f0)) = True := eq_true (by first | omega | exact of_decide_eq_true (by first | (with_reducible assumption) | assumption))
          have hqbd34 : (((rd_T54 t182 x10_1).f0) < 10) = True := eq_true (by first | omega | exact of_decide_eq_true (by first | (with_reducible assumption) | assumption))
          have hrbd34 : (((rd_T54 t182 x10_1).f0) < ((10 : Nat) : Int)) = True := eq_true (by first | omega | exact of_decide_eq_true (by first | (with_reducible assumption) | assumption))
          have hdd34 : wr.cell? ⟨gb178, ((rd_T54 t182 x10_1).f1).toNat * 10 + ((rd_T54 t182 x10_1).f0).toNat, none⟩ = some (.int .i64 (rd t177.l (((rd_T54 t182 x10_1).f1) * 10 + ((rd_T54 t182 x10_1).f0)))) := mix_at2z 10 BK178.out ((rd_T54 t182 x10_1).f1) ((rd_T54 t182 x10_1).f0) (of_eq_true hpd34) (of_eq_true hpbd34) (by have := of_eq_true hqd34; have := of_eq_true hqbd34; omega)
          have hfdd34 := blk_frozen BK178.out (((rd_T54 t182 x10_1).f1).toNat * 10 + ((rd_T54 t182 x10_1).f0).toNat)
          go_wp2_with (first | (go_at_call 54; (with_reducible refine (spec_l00In.calls (rd t177.l (((rd_T54 t182 x10_1).f1) * 10 + ((rd_T54 t182 x10_1).f0))) 0 a2 false _ A21.out).mono ?_); rintro e w' ⟨rfl, ⟨nd, rfl⟩⟩; (try first | exact ⟨rfl, _, World.drewN_drewN _ _ _⟩ | exact ⟨rfl, _, Eq.trans (World.drewN_drewN _ _ _) (congrArg (World.drewN _) (Nat.add_assoc _ _ _))⟩)))
          repeat (go_quiet (first | (go_at_call 54; (with_reducible refine (spec_l00In.calls (rd t177.l (((rd_T54 t182 x10_1).f1) * 10 + ((rd_T54 t182 x10_1).f0))) 0 a2 false _ A21.out).mono ?_); rintro e w' ⟨rfl, ⟨nd, rfl⟩⟩; (try first | exact ⟨rfl, _, World.drewN_drewN _ _ _⟩ | exact ⟨rfl, _, Eq.trans (World.drewN_drewN _ _ _) (congrArg (World.drewN _) (Nat.add_assoc _ _ _))⟩))); try go_wp2_with (first | (go_at_call 54; (with_reducible refine (spec_l00In.calls (rd t177.l (((rd_T54 t182 x10_1).f1) * 10 + ((rd_T54 t182 x10_1).f0))) 0 a2 false _ A21.out).mono ?_); rintro e w' ⟨rfl, ⟨nd, rfl⟩⟩; (try first | exact ⟨rfl, _, World.drewN_drewN _ _ _⟩ | exact ⟨rfl, _, Eq.trans (World.drewN_drewN _ _ _) (congrArg (World.drewN _) (Nat.add_assoc _ _ _))⟩))))
          go_roundg k1
          case measure => have := HK1.out; omega
          case rel => exact ⟨(x8_1), (wrap64 (x10_1 + 1)), (by first | rfl | (simp; done) | (simp [*]; done)), H', ⟨by have := HK1.out; omega⟩, ⟨by (with_reducible repeat (first | apply Kd.R_alloc | apply Kd.R_drewN | apply Kd.R_drew)); exact HO_8.out⟩, ⟨by (with_reducible repeat (first | apply Kd.R_alloc | apply Kd.R_drewN | apply Kd.R_drew)); exact HO_9.out⟩, ⟨pk BK0⟩, ⟨pk BK176⟩, ⟨pk BK178⟩, ⟨pbs HB⟩⟩
        ·rw [if_neg c20] at H
         exact absurd H (by simp)
       ·rw [if_neg c19] at H
        exact absurd H (by simp)
      ·rw [if_neg c18] at H
       exact absurd H (by simp)
     ·rw [if_neg c17] at H
      exact absurd H (by simp)
    ·rw [if_neg c16] at H
     exact absurd H (by simp)
   ·rw [if_neg c15] at H
    have c15b0 : decide (x10_1 < (t182.length : Int)) = false := decide_eq_false c15
    clear c15
    obtain rfl := Option.some.inj H
    obtain ⟨Ao35, co35, eo35⟩ := Kd.R_slice HO_9.out
    subst eo35
    go_wp2
    repeat (go_quiet (fail); try go_wp2)
    go_ret
    exact ⟨_, by first | rfl | (simp [errW_none, errW_some] <;> rfl) | (simp [*, errW_none, errW_some] <;> rfl), by (with_reducible repeat (first | apply Kd.R_alloc | apply Kd.R_drewN | apply Kd.R_drew)); exact Kd.R_mono HO_8.out (fun _ hk => trivial), pbs HB⟩
mutual
def spec_l07Near.l0 : Nat → List (S54) → Int → Int → Int → Int → LA 10 → LA 100 → Option (LA 100)
 | 0, _, _, _, _, _, _, _ => none
 | k + 1, x1, x2, x8, x1000, x1001, x1002, x194000 => if x8 < (x1.length : Int) then (if 0 ≤ x8 then ((spec_l01Near.f k x1000 x1001 x1002 ((rd_T54 x1 x8).f0) ((rd_T54 x1 x8).f1) x2).bind fun t195 => (spec_l07Near.l1 k x1 x2 x8 t195 0 x1000 x1001 x1002 x194000)) else (none)) else (some x194000)
def spec_l07Near.l1 : Nat → List (S54) → Int → Int → List (S54) → Int → Int → Int → LA 10 → LA 100 → Option (LA 100)
 | 0, _, _, _, _, _, _, _, _, _ => none
 | k + 1, x1, x2, x8, x9, x10, x1000, x1001, x1002, x194000 => if x10 < (x9.length : Int) then (if 0 ≤ x10 then (if 0 ≤ ((rd_T54 x9 x10).f1) then (if ((rd_T54 x9 x10).f1) < 10 then (if 0 ≤ ((rd_T54 x9 x10).f0) then (if ((rd_T54 x9 x10).f0) < 10 then (spec_l07Near.l1 k x1 x2 x8 x9 (wrap64 (x10 + 1)) x1000 x1001 x1002 (LA.set x194000 (((rd_T54 x9 x10).f1) * 10 + ((rd_T54 x9 x10).f0)) (nbool true))) else (none)) else (none)) else (none)) else (none)) else (none)) else (spec_l07Near.l0 k x1 x2 (wrap64 (x8 + 1)) x1000 x1001 x1002 x194000)
end
def spec_l07Near.f (k : Nat) (s0_0 : Int) (s0_1 : Int) (s0_2 : LA 10) (l1 : List (S54)) (a2 : Int) : Option (LA 100) := spec_l07Near.l0 k l1 a2 0 s0_0 s0_1 s0_2 (LA.zero 100)
theorem spec_l07Near.mono_l : ∀ k, (∀ y0 y1 y2 y3 y4 y5 y6, LeO (spec_l07Near.l0 k y0 y1 y2 y3 y4 y5 y6) (spec_l07Near.l0 (k + 1) y0 y1 y2 y3 y4 y5 y6)) ∧ (∀ y0 y1 y2 y3 y4 y5 y6 y7 y8, LeO (spec_l07Near.l1 k y0 y1 y2 y3 y4 y5 y6 y7 y8) (spec_l07Near.l1 (k + 1) y0 y1 y2 y3 y4 y5 y6 y7 y8))
 | 0 => ⟨fun _ _ _ _ _ _ _ r h => by simp [spec_l07Near.l0] at h, fun _ _ _ _ _ _ _ _ _ r h => by simp [spec_l07Near.l1] at h⟩
 | k + 1 => by
  obtain ⟨ih0, ih1⟩ := spec_l07Near.mono_l k
  refine ⟨?_, ?_⟩
  ·intro y0 y1 y2 y3 y4 y5 y6
   unfold spec_l07Near.l0
   repeat' first
   | (with_reducible exact ih0 _ _ _ _ _ _ _)
   | (with_reducible exact ih1 _ _ _ _ _ _ _ _ _)
   | (with_reducible exact spec_l01Near.mono _ _ _ _ _ _ _)
   | (with_reducible exact LeO.refl _)
   | (with_reducible exact LeO.none _)
   | (with_reducible refine LeO.ite ?_ ?_)
   | (with_reducible refine LeO.bind ?_ (fun _ => ?_))
   | exact ih0 _ _ _ _ _ _ _
   | exact ih1 _ _ _ _ _ _ _ _ _
   | exact spec_l01Near.mono _ _ _ _ _ _ _
   | exact LeO.none _
   | refine LeO.ite ?_ ?_
   | refine LeO.bind ?_ (fun _ => ?_)
  ·intro y0 y1 y2 y3 y4 y5 y6 y7 y8
   unfold spec_l07Near.l1
   repeat' first
   | (with_reducible exact ih0 _ _ _ _ _ _ _)
   | (with_reducible exact ih1 _ _ _ _ _ _ _ _ _)
   | (with_reducible exact spec_l01Near.mono _ _ _ _ _ _ _)
   | (with_reducible exact LeO.refl _)
   | (with_reducible exact LeO.none _)
   | (with_reducible refine LeO.ite ?_ ?_)
   | (with_reducible refine LeO.bind ?_ (fun _ => ?_))
   | exact ih0 _ _ _ _ _ _ _
   | exact ih1 _ _ _ _ _ _ _ _ _
   | exact spec_l01Near.mono _ _ _ _ _ _ _
   | exact LeO.none _
   | refine LeO.ite ?_ ?_
   | refine LeO.bind ?_ (fun _ => ?_)
theorem spec_l07Near.mono : ∀ a0 a1 a2 a3 a4 k, LeO (spec_l07Near.f k a0 a1 a2 a3 a4) (spec_l07Near.f (k + 1) a0 a1 a2 a3 a4) := by
 intro a0 a1 a2 a3 a4 k
 obtain ⟨ih0, ih1⟩ := spec_l07Near.mono_l k
 unfold spec_l07Near.f
 repeat' first
   | (with_reducible exact ih0 _ _ _ _ _ _ _)
   | (with_reducible exact ih1 _ _ _ _ _ _ _ _ _)
   | (with_reducible exact spec_l01Near.mono _ _ _ _ _ _ _)
   | (with_reducible exact LeO.refl _)
   | (with_reducible exact LeO.none _)
   | (with_reducible refine LeO.ite ?_ ?_)
   | (with_reducible refine LeO.bind ?_ (fun _ => ?_))
   | exact ih0 _ _ _ _ _ _ _
   | exact ih1 _ _ _ _ _ _ _ _ _
   | exact spec_l01Near.mono _ _ _ _ _ _ _
   | exact LeO.none _
   | refine LeO.ite ?_ ?_
   | refine LeO.bind ?_ (fun _ => ?_)
def spec_l07Near.T9 : Bool × List (List Nat × List Nat) := (true, [([], []), ([], []), ([0, 1], [0, 1]), ([2], [2]), ([3], [3]), ([], []), ([], []), ([5, 6], [5, 6]), ([7], [7]), ([8], [8]), ([4], [4]), ([10, 9, 0, 1, 2, 3, 4, 5, 6, 7, 8, 9], [9, 10]), ([11, 0, 1, 2, 3, 4, 5, 6, 7, 8, 9], [11])])
def spec_l07Near.B9 : List Nat := [0, 0, 3, 7, 15, 0, 0, 96, 224, 480, 31, 2047, 4095]
theorem spec_l07Near.tab9 : rtab .any (opsOf Try.f30 9) = spec_l07Near.T9 := by kernel_rfl
theorem spec_l07Near.bits9 : waitsOk spec_l07Near.T9.2 spec_l07Near.B9 = true := by kernel_rfl
set_option maxHeartbeats 8000000 in
set_option maxRecDepth 100000 in
theorem spec_l07Near.calls (k : Nat) (g0 : Nat) (s0_0 : Int) (s0_1 : Int) (s0_2 : LA 10) (A1 : Option Addr) (c1 : Nat) (l1 : List (S54)) (a2 : Int) (r : LA 100) (w : World) (hb0 : w.heap[g0]? = some (.cells (mixA (Value.int .u16) [.int .i8 s0_0, .int .i8 s0_1] s0_2) 31 (0, 0))) (hr1 : Kd.C k54 w A1 l1.length l1) (hc1 : l1.length ≤ c1) (h : spec_l07Near.f k s0_0 s0_1 s0_2 l1 a2 = some r) :
  Calls Try.prog 30 #[.pointer (some ⟨g0, 0, none⟩), .slice A1 l1.length c1, .int .i64 a2] w fun e w' => e = .returned (.agg (mixA vbool [] r)) ∧ Below w.heap.size w w' := by
 have hu54 := Try.underlying54
 have HR1 := Aside0.mk hr1
 have HC1 := Aside0.mk hc1
 clear hr1 hc1
 have BK0 := Aside0.mk hb0
 clear hb0
 have HB := Aside0.mk (Below.refl w.heap.size w)
 have H : (spec_l07Near.l0 k l1 a2 0 s0_0 s0_1 s0_2 (LA.zero 100)) = some r := h
 clear h
 have H' := Aside0.mk H
 clear H
 go_enter Try.func30, Try.ntmps30
 go_wp2_with (first | ((with_reducible refine gate_dst (N := 6) rfl ?_); refine box_event ?hg (N := 6) ?hd (cs := (mixA vbool [] (LA.zero 100))) (t := 51) ?hr ?_; (case hd => rfl); (case hg => rfl); (case hr => first | (go_simp; done) | (go_simp; rfl)); intro gb192 hg w4 hbox hb; have n0_ := bkb BK0 hb; have n1_ := bst HB hb; have n2_ := Aside0.mk (hbox); have n3_ := gwl HB hg; have n4_ := gwl HB hg; have n5_ := nbl BK0 hg; have n6_ := nbg BK0 hg; clear BK0; clear HB; have BK0 := n0_; have HB := n1_; have BK192 := n2_; have GW192 := n3_; have GE192 := n4_; have NB0_192 := n5_; have NB192_0 := n6_; clear n0_ n1_ n2_ n3_ n4_ n5_ n6_; clear hb hbox hg) | ((with_reducible refine gate_dst (N := 7) rfl ?_); refine box_event ?hg (N := 7) ?hd (cs := (mixA vbool [] (LA.zero 100))) (t := 51) ?hr ?_; (case hd => rfl); (case hg => rfl); (case hr => first | (go_simp; done) | (go_simp; rfl)); intro gb193 hg w5 hbox hb; have n0_ := bkb BK0 hb; have n1_ := bkb BK192 hb; have n2_ := bst HB hb; have n3_ := Aside0.mk (hbox); have n4_ := gwl HB hg; have n5_ := gwl HB hg; have n6_ := nbl BK0 hg; have n7_ := nbg BK0 hg; have n8_ := nbl BK192 hg; have n9_ := nbg BK192 hg; clear BK0; clear BK192; clear HB; have BK0 := n0_; have BK192 := n1_; have HB := n2_; have BK193 := n3_; have GW193 := n4_; have GE193 := n5_; have NB0_193 := n6_; have NB193_0 := n7_; have NB192_193 := n8_; have NB193_192 := n9_; clear n0_ n1_ n2_ n3_ n4_ n5_ n6_ n7_ n8_ n9_; clear hb hbox hg) | ((with_reducible refine gate_store (p := 7) rfl ?_); refine wpList_store_lmix rfl 51 _ _ rfl gb193 (e := vbool) (cs' := []) (W' := (LA.zero 100)) (cs := []) (W := (LA.zero 100)) (T := 51) rfl rfl (pk BK193) rfl (by kernel_rfl) rfl (fun _ => rfl) rfl ?_; intro w6 hi hk hbl; have n0_ := Aside0.mk (KeepBut.blk hk (g' := g0) (o := .cells (mixA (Value.int .u16) [.int .i8 s0_0, .int .i8 s0_1] s0_2) 31 (0, 0)) (pk BK0) NB0_193.out (by simp)); have n1_ := Aside0.mk (KeepBut.blk hk (g' := gb192) (o := .cells (mixA vbool [] (LA.zero 100)) 51 (0, 0)) (pk BK192) NB192_193.out (by simp)); have n2_ := Aside0.mk (hbl _ _ (pbs HB) GE193.out); have n3_ := Aside0.mk (hi); clear BK0; clear BK192; clear HB; clear BK193; have BK0 := n0_; have BK192 := n1_; have HB := n2_; have BK193 := n3_; clear n0_ n1_ n2_ n3_; clear hi hk hbl))
 go_loopg [8] k (fun kq v8 w' => ∃ (x8_1 : Int) (x194000_1 : LA 100), v8 = .int .i64 x8_1 ∧ Aside0 (spec_l07Near.l0 kq l1 a2 x8_1 s0_0 s0_1 s0_2 x194000_1 = some r) ∧ Aside0 (kq ≤ k) ∧ Aside0 (w'.heap[g0]? = some (.cells (mixA (Value.int .u16) [.int .i8 s0_0, .int .i8 s0_1] s0_2) 31 (0, 0))) ∧ Aside0 (w'.heap[gb192]? = some (.cells (mixA vbool [] (LA.zero 100)) 51 (0, 0))) ∧ Aside0 (w'.heap[gb193]? = some (.cells (mixA vbool [] x194000_1) 51 (0, 0))) ∧ Aside0 (Below w.heap.size w w'))
 case atStart => exact ⟨(0), ((LA.zero 100)), (by first | rfl | (simp; done) | (simp [*]; done)), H', ⟨Nat.le_refl _⟩, ⟨pk BK0⟩, ⟨pk BK192⟩, ⟨pk BK193⟩, ⟨pbs HB⟩⟩
 case round =>
  clear H'
  try clear c1
  try clear p2
  try clear c3
  obtain ⟨x8_1, x194000_1, rfl, HA, HK1, BK0, BK192, BK193, HB⟩ := hrel
  cases gk with
  | zero => exact absurd HA.out (by simp [spec_l07Near.l0])
  | succ k1 =>
   have H := HA.out
   clear HA
   simp only [spec_l07Near.l0] at H
   by_cases c7 : x8_1 < (l1.length : Int)
   ·rw [if_pos c7] at H
    have c7b0 : decide (x8_1 < (l1.length : Int)) = true := decide_eq_true c7
    clear c7
    by_cases c8 : 0 ≤ x8_1
    ·rw [if_pos c8] at H
     have c8b0 : decide (0 ≤ x8_1) = true := decide_eq_true c8
     clear c8
     replace H := Option.bind_eq_some_iff.mp H
     obtain ⟨t195, A90, H⟩ := H
     replace H : (spec_l07Near.l1 k1 l1 a2 x8_1 t195 0 s0_0 s0_1 s0_2 x194000_1) = some r := H
     have A9 := Aside0.mk A90
     clear A90
     have H' := Aside0.mk H
     clear H
     have p194 : 0 ≤ (x8_1 : Int) := of_decide_eq_true (by first | (with_reducible assumption) | assumption)
     have q194 : x8_1 < (l1.length : Int) := of_decide_eq_true (by first | (with_reducible assumption) | assumption)
     obtain ⟨ad194, e194, hx194_0, hx194_1⟩ := at_T54 HR1.out x8_1 p194 q194
     cases e194
     try replace hx194_0 := (HB.out.cell (World.block_lt_of_cell? w _ hx194_0)).trans hx194_0
     try replace hx194_1 := (HB.out.cell (World.block_lt_of_cell? w _ hx194_1)).trans hx194_1
     replace p194 := eq_true p194
     replace q194 := eq_true q194
     go_wp2_with (first | ((with_reducible refine gate_callee (f := 43) rfl ?_); refine goesL_ (some 24) rfl rfl Try.func43 (by kernel_rfl) rfl #[.pointer (some ⟨g0, 0, none⟩), .agg #[.int .i8 ((rd_T54 l1 x8_1).f0), .int .i8 ((rd_T54 l1 x8_1).f1)], .int .i64 a2] rfl (by (try simp only [List.map_toArray, List.map_cons, List.map_nil]); first | done | rfl | (simp only [List.length_drop, List.length_take]; rfl)) ?_; (with_reducible refine (spec_l01Near.calls k1 g0 s0_0 s0_1 s0_2 ((rd_T54 l1 x8_1).f0) ((rd_T54 l1 x8_1).f1) a2 t195 _ ?side1 A9.out).mono ?_); (case side1 => exact (pk BK0)); rintro e w10 ⟨v196, rfl, ho0, hb⟩; refine ⟨_, rfl, ?_⟩; have n0_ := Aside0.mk (Kd.R_lower ho0 (below_size (by repeat (first | (with_reducible first | exact HB.out | apply below_alloc | apply pw_below_drewN | apply below_drew1 | refine below_set ?_ GE0.out | refine below_set ?_ GE192.out | refine below_set ?_ GE193.out) | exact HB.out)))); have n1_ := bkb BK0 hb; have n2_ := bkb BK192 hb; have n3_ := bkb BK193 hb; have n4_ := bst HB hb; clear BK0; clear BK192; clear BK193; clear HB; have HO197 := n0_; have BK0 := n1_; have BK192 := n2_; have BK193 := n3_; have HB := n4_; clear n0_ n1_ n2_ n3_ n4_; (try clear hb); (try clear hb2); (try clear hk); (try clear hi); (try clear ho0)))
     go_loopg [10] k1 (fun kq v10 w' => ∃ (x10_2 : Int) (x194000_2 : LA 100), v10 = .int .i64 x10_2 ∧ Aside0 (spec_l07Near.l1 kq l1 a2 x8_1 t195 x10_2 s0_0 s0_1 s0_2 x194000_2 = some r) ∧ Aside0 (kq ≤ k1) ∧ Aside0 (Kd.R k54 54 w' w.heap.size (fun _ => True) v196 t195) ∧ Aside0 (w'.heap[g0]? = some (.cells (mixA (Value.int .u16) [.int .i8 s0_0, .int .i8 s0_1] s0_2) 31 (0, 0))) ∧ Aside0 (w'.heap[gb192]? = some (.cells (mixA vbool [] (LA.zero 100)) 51 (0, 0))) ∧ Aside0 (w'.heap[gb193]? = some (.cells (mixA vbool [] x194000_2) 51 (0, 0))) ∧ Aside0 (Below w.heap.size w w'))
     case atStart => exact ⟨(0), (x194000_1), (by first | rfl | (simp; done) | (simp [*]; done)), H', ⟨Nat.le_refl _⟩, ⟨by (with_reducible repeat (first | apply Kd.R_alloc | apply Kd.R_drewN | apply Kd.R_drew)); exact HO197.out⟩, ⟨pk BK0⟩, ⟨pk BK192⟩, ⟨pk BK193⟩, ⟨pbs HB⟩⟩
     case round =>
      clear H'
      try clear c1
      try clear p1
      try clear q1
      try clear hx1
      try clear p2
      try clear c3
      try clear c4
      try clear c7
      try clear c7b0
      try clear c8
      try clear c8b0
      try clear hx194_0
      try clear hx194_1
      try clear p194
      try clear p2
      try clear q194
      obtain ⟨x10_2, x194000_2, rfl, HA, HK2, HO_9, BK0, BK192, BK193, HB⟩ := hrel
      cases gk with
      | zero => exact absurd HA.out (by simp [spec_l07Near.l1])
      | succ k2 =>
       have H := HA.out
       clear HA
       simp only [spec_l07Near.l1] at H
       by_cases c11 : x10_2 < (t195.length : Int)
       ·rw [if_pos c11] at H
        have c11b0 : decide (x10_2 < (t195.length : Int)) = true := decide_eq_true c11
        clear c11
        by_cases c12 : 0 ≤ x10_2
        ·rw [if_pos c12] at H
         have c12b0 : decide (0 ≤ x10_2) = true := decide_eq_true c12
         clear c12
         by_cases c13 : 0 ≤ ((rd_T54 t195 x10_2).f1)
         ·rw [if_pos c13] at H
          have c13b0 : decide (0 ≤ ((rd_T54 t195 x10_2).f1)) = true := decide_eq_true c13
          clear c13
          by_cases c14 : ((rd_T54 t195 x10_2).f1) < 10
          ·rw [if_pos c14] at H
           have c14b0 : decide (((rd_T54 t195 x10_2).f1) < 10) = true := decide_eq_true c14
           clear c14
           by_cases c15 : 0 ≤ ((rd_T54 t195 x10_2).f0)
           ·rw [if_pos c15] at H
            have c15b0 : decide (0 ≤ ((rd_T54 t195 x10_2).f0)) = true := decide_eq_true c15
            clear c15
            by_cases c16 : ((rd_T54 t195 x10_2).f0) < 10
            ·rw [if_pos c16] at H
             have c16b0 : decide (((rd_T54 t195 x10_2).f0) < 10) = true := decide_eq_true c16
             clear c16
             have H' := Aside0.mk H
             clear H
             obtain ⟨Ao17, co17, eo17⟩ := Kd.R_slice HO_9.out
             subst eo17
             try go_wp2
             have n0_ := Aside0.mk (Kd.R_drew HO_9.out)
             have n1_ := Aside0.mk (blk_drew BK0.out)
             have n2_ := Aside0.mk (blk_drew BK192.out)
             have n3_ := Aside0.mk (blk_drew BK193.out)
             have n4_ := Aside0.mk (below_drew1 HB.out)
             clear HO_9
             clear BK0
             clear BK192
             clear BK193
             clear HB
             have HO_9 := n0_
             have BK0 := n1_
             have BK192 := n2_
             have BK193 := n3_
             have HB := n4_
             clear n0_ n1_ n2_ n3_ n4_
             have p198 : 0 ≤ (x10_2 : Int) := of_decide_eq_true (by first | (with_reducible assumption) | assumption)
             have q198 : x10_2 < (t195.length : Int) := of_decide_eq_true (by first | (with_reducible assumption) | assumption)
             obtain ⟨ad198, e198, hx198_0, hx198_1⟩ := at_T54 (Kd.R_reads' HO_9.out).2.2 x10_2 p198 q198
             cases e198
             replace p198 := eq_true p198
             replace q198 := eq_true q198
             have p199 : 0 ≤ (x10_2 : Int) := of_decide_eq_true (by first | (with_reducible assumption) | assumption)
             have q199 : x10_2 < (t195.length : Int) := of_decide_eq_true (by first | (with_reducible assumption) | assumption)
             obtain ⟨ad199, e199, hx199_0, hx199_1⟩ := at_T54 (Kd.R_reads' HO_9.out).2.2 x10_2 p199 q199
             obtain rfl : ad198 = ad199 := (by injection e199)
             replace p199 := eq_true p199
             replace q199 := eq_true q199
             have hpd19 : (0 ≤ ((rd_T54 t195 x10_2).f1)) = True := eq_true (by first | omega | exact of_decide_eq_true (by first | (with_reducible assumption) | assumption))
             have hqd19 : (((rd_T54 t195 x10_2).f1) < 10) = True := eq_true (by first | omega | exact of_decide_eq_true (by first | (with_reducible assumption) | assumption))
             have hrd19 : (((rd_T54 t195 x10_2).f1) < ((10 : Nat) : Int)) = True := eq_true (by first | omega | exact of_decide_eq_true (by first | (with_reducible assumption) | assumption))
             have hpbd19 : (0 ≤ ((rd_T54 t195 x10_2).f0)) = True := eq_true (by first | omega | exact of_decide_eq_true (by first | (with_reducible assumption) | assumption))
             have hqbd19 : (((rd_T54 t195 x10_2).f0) < 10) = True := eq_true (by first | omega | exact of_decide_eq_true (by first | (with_reducible assumption) | assumption))
             have hrbd19 : (((rd_T54 t195 x10_2).f0) < ((10 : Nat) : Int)) = True := eq_true (by first | omega | exact of_decide_eq_true (by first | (with_reducible assumption) | assumption))
             refine start_ (n := 13) (S := fun w' => w'.cell? (ad198.add ((x10_2).toNat * 2)) = some (.int .i8 ((rd_T54 t195 x10_2).f0)) ∧ w'.cell? ⟨(ad198.add ((x10_2).toNat * 2)).block, (ad198.add ((x10_2).toNat * 2)).off + 1, none⟩ = some (.int .i8 ((rd_T54 t195 x10_2).f1)) ∧ w'.cell? (ad198.add ((x10_2).toNat * 2)) = some (.int .i8 ((rd_T54 t195 x10_2).f0)) ∧ w'.cell? ⟨(ad198.add ((x10_2).toNat * 2)).block, (ad198.add ((x10_2).toNat * 2)).off + 1, none⟩ = some (.int .i8 ((rd_T54 t195 x10_2).f1))) (ds := [12]) #[false, false, false, false, false, false, false, false, false, false, false, false, false] (by kernel_rfl) rfl rfl ⟨hx198_0, hx198_1, hx199_0, hx199_1⟩ (fun hHeld => ?_); refine with_tabW spec_l07Near.tab9 spec_l07Near.bits9 (fun HT_ HW_ => ?_)
             generalize wr.drew = w18 at HO_9 BK0 BK192 BK193 HB hx198_0 hx198_1 hx199_0 hx199_1 hHeld ⊢
             refine pure_ (i := 0) (N := some 31) (v := ?_) (a' := ?_) #[true, false, false, false, false, false, false, false, false, false, false, false, false] rfl rfl (any_of HT_.out (by kernel_rfl)) (fun _ _ _ h => h) (Or.inl ⟨by rfl, ?_⟩) ?_ ?_
             rotate_left
             ·intro w'
              go_simp
              with_reducible rfl
             rotate_left
             ·simp only [Act.put, List.setIfInBounds_toArray, List.set_cons_zero, List.set_cons_succ, i64_w, i32_w]
              rfl
             refine pure_ (i := 1) (N := some 32) (v := ?_) (a' := ?_) #[true, true, false, false, false, false, false, false, false, false, false, false, false] rfl rfl (any_of HT_.out (by kernel_rfl)) (fun _ _ _ h => h) (Or.inl ⟨by rfl, ?_⟩) ?_ ?_
             rotate_left
             ·intro w'
              go_simp
              with_reducible rfl
             rotate_left
             ·simp only [Act.put, List.setIfInBounds_toArray, List.set_cons_zero, List.set_cons_succ, i64_w, i32_w]
              rfl
             refine pure_ (i := 2) (N := some 33) (v := ?_) (a' := ?_) #[true, true, true, false, false, false, false, false, false, false, false, false, false] rfl rfl (any_of HT_.out (by kernel_rfl)) (fun _ _ _ h => h) (Or.inl ⟨by rfl, ?_⟩) ?_ ?_
             rotate_left
             ·intro w'
              go_simp
              with_reducible rfl
             rotate_left
             ·simp only [Act.put, List.setIfInBounds_toArray, List.set_cons_zero, List.set_cons_succ, i64_w, i32_w]
              rfl
             refine pure_ (i := 3) (N := some 34) (v := ?_) (a' := ?_) #[true, true, true, true, false, false, false, false, false, false, false, false, false] rfl rfl (any_of HT_.out (by kernel_rfl)) (fun _ _ _ h => h) (Or.inl ⟨by rfl, ?_⟩) ?_ ?_
             rotate_left
             ·intro w'
              go_simp
              with_reducible rfl
             rotate_left
             ·simp only [Act.put, List.setIfInBounds_toArray, List.set_cons_zero, List.set_cons_succ, i64_w, i32_w]
              rfl
             refine pure_ (i := 5) (N := some 36) (v := ?_) (a' := ?_) #[true, true, true, true, false, true, false, false, false, false, false, false, false] rfl rfl (any_of HT_.out (by kernel_rfl)) (fun _ _ _ h => h) (Or.inl ⟨by rfl, ?_⟩) ?_ ?_
             rotate_left
             ·intro w'
              go_simp
              with_reducible rfl
             rotate_left
             ·simp only [Act.put, List.setIfInBounds_toArray, List.set_cons_zero, List.set_cons_succ, i64_w, i32_w]
              rfl
             refine pure_ (i := 6) (N := some 37) (v := ?_) (a' := ?_) #[true, true, true, true, false, true, true, false, false, false, false, false, false] rfl rfl (any_of HT_.out (by kernel_rfl)) (fun _ _ _ h => h) (Or.inl ⟨by rfl, ?_⟩) ?_ ?_
             rotate_left
             ·intro w'
              go_simp
              with_reducible rfl
             rotate_left
             ·simp only [Act.put, List.setIfInBounds_toArray, List.set_cons_zero, List.set_cons_succ, i64_w, i32_w]
              rfl
             refine pure_ (i := 7) (N := some 38) (v := ?_) (a' := ?_) #[true, true, true, true, false, true, true, true, false, false, false, false, false] rfl rfl (any_of HT_.out (by kernel_rfl)) (fun _ _ _ h => h) (Or.inl ⟨by rfl, ?_⟩) ?_ ?_
             rotate_left
             ·intro w'
              go_simp
              with_reducible rfl
             rotate_left
             ·simp only [Act.put, List.setIfInBounds_toArray, List.set_cons_zero, List.set_cons_succ, i64_w, i32_w]
              rfl
             refine pure_ (i := 8) (N := some 39) (v := ?_) (a' := ?_) #[true, true, true, true, false, true, true, true, true, false, false, false, false] rfl rfl (any_of HT_.out (by kernel_rfl)) (fun _ _ _ h => h) (Or.inl ⟨by rfl, ?_⟩) ?_ ?_
             rotate_left
             ·intro w'
              go_simp
              with_reducible rfl
             rotate_left
             ·simp only [Act.put, List.setIfInBounds_toArray, List.set_cons_zero, List.set_cons_succ, i64_w, i32_w]
              rfl
             refine take_ (i := 4) (N := some 35) (v := ?_) (a' := ?_) #[true, true, true, true, true, true, true, true, true, false, false, false, false] rfl rfl (take_ofW HT_.out HW_.out (by kernel_rfl)) (fun _ _ _ h => h) (Or.inl ⟨by rfl, ?_⟩) hHeld ?_ ?_
             rotate_left
             ·rintro w' ⟨s0, s1, s2, s3⟩
              go_simp
              with_reducible rfl
             rotate_left
             ·simp only [Act.put, List.setIfInBounds_toArray, List.set_cons_zero, List.set_cons_succ, i64_w, i32_w]
              rfl
             refine pure_ (i := 10) (N := some 41) (v := ?_) (a' := ?_) #[true, true, true, true, true, true, true, true, true, false, true, false, false] rfl rfl (any_of HT_.out (by kernel_rfl)) (fun _ _ _ h => h) (Or.inl ⟨by rfl, ?_⟩) ?_ ?_
             rotate_left
             ·intro w'
              go_simp
              with_reducible rfl
             rotate_left
             ·simp only [Act.put, List.setIfInBounds_toArray, List.set_cons_zero, List.set_cons_succ, i64_w, i32_w]
              rfl
             refine take_ (i := 9) (N := some 40) (v := ?_) (a' := ?_) #[true, true, true, true, true, true, true, true, true, true, true, false, false] rfl rfl (take_ofW HT_.out HW_.out (by kernel_rfl)) (fun _ _ _ h => h) (Or.inl ⟨by rfl, ?_⟩) hHeld ?_ ?_
             rotate_left
             ·rintro w' ⟨s0, s1, s2, s3⟩
              go_simp
              with_reducible rfl
             rotate_left
             ·simp only [Act.put, List.setIfInBounds_toArray, List.set_cons_zero, List.set_cons_succ, i64_w, i32_w]
              rfl
             refine pure_ (i := 11) (N := some 42) (v := ?_) (a' := ?_) #[true, true, true, true, true, true, true, true, true, true, true, true, false] rfl rfl (any_of HT_.out (by kernel_rfl)) (fun _ _ _ h => h) (Or.inl ⟨by rfl, ?_⟩) ?_ ?_
             rotate_left
             ·intro w'
              go_simp
              with_reducible rfl
             rotate_left
             ·simp only [Act.put, List.setIfInBounds_toArray, List.set_cons_zero, List.set_cons_succ, i64_w, i32_w]
              rfl
             refine last_ (i := 12) (N := none) #[true, true, true, true, true, true, true, true, true, true, true, true, true] rfl rfl (one_of HT_.out (by kernel_rfl)) (by decide) (fun K hK => ?_)
             have hdd19 : w18.cell? ⟨gb193, ((rd_T54 t195 x10_2).f1).toNat * 10 + ((rd_T54 t195 x10_2).f0).toNat, none⟩ = some (vbool (rd x194000_2.l (((rd_T54 t195 x10_2).f1) * 10 + ((rd_T54 t195 x10_2).f0)))) := mix_at2z 10 BK193.out ((rd_T54 t195 x10_2).f1) ((rd_T54 t195 x10_2).f0) (of_eq_true hpd19) (of_eq_true hpbd19) (by have := of_eq_true hqd19; have := of_eq_true hqbd19; omega)
             simp only [vbool] at hdd19
             have hfdd19 := blk_frozen BK193.out (((rd_T54 t195 x10_2).f1).toNat * 10 + ((rd_T54 t195 x10_2).f0).toNat)
             refine storel_step (w1 := (w18.setCell ⟨gb193, ((rd_T54 t195 x10_2).f1).toNat * 10 + ((rd_T54 t195 x10_2).f0).toNat, none⟩ (.bool true))) ?hg ?hn ?hr ?_; (case hg => rfl); (case hn => rfl); (case hr => first | (go_simp; done) | (go_simp; rfl))
             intro w20 hw
             have hi : w20.heap[gb193]? = some (.cells (mixA vbool [] (LA.set x194000_2 (((rd_T54 t195 x10_2).f1) * 10 + ((rd_T54 t195 x10_2).f0)) (nbool true))) 51 (0, 0)) := (by rw [hw]; exact mix_set2z 10 BK193.out ((rd_T54 t195 x10_2).f1) ((rd_T54 t195 x10_2).f0) (nbool true) (of_eq_true hpd19) (of_eq_true hpbd19) (by have := of_eq_true hqd19; have := of_eq_true hqbd19; omega))
             have hk : KeepBut w18 w20 gb193 none := (by rw [hw]; exact setcell_keep _ _ _ _)
             have hbl : ∀ B_ a_, Below B_ a_ w18 → B_ ≤ gb193 → Below B_ a_ w20 := (by rw [hw]; exact setcell_below _ _ _ _)
             clear hw
             have n0_ := Aside0.mk (Kd.R_mono (Kd.R_keep (Kd.R_types (by (with_reducible repeat (first | apply Kd.R_alloc | apply Kd.R_drewN | apply Kd.R_drew)); exact HO_9.out) (pk BK193) (by decide)) hk (fun _ h => h.2)) (fun _ h => h.1))
             have n1_ := Aside0.mk (KeepBut.blk hk (g' := g0) (o := .cells (mixA (Value.int .u16) [.int .i8 s0_0, .int .i8 s0_1] s0_2) 31 (0, 0)) (pk BK0) NB0_193.out (by simp))
             have n2_ := Aside0.mk (KeepBut.blk hk (g' := gb192) (o := .cells (mixA vbool [] (LA.zero 100)) 51 (0, 0)) (pk BK192) NB192_193.out (by simp))
             have n3_ := Aside0.mk (hbl _ _ (pbs HB) GE193.out)
             have n4_ := Aside0.mk (hi)
             clear HO_9
             clear BK0
             clear BK192
             clear HB
             clear BK193
             have HO_9 := n0_
             have BK0 := n1_
             have BK192 := n2_
             have HB := n3_
             have BK193 := n4_
             clear n0_ n1_ n2_ n3_ n4_
             clear hi hk hbl
             refine hK.out _ _ ?_
             clear hK K
             refine done_ (done_of HT_.out (by kernel_rfl)) ?_
             try go_wp2
             go_roundg k2
             case measure => have := HK1.out; have := HK2.out; omega
             case rel => exact ⟨(wrap64 (x10_2 + 1)), ((LA.set x194000_2 (((rd_T54 t195 x10_2).f1) * 10 + ((rd_T54 t195 x10_2).f0)) (nbool true))), (by first | rfl | (simp; done) | (simp [*]; done)), H', ⟨by have := HK1.out; have := HK2.out; omega⟩, ⟨by (with_reducible repeat (first | apply Kd.R_alloc | apply Kd.R_drewN | apply Kd.R_drew)); exact HO_9.out⟩, ⟨pk BK0⟩, ⟨pk BK192⟩, ⟨pk BK193⟩, ⟨pbs HB⟩⟩
            ·rw [if_neg c16] at H
             exact absurd H (by simp)
           ·rw [if_neg c15] at H
            exact absurd H (by simp)
          ·rw [if_neg c14] at H
           exact absurd H (by simp)
         ·rw [if_neg c13] at H
          exact absurd H (by simp)
        ·rw [if_neg c12] at H
         exact absurd H (by simp)
       ·rw [if_neg c11] at H
        have c11b0 : decide (x10_2 < (t195.length : Int)) = false := decide_eq_false c11
        clear c11
        have H' := Aside0.mk H
        clear H
        obtain ⟨Ao21, co21, eo21⟩ := Kd.R_slice HO_9.out
        subst eo21
        go_wp2
        go_roundg k2
        case measure => have := HK1.out; have := HK2.out; omega
        case rel => exact ⟨(wrap64 (x8_1 + 1)), (x194000_2), (by first | rfl | (simp; done) | (simp [*]; done)), H', ⟨by have := HK1.out; have := HK2.out; omega⟩, ⟨pk BK0⟩, ⟨pk BK192⟩, ⟨pk BK193⟩, ⟨pbs HB⟩⟩
    ·rw [if_neg c8] at H
     exact absurd H (by simp)
   ·rw [if_neg c7] at H
    have c7b0 : decide (x8_1 < (l1.length : Int)) = false := decide_eq_false c7
    clear c7
    obtain rfl := Option.some.inj H
    go_wp2_with (first | ((with_reducible refine gate_dst (N := 43) rfl ?_); refine wpList_run0 (v := .agg (mixA vbool [] x194000_1)) rfl (load_mix_run (P := Try.prog) 51 (.tmp 7) rfl gb193 rfl (show World.rangeAt _ gb193 0 ([] ++ x194000_1.l.map vbool) from mix_range (show (World.heap _)[gb193]? = some (.cells (mixA vbool [] x194000_1) 51 (0, 0)) from by (with_reducible repeat (first | refine blk_drewN ?_ _ | refine blk_drew ?_ | refine blk_alloc ?_ _)); exact BK193.out)) Try.underlying51 rfl (by kernel_rfl) rfl) ?_) | ((with_reducible refine gate_store (p := 6) rfl ?_); refine wpList_store_lmix rfl 51 _ _ rfl gb192 (e := vbool) (cs' := []) (W' := x194000_1) (cs := []) (W := (LA.zero 100)) (T := 51) rfl rfl (pk BK192) rfl (by kernel_rfl) rfl (fun _ => rfl) rfl ?_; intro w23 hi hk hbl; have n0_ := Aside0.mk (KeepBut.blk hk (g' := g0) (o := .cells (mixA (Value.int .u16) [.int .i8 s0_0, .int .i8 s0_1] s0_2) 31 (0, 0)) (pk BK0) NB0_192.out (by simp)); have n1_ := Aside0.mk (KeepBut.blk hk (g' := gb193) (o := .cells (mixA vbool [] x194000_1) 51 (0, 0)) (pk BK193) NB193_192.out (by simp)); have n2_ := Aside0.mk (hbl _ _ (pbs HB) GE192.out); have n3_ := Aside0.mk (hi); clear BK0; clear BK193; clear HB; clear BK192; have BK0 := n0_; have BK193 := n1_; have HB := n2_; have BK192 := n3_; clear n0_ n1_ n2_ n3_; clear hi hk hbl))
    refine bodyPost_ret (results_cell_row rfl _ _ gb192 51 (mixA vbool [] x194000_1) (0, 0) _ rfl (pk BK192) Try.underlying51 rfl (by rw [mix_size]; kernel_rfl)) rfl ?_
    exact ⟨by first | rfl | (simp [errW_none, errW_some] <;> rfl) | (simp [*, errW_none, errW_some] <;> rfl), pbs HB⟩
end Go.Proofs.Ytmcjgpbhjpakhaa.PB
end
