/- The statement FnExactPostsBound of this program: what its proof uses, part 12 of 14. The call returns true for all arguments. No condition of its own. -/
import Derived.Test.YtmcjgpbhjpakhaaZFnExactPostsBound10
section
namespace Go.Proofs.Ytmcjgpbhjpakhaa.PB
open Go.RowKit Go.Proofs.YtmcjgpbhjpakhaaW.PrintWords Go.Proofs.YtmcjgpbhjpakhaaW.PrintLast Go.Proofs.YtmcjgpbhjpakhaaW.PrintMore Go.Proofs.Ytmcjgpbhjpakhaa.La Go.Proofs.Ytmcjgpbhjpakhaa.Mp
attribute [local go_sem] max2_int min2_int max_two min_two max_three min_three max_four min_four   -- for this text's walks alone
set_option linter.unusedVariables false
set_option linter.unusedSimpArgs false
mutual
def impl_Room_cells__92.l0 : Nat → List (S54) → Int → Int → Int → Int → LA 10 → Int → Int → LA 10 → Option ((List (S54)))
 | 0, _, _, _, _, _, _, _, _, _ => none
 | k + 1, x5, x11, x12, x308000, x308001, x308002, x309000, x309001, x309002 => if x12 < x11 then (impl_Room_cells__92.l1 k x5 x12 x11 x12 x309000 0 x308000 x308001 x308002 x309000 x309001 x309002) else (some x5)
def impl_Room_cells__92.l1 : Nat → List (S54) → Int → Int → Int → Int → Int → Int → Int → LA 10 → Int → Int → LA 10 → Option ((List (S54)))
 | 0, _, _, _, _, _, _, _, _, _, _, _, _ => none
 | k + 1, x5, x6, x11, x12, x16, x17, x308000, x308001, x308002, x309000, x309001, x309002 => if x17 < x16 then ((impl_Room_isFree.f x308000 x308001 x308002 x17 x6).bind fun t313 => (if t313 = true then (if x5.length < 70368744177664 then (impl_Room_cells__92.l1 k (x5 ++ [(⟨x17, x6⟩ : S54)]) x6 x11 x12 x16 (IntKind.i8.wrap (x17 + 1)) x308000 x308001 x308002 x309000 x309001 x309002) else (none)) else (impl_Room_cells__92.l1 k x5 x6 x11 x12 x16 (IntKind.i8.wrap (x17 + 1)) x308000 x308001 x308002 x309000 x309001 x309002))) else (impl_Room_cells__92.l0 k x5 x11 (IntKind.i8.wrap (x12 + 1)) x308000 x308001 x308002 x309000 x309001 x309002)
end
def impl_Room_cells__92.f (k : Nat) (a0_0 : Int) (a0_1 : Int) (a0_2 : LA 10) (a1_0 : Int) (a1_1 : Int) (a1_2 : LA 10) : Option ((List (S54))) := impl_Room_cells__92.l0 k (([] : List (S54))) a0_1 0 a1_0 a1_1 a1_2 a0_0 a0_1 a0_2
theorem impl_Room_cells__92.mono_l : ∀ k, (∀ y0 y1 y2 y3 y4 y5 y6 y7 y8, LeO (impl_Room_cells__92.l0 k y0 y1 y2 y3 y4 y5 y6 y7 y8) (impl_Room_cells__92.l0 (k + 1) y0 y1 y2 y3 y4 y5 y6 y7 y8)) ∧ (∀ y0 y1 y2 y3 y4 y5 y6 y7 y8 y9 y10 y11, LeO (impl_Room_cells__92.l1 k y0 y1 y2 y3 y4 y5 y6 y7 y8 y9 y10 y11) (impl_Room_cells__92.l1 (k + 1) y0 y1 y2 y3 y4 y5 y6 y7 y8 y9 y10 y11))
 | 0 => ⟨fun _ _ _ _ _ _ _ _ _ r h => by simp [impl_Room_cells__92.l0] at h, fun _ _ _ _ _ _ _ _ _ _ _ _ r h => by simp [impl_Room_cells__92.l1] at h⟩
 | k + 1 => by
  obtain ⟨ih0, ih1⟩ := impl_Room_cells__92.mono_l k
  refine ⟨?_, ?_⟩
  ·intro y0 y1 y2 y3 y4 y5 y6 y7 y8
   unfold impl_Room_cells__92.l0
   repeat' first
   | (with_reducible exact ih0 _ _ _ _ _ _ _ _ _)
   | (with_reducible exact ih1 _ _ _ _ _ _ _ _ _ _ _ _)
   | (with_reducible exact LeO.refl _)
   | (with_reducible exact LeO.none _)
   | (with_reducible refine LeO.ite ?_ ?_)
   | (with_reducible refine LeO.bind ?_ (fun _ => ?_))
   | exact ih0 _ _ _ _ _ _ _ _ _
   | exact ih1 _ _ _ _ _ _ _ _ _ _ _ _
   | exact LeO.none _
   | refine LeO.ite ?_ ?_
   | refine LeO.bind ?_ (fun _ => ?_)
  ·intro y0 y1 y2 y3 y4 y5 y6 y7 y8 y9 y10 y11
   unfold impl_Room_cells__92.l1
   repeat' first
   | (with_reducible exact ih0 _ _ _ _ _ _ _ _ _)
   | (with_reducible exact ih1 _ _ _ _ _ _ _ _ _ _ _ _)
   | (with_reducible exact LeO.refl _)
   | (with_reducible exact LeO.none _)
   | (with_reducible refine LeO.ite ?_ ?_)
   | (with_reducible refine LeO.bind ?_ (fun _ => ?_))
   | exact ih0 _ _ _ _ _ _ _ _ _
   | exact ih1 _ _ _ _ _ _ _ _ _ _ _ _
   | exact LeO.none _
   | refine LeO.ite ?_ ?_
   | refine LeO.bind ?_ (fun _ => ?_)
theorem impl_Room_cells__92.mono : ∀ a0 a1 a2 a3 a4 a5 k, LeO (impl_Room_cells__92.f k a0 a1 a2 a3 a4 a5) (impl_Room_cells__92.f (k + 1) a0 a1 a2 a3 a4 a5) := by
 intro a0 a1 a2 a3 a4 a5 k
 obtain ⟨ih0, ih1⟩ := impl_Room_cells__92.mono_l k
 unfold impl_Room_cells__92.f
 repeat' first
   | (with_reducible exact ih0 _ _ _ _ _ _ _ _ _)
   | (with_reducible exact ih1 _ _ _ _ _ _ _ _ _ _ _ _)
   | (with_reducible exact LeO.refl _)
   | (with_reducible exact LeO.none _)
   | (with_reducible refine LeO.ite ?_ ?_)
   | (with_reducible refine LeO.bind ?_ (fun _ => ?_))
   | exact ih0 _ _ _ _ _ _ _ _ _
   | exact ih1 _ _ _ _ _ _ _ _ _ _ _ _
   | exact LeO.none _
   | refine LeO.ite ?_ ?_
   | refine LeO.bind ?_ (fun _ => ?_)
set_option maxHeartbeats 8000000 in
set_option maxRecDepth 100000 in
theorem impl_Room_cells__92.calls (k : Nat) (a0_0 : Int) (a0_1 : Int) (a0_2 : LA 10) (a1_0 : Int) (a1_1 : Int) (a1_2 : LA 10) (r : List (S54)) (w : World) (h : impl_Room_cells__92.f k a0_0 a0_1 a0_2 a1_0 a1_1 a1_2 = some r) :
  Calls Try.prog 93 #[.agg (mixA (Value.int .u16) [.int .i8 a0_0, .int .i8 a0_1] a0_2), .func (.func 92) #[.agg (mixA (Value.int .u16) [.int .i8 a1_0, .int .i8 a1_1] a1_2)] #[]] w fun e w' => ∃ v0_ : Value, e = .returned (v0_) ∧ Kd.R k54 54 w' w.heap.size (fun _ => True) v0_ r ∧ Below w.heap.size w w' := by
 have hu31 := Try.underlying31
 have hu54 := Try.underlying54
 have HB := Aside0.mk (Below.refl w.heap.size w)
 have H : (impl_Room_cells__92.l0 k (([] : List (S54))) a0_1 0 a1_0 a1_1 a1_2 a0_0 a0_1 a0_2) = some r := h
 clear h
 obtain ⟨y309, hy309⟩ : ∃ y_ : List (S54), y_ = (([] : List (S54))) := ⟨_, rfl⟩
 replace H : (impl_Room_cells__92.l0 k y309 a0_1 0 a1_0 a1_1 a1_2 a0_0 a0_1 a0_2) = some r := by first | (rw [hy309]; with_reducible exact H) | (have H2_ := (Option.bind_some _ _).symm.trans H; rw [hy309]; with_reducible exact H2_) | (have H2_ := (Option.bind_some _ _).symm.trans H; with_reducible exact H2_) | with_reducible exact H | (rw [hy309]; exact H) | exact H
 have Ny309 := Aside0.mk hy309
 clear hy309
 have H' := Aside0.mk H
 clear H
 go_enter Try.func93, Try.ntmps93
 go_wp2_with (first | ((with_reducible refine gate_dst (N := 2) rfl ?_); refine box_event ?hg (N := 2) ?hd (cs := (mixA (Value.int .u16) [.int .i8 a0_0, .int .i8 a0_1] a0_2)) (t := 31) ?hr ?_; (case hd => rfl); (case hg => rfl); (case hr => first | (go_simp; done) | (go_simp; rfl)); intro gb308 hg w3 hbox hb; have n0_ := bst HB hb; have n1_ := Aside0.mk (hbox); have n2_ := gwl HB hg; have n3_ := gwl HB hg; clear HB; have HB := n0_; have BK308 := n1_; have GW308 := n2_; have GE308 := n3_; clear n0_ n1_ n2_ n3_; clear hb hbox hg) | ((with_reducible refine gate_dst (N := 9) rfl ?_); refine Kd.R_lit k54 _ 54 ?hg (N := 9) ?hd (xs := ([] : List (S54))) (inner := []) (ok := fun _ => True) (okp := fun _ => True) ?hr ?hp (fun _ hk => hk) trivial (Below.refl _ _) (Nat.le_refl _) (by simp) ?_; (case hd => rfl); (case hg => rfl); (case hr => first | (go_simp; done) | (go_simp; rfl)); (case hp => exact (Reps.none _ _)); intro v310 w4 ho5 hb hg_ hnew_; clear hg_ hnew_; (first | rw [← Ny309.out] at ho5 | (simp only [Int.reduceToNat] at ho5; rw [← Ny309.out] at ho5)); have n0_ := Aside0.mk (Kd.R_lower ho5 (below_size (by repeat (first | (with_reducible first | exact HB.out | apply below_alloc | apply pw_below_drewN | apply below_drew1 | refine below_set ?_ GE308.out) | exact HB.out)))); have n1_ := bkb BK308 hb; have n2_ := bst HB hb; clear BK308; clear HB; have HO311 := n0_; have BK308 := n1_; have HB := n2_; clear n0_ n1_ n2_; clear hb ho5; have hcz6_0 : w4.cell? ⟨gb308, 0, none⟩ = some (.int .i8 a0_0) := mix_cell0 BK308.out 0; have hcz6_1 : w4.cell? ⟨gb308, 1, none⟩ = some (.int .i8 a0_1) := mix_cell0 BK308.out 1; have hfz6_0 := blk_frozen BK308.out 0; have hfz6_1 := blk_frozen BK308.out 1))
 go_loopg [5, 12] k (fun kq v5 v12 w' => ∃ (x5_1 : List (S54)) (x12_1 : Int), v12 = .int .i8 x12_1 ∧ Aside0 (impl_Room_cells__92.l0 kq x5_1 a0_1 x12_1 a1_0 a1_1 a1_2 a0_0 a0_1 a0_2 = some r) ∧ Aside0 (kq ≤ k) ∧ Aside0 (Kd.R k54 54 w' w.heap.size (fun _ => True) v5 x5_1) ∧ Aside0 (w'.heap[gb308]? = some (.cells (mixA (Value.int .u16) [.int .i8 a0_0, .int .i8 a0_1] a0_2) 31 (0, 0))) ∧ Aside0 (Below w.heap.size w w'))
 case atStart => exact ⟨(y309), (0), (by first | rfl | (simp; done) | (simp [*]; done)), H', ⟨Nat.le_refl _⟩, ⟨by (with_reducible repeat (first | apply Kd.R_alloc | apply Kd.R_drewN | apply Kd.R_drew)); exact HO311.out⟩, ⟨pk BK308⟩, ⟨pbs HB⟩⟩
 case round =>
  clear H'
  try clear p2
  try clear hcz6_0
  try clear hcz6_1
  try clear hfz6_0
  try clear hfz6_1
  obtain ⟨x5_1, x12_1, rfl, HA, HK1, HO_5, BK308, HB⟩ := hrel
  cases gk with
  | zero => exact absurd HA.out (by simp [impl_Room_cells__92.l0])
  | succ k1 =>
   have H := HA.out
   clear HA
   simp only [impl_Room_cells__92.l0] at H
   by_cases c7 : x12_1 < a0_1
   ·rw [if_pos c7] at H
    have c7b0 : decide (x12_1 < a0_1) = true := decide_eq_true c7
    clear c7
    have H' := Aside0.mk H
    clear H
    have hcz8_0 : wr.cell? ⟨gb308, 0, none⟩ = some (.int .i8 a0_0) := mix_cell0 BK308.out 0
    have hcz8_1 : wr.cell? ⟨gb308, 1, none⟩ = some (.int .i8 a0_1) := mix_cell0 BK308.out 1
    have hfz8_0 := blk_frozen BK308.out 0
    have hfz8_1 := blk_frozen BK308.out 1
    go_wp2
    go_loopg [5, 17] k1 (fun kq v5 v17 w' => ∃ (x5_2 : List (S54)) (x17_2 : Int), v17 = .int .i8 x17_2 ∧ Aside0 (impl_Room_cells__92.l1 kq x5_2 x12_1 a0_1 x12_1 a0_0 x17_2 a1_0 a1_1 a1_2 a0_0 a0_1 a0_2 = some r) ∧ Aside0 (kq ≤ k1) ∧ Aside0 (Kd.R k54 54 w' w.heap.size (fun _ => True) v5 x5_2) ∧ Aside0 (w'.heap[gb308]? = some (.cells (mixA (Value.int .u16) [.int .i8 a0_0, .int .i8 a0_1] a0_2) 31 (0, 0))) ∧ Aside0 (Below w.heap.size w w'))
    case atStart => exact ⟨(x5_1), (0), (by first | rfl | (simp; done) | (simp [*]; done)), H', ⟨Nat.le_refl _⟩, ⟨by (with_reducible repeat (first | apply Kd.R_alloc | apply Kd.R_drewN | apply Kd.R_drew)); exact HO_5.out⟩, ⟨pk BK308⟩, ⟨pbs HB⟩⟩
    case round =>
     clear H'
     try clear p2
     try clear c7
     try clear c7b0
     try clear hcz6_0
     try clear hcz6_1
     try clear hcz8_0
     try clear hcz8_1
     try clear hfz6_0
     try clear hfz6_1
     try clear hfz8_0
     try clear hfz8_1
     try clear p2
     obtain ⟨x5_2, x17_2, rfl, HA, HK2, HO_5, BK308, HB⟩ := hrel
     cases gk with
     | zero => exact absurd HA.out (by simp [impl_Room_cells__92.l1])
     | succ k2 =>
      have H := HA.out
      clear HA
      simp only [impl_Room_cells__92.l1] at H
      by_cases c9 : x17_2 < a0_0
      ·rw [if_pos c9] at H
       have c9b0 : decide (x17_2 < a0_0) = true := decide_eq_true c9
       clear c9
       replace H := Option.bind_eq_some_iff.mp H
       obtain ⟨t313, A100, H⟩ := H
       replace H : (if t313 = true then (if x5_2.length < 70368744177664 then (impl_Room_cells__92.l1 k2 (x5_2 ++ [(⟨x17_2, x12_1⟩ : S54)]) x12_1 a0_1 x12_1 a0_0 (IntKind.i8.wrap (x17_2 + 1)) a1_0 a1_1 a1_2 a0_0 a0_1 a0_2) else (none)) else (impl_Room_cells__92.l1 k2 x5_2 x12_1 a0_1 x12_1 a0_0 (IntKind.i8.wrap (x17_2 + 1)) a1_0 a1_1 a1_2 a0_0 a0_1 a0_2)) = some r := H
       have A10 := Aside0.mk A100
       clear A100
       by_cases c11 : t313 = true
       ·subst c11
        have H1 : (if x5_2.length < 70368744177664 then (impl_Room_cells__92.l1 k2 (x5_2 ++ [(⟨x17_2, x12_1⟩ : S54)]) x12_1 a0_1 x12_1 a0_0 (IntKind.i8.wrap (x17_2 + 1)) a1_0 a1_1 a1_2 a0_0 a0_1 a0_2) else (none)) = some r := by rw [if_pos rfl] at H; exact H
        clear H
        have H := H1
        clear H1
        by_cases c12 : x5_2.length < 70368744177664
        ·rw [if_pos c12] at H
         have LMc12 := Aside0.mk c12
         clear c12
         obtain ⟨y314, hy314⟩ : ∃ y_ : List (S54), y_ = (x5_2 ++ [(⟨x17_2, x12_1⟩ : S54)]) := ⟨_, rfl⟩
         replace H : (impl_Room_cells__92.l1 k2 y314 x12_1 a0_1 x12_1 a0_0 (IntKind.i8.wrap (x17_2 + 1)) a1_0 a1_1 a1_2 a0_0 a0_1 a0_2) = some r := by first | (rw [hy314]; with_reducible exact H) | (have H2_ := (Option.bind_some _ _).symm.trans H; rw [hy314]; with_reducible exact H2_) | (have H2_ := (Option.bind_some _ _).symm.trans H; with_reducible exact H2_) | with_reducible exact H | (rw [hy314]; exact H) | exact H
         have Ny314 := Aside0.mk hy314
         clear hy314
         have H' := Aside0.mk H
         clear H
         go_wp2_with (first | ((with_reducible refine gate_dst (N := 8) rfl ?_); refine box_event ?hg (N := 8) ?hd (cs := #[.int .i8 0, .int .i8 0]) (t := 54) ?hr ?_; (case hd => rfl); (case hg => rfl); (case hr => first | (go_simp; done) | (go_simp; rfl)); intro gb312 hg w13 hbox hb; have n0_ := Aside0.mk (Kd.R_below (Kd.R_elderB (by (with_reducible repeat (first | apply Kd.R_alloc | apply Kd.R_drewN | apply Kd.R_drew)); exact HO_5.out) gb312 (Nat.le_of_eq hg.symm)) hb); have n1_ := bkb BK308 hb; have n2_ := bst HB hb; have n3_ := Aside0.mk (hbox); have n4_ := gwl HB hg; have n5_ := gwl HB hg; have n6_ := nbl BK308 hg; have n7_ := nbg BK308 hg; clear HO_5; clear BK308; clear HB; have HO_5 := n0_; have BK308 := n1_; have HB := n2_; have BK312 := n3_; have GW312 := n4_; have GE312 := n5_; have NB308_312 := n6_; have NB312_308 := n7_; clear n0_ n1_ n2_ n3_ n4_ n5_ n6_ n7_; clear hb hbox hg; have hnb14 := NB312_308.out; have hnc14 := NB308_312.out; have hcz15_0 : w13.cell? ⟨gb312, 0, none⟩ = some (.int .i8 0) := (blk_cell BK312.out 0).trans rfl; have hcz15_1 : w13.cell? ⟨gb312, 1, none⟩ = some (.int .i8 0) := (blk_cell BK312.out 1).trans rfl; have hfz15_0 := blk_frozen BK312.out 0; have hfz15_1 := blk_frozen BK312.out 1) | (go_at_call 92; (with_reducible refine (impl_Room_isFree.calls a1_0 a1_1 a1_2 x17_2 x12_1 true _ A10.out).mono ?_); rintro e w16 ⟨rfl, hb⟩; have n0_ := Aside0.mk (Kd.R_below (by (with_reducible repeat (first | apply Kd.R_alloc | apply Kd.R_drewN | apply Kd.R_drew)); exact (Kd.R_mono (Kd.R_far (p := ⟨gb312, 1, none⟩) (Kd.R_far (p := ⟨gb312, 0, none⟩) (Kd.R_mono HO_5.out (fun k_ hk => (⟨hk, hk.2⟩ : _ ∧ k_ ≠ gb312))) (fun _ hk => hk.2) (.int .i8 x17_2)) (fun _ hk => hk.2) (.int .i8 x12_1)) (fun _ h_ => h_.1))) hb); have n1_ := Aside0.mk (blk_below (g := gb308) (o := .cells (mixA (Value.int .u16) [.int .i8 a0_0, .int .i8 a0_1] a0_2) 31 (0, 0)) (by (with_reducible repeat (first | refine blk_drewN ?_ _ | refine blk_drew ?_ | refine blk_alloc ?_ _)); refine blk_far ?_ NB308_312.out _; (with_reducible repeat (first | refine blk_drewN ?_ _ | refine blk_drew ?_ | refine blk_alloc ?_ _)); refine blk_far ?_ NB308_312.out _; (with_reducible repeat (first | refine blk_drewN ?_ _ | refine blk_drew ?_ | refine blk_alloc ?_ _)); exact BK308.out) hb); have n2_ := Aside0.mk (blk_below (g := gb312) (o := .cells #[.int .i8 x17_2, .int .i8 x12_1] 54 (0, 0)) (by (with_reducible repeat (first | refine blk_drewN ?_ _ | refine blk_drew ?_ | refine blk_alloc ?_ _)); refine blk_put (cs := #[.int .i8 x17_2, .int .i8 0]) ?_ 1 _ rfl; (with_reducible repeat (first | refine blk_drewN ?_ _ | refine blk_drew ?_ | refine blk_alloc ?_ _)); refine blk_put (cs := #[.int .i8 0, .int .i8 0]) ?_ 0 _ rfl; (with_reducible repeat (first | refine blk_drewN ?_ _ | refine blk_drew ?_ | refine blk_alloc ?_ _)); exact BK312.out) hb); have n3_ := bst HB hb; clear HO_5; clear BK308; clear BK312; clear HB; have HO_5 := n0_; have BK308 := n1_; have BK312 := n2_; have HB := n3_; clear n0_ n1_ n2_ n3_; (try clear hb); (try clear hb2); (try clear hk); (try clear hi); have hcz17_0 : w16.cell? ⟨gb312, 0, none⟩ = some (.int .i8 x17_2) := (blk_cell BK312.out 0).trans rfl; have hcz17_1 : w16.cell? ⟨gb312, 1, none⟩ = some (.int .i8 x12_1) := (blk_cell BK312.out 1).trans rfl; have hfz17_0 := blk_frozen BK312.out 0; have hfz17_1 := blk_frozen BK312.out 1) | ((with_reducible refine gate_builtin (b := .append) (xs := #[.tmp 26, .tmp 28]) rfl ?_); at_builtin; refine Kd.R_append k54 (w0 := w) w.heap.size rfl (.tmp 26) (.tmp 28) 33 54 (.agg #[(.int .i8 0), (.int .i8 0)]) 2 rfl Try.underlying33 info54 rfl (by decide) (by omega) u5 x5_2 (⟨x17_2, x12_1⟩ : S54) [.int .i8 x17_2, .int .i8 x12_1] (fun k_ => k_ ≠ gb312) (fun _ => False) rfl rfl ?aP (fun _ hk => hk.elim) ?aF ?aO ?aB ?aS ?aL ?_; (case aP => exact k54_mkM _ _ _ (⟨x17_2, x12_1⟩ : S54)); (case aB => exact (pbs HB)); (case aF => exact (fun k_ hk => Kd.freshB (g := gb312) (o := .cells #[.int .i8 x17_2, .int .i8 x12_1] 54 (0, 0)) (pk BK312) k_ hk)); (case aO => exact (by (with_reducible repeat (first | apply Kd.R_alloc | apply Kd.R_drewN | apply Kd.R_drew)); exact Kd.R_mono HO_5.out (fun _ hk => hk.2))); (case aS => exact (below_size (by repeat (first | (with_reducible first | exact HB.out | apply below_alloc | apply pw_below_drewN | apply below_drew1 | refine below_set ?_ GE308.out | refine below_set ?_ GE312.out) | exact HB.out)))); (case aL => have := LMc12.out; omega); intro v315 w18 ho hb hg hat; rw [← Ny314.out] at ho; have n0_ := Aside0.mk (blk_grown (g := gb308) (o := .cells (mixA (Value.int .u16) [.int .i8 a0_0, .int .i8 a0_1] a0_2) 31 (0, 0)) (pk BK308) hg (Kd.R_ne HO_5.out BK308.out (by decide))); have n1_ := Aside0.mk (blk_grown (g := gb312) (o := .cells #[.int .i8 x17_2, .int .i8 x12_1] 54 (0, 0)) (pk BK312) hg (Kd.R_away HO_5.out (fun _ hk => hk.2))); have n2_ := Aside0.mk (hb); have n3_ := Aside0.mk (ho); clear BK308; clear BK312; clear HB; clear HO_5; have BK308 := n0_; have BK312 := n1_; have HB := n2_; have HO316 := n3_; clear n0_ n1_ n2_ n3_; clear ho hb hg hat))
         go_roundg k2
         case measure => have := HK1.out; have := HK2.out; omega
         case rel => exact ⟨(y314), (IntKind.i8.wrap (x17_2 + 1)), (by first | rfl | (simp; done) | (simp [*]; done)), H', ⟨by have := HK1.out; have := HK2.out; omega⟩, ⟨by (with_reducible repeat (first | apply Kd.R_alloc | apply Kd.R_drewN | apply Kd.R_drew)); exact Kd.R_mono HO316.out (fun _ hk => trivial)⟩, ⟨pk BK308⟩, ⟨pbs HB⟩⟩
        ·rw [if_neg c12] at H
         exact absurd H (by simp)
       ·replace c11 := Bool.eq_false_iff.mpr c11
        subst c11
        have H1 : (impl_Room_cells__92.l1 k2 x5_2 x12_1 a0_1 x12_1 a0_0 (IntKind.i8.wrap (x17_2 + 1)) a1_0 a1_1 a1_2 a0_0 a0_1 a0_2) = some r := by rw [if_neg (show ¬ (false = true) by decide)] at H; exact H
        clear H
        have H := H1
        clear H1
        have H' := Aside0.mk H
        clear H
        go_wp2_with (first | ((with_reducible refine gate_dst (N := 8) rfl ?_); refine box_event ?hg (N := 8) ?hd (cs := #[.int .i8 0, .int .i8 0]) (t := 54) ?hr ?_; (case hd => rfl); (case hg => rfl); (case hr => first | (go_simp; done) | (go_simp; rfl)); intro gb312 hg w19 hbox hb; have n0_ := Aside0.mk (Kd.R_below (Kd.R_elderB (by (with_reducible repeat (first | apply Kd.R_alloc | apply Kd.R_drewN | apply Kd.R_drew)); exact HO_5.out) gb312 (Nat.le_of_eq hg.symm)) hb); have n1_ := bkb BK308 hb; have n2_ := bst HB hb; have n3_ := Aside0.mk (hbox); have n4_ := gwl HB hg; have n5_ := gwl HB hg; have n6_ := nbl BK308 hg; have n7_ := nbg BK308 hg; clear HO_5; clear BK308; clear HB; have HO_5 := n0_; have BK308 := n1_; have HB := n2_; have BK312 := n3_; have GW312 := n4_; have GE312 := n5_; have NB308_312 := n6_; have NB312_308 := n7_; clear n0_ n1_ n2_ n3_ n4_ n5_ n6_ n7_; clear hb hbox hg; have hnb20 := NB312_308.out; have hnc20 := NB308_312.out; have hcz21_0 : w19.cell? ⟨gb312, 0, none⟩ = some (.int .i8 0) := (blk_cell BK312.out 0).trans rfl; have hcz21_1 : w19.cell? ⟨gb312, 1, none⟩ = some (.int .i8 0) := (blk_cell BK312.out 1).trans rfl; have hfz21_0 := blk_frozen BK312.out 0; have hfz21_1 := blk_frozen BK312.out 1) | (go_at_call 92; (with_reducible refine (impl_Room_isFree.calls a1_0 a1_1 a1_2 x17_2 x12_1 false _ A10.out).mono ?_); rintro e w22 ⟨rfl, hb⟩; have n0_ := Aside0.mk (Kd.R_below (by (with_reducible repeat (first | apply Kd.R_alloc | apply Kd.R_drewN | apply Kd.R_drew)); exact (Kd.R_mono (Kd.R_far (p := ⟨gb312, 1, none⟩) (Kd.R_far (p := ⟨gb312, 0, none⟩) (Kd.R_mono HO_5.out (fun k_ hk => (⟨hk, hk.2⟩ : _ ∧ k_ ≠ gb312))) (fun _ hk => hk.2) (.int .i8 x17_2)) (fun _ hk => hk.2) (.int .i8 x12_1)) (fun _ h_ => h_.1))) hb); have n1_ := Aside0.mk (blk_below (g := gb308) (o := .cells (mixA (Value.int .u16) [.int .i8 a0_0, .int .i8 a0_1] a0_2) 31 (0, 0)) (by (with_reducible repeat (first | refine blk_drewN ?_ _ | refine blk_drew ?_ | refine blk_alloc ?_ _)); refine blk_far ?_ NB308_312.out _; (with_reducible repeat (first | refine blk_drewN ?_ _ | refine blk_drew ?_ | refine blk_alloc ?_ _)); refine blk_far ?_ NB308_312.out _; (with_reducible repeat (first | refine blk_drewN ?_ _ | refine blk_drew ?_ | refine blk_alloc ?_ _)); exact BK308.out) hb); have n2_ := Aside0.mk (blk_below (g := gb312) (o := .cells #[.int .i8 x17_2, .int .i8 x12_1] 54 (0, 0)) (by (with_reducible repeat (first | refine blk_drewN ?_ _ | refine blk_drew ?_ | refine blk_alloc ?_ _)); refine blk_put (cs := #[.int .i8 x17_2, .int .i8 0]) ?_ 1 _ rfl; (with_reducible repeat (first | refine blk_drewN ?_ _ | refine blk_drew ?_ | refine blk_alloc ?_ _)); refine blk_put (cs := #[.int .i8 0, .int .i8 0]) ?_ 0 _ rfl; (with_reducible repeat (first | refine blk_drewN ?_ _ | refine blk_drew ?_ | refine blk_alloc ?_ _)); exact BK312.out) hb); have n3_ := bst HB hb; clear HO_5; clear BK308; clear BK312; clear HB; have HO_5 := n0_; have BK308 := n1_; have BK312 := n2_; have HB := n3_; clear n0_ n1_ n2_ n3_; (try clear hb); (try clear hb2); (try clear hk); (try clear hi)))
        go_roundg k2
        case measure => have := HK1.out; have := HK2.out; omega
        case rel => exact ⟨(x5_2), (IntKind.i8.wrap (x17_2 + 1)), (by first | rfl | (simp; done) | (simp [*]; done)), H', ⟨by have := HK1.out; have := HK2.out; omega⟩, ⟨by (with_reducible repeat (first | apply Kd.R_alloc | apply Kd.R_drewN | apply Kd.R_drew)); exact Kd.R_mono HO_5.out (fun _ hk => trivial)⟩, ⟨pk BK308⟩, ⟨pbs HB⟩⟩
      ·rw [if_neg c9] at H
       have c9b0 : decide (x17_2 < a0_0) = false := decide_eq_false c9
       clear c9
       have H' := Aside0.mk H
       clear H
       go_wp2
       go_roundg k2
       case measure => have := HK1.out; have := HK2.out; omega
       case rel => exact ⟨(x5_2), (IntKind.i8.wrap (x12_1 + 1)), (by first | rfl | (simp; done) | (simp [*]; done)), H', ⟨by have := HK1.out; have := HK2.out; omega⟩, ⟨by (with_reducible repeat (first | apply Kd.R_alloc | apply Kd.R_drewN | apply Kd.R_drew)); exact HO_5.out⟩, ⟨pk BK308⟩, ⟨pbs HB⟩⟩
   ·rw [if_neg c7] at H
    have c7b0 : decide (x12_1 < a0_1) = false := decide_eq_false c7
    clear c7
    obtain rfl := Option.some.inj H
    go_wp2
    go_ret
    exact ⟨_, by first | rfl | (simp [errW_none, errW_some] <;> rfl) | (simp [*, errW_none, errW_some] <;> rfl), by (with_reducible repeat (first | apply Kd.R_alloc | apply Kd.R_drewN | apply Kd.R_drew)); exact HO_5.out, pbs HB⟩
def impl_Room_free.f (k : Nat) (a0_0 : Int) (a0_1 : Int) (a0_2 : LA 10) : Option ((List (S54))) := (impl_Room_cells__92.f k a0_0 a0_1 a0_2 a0_0 a0_1 a0_2).bind fun t318 => (some t318)
theorem impl_Room_free.mono : ∀ a0 a1 a2 k, LeO (impl_Room_free.f k a0 a1 a2) (impl_Room_free.f (k + 1) a0 a1 a2) := by
 intro a0 a1 a2 k
 unfold impl_Room_free.f
 repeat' first
   | (with_reducible exact impl_Room_cells__92.mono _ _ _ _ _ _ _)
   | (with_reducible exact LeO.refl _)
   | (with_reducible exact LeO.none _)
   | (with_reducible refine LeO.ite ?_ ?_)
   | (with_reducible refine LeO.bind ?_ (fun _ => ?_))
   | exact impl_Room_cells__92.mono _ _ _ _ _ _ _
   | exact LeO.none _
   | refine LeO.ite ?_ ?_
   | refine LeO.bind ?_ (fun _ => ?_)
set_option maxHeartbeats 8000000 in
set_option maxRecDepth 100000 in
theorem impl_Room_free.calls (k : Nat) (a0_0 : Int) (a0_1 : Int) (a0_2 : LA 10) (r : List (S54)) (w : World) (h : impl_Room_free.f k a0_0 a0_1 a0_2 = some r) :
  Calls Try.prog 65 #[.agg (mixA (Value.int .u16) [.int .i8 a0_0, .int .i8 a0_1] a0_2)] w fun e w' => ∃ v0_ : Value, e = .returned (v0_) ∧ Kd.R k54 54 w' w.heap.size (fun _ => True) v0_ r ∧ Below w.heap.size w w' := by
 have hu31 := Try.underlying31
 have HB := Aside0.mk (Below.refl w.heap.size w)
 have H : ((impl_Room_cells__92.f k a0_0 a0_1 a0_2 a0_0 a0_1 a0_2).bind fun t318 => (some t318)) = some r := h
 clear h
 replace H := Option.bind_eq_some_iff.mp H
 obtain ⟨t318, A20, H⟩ := H
 replace H : (some t318) = some r := H
 have A2 := Aside0.mk A20
 clear A20
 obtain rfl := Option.some.inj H
 go_enter Try.func65, Try.ntmps65
 go_wp2_with (first | ((with_reducible refine gate_dst (N := 1) rfl ?_); refine box_event ?hg (N := 1) ?hd (cs := (mixA (Value.int .u16) [.int .i8 a0_0, .int .i8 a0_1] a0_2)) (t := 31) ?hr ?_; (case hd => rfl); (case hg => rfl); (case hr => first | (go_simp; done) | (go_simp; rfl)); intro gb317 hg w3 hbox hb; have n0_ := bst HB hb; have n1_ := Aside0.mk (hbox); have n2_ := gwl HB hg; have n3_ := gwl HB hg; clear HB; have HB := n0_; have BK317 := n1_; have GW317 := n2_; have GE317 := n3_; clear n0_ n1_ n2_ n3_; clear hb hbox hg) | ((with_reducible refine gate_dst (N := 3) rfl ?_); refine wpList_run0 (v := .agg (mixA (Value.int .u16) [.int .i8 a0_0, .int .i8 a0_1] a0_2)) rfl (load_mix_run (P := Try.prog) 31 (.tmp 1) rfl gb317 rfl (show World.rangeAt _ gb317 0 ([.int .i8 a0_0, .int .i8 a0_1] ++ a0_2.l.map (Value.int .u16)) from mix_range (show (World.heap _)[gb317]? = some (.cells (mixA (Value.int .u16) [.int .i8 a0_0, .int .i8 a0_1] a0_2) 31 (0, 0)) from by (with_reducible repeat (first | refine blk_drewN ?_ _ | refine blk_drew ?_ | refine blk_alloc ?_ _)); exact BK317.out)) Try.underlying31 rfl (by kernel_rfl) rfl) ?_) | ((with_reducible refine gate_dst (N := 4) rfl ?_); refine wpList_run0 (v := .agg (mixA (Value.int .u16) [.int .i8 a0_0, .int .i8 a0_1] a0_2)) rfl (load_mix_run (P := Try.prog) 31 (.tmp 1) rfl gb317 rfl (show World.rangeAt _ gb317 0 ([.int .i8 a0_0, .int .i8 a0_1] ++ a0_2.l.map (Value.int .u16)) from mix_range (show (World.heap _)[gb317]? = some (.cells (mixA (Value.int .u16) [.int .i8 a0_0, .int .i8 a0_1] a0_2) 31 (0, 0)) from by (with_reducible repeat (first | refine blk_drewN ?_ _ | refine blk_drew ?_ | refine blk_alloc ?_ _)); exact BK317.out)) Try.underlying31 rfl (by kernel_rfl) rfl) ?_) | ((with_reducible refine gate_callee (f := 93) rfl ?_); refine goesL_ (some 6) rfl rfl Try.func93 (by kernel_rfl) rfl #[.agg (mixA (Value.int .u16) [.int .i8 a0_0, .int .i8 a0_1] a0_2), .func (.func 92) #[.agg (mixA (Value.int .u16) [.int .i8 a0_0, .int .i8 a0_1] a0_2)] #[]] rfl (by (try simp only [List.map_toArray, List.map_cons, List.map_nil]); first | done | rfl | (simp only [List.length_drop, List.length_take]; rfl)) ?_; (with_reducible refine (impl_Room_cells__92.calls k a0_0 a0_1 a0_2 a0_0 a0_1 a0_2 t318 _ A2.out).mono ?_); rintro e w6 ⟨v319, rfl, ho0, hb⟩; refine ⟨_, rfl, ?_⟩; have n0_ := Aside0.mk (Kd.R_lower ho0 (below_size (by repeat (first | (with_reducible first | exact HB.out | apply below_alloc | apply pw_below_drewN | apply below_drew1 | refine below_set ?_ GE317.out) | exact HB.out)))); have n1_ := bkb BK317 hb; have n2_ := bst HB hb; clear BK317; clear HB; have HO320 := n0_; have BK317 := n1_; have HB := n2_; clear n0_ n1_ n2_; (try clear hb); (try clear hb2); (try clear hk); (try clear hi); (try clear ho0)))
 go_ret
 exact ⟨_, by first | rfl | (simp [errW_none, errW_some] <;> rfl) | (simp [*, errW_none, errW_some] <;> rfl), by (with_reducible repeat (first | apply Kd.R_alloc | apply Kd.R_drewN | apply Kd.R_drew)); exact HO320.out, pbs HB⟩
mutual
def impl_Room_postsOf.l0 : Nat → Int → List (S54) → Int → Int → Int → Int → LA 10 → List (S54) → List (List Int) → Option ((List (S54)) × (List (List Int)))
 | 0, _, _, _, _, _, _, _, _, _ => none
 | k + 1, x1, x18, x19, x20, x322000, x322001, x322002, x327000, x327001 => if x20 < x19 then (if 0 ≤ x20 then (if x20 < (x18.length : Int) then ((impl_Room_steps.f k x322000 x322001 x322002 ((rd_T54 x18 x20).f0) ((rd_T54 x18 x20).f1)).bind fun t329 => (impl_Room_postsOf.l1 k x1 (([] : List Int)) x18 x19 x20 x327000 (x327000.length : Int) 0 x322000 x322001 x322002 x327000 x327001 t329)) else (none)) else (none)) else (some (x327000, x327001))
def impl_Room_postsOf.l1 : Nat → Int → List Int → List (S54) → Int → Int → List (S54) → Int → Int → Int → Int → LA 10 → List (S54) → List (List Int) → MP → Option ((List (S54)) × (List (List Int)))
 | 0, _, _, _, _, _, _, _, _, _, _, _, _, _, _ => none
 | k + 1, x1, x9, x18, x19, x20, x29, x30, x31, x322000, x322001, x322002, x327000, x327001, x331000 => if x31 < x30 then (if 0 ≤ x31 then (if x31 < (x29.length : Int) then (if mhas x331000 ((rd_T54 x29 x31).f0) ((rd_T54 x29 x31).f1) = true then (if (mval x331000 ((rd_T54 x29 x31).f0) ((rd_T54 x29 x31).f1)) ≤ x1 then (if x9.length < 17592186044416 then (impl_Room_postsOf.l1 k x1 (x9 ++ [x31]) x18 x19 x20 x29 x30 (wrap64 (x31 + 1)) x322000 x322001 x322002 x327000 x327001 x331000) else (none)) else (impl_Room_postsOf.l1 k x1 x9 x18 x19 x20 x29 x30 (wrap64 (x31 + 1)) x322000 x322001 x322002 x327000 x327001 x331000)) else (impl_Room_postsOf.l1 k x1 x9 x18 x19 x20 x29 x30 (wrap64 (x31 + 1)) x322000 x322001 x322002 x327000 x327001 x331000)) else (none)) else (none)) else (if x327001.length < 5864062014805 then (impl_Room_postsOf.l0 k x1 x18 x19 (wrap64 (x20 + 1)) x322000 x322001 x322002 x327000 (x327001 ++ [x9])) else (none))
end
def impl_Room_postsOf.f (k : Nat) (a0_0 : Int) (a0_1 : Int) (a0_2 : LA 10) (a1 : Int) : Option ((List (S54)) × (List (List Int))) := (impl_Room_free.f k a0_0 a0_1 a0_2).bind fun t323 => (impl_Room_postsOf.l0 k a1 t323 (t323.length : Int) 0 a0_0 a0_1 a0_2 t323 ([] : List (List Int)))
theorem impl_Room_postsOf.mono_l : ∀ k, (∀ y0 y1 y2 y3 y4 y5 y6 y7 y8, LeO (impl_Room_postsOf.l0 k y0 y1 y2 y3 y4 y5 y6 y7 y8) (impl_Room_postsOf.l0 (k + 1) y0 y1 y2 y3 y4 y5 y6 y7 y8)) ∧ (∀ y0 y1 y2 y3 y4 y5 y6 y7 y8 y9 y10 y11 y12 y13, LeO (impl_Room_postsOf.l1 k y0 y1 y2 y3 y4 y5 y6 y7 y8 y9 y10 y11 y12 y13) (impl_Room_postsOf.l1 (k + 1) y0 y1 y2 y3 y4 y5 y6 y7 y8 y9 y10 y11 y12 y13))
 | 0 => ⟨fun _ _ _ _ _ _ _ _ _ r h => by simp [impl_Room_postsOf.l0] at h, fun _ _ _ _ _ _ _ _ _ _ _ _ _ _ r h => by simp [impl_Room_postsOf.l1] at h⟩
 | k + 1 => by
  obtain ⟨ih0, ih1⟩ := impl_Room_postsOf.mono_l k
  refine ⟨?_, ?_⟩
  ·intro y0 y1 y2 y3 y4 y5 y6 y7 y8
   unfold impl_Room_postsOf.l0
   repeat' first
   | (with_reducible exact ih0 _ _ _ _ _ _ _ _ _)
   | (with_reducible exact ih1 _ _ _ _ _ _ _ _ _ _ _ _ _ _)
   | (with_reducible exact impl_Room_free.mono _ _ _ _)
   | (with_reducible exact impl_Room_steps.mono _ _ _ _ _ _)
   | (with_reducible exact LeO.refl _)
   | (with_reducible exact LeO.none _)
   | (with_reducible refine LeO.ite ?_ ?_)
   | (with_reducible refine LeO.bind ?_ (fun _ => ?_))
   | exact ih0 _ _ _ _ _ _ _ _ _
   | exact ih1 _ _ _ _ _ _ _ _ _ _ _ _ _ _
   | exact impl_Room_free.mono _ _ _ _
   | exact impl_Room_steps.mono _ _ _ _ _ _
   | exact LeO.none _
   | refine LeO.ite ?_ ?_
   | refine LeO.bind ?_ (fun _ => ?_)
  ·intro y0 y1 y2 y3 y4 y5 y6 y7 y8 y9 y10 y11 y12 y13
   unfold impl_Room_postsOf.l1
   repeat' first
   | (with_reducible exact ih0 _ _ _ _ _ _ _ _ _)
   | (with_reducible exact ih1 _ _ _ _ _ _ _ _ _ _ _ _ _ _)
   | (with_reducible exact impl_Room_free.mono _ _ _ _)
   | (with_reducible exact impl_Room_steps.mono _ _ _ _ _ _)
   | (with_reducible exact LeO.refl _)
   | (with_reducible exact LeO.none _)
   | (with_reducible refine LeO.ite ?_ ?_)
   | (with_reducible refine LeO.bind ?_ (fun _ => ?_))
   | exact ih0 _ _ _ _ _ _ _ _ _
   | exact ih1 _ _ _ _ _ _ _ _ _ _ _ _ _ _
   | exact impl_Room_free.mono _ _ _ _
   | exact impl_Room_steps.mono _ _ _ _ _ _
   | exact LeO.none _
   | refine LeO.ite ?_ ?_
   | refine LeO.bind ?_ (fun _ => ?_)
theorem impl_Room_postsOf.mono : ∀ a0 a1 a2 a3 k, LeO (impl_Room_postsOf.f k a0 a1 a2 a3) (impl_Room_postsOf.f (k + 1) a0 a1 a2 a3) := by
 intro a0 a1 a2 a3 k
 obtain ⟨ih0, ih1⟩ := impl_Room_postsOf.mono_l k
 unfold impl_Room_postsOf.f
 repeat' first
   | (with_reducible exact ih0 _ _ _ _ _ _ _ _ _)
   | (with_reducible exact ih1 _ _ _ _ _ _ _ _ _ _ _ _ _ _)
   | (with_reducible exact impl_Room_free.mono _ _ _ _)
   | (with_reducible exact impl_Room_steps.mono _ _ _ _ _ _)
   | (with_reducible exact LeO.refl _)
   | (with_reducible exact LeO.none _)
   | (with_reducible refine LeO.ite ?_ ?_)
   | (with_reducible refine LeO.bind ?_ (fun _ => ?_))
   | exact ih0 _ _ _ _ _ _ _ _ _
   | exact ih1 _ _ _ _ _ _ _ _ _ _ _ _ _ _
   | exact impl_Room_free.mono _ _ _ _
   | exact impl_Room_steps.mono _ _ _ _ _ _
   | exact LeO.none _
   | refine LeO.ite ?_ ?_
   | refine LeO.bind ?_ (fun _ => ?_)
set_option maxHeartbeats 8000000 in
set_option maxRecDepth 100000 in
theorem impl_Room_postsOf.calls (k : Nat) (a0_0 : Int) (a0_1 : Int) (a0_2 : LA 10) (a1 : Int) (r1 : List (S54)) (r2 : List (List Int)) (w : World) (h : impl_Room_postsOf.f k a0_0 a0_1 a0_2 a1 = some (r1, r2)) :
  Calls Try.prog 34 #[.agg (mixA (Value.int .u16) [.int .i8 a0_0, .int .i8 a0_1] a0_2), .int .i64 a1] w fun e w' => ∃ v0_ v1_ : Value, e = .returned (.agg #[v0_, v1_]) ∧ Kd.R k54 54 w' w.heap.size (fun _ => True) v0_ r1 ∧ Kd.S (Kd.slice 3 (Kd.int .i64)) 65 w' w.heap.size (fun _ => True) v1_ r2 ∧ Below w.heap.size w w' := by
 have hu31 := Try.underlying31
 have hu61 := Try.underlying61
 have hu54 := Try.underlying54
 have HB := Aside0.mk (Below.refl w.heap.size w)
 have H : ((impl_Room_free.f k a0_0 a0_1 a0_2).bind fun t323 => (impl_Room_postsOf.l0 k a1 t323 (t323.length : Int) 0 a0_0 a0_1 a0_2 t323 ([] : List (List Int)))) = some (r1, r2) := h
 clear h
 replace H := Option.bind_eq_some_iff.mp H
 obtain ⟨t323, A30, H⟩ := H
 replace H : (impl_Room_postsOf.l0 k a1 t323 (t323.length : Int) 0 a0_0 a0_1 a0_2 t323 ([] : List (List Int))) = some (r1, r2) := H
 have A3 := Aside0.mk A30
 clear A30
 have H' := Aside0.mk H
 clear H
 go_enter Try.func34, Try.ntmps34
 go_wp2_with (first | ((with_reducible refine gate_dst (N := 2) rfl ?_); refine box_event ?hg (N := 2) ?hd (cs := (mixA (Value.int .u16) [.int .i8 a0_0, .int .i8 a0_1] a0_2)) (t := 31) ?hr ?_; (case hd => rfl); (case hg => rfl); (case hr => first | (go_simp; done) | (go_simp; rfl)); intro gb321 hg w4 hbox hb; have n0_ := bst HB hb; have n1_ := Aside0.mk (hbox); have n2_ := gwl HB hg; have n3_ := gwl HB hg; clear HB; have HB := n0_; have BK321 := n1_; have GW321 := n2_; have GE321 := n3_; clear n0_ n1_ n2_ n3_; clear hb hbox hg) | ((with_reducible refine gate_dst (N := 4) rfl ?_); refine box_event ?hg (N := 4) ?hd (cs := #[.slice none 0 0, .slice none 0 0]) (t := 61) ?hr ?_; (case hd => rfl); (case hg => rfl); (case hr => first | (go_simp; done) | (go_simp; rfl)); intro gb322 hg w5 hbox hb; have n0_ := bkb BK321 hb; have n1_ := bst HB hb; have n2_ := Aside0.mk (hbox); have n3_ := gwl HB hg; have n4_ := gwl HB hg; have n5_ := nbl BK321 hg; have n6_ := nbg BK321 hg; clear BK321; clear HB; have BK321 := n0_; have HB := n1_; have BK322 := n2_; have GW322 := n3_; have GE322 := n4_; have NB321_322 := n5_; have NB322_321 := n6_; clear n0_ n1_ n2_ n3_ n4_ n5_ n6_; clear hb hbox hg) | ((with_reducible refine gate_dst (N := 14) rfl ?_); refine wpList_run0 (v := .agg (mixA (Value.int .u16) [.int .i8 a0_0, .int .i8 a0_1] a0_2)) rfl (load_mix_run (P := Try.prog) 31 (.tmp 2) rfl gb321 rfl (show World.rangeAt _ gb321 0 ([.int .i8 a0_0, .int .i8 a0_1] ++ a0_2.l.map (Value.int .u16)) from mix_range (show (World.heap _)[gb321]? = some (.cells (mixA (Value.int .u16) [.int .i8 a0_0, .int .i8 a0_1] a0_2) 31 (0, 0)) from by (with_reducible repeat (first | refine blk_drewN ?_ _ | refine blk_drew ?_ | refine blk_alloc ?_ _)); exact BK321.out)) Try.underlying31 rfl (by kernel_rfl) rfl) ?_) | ((with_reducible refine gate_callee (f := 65) rfl ?_); refine goesL_ (some 15) rfl rfl Try.func65 (by kernel_rfl) rfl #[.agg (mixA (Value.int .u16) [.int .i8 a0_0, .int .i8 a0_1] a0_2)] rfl (by (try simp only [List.map_toArray, List.map_cons, List.map_nil]); first | done | rfl | (simp only [List.length_drop, List.length_take]; rfl)) ?_; (with_reducible refine (impl_Room_free.calls k a0_0 a0_1 a0_2 t323 _ A3.out).mono ?_); rintro e w7 ⟨v324, rfl, ho0, hb⟩; refine ⟨_, rfl, ?_⟩; have n0_ := Aside0.mk (Kd.R_lower ho0 (below_size (by repeat (first | (with_reducible first | exact HB.out | apply below_alloc | apply pw_below_drewN | apply below_drew1 | refine below_set ?_ GE321.out | refine below_set ?_ GE322.out) | exact HB.out)))); have n1_ := bkb BK321 hb; have n2_ := bkb BK322 hb; have n3_ := bst HB hb; clear BK321; clear BK322; clear HB; have HO325 := n0_; have BK321 := n1_; have BK322 := n2_; have HB := n3_; clear n0_ n1_ n2_ n3_; (try clear hb); (try clear hb2); (try clear hk); (try clear hi); (try clear ho0); obtain ⟨Ao8, co8, eo8⟩ := Kd.R_slice HO325.out; subst eo8) | ((with_reducible refine gate_dst (N := 5) rfl ?_); refine box_event ?hg (N := 5) ?hd (cs := #[.slice none 0 0, .slice none 0 0]) (t := 61) ?hr ?_; (case hd => rfl); (case hg => rfl); (case hr => first | (go_simp; done) | (go_simp; rfl)); intro gb326 hg w9 hbox hb; have n0_ := krb HO325 hb; have n1_ := bkb BK321 hb; have n2_ := bkb BK322 hb; have n3_ := bst HB hb; have n4_ := Aside0.mk (hbox); have n5_ := gwl HB hg; have n6_ := gwl HB hg; have n7_ := nbl BK321 hg; have n8_ := nbg BK321 hg; have n9_ := nbl BK322 hg; have n10_ := nbg BK322 hg; clear HO325; clear BK321; clear BK322; clear HB; have HO325 := n0_; have BK321 := n1_; have BK322 := n2_; have HB := n3_; have BK326 := n4_; have GW326 := n5_; have GE326 := n6_; have NB321_326 := n7_; have NB326_321 := n8_; have NB322_326 := n9_; have NB326_322 := n10_; clear n0_ n1_ n2_ n3_ n4_ n5_ n6_ n7_ n8_ n9_ n10_; clear hb hbox hg; have hnb10 := NB326_321.out; have hnc10 := NB321_326.out; have hnb11 := NB326_322.out; have hnc11 := NB322_326.out; have hcz12_0 : w9.cell? ⟨gb326, 0, none⟩ = some (.slice none 0 0) := (blk_cell BK326.out 0).trans rfl; have hcz12_1 : w9.cell? ⟨gb326, 1, none⟩ = some (.slice none 0 0) := (blk_cell BK326.out 1).trans rfl; have hfz12_0 := blk_frozen BK326.out 0; have hfz12_1 := blk_frozen BK326.out 1))
 go_loopg [20] k (fun kq v20 w' => ∃ (x20_1 : Int) (x327001_1 : List (List Int)) (u327001 : Value), v20 = .int .i64 x20_1 ∧ Aside0 (impl_Room_postsOf.l0 kq a1 t323 (t323.length : Int) x20_1 a0_0 a0_1 a0_2 t323 x327001_1 = some (r1, r2)) ∧ Aside0 (kq ≤ k) ∧ Aside0 (Kd.R k54 54 w' w.heap.size (fun _ => True) (.slice Ao8 t323.length co8) t323) ∧ Aside0 (Kd.R k54 54 w' w.heap.size (fun _ => True) (.slice Ao8 t323.length co8) t323) ∧ Aside0 (Kd.S (Kd.slice 3 (Kd.int .i64)) 65 w' w.heap.size (fun _ => True) u327001 x327001_1) ∧ Aside0 (w'.heap[gb321]? = some (.cells (mixA (Value.int .u16) [.int .i8 a0_0, .int .i8 a0_1] a0_2) 31 (0, 0))) ∧ Aside0 (w'.heap[gb322]? = some (.cells #[(.slice none 0 0), (.slice none 0 0)] 61 (0, 0))) ∧ Aside0 (w'.heap[gb326]? = some (.cells #[(.slice Ao8 t323.length co8), u327001] 61 (0, 0))) ∧ Aside0 (Below w.heap.size w w'))
 case atStart => exact ⟨(0), (([] : List (List Int))), (.slice none 0 0), (by first | rfl | (simp; done) | (simp [*]; done)), H', ⟨Nat.le_refl _⟩, ⟨by (with_reducible repeat (first | apply Kd.R_alloc | apply Kd.R_drewN | apply Kd.R_drew)); exact Kd.R_mono (Kd.R_far (p := ⟨gb326, 1, none⟩) (Kd.R_far (p := ⟨gb326, 0, none⟩) (Kd.R_types HO325.out BK326.out (by decide)) (fun _ hk => hk.2) (.slice Ao8 t323.length co8)) (fun _ hk => hk.2) (.slice none 0 0)) (fun _ hk => trivial)⟩, ⟨by (with_reducible repeat (first | apply Kd.R_alloc | apply Kd.R_drewN | apply Kd.R_drew)); exact Kd.R_mono (Kd.R_far (p := ⟨gb326, 1, none⟩) (Kd.R_far (p := ⟨gb326, 0, none⟩) (Kd.R_types HO325.out BK326.out (by decide)) (fun _ hk => hk.2) (.slice Ao8 t323.length co8)) (fun _ hk => hk.2) (.slice none 0 0)) (fun _ hk => trivial)⟩, ⟨by first | exact Kd.S_nil _ _ _ _ _ | exact Kd.N_nil _ _ _ _ _ | exact Kd.V_nil _ _ _ _ _ | exact Kd.Q_nil _ _ _ _ _ | exact Kd.R_nil _ _ _ _ _⟩, ⟨by (with_reducible repeat (first | refine blk_drewN ?_ _ | refine blk_drew ?_ | refine blk_alloc ?_ _)); refine blk_far ?_ NB321_326.out _; (with_reducible repeat (first | refine blk_drewN ?_ _ | refine blk_drew ?_ | refine blk_alloc ?_ _)); refine blk_far ?_ NB321_326.out _; (with_reducible repeat (first | refine blk_drewN ?_ _ | refine blk_drew ?_ | refine blk_alloc ?_ _)); exact BK321.out⟩, ⟨by (with_reducible repeat (first | refine blk_drewN ?_ _ | refine blk_drew ?_ | refine blk_alloc ?_ _)); refine blk_far ?_ NB322_326.out _; (with_reducible repeat (first | refine blk_drewN ?_ _ | refine blk_drew ?_ | refine blk_alloc ?_ _)); refine blk_far ?_ NB322_326.out _; (with_reducible repeat (first | refine blk_drewN ?_ _ | refine blk_drew ?_ | refine blk_alloc ?_ _)); exact BK322.out⟩, ⟨by (with_reducible repeat (first | refine blk_drewN ?_ _ | refine blk_drew ?_ | refine blk_alloc ?_ _)); refine blk_put (cs := #[.slice Ao8 t323.length co8, .slice none 0 0]) ?_ 1 _ rfl; (with_reducible repeat (first | refine blk_drewN ?_ _ | refine blk_drew ?_ | refine blk_alloc ?_ _)); refine blk_put (cs := #[.slice none 0 0, .slice none 0 0]) ?_ 0 _ rfl; (with_reducible repeat (first | refine blk_drewN ?_ _ | refine blk_drew ?_ | refine blk_alloc ?_ _)); exact BK326.out⟩, ⟨pbs HB⟩⟩
 case round =>
  clear H'
  try clear c1
  try clear p2
  try clear c3
  try clear c6
  try clear c10
  try clear c11
  try clear hcz12_0
  try clear hcz12_1
  try clear hfz12_0
  try clear hfz12_1
  obtain ⟨x20_1, x327001_1, u327001, rfl, HA, HK1, HO_18, HO_327000, HO_327001, BK321, BK322, BK326, HB⟩ := hrel
  cases gk with
  | zero => exact absurd HA.out (by simp [impl_Room_postsOf.l0])
  | succ k1 =>
   have H := HA.out
   clear HA
   simp only [impl_Room_postsOf.l0] at H
   by_cases c13 : x20_1 < (t323.length : Int)
   ·rw [if_pos c13] at H
    have c13b0 : decide (x20_1 < (t323.length : Int)) = true := decide_eq_true c13
    clear c13
    by_cases c14 : 0 ≤ x20_1
    ·rw [if_pos c14] at H
     have c14b0 : decide (0 ≤ x20_1) = true := decide_eq_true c14
     clear c14
     by_cases c15 : x20_1 < (t323.length : Int)
     ·rw [if_pos c15] at H
      have c15b0 : decide (x20_1 < (t323.length : Int)) = true := decide_eq_true c15
      clear c15
      replace H := Option.bind_eq_some_iff.mp H
      obtain ⟨t329, A160, H⟩ := H
      replace H : (impl_Room_postsOf.l1 k1 a1 (([] : List Int)) t323 (t323.length : Int) x20_1 t323 (t323.length : Int) 0 a0_0 a0_1 a0_2 t323 x327001_1 t329) = some (r1, r2) := H
      have A16 := Aside0.mk A160
      clear A160
      obtain ⟨y331, hy331⟩ : ∃ y_ : List Int, y_ = (([] : List Int)) := ⟨_, rfl⟩
      replace H : (impl_Room_postsOf.l1 k1 a1 y331 t323 (t323.length : Int) x20_1 t323 (t323.length : Int) 0 a0_0 a0_1 a0_2 t323 x327001_1 t329) = some (r1, r2) := by first | (rw [hy331]; with_reducible exact H) | (have H2_ := (Option.bind_some _ _).symm.trans H; rw [hy331]; with_reducible exact H2_) | (have H2_ := (Option.bind_some _ _).symm.trans H; with_reducible exact H2_) | with_reducible exact H | (rw [hy331]; exact H) | exact H
      have Ny331 := Aside0.mk hy331
      clear hy331
      have H' := Aside0.mk H
      clear H
      have p327 : 0 ≤ (x20_1 : Int) := of_decide_eq_true (by first | (with_reducible assumption) | assumption)
      have q327 : x20_1 < (t323.length : Int) := of_decide_eq_true (by first | (with_reducible assumption) | assumption)
      obtain ⟨ad327, e327, hx327_0, hx327_1⟩ := at_T54 (Kd.R_reads' HO_18.out).2.2 x20_1 p327 q327
      cases e327
      replace p327 := eq_true p327
      replace q327 := eq_true q327
      go_wp2_with (first | ((with_reducible refine gate_dst (N := 7) rfl ?_); refine box_event ?hg (N := 7) ?hd (cs := #[.int .i8 0, .int .i8 0]) (t := 54) ?hr ?_; (case hd => rfl); (case hg => rfl); (case hr => first | (go_simp; done) | (go_simp; rfl)); intro gb328 hg w17 hbox hb; have n0_ := Aside0.mk (Kd.R_below (Kd.R_elderB (by (with_reducible repeat (first | apply Kd.R_alloc | apply Kd.R_drewN | apply Kd.R_drew)); exact HO_18.out) gb328 (Nat.le_of_eq hg.symm)) hb); have n1_ := Aside0.mk (Kd.R_below (Kd.R_elderB (by (with_reducible repeat (first | apply Kd.R_alloc | apply Kd.R_drewN | apply Kd.R_drew)); exact HO_327000.out) gb328 (Nat.le_of_eq hg.symm)) hb); have n2_ := Aside0.mk (Kd.S_below (by (with_reducible repeat (first | apply Kd.S_alloc | apply Kd.S_drewN | apply Kd.S_drew)); exact HO_327001.out) hb); have n3_ := bkb BK321 hb; have n4_ := bkb BK322 hb; have n5_ := bkb BK326 hb; have n6_ := bst HB hb; have n7_ := Aside0.mk (hbox); have n8_ := gwl HB hg; have n9_ := gwl HB hg; have n10_ := nbl BK321 hg; have n11_ := nbg BK321 hg; have n12_ := nbl BK322 hg; have n13_ := nbg BK322 hg; have n14_ := nbl BK326 hg; have n15_ := nbg BK326 hg; clear HO_18; clear HO_327000; clear HO_327001; clear BK321; clear BK322; clear BK326; clear HB; have HO_18 := n0_; have HO_327000 := n1_; have HO_327001 := n2_; have BK321 := n3_; have BK322 := n4_; have BK326 := n5_; have HB := n6_; have BK328 := n7_; have GW328 := n8_; have GE328 := n9_; have NB321_328 := n10_; have NB328_321 := n11_; have NB322_328 := n12_; have NB328_322 := n13_; have NB326_328 := n14_; have NB328_326 := n15_; clear n0_ n1_ n2_ n3_ n4_ n5_ n6_ n7_ n8_ n9_ n10_ n11_ n12_ n13_ n14_ n15_; clear hb hbox hg; have hnb18 := NB328_321.out; have hnc18 := NB321_328.out; have hnb19 := NB328_322.out; have hnc19 := NB322_328.out; have hnb20 := NB328_326.out; have hnc20 := NB326_328.out; have hcz21_0 : w17.cell? ⟨gb328, 0, none⟩ = some (.int .i8 0) := (blk_cell BK328.out 0).trans rfl; have hcz21_1 : w17.cell? ⟨gb328, 1, none⟩ = some (.int .i8 0) := (blk_cell BK328.out 1).trans rfl; have hfz21_0 := blk_frozen BK328.out 0; have hfz21_1 := blk_frozen BK328.out 1) | ((with_reducible refine gate_dst (N := 24) rfl ?_); refine wpList_run0 (v := .agg (mixA (Value.int .u16) [.int .i8 a0_0, .int .i8 a0_1] a0_2)) rfl (load_mix_run (P := Try.prog) 31 (.tmp 2) rfl gb321 rfl (show World.rangeAt _ gb321 0 ([.int .i8 a0_0, .int .i8 a0_1] ++ a0_2.l.map (Value.int .u16)) from mix_range (show (World.heap _)[gb321]? = some (.cells (mixA (Value.int .u16) [.int .i8 a0_0, .int .i8 a0_1] a0_2) 31 (0, 0)) from by (with_reducible repeat (first | refine blk_drewN ?_ _ | refine blk_drew ?_ | refine blk_alloc ?_ _)); refine blk_far ?_ NB321_328.out _; (with_reducible repeat (first | refine blk_drewN ?_ _ | refine blk_drew ?_ | refine blk_alloc ?_ _)); refine blk_far ?_ NB321_328.out _; (with_reducible repeat (first | refine blk_drewN ?_ _ | refine blk_drew ?_ | refine blk_alloc ?_ _)); exact BK321.out)) Try.underlying31 rfl (by kernel_rfl) rfl) ?_) | ((with_reducible refine gate_callee (f := 52) rfl ?_); refine goesL_ (some 26) rfl rfl Try.func52 (by kernel_rfl) rfl #[.agg (mixA (Value.int .u16) [.int .i8 a0_0, .int .i8 a0_1] a0_2), .agg #[.int .i8 ((rd_T54 t323 x20_1).f0), .int .i8 ((rd_T54 t323 x20_1).f1)]] rfl (by (try simp only [List.map_toArray, List.map_cons, List.map_nil]); first | done | rfl | (simp only [List.length_drop, List.length_take]; rfl)) ?_; (with_reducible refine (impl_Room_steps.calls k1 a0_0 a0_1 a0_2 ((rd_T54 t323 x20_1).f0) ((rd_T54 t323 x20_1).f1) t329 _ A16.out).mono ?_); rintro e w23 ⟨gb330, rfl, hbox, hg, hb⟩; refine ⟨_, rfl, ?_⟩; have n0_ := Aside0.mk (Kd.R_below (by (with_reducible repeat (first | apply Kd.R_alloc | apply Kd.R_drewN | apply Kd.R_drew)); exact (Kd.R_mono (Kd.R_far (p := ⟨gb328, 1, none⟩) (Kd.R_far (p := ⟨gb328, 0, none⟩) (Kd.R_mono HO_18.out (fun k_ hk => (⟨hk, hk.2⟩ : _ ∧ k_ ≠ gb328))) (fun _ hk => hk.2) (.int .i8 ((rd_T54 t323 x20_1).f0))) (fun _ hk => hk.2) (.int .i8 ((rd_T54 t323 x20_1).f1))) (fun _ h_ => h_.1))) hb); have n1_ := Aside0.mk (Kd.R_below (by (with_reducible repeat (first | apply Kd.R_alloc | apply Kd.R_drewN | apply Kd.R_drew)); exact (Kd.R_mono (Kd.R_far (p := ⟨gb328, 1, none⟩) (Kd.R_far (p := ⟨gb328, 0, none⟩) (Kd.R_mono HO_327000.out (fun k_ hk => (⟨hk, hk.2⟩ : _ ∧ k_ ≠ gb328))) (fun _ hk => hk.2) (.int .i8 ((rd_T54 t323 x20_1).f0))) (fun _ hk => hk.2) (.int .i8 ((rd_T54 t323 x20_1).f1))) (fun _ h_ => h_.1))) hb); have n2_ := Aside0.mk (Kd.S_below (by (with_reducible repeat (first | apply Kd.S_alloc | apply Kd.S_drewN | apply Kd.S_drew)); exact (Kd.S_mono (Kd.S_far (p := ⟨gb328, 1, none⟩) (Kd.S_far (p := ⟨gb328, 0, none⟩) (Kd.S_types HO_327001.out BK328.out (by decide)) (fun _ hk => hk.2) (.int .i8 ((rd_T54 t323 x20_1).f0))) (fun _ hk => hk.2) (.int .i8 ((rd_T54 t323 x20_1).f1))) (fun _ h_ => h_.1))) hb); have n3_ := Aside0.mk (blk_below (g := gb321) (o := .cells (mixA (Value.int .u16) [.int .i8 a0_0, .int .i8 a0_1] a0_2) 31 (0, 0)) (by (with_reducible repeat (first | refine blk_drewN ?_ _ | refine blk_drew ?_ | refine blk_alloc ?_ _)); refine blk_far ?_ NB321_328.out _; (with_reducible repeat (first | refine blk_drewN ?_ _ | refine blk_drew ?_ | refine blk_alloc ?_ _)); refine blk_far ?_ NB321_328.out _; (with_reducible repeat (first | refine blk_drewN ?_ _ | refine blk_drew ?_ | refine blk_alloc ?_ _)); exact BK321.out) hb); have n4_ := Aside0.mk (blk_below (g := gb322) (o := .cells #[.slice none 0 0, .slice none 0 0] 61 (0, 0)) (by (with_reducible repeat (first | refine blk_drewN ?_ _ | refine blk_drew ?_ | refine blk_alloc ?_ _)); refine blk_far ?_ NB322_328.out _; (with_reducible repeat (first | refine blk_drewN ?_ _ | refine blk_drew ?_ | refine blk_alloc ?_ _)); refine blk_far ?_ NB322_328.out _; (with_reducible repeat (first | refine blk_drewN ?_ _ | refine blk_drew ?_ | refine blk_alloc ?_ _)); exact BK322.out) hb); have n5_ := Aside0.mk (blk_below (g := gb326) (o := .cells #[.slice (some ad327) t323.length co8, u327001] 61 (0, 0)) (by (with_reducible repeat (first | refine blk_drewN ?_ _ | refine blk_drew ?_ | refine blk_alloc ?_ _)); refine blk_far ?_ NB326_328.out _; (with_reducible repeat (first | refine blk_drewN ?_ _ | refine blk_drew ?_ | refine blk_alloc ?_ _)); refine blk_far ?_ NB326_328.out _; (with_reducible repeat (first | refine blk_drewN ?_ _ | refine blk_drew ?_ | refine blk_alloc ?_ _)); exact BK326.out) hb); have n6_ := Aside0.mk (blk_below (g := gb328) (o := .cells #[.int .i8 ((rd_T54 t323 x20_1).f0), .int .i8 ((rd_T54 t323 x20_1).f1)] 54 (0, 0)) (by (with_reducible repeat (first | refine blk_drewN ?_ _ | refine blk_drew ?_ | refine blk_alloc ?_ _)); refine blk_put (cs := #[.int .i8 ((rd_T54 t323 x20_1).f0), .int .i8 0]) ?_ 1 _ rfl; (with_reducible repeat (first | refine blk_drewN ?_ _ | refine blk_drew ?_ | refine blk_alloc ?_ _)); refine blk_put (cs := #[.int .i8 0, .int .i8 0]) ?_ 0 _ rfl; (with_reducible repeat (first | refine blk_drewN ?_ _ | refine blk_drew ?_ | refine blk_alloc ?_ _)); exact BK328.out) hb); have n7_ := bst HB hb; have n8_ := Aside0.mk (hbox); have n9_ := gwm HB hg; have n10_ := gwm HB hg; have n11_ := Aside0.mk ((Nat.ne_of_lt (Nat.lt_of_lt_of_le (blk_lt (g := gb321) (o := .cells (mixA (Value.int .u16) [.int .i8 a0_0, .int .i8 a0_1] a0_2) 31 (0, 0)) (by (with_reducible repeat (first | refine blk_drewN ?_ _ | refine blk_drew ?_ | refine blk_alloc ?_ _)); refine blk_far ?_ NB321_328.out _; (with_reducible repeat (first | refine blk_drewN ?_ _ | refine blk_drew ?_ | refine blk_alloc ?_ _)); refine blk_far ?_ NB321_328.out _; (with_reducible repeat (first | refine blk_drewN ?_ _ | refine blk_drew ?_ | refine blk_alloc ?_ _)); exact BK321.out)) hg) : gb321 ≠ gb330)); have n12_ := Aside0.mk ((Nat.ne_of_gt (Nat.lt_of_lt_of_le (blk_lt (g := gb321) (o := .cells (mixA (Value.int .u16) [.int .i8 a0_0, .int .i8 a0_1] a0_2) 31 (0, 0)) (by (with_reducible repeat (first | refine blk_drewN ?_ _ | refine blk_drew ?_ | refine blk_alloc ?_ _)); refine blk_far ?_ NB321_328.out _; (with_reducible repeat (first | refine blk_drewN ?_ _ | refine blk_drew ?_ | refine blk_alloc ?_ _)); refine blk_far ?_ NB321_328.out _; (with_reducible repeat (first | refine blk_drewN ?_ _ | refine blk_drew ?_ | refine blk_alloc ?_ _)); exact BK321.out)) hg) : gb330 ≠ gb321)); have n13_ := Aside0.mk ((Nat.ne_of_lt (Nat.lt_of_lt_of_le (blk_lt (g := gb322) (o := .cells #[.slice none 0 0, .slice none 0 0] 61 (0, 0)) (by (with_reducible repeat (first | refine blk_drewN ?_ _ | refine blk_drew ?_ | refine blk_alloc ?_ _)); refine blk_far ?_ NB322_328.out _; (with_reducible repeat (first | refine blk_drewN ?_ _ | refine blk_drew ?_ | refine blk_alloc ?_ _)); refine blk_far ?_ NB322_328.out _; (with_reducible repeat (first | refine blk_drewN ?_ _ | refine blk_drew ?_ | refine blk_alloc ?_ _)); exact BK322.out)) hg) : gb322 ≠ gb330)); have n14_ := Aside0.mk ((Nat.ne_of_gt (Nat.lt_of_lt_of_le (blk_lt (g := gb322) (o := .cells #[.slice none 0 0, .slice none 0 0] 61 (0, 0)) (by (with_reducible repeat (first | refine blk_drewN ?_ _ | refine blk_drew ?_ | refine blk_alloc ?_ _)); refine blk_far ?_ NB322_328.out _; (with_reducible repeat (first | refine blk_drewN ?_ _ | refine blk_drew ?_ | refine blk_alloc ?_ _)); refine blk_far ?_ NB322_328.out _; (with_reducible repeat (first | refine blk_drewN ?_ _ | refine blk_drew ?_ | refine blk_alloc ?_ _)); exact BK322.out)) hg) : gb330 ≠ gb322)); have n15_ := Aside0.mk ((Nat.ne_of_lt (Nat.lt_of_lt_of_le (blk_lt (g := gb326) (o := .cells #[.slice (some ad327) t323.length co8, u327001] 61 (0, 0)) (by (with_reducible repeat (first | refine blk_drewN ?_ _ | refine blk_drew ?_ | refine blk_alloc ?_ _)); refine blk_far ?_ NB326_328.out _; (with_reducible repeat (first | refine blk_drewN ?_ _ | refine blk_drew ?_ | refine blk_alloc ?_ _)); refine blk_far ?_ NB326_328.out _; (with_reducible repeat (first | refine blk_drewN ?_ _ | refine blk_drew ?_ | refine blk_alloc ?_ _)); exact BK326.out)) hg) : gb326 ≠ gb330)); have n16_ := Aside0.mk ((Nat.ne_of_gt (Nat.lt_of_lt_of_le (blk_lt (g := gb326) (o := .cells #[.slice (some ad327) t323.length co8, u327001] 61 (0, 0)) (by (with_reducible repeat (first | refine blk_drewN ?_ _ | refine blk_drew ?_ | refine blk_alloc ?_ _)); refine blk_far ?_ NB326_328.out _; (with_reducible repeat (first | refine blk_drewN ?_ _ | refine blk_drew ?_ | refine blk_alloc ?_ _)); refine blk_far ?_ NB326_328.out _; (with_reducible repeat (first | refine blk_drewN ?_ _ | refine blk_drew ?_ | refine blk_alloc ?_ _)); exact BK326.out)) hg) : gb330 ≠ gb326)); have n17_ := Aside0.mk ((Nat.ne_of_lt (Nat.lt_of_lt_of_le (blk_lt (g := gb328) (o := .cells #[.int .i8 ((rd_T54 t323 x20_1).f0), .int .i8 ((rd_T54 t323 x20_1).f1)] 54 (0, 0)) (by (with_reducible repeat (first | refine blk_drewN ?_ _ | refine blk_drew ?_ | refine blk_alloc ?_ _)); refine blk_put (cs := #[.int .i8 ((rd_T54 t323 x20_1).f0), .int .i8 0]) ?_ 1 _ rfl; (with_reducible repeat (first | refine blk_drewN ?_ _ | refine blk_drew ?_ | refine blk_alloc ?_ _)); refine blk_put (cs := #[.int .i8 0, .int .i8 0]) ?_ 0 _ rfl; (with_reducible repeat (first | refine blk_drewN ?_ _ | refine blk_drew ?_ | refine blk_alloc ?_ _)); exact BK328.out)) hg) : gb328 ≠ gb330)); have n18_ := Aside0.mk ((Nat.ne_of_gt (Nat.lt_of_lt_of_le (blk_lt (g := gb328) (o := .cells #[.int .i8 ((rd_T54 t323 x20_1).f0), .int .i8 ((rd_T54 t323 x20_1).f1)] 54 (0, 0)) (by (with_reducible repeat (first | refine blk_drewN ?_ _ | refine blk_drew ?_ | refine blk_alloc ?_ _)); refine blk_put (cs := #[.int .i8 ((rd_T54 t323 x20_1).f0), .int .i8 0]) ?_ 1 _ rfl; (with_reducible repeat (first | refine blk_drewN ?_ _ | refine blk_drew ?_ | refine blk_alloc ?_ _)); refine blk_put (cs := #[.int .i8 0, .int .i8 0]) ?_ 0 _ rfl; (with_reducible repeat (first | refine blk_drewN ?_ _ | refine blk_drew ?_ | refine blk_alloc ?_ _)); exact BK328.out)) hg) : gb330 ≠ gb328)); clear HO_18; clear HO_327000; clear HO_327001; clear BK321; clear BK322; clear BK326; clear BK328; clear HB; have HO_18 := n0_; have HO_327000 := n1_; have HO_327001 := n2_; have BK321 := n3_; have BK322 := n4_; have BK326 := n5_; have BK328 := n6_; have HB := n7_; have BK330 := n8_; have GW330 := n9_; have GE330 := n10_; have NB321_330 := n11_; have NB330_321 := n12_; have NB322_330 := n13_; have NB330_322 := n14_; have NB326_330 := n15_; have NB330_326 := n16_; have NB328_330 := n17_; have NB330_328 := n18_; clear n0_ n1_ n2_ n3_ n4_ n5_ n6_ n7_ n8_ n9_ n10_ n11_ n12_ n13_ n14_ n15_ n16_ n17_ n18_; (try clear hb); (try clear hbox); (try clear hg)) | ((with_reducible refine gate_dst (N := 27) rfl ?_); refine Kd.R_lit (Kd.int .i64) _ 3 ?hg (N := 27) ?hd (xs := ([] : List Int)) (inner := []) (ok := fun _ => True) (okp := fun _ => True) ?hr ?hp (fun _ hk => hk) trivial (Below.refl _ _) (Nat.le_refl _) (by simp) ?_; (case hd => rfl); (case hg => rfl); (case hr => first | (go_simp; done) | (go_simp; rfl)); (case hp => exact (Reps.none _ _)); intro v332 w24 ho25 hb hg_ hnew_; clear hg_ hnew_; (first | rw [← Ny331.out] at ho25 | (simp only [Int.reduceToNat] at ho25; rw [← Ny331.out] at ho25)); have n0_ := krb HO_18 hb; have n1_ := krb HO_327000 hb; have n2_ := Aside0.mk (Kd.S_elder' (by (with_reducible repeat (first | apply Kd.S_alloc | apply Kd.S_drewN | apply Kd.S_drew)); exact HO_327001.out) (Kd.R_base ho25) hb); have n3_ := Aside0.mk (Kd.R_lower ho25 (below_size (by repeat (first | (with_reducible first | exact HB.out | apply below_alloc | apply pw_below_drewN | apply below_drew1 | refine below_set ?_ GE321.out | refine below_set ?_ GE322.out | refine below_set ?_ GE326.out | refine below_set ?_ GE328.out | refine below_set ?_ GE330.out) | exact HB.out)))); have n4_ := bkb BK321 hb; have n5_ := bkb BK322 hb; have n6_ := bkb BK326 hb; have n7_ := bkb BK328 hb; have n8_ := bkb BK330 hb; have n9_ := bst HB hb; clear HO_18; clear HO_327000; clear HO_327001; clear BK321; clear BK322; clear BK326; clear BK328; clear BK330; clear HB; have HO_18 := n0_; have HO_327000 := n1_; have HO_327001 := n2_; have HO333 := n3_; have BK321 := n4_; have BK322 := n5_; have BK326 := n6_; have BK328 := n7_; have BK330 := n8_; have HB := n9_; clear n0_ n1_ n2_ n3_ n4_ n5_ n6_ n7_ n8_ n9_; clear hb ho25; have hnb26 := NB326_321.out; have hnc26 := NB321_326.out; have hnb27 := NB326_322.out; have hnc27 := NB322_326.out; have hnb28 := NB326_330.out; have hnc28 := NB330_326.out; have hcz29_0 : w24.cell? ⟨gb326, 0, none⟩ = some (.slice (some ad327) t323.length co8) := (blk_cell BK326.out 0).trans rfl; have hcz29_1 : w24.cell? ⟨gb326, 1, none⟩ = some (u327001) := (blk_cell BK326.out 1).trans rfl; have hfz29_0 := blk_frozen BK326.out 0; have hfz29_1 := blk_frozen BK326.out 1))
      go_loopg [9, 31] k1 (fun kq v9 v31 w' => ∃ (x9_2 : List Int) (x31_2 : Int), v31 = .int .i64 x31_2 ∧ Aside0 (impl_Room_postsOf.l1 kq a1 x9_2 t323 (t323.length : Int) x20_1 t323 (t323.length : Int) x31_2 a0_0 a0_1 a0_2 t323 x327001_1 t329 = some (r1, r2)) ∧ Aside0 (kq ≤ k1) ∧ Aside0 (Kd.R (Kd.int .i64) 3 w' w.heap.size (fun _ => True) v9 x9_2) ∧ Aside0 (Kd.R k54 54 w' w.heap.size (fun k_ => k_ ≠ gb328) (.slice (some ad327) t323.length co8) t323) ∧ Aside0 (Kd.R k54 54 w' w.heap.size (fun k_ => k_ ≠ gb328) (.slice (some ad327) t323.length co8) t323) ∧ Aside0 (Kd.R k54 54 w' w.heap.size (fun k_ => k_ ≠ gb328) (.slice (some ad327) t323.length co8) t323) ∧ Aside0 (Kd.S (Kd.slice 3 (Kd.int .i64)) 65 w' w.heap.size (fun k_ => some k_ ≠ (v9 : Value).ownBlock) u327001 x327001_1) ∧ Aside0 (w'.heap[gb321]? = some (.cells (mixA (Value.int .u16) [.int .i8 a0_0, .int .i8 a0_1] a0_2) 31 (0, 0))) ∧ Aside0 (w'.heap[gb322]? = some (.cells #[(.slice none 0 0), (.slice none 0 0)] 61 (0, 0))) ∧ Aside0 (w'.heap[gb326]? = some (.cells #[(.slice (some ad327) t323.length co8), u327001] 61 (0, 0))) ∧ Aside0 (w'.heap[gb328]? = some (.cells #[.int .i8 ((rd_T54 t323 x20_1).f0), .int .i8 ((rd_T54 t323 x20_1).f1)] 54 (0, 0))) ∧ Aside0 (w'.heap[gb330]? = some (obM t329)) ∧ Aside0 (Below w.heap.size w w'))
      case atStart => exact ⟨(y331), (0), (by first | rfl | (simp; done) | (simp [*]; done)), H', ⟨Nat.le_refl _⟩, ⟨by (with_reducible repeat (first | apply Kd.R_alloc | apply Kd.R_drewN | apply Kd.R_drew)); exact HO333.out⟩, ⟨by (with_reducible repeat (first | apply Kd.R_alloc | apply Kd.R_drewN | apply Kd.R_drew)); exact Kd.R_mono HO_18.out (fun _ hk => hk.2)⟩, ⟨by (with_reducible repeat (first | apply Kd.R_alloc | apply Kd.R_drewN | apply Kd.R_drew)); exact Kd.R_mono HO_327000.out (fun _ hk => hk.2)⟩, ⟨by (with_reducible repeat (first | apply Kd.R_alloc | apply Kd.R_drewN | apply Kd.R_drew)); exact Kd.R_mono HO_327000.out (fun _ hk => hk.2)⟩, ⟨by (with_reducible repeat (first | apply Kd.S_alloc | apply Kd.S_drewN | apply Kd.S_drew)); exact Kd.S_mono HO_327001.out (fun _ hk => hk.2)⟩, ⟨pk BK321⟩, ⟨pk BK322⟩, ⟨pk BK326⟩, ⟨pk BK328⟩, ⟨pk BK330⟩, ⟨pbs HB⟩⟩
      case round =>
       clear H'
       try clear c1
       try clear c2
       try clear p2
       try clear c3
       try clear p3
       try clear q3
       try clear hx3
       try clear c5
       try clear c6
       try clear c10
       try clear c11
       try clear c13
       try clear c13b0
       try clear c14
       try clear c14b0
       try clear c15
       try clear c15b0
       try clear c18
       try clear c19
       try clear c20
       try clear c26
       try clear c27
       try clear c28
       try clear hcz12_0
       try clear hcz12_1
       try clear hcz21_0
       try clear hcz21_1
       try clear hcz29_0
       try clear hcz29_1
       try clear hfz12_0
       try clear hfz12_1
       try clear hfz21_0
       try clear hfz21_1
       try clear hfz29_0
       try clear hfz29_1
       try clear hx327_0
       try clear hx327_1
       try clear p2
       try clear p327
       try clear q327
       obtain ⟨x9_2, x31_2, rfl, HA, HK2, HO_9, HO_18, HO_29, HO_327000, HO_327001, BK321, BK322, BK326, BK328, BK330, HB⟩ := hrel
       cases gk with
       | zero => exact absurd HA.out (by simp [impl_Room_postsOf.l1])
       | succ k2 =>
        have H := HA.out
        clear HA
        simp only [impl_Room_postsOf.l1] at H
        by_cases c30 : x31_2 < (t323.length : Int)
        ·rw [if_pos c30] at H
         have c30b0 : decide (x31_2 < (t323.length : Int)) = true := decide_eq_true c30
         clear c30
         by_cases c31 : 0 ≤ x31_2
         ·rw [if_pos c31] at H
          have c31b0 : decide (0 ≤ x31_2) = true := decide_eq_true c31
          clear c31
          by_cases c32 : x31_2 < (t323.length : Int)
          ·rw [if_pos c32] at H
           have c32b0 : decide (x31_2 < (t323.length : Int)) = true := decide_eq_true c32
           clear c32
           by_cases c33 : mhas t329 ((rd_T54 t323 x31_2).f0) ((rd_T54 t323 x31_2).f1) = true
           ·rw [if_pos c33] at H
            have c33b0 : mhas t329 ((rd_T54 t323 x31_2).f0) ((rd_T54 t323 x31_2).f1) = true := c33
            clear c33
            by_cases c34 : (mval t329 ((rd_T54 t323 x31_2).f0) ((rd_T54 t323 x31_2).f1)) ≤ a1
            ·rw [if_pos c34] at H
             have c34b0 : decide ((mval t329 ((rd_T54 t323 x31_2).f0) ((rd_T54 t323 x31_2).f1)) ≤ a1) = true := decide_eq_true c34
             clear c34
             by_cases c35 : x9_2.length < 17592186044416
             ·rw [if_pos c35] at H
              have LMc35 := Aside0.mk c35
              clear c35
              obtain ⟨y336, hy336⟩ : ∃ y_ : List Int, y_ = (x9_2 ++ [x31_2]) := ⟨_, rfl⟩
              replace H : (impl_Room_postsOf.l1 k2 a1 y336 t323 (t323.length : Int) x20_1 t323 (t323.length : Int) (wrap64 (x31_2 + 1)) a0_0 a0_1 a0_2 t323 x327001_1 t329) = some (r1, r2) := by first | (rw [hy336]; with_reducible exact H) | (have H2_ := (Option.bind_some _ _).symm.trans H; rw [hy336]; with_reducible exact H2_) | (have H2_ := (Option.bind_some _ _).symm.trans H; with_reducible exact H2_) | with_reducible exact H | (rw [hy336]; exact H) | exact H
              have Ny336 := Aside0.mk hy336
              clear hy336
              have H' := Aside0.mk H
              clear H
              have p334 : 0 ≤ (x31_2 : Int) := of_decide_eq_true (by first | (with_reducible assumption) | assumption)
              have q334 : x31_2 < (t323.length : Int) := of_decide_eq_true (by first | (with_reducible assumption) | assumption)
              obtain ⟨ad334, e334, hx334_0, hx334_1⟩ := at_T54 (Kd.R_reads' HO_29.out).2.2 x31_2 p334 q334
              obtain rfl : ad327 = ad334 := (by injection e334)
              replace p334 := eq_true p334
              replace q334 := eq_true q334
              go_wp2_with (first | ((with_reducible refine gate_dst (N := 11) rfl ?_); refine box_event ?hg (N := 11) ?hd (cs := #[.int .i8 0, .int .i8 0]) (t := 54) ?hr ?_; (case hd => rfl); (case hg => rfl); (case hr => first | (go_simp; done) | (go_simp; rfl)); intro gb335 hg w36 hbox hb; have n0_ := krb HO_9 hb; have n1_ := Aside0.mk (Kd.R_below (Kd.R_elderB (by (with_reducible repeat (first | apply Kd.R_alloc | apply Kd.R_drewN | apply Kd.R_drew)); exact HO_18.out) gb335 (Nat.le_of_eq hg.symm)) hb); have n2_ := Aside0.mk (Kd.R_below (Kd.R_elderB (by (with_reducible repeat (first | apply Kd.R_alloc | apply Kd.R_drewN | apply Kd.R_drew)); exact HO_29.out) gb335 (Nat.le_of_eq hg.symm)) hb); have n3_ := Aside0.mk (Kd.R_below (Kd.R_elderB (by (with_reducible repeat (first | apply Kd.R_alloc | apply Kd.R_drewN | apply Kd.R_drew)); exact HO_327000.out) gb335 (Nat.le_of_eq hg.symm)) hb); have n4_ := Aside0.mk (Kd.S_below (by (with_reducible repeat (first | apply Kd.S_alloc | apply Kd.S_drewN | apply Kd.S_drew)); exact HO_327001.out) hb); have n5_ := bkb BK321 hb; have n6_ := bkb BK322 hb; have n7_ := bkb BK326 hb; have n8_ := bkb BK328 hb; have n9_ := bkb BK330 hb; have n10_ := bst HB hb; have n11_ := Aside0.mk (hbox); have n12_ := gwl HB hg; have n13_ := gwl HB hg; have n14_ := nbl BK321 hg; have n15_ := nbg BK321 hg; have n16_ := nbl BK322 hg; have n17_ := nbg BK322 hg; have n18_ := nbl BK326 hg; have n19_ := nbg BK326 hg; have n20_ := nbl BK328 hg; have n21_ := nbg BK328 hg; have n22_ := nbl BK330 hg; have n23_ := nbg BK330 hg; clear HO_9; clear HO_18; clear HO_29; clear HO_327000; clear HO_327001; clear BK321; clear BK322; clear BK326; clear BK328; clear BK330; clear HB; have HO_9 := n0_; have HO_18 := n1_; have HO_29 := n2_; have HO_327000 := n3_; have HO_327001 := n4_; have BK321 := n5_; have BK322 := n6_; have BK326 := n7_; have BK328 := n8_; have BK330 := n9_; have HB := n10_; have BK335 := n11_; have GW335 := n12_; have GE335 := n13_; have NB321_335 := n14_; have NB335_321 := n15_; have NB322_335 := n16_; have NB335_322 := n17_; have NB326_335 := n18_; have NB335_326 := n19_; have NB328_335 := n20_; have NB335_328 := n21_; have NB330_335 := n22_; have NB335_330 := n23_; clear n0_ n1_ n2_ n3_ n4_ n5_ n6_ n7_ n8_ n9_ n10_ n11_ n12_ n13_ n14_ n15_ n16_ n17_ n18_ n19_ n20_ n21_ n22_ n23_; clear hb hbox hg; have hnb37 := NB335_321.out; have hnc37 := NB321_335.out; have hnb38 := NB335_322.out; have hnc38 := NB322_335.out; have hnb39 := NB335_326.out; have hnc39 := NB326_335.out; have hnb40 := NB335_328.out; have hnc40 := NB328_335.out; have hnb41 := NB335_330.out; have hnc41 := NB330_335.out; have hcz42_0 : w36.cell? ⟨gb335, 0, none⟩ = some (.int .i8 0) := (blk_cell BK335.out 0).trans rfl; have hcz42_1 : w36.cell? ⟨gb335, 1, none⟩ = some (.int .i8 0) := (blk_cell BK335.out 1).trans rfl; have hfz42_0 := blk_frozen BK335.out 0; have hfz42_1 := blk_frozen BK335.out 1) | ((with_reducible refine gate_dst (N := 39) rfl ?_); refine wpList_run0 (v := .tuple #[.int .i64 (mval t329 ((rd_T54 t323 x31_2).f0) ((rd_T54 t323 x31_2).f1)), .bool (mhas t329 ((rd_T54 t323 x31_2).f0) ((rd_T54 t323 x31_2).f1))]) rfl (look_run1 (.tmp 37) (.tmp 38) rfl gb330 rfl ((rd_T54 t323 x31_2).f0) ((rd_T54 t323 x31_2).f1) rfl t329 (show (World.heap _)[gb330]? = some (obM t329) from (show (World.heap _)[gb330]? = some (obM t329) from by (with_reducible repeat (first | refine blk_drewN ?_ _ | refine blk_drew ?_ | refine blk_alloc ?_ _)); refine blk_farO ?_ NB330_335.out _; (with_reducible repeat (first | refine blk_drewN ?_ _ | refine blk_drew ?_ | refine blk_alloc ?_ _)); refine blk_farO ?_ NB330_335.out _; (with_reducible repeat (first | refine blk_drewN ?_ _ | refine blk_drew ?_ | refine blk_alloc ?_ _)); exact BK330.out))) ?_) | ((with_reducible refine gate_builtin (b := .append) (xs := #[.tmp 48, .tmp 50]) rfl ?_); at_builtin; refine Kd.R_append (Kd.int .i64) (w0 := w) w.heap.size rfl (.tmp 48) (.tmp 50) 65 3 (.int .i64 0) 8 rfl Try.underlying65 info3 rfl (by decide) (by omega) u9 x9_2 x31_2 [.int .i64 x31_2] (fun _ => True) (fun _ => False) rfl (by first | (go_simp; done) | (go_simp; rfl)) ?aP (fun _ hk => hk.elim) ?aF ?aO ?aB ?aS ?aL ?_; (case aP => exact rfl); (case aB => exact (pbs HB)); (case aF => exact (fun _ _ => trivial)); (case aO => exact (by (with_reducible repeat (first | apply Kd.R_alloc | apply Kd.R_drewN | apply Kd.R_drew)); exact Kd.R_mono (Kd.R_far (p := ⟨gb335, 1, none⟩) (Kd.R_far (p := ⟨gb335, 0, none⟩) (Kd.R_types HO_9.out BK335.out (by decide)) (fun _ hk => hk.2) (.int .i8 ((rd_T54 t323 x31_2).f0))) (fun _ hk => hk.2) (.int .i8 ((rd_T54 t323 x31_2).f1))) (fun _ hk => trivial))); (case aS => exact (below_size (by repeat (first | (with_reducible first | exact HB.out | apply below_alloc | apply pw_below_drewN | apply below_drew1 | refine below_set ?_ GE321.out | refine below_set ?_ GE322.out | refine below_set ?_ GE326.out | refine below_set ?_ GE328.out | refine below_set ?_ GE330.out | refine below_set ?_ GE335.out) | exact HB.out)))); (case aL => have := LMc35.out; omega); intro v337 w44 ho hb hg hat; rw [← Ny336.out] at ho; have n0_ := Aside0.mk (Kd.R_over' (by (with_reducible repeat (first | apply Kd.R_alloc | apply Kd.R_drewN | apply Kd.R_drew)); exact (Kd.R_mono (Kd.R_far (p := ⟨gb335, 1, none⟩) (Kd.R_far (p := ⟨gb335, 0, none⟩) (Kd.R_mono HO_18.out (fun k_ hk => (⟨hk, hk.2⟩ : _ ∧ k_ ≠ gb335))) (fun _ hk => hk.2) (.int .i8 ((rd_T54 t323 x31_2).f0))) (fun _ hk => hk.2) (.int .i8 ((rd_T54 t323 x31_2).f1))) (fun _ h_ => h_.1))) (Kd.R_typed (by (with_reducible repeat (first | apply Kd.R_alloc | apply Kd.R_drewN | apply Kd.R_drew)); exact (Kd.R_mono (Kd.R_far (p := ⟨gb335, 1, none⟩) (Kd.R_far (p := ⟨gb335, 0, none⟩) (Kd.R_types HO_9.out BK335.out (by decide)) (fun _ hk => hk.2) (.int .i8 ((rd_T54 t323 x31_2).f0))) (fun _ hk => hk.2) (.int .i8 ((rd_T54 t323 x31_2).f1))) (fun _ h_ => h_.1)))) (by decide) hg); have n1_ := Aside0.mk (Kd.R_over' (by (with_reducible repeat (first | apply Kd.R_alloc | apply Kd.R_drewN | apply Kd.R_drew)); exact (Kd.R_mono (Kd.R_far (p := ⟨gb335, 1, none⟩) (Kd.R_far (p := ⟨gb335, 0, none⟩) (Kd.R_mono HO_29.out (fun k_ hk => (⟨hk, hk.2⟩ : _ ∧ k_ ≠ gb335))) (fun _ hk => hk.2) (.int .i8 ((rd_T54 t323 x31_2).f0))) (fun _ hk => hk.2) (.int .i8 ((rd_T54 t323 x31_2).f1))) (fun _ h_ => h_.1))) (Kd.R_typed (by (with_reducible repeat (first | apply Kd.R_alloc | apply Kd.R_drewN | apply Kd.R_drew)); exact (Kd.R_mono (Kd.R_far (p := ⟨gb335, 1, none⟩) (Kd.R_far (p := ⟨gb335, 0, none⟩) (Kd.R_types HO_9.out BK335.out (by decide)) (fun _ hk => hk.2) (.int .i8 ((rd_T54 t323 x31_2).f0))) (fun _ hk => hk.2) (.int .i8 ((rd_T54 t323 x31_2).f1))) (fun _ h_ => h_.1)))) (by decide) hg); have n2_ := Aside0.mk (Kd.R_over' (by (with_reducible repeat (first | apply Kd.R_alloc | apply Kd.R_drewN | apply Kd.R_drew)); exact (Kd.R_mono (Kd.R_far (p := ⟨gb335, 1, none⟩) (Kd.R_far (p := ⟨gb335, 0, none⟩) (Kd.R_mono HO_327000.out (fun k_ hk => (⟨hk, hk.2⟩ : _ ∧ k_ ≠ gb335))) (fun _ hk => hk.2) (.int .i8 ((rd_T54 t323 x31_2).f0))) (fun _ hk => hk.2) (.int .i8 ((rd_T54 t323 x31_2).f1))) (fun _ h_ => h_.1))) (Kd.R_typed (by (with_reducible repeat (first | apply Kd.R_alloc | apply Kd.R_drewN | apply Kd.R_drew)); exact (Kd.R_mono (Kd.R_far (p := ⟨gb335, 1, none⟩) (Kd.R_far (p := ⟨gb335, 0, none⟩) (Kd.R_types HO_9.out BK335.out (by decide)) (fun _ hk => hk.2) (.int .i8 ((rd_T54 t323 x31_2).f0))) (fun _ hk => hk.2) (.int .i8 ((rd_T54 t323 x31_2).f1))) (fun _ h_ => h_.1)))) (by decide) hg); have n3_ := Aside0.mk (Kd.S_after (ok := (fun _ => True)) (by (with_reducible repeat (first | apply Kd.S_alloc | apply Kd.S_drewN | apply Kd.S_drew)); exact Kd.S_mono (Kd.S_far (p := ⟨gb335, 1, none⟩) (Kd.S_far (p := ⟨gb335, 0, none⟩) (Kd.S_types HO_327001.out BK335.out (by decide)) (fun _ hk => hk.2) (.int .i8 ((rd_T54 t323 x31_2).f0))) (fun _ hk => hk.2) (.int .i8 ((rd_T54 t323 x31_2).f1))) (fun _ hk => ⟨trivial, hk.1⟩)) hg hat); have n4_ := Aside0.mk (blk_grown (g := gb321) (o := .cells (mixA (Value.int .u16) [.int .i8 a0_0, .int .i8 a0_1] a0_2) 31 (0, 0)) (by (with_reducible repeat (first | refine blk_drewN ?_ _ | refine blk_drew ?_ | refine blk_alloc ?_ _)); refine blk_far ?_ NB321_335.out _; (with_reducible repeat (first | refine blk_drewN ?_ _ | refine blk_drew ?_ | refine blk_alloc ?_ _)); refine blk_far ?_ NB321_335.out _; (with_reducible repeat (first | refine blk_drewN ?_ _ | refine blk_drew ?_ | refine blk_alloc ?_ _)); exact BK321.out) hg (Kd.R_ne HO_9.out BK321.out (by decide))); have n5_ := Aside0.mk (blk_grown (g := gb322) (o := .cells #[.slice none 0 0, .slice none 0 0] 61 (0, 0)) (by (with_reducible repeat (first | refine blk_drewN ?_ _ | refine blk_drew ?_ | refine blk_alloc ?_ _)); refine blk_far ?_ NB322_335.out _; (with_reducible repeat (first | refine blk_drewN ?_ _ | refine blk_drew ?_ | refine blk_alloc ?_ _)); refine blk_far ?_ NB322_335.out _; (with_reducible repeat (first | refine blk_drewN ?_ _ | refine blk_drew ?_ | refine blk_alloc ?_ _)); exact BK322.out) hg (Kd.R_ne HO_9.out BK322.out (by decide))); have n6_ := Aside0.mk (blk_grown (g := gb326) (o := .cells #[.slice (some ad327) t323.length co8, u327001] 61 (0, 0)) (by (with_reducible repeat (first | refine blk_drewN ?_ _ | refine blk_drew ?_ | refine blk_alloc ?_ _)); refine blk_far ?_ NB326_335.out _; (with_reducible repeat (first | refine blk_drewN ?_ _ | refine blk_drew ?_ | refine blk_alloc ?_ _)); refine blk_far ?_ NB326_335.out _; (with_reducible repeat (first | refine blk_drewN ?_ _ | refine blk_drew ?_ | refine blk_alloc ?_ _)); exact BK326.out) hg (Kd.R_ne HO_9.out BK326.out (by decide))); have n7_ := Aside0.mk (blk_grown (g := gb328) (o := .cells #[.int .i8 ((rd_T54 t323 x20_1).f0), .int .i8 ((rd_T54 t323 x20_1).f1)] 54 (0, 0)) (by (with_reducible repeat (first | refine blk_drewN ?_ _ | refine blk_drew ?_ | refine blk_alloc ?_ _)); refine blk_far ?_ NB328_335.out _; (with_reducible repeat (first | refine blk_drewN ?_ _ | refine blk_drew ?_ | refine blk_alloc ?_ _)); refine blk_far ?_ NB328_335.out _; (with_reducible repeat (first | refine blk_drewN ?_ _ | refine blk_drew ?_ | refine blk_alloc ?_ _)); exact BK328.out) hg (Kd.R_ne HO_9.out BK328.out (by decide))); have n8_ := Aside0.mk (blk_grown (g := gb330) (o := obM t329) (by (with_reducible repeat (first | refine blk_drewN ?_ _ | refine blk_drew ?_ | refine blk_alloc ?_ _)); refine blk_farO ?_ NB330_335.out _; (with_reducible repeat (first | refine blk_drewN ?_ _ | refine blk_drew ?_ | refine blk_alloc ?_ _)); refine blk_farO ?_ NB330_335.out _; (with_reducible repeat (first | refine blk_drewN ?_ _ | refine blk_drew ?_ | refine blk_alloc ?_ _)); exact BK330.out) hg (Kd.R_neM HO_9.out BK330.out)); have n9_ := Aside0.mk (blk_grown (g := gb335) (o := .cells #[.int .i8 ((rd_T54 t323 x31_2).f0), .int .i8 ((rd_T54 t323 x31_2).f1)] 54 (0, 0)) (by (with_reducible repeat (first | refine blk_drewN ?_ _ | refine blk_drew ?_ | refine blk_alloc ?_ _)); refine blk_put (cs := #[.int .i8 ((rd_T54 t323 x31_2).f0), .int .i8 0]) ?_ 1 _ rfl; (with_reducible repeat (first | refine blk_drewN ?_ _ | refine blk_drew ?_ | refine blk_alloc ?_ _)); refine blk_put (cs := #[.int .i8 0, .int .i8 0]) ?_ 0 _ rfl; (with_reducible repeat (first | refine blk_drewN ?_ _ | refine blk_drew ?_ | refine blk_alloc ?_ _)); exact BK335.out) hg (Kd.R_ne HO_9.out BK335.out (by decide))); have n10_ := Aside0.mk (hb); have n11_ := Aside0.mk (ho); clear HO_18; clear HO_29; clear HO_327000; clear HO_327001; clear BK321; clear BK322; clear BK326; clear BK328; clear BK330; clear BK335; clear HB; clear HO_9; have HO_18 := n0_; have HO_29 := n1_; have HO_327000 := n2_; have HO_327001 := n3_; have BK321 := n4_; have BK322 := n5_; have BK326 := n6_; have BK328 := n7_; have BK330 := n8_; have BK335 := n9_; have HB := n10_; have HO338 := n11_; clear n0_ n1_ n2_ n3_ n4_ n5_ n6_ n7_ n8_ n9_ n10_ n11_; clear ho hb hg hat))
              go_roundg k2
              case measure => have := HK1.out; have := HK2.out; omega
              case rel => exact ⟨(y336), (wrap64 (x31_2 + 1)), (by first | rfl | (simp; done) | (simp [*]; done)), H', ⟨by have := HK1.out; have := HK2.out; omega⟩, ⟨by (with_reducible repeat (first | apply Kd.R_alloc | apply Kd.R_drewN | apply Kd.R_drew)); exact HO338.out⟩, ⟨by (with_reducible repeat (first | apply Kd.R_alloc | apply Kd.R_drewN | apply Kd.R_drew)); exact Kd.R_mono HO_18.out (fun _ hk => hk.1)⟩, ⟨by (with_reducible repeat (first | apply Kd.R_alloc | apply Kd.R_drewN | apply Kd.R_drew)); exact Kd.R_mono HO_29.out (fun _ hk => hk.1)⟩, ⟨by (with_reducible repeat (first | apply Kd.R_alloc | apply Kd.R_drewN | apply Kd.R_drew)); exact Kd.R_mono HO_327000.out (fun _ hk => hk.1)⟩, ⟨by (with_reducible repeat (first | apply Kd.S_alloc | apply Kd.S_drewN | apply Kd.S_drew)); exact Kd.S_mono HO_327001.out (fun _ hk => hk.2)⟩, ⟨pk BK321⟩, ⟨pk BK322⟩, ⟨pk BK326⟩, ⟨pk BK328⟩, ⟨pk BK330⟩, ⟨pbs HB⟩⟩
             ·rw [if_neg c35] at H
              exact absurd H (by simp)
            ·rw [if_neg c34] at H
             have c34b0 : decide ((mval t329 ((rd_T54 t323 x31_2).f0) ((rd_T54 t323 x31_2).f1)) ≤ a1) = false := decide_eq_false c34
             clear c34
             have H' := Aside0.mk H
             clear H
             have p334 : 0 ≤ (x31_2 : Int) := of_decide_eq_true (by first | (with_reducible assumption) | assumption)
             have q334 : x31_2 < (t323.length : Int) := of_decide_eq_true (by first | (with_reducible assumption) | assumption)
             obtain ⟨ad334, e334, hx334_0, hx334_1⟩ := at_T54 (Kd.R_reads' HO_29.out).2.2 x31_2 p334 q334
             obtain rfl : ad327 = ad334 := (by injection e334)
             replace p334 := eq_true p334
             replace q334 := eq_true q334
             go_wp2_with (first | ((with_reducible refine gate_dst (N := 11) rfl ?_); refine box_event ?hg (N := 11) ?hd (cs := #[.int .i8 0, .int .i8 0]) (t := 54) ?hr ?_; (case hd => rfl); (case hg => rfl); (case hr => first | (go_simp; done) | (go_simp; rfl)); intro gb335 hg w45 hbox hb; have n0_ := krb HO_9 hb; have n1_ := Aside0.mk (Kd.R_below (Kd.R_elderB (by (with_reducible repeat (first | apply Kd.R_alloc | apply Kd.R_drewN | apply Kd.R_drew)); exact HO_18.out) gb335 (Nat.le_of_eq hg.symm)) hb); have n2_ := Aside0.mk (Kd.R_below (Kd.R_elderB (by (with_reducible repeat (first | apply Kd.R_alloc | apply Kd.R_drewN | apply Kd.R_drew)); exact HO_29.out) gb335 (Nat.le_of_eq hg.symm)) hb); have n3_ := Aside0.mk (Kd.R_below (Kd.R_elderB (by (with_reducible repeat (first | apply Kd.R_alloc | apply Kd.R_drewN | apply Kd.R_drew)); exact HO_327000.out) gb335 (Nat.le_of_eq hg.symm)) hb); have n4_ := Aside0.mk (Kd.S_below (by (with_reducible repeat (first | apply Kd.S_alloc | apply Kd.S_drewN | apply Kd.S_drew)); exact HO_327001.out) hb); have n5_ := bkb BK321 hb; have n6_ := bkb BK322 hb; have n7_ := bkb BK326 hb; have n8_ := bkb BK328 hb; have n9_ := bkb BK330 hb; have n10_ := bst HB hb; have n11_ := Aside0.mk (hbox); have n12_ := gwl HB hg; have n13_ := gwl HB hg; have n14_ := nbl BK321 hg; have n15_ := nbg BK321 hg; have n16_ := nbl BK322 hg; have n17_ := nbg BK322 hg; have n18_ := nbl BK326 hg; have n19_ := nbg BK326 hg; have n20_ := nbl BK328 hg; have n21_ := nbg BK328 hg; have n22_ := nbl BK330 hg; have n23_ := nbg BK330 hg; clear HO_9; clear HO_18; clear HO_29; clear HO_327000; clear HO_327001; clear BK321; clear BK322; clear BK326; clear BK328; clear BK330; clear HB; have HO_9 := n0_; have HO_18 := n1_; have HO_29 := n2_; have HO_327000 := n3_; have HO_327001 := n4_; have BK321 := n5_; have BK322 := n6_; have BK326 := n7_; have BK328 := n8_; have BK330 := n9_; have HB := n10_; have BK335 := n11_; have GW335 := n12_; have GE335 := n13_; have NB321_335 := n14_; have NB335_321 := n15_; have NB322_335 := n16_; have NB335_322 := n17_; have NB326_335 := n18_; have NB335_326 := n19_; have NB328_335 := n20_; have NB335_328 := n21_; have NB330_335 := n22_; have NB335_330 := n23_; clear n0_ n1_ n2_ n3_ n4_ n5_ n6_ n7_ n8_ n9_ n10_ n11_ n12_ n13_ n14_ n15_ n16_ n17_ n18_ n19_ n20_ n21_ n22_ n23_; clear hb hbox hg; have hnb46 := NB335_321.out; have hnc46 := NB321_335.out; have hnb47 := NB335_322.out; have hnc47 := NB322_335.out; have hnb48 := NB335_326.out; have hnc48 := NB326_335.out; have hnb49 := NB335_328.out; have hnc49 := NB328_335.out; have hnb50 := NB335_330.out; have hnc50 := NB330_335.out; have hcz51_0 : w45.cell? ⟨gb335, 0, none⟩ = some (.int .i8 0) := (blk_cell BK335.out 0).trans rfl; have hcz51_1 : w45.cell? ⟨gb335, 1, none⟩ = some (.int .i8 0) := (blk_cell BK335.out 1).trans rfl; have hfz51_0 := blk_frozen BK335.out 0; have hfz51_1 := blk_frozen BK335.out 1) | ((with_reducible refine gate_dst (N := 39) rfl ?_); refine wpList_run0 (v := .tuple #[.int .i64 (mval t329 ((rd_T54 t323 x31_2).f0) ((rd_T54 t323 x31_2).f1)), .bool (mhas t329 ((rd_T54 t323 x31_2).f0) ((rd_T54 t323 x31_2).f1))]) rfl (look_run1 (.tmp 37) (.tmp 38) rfl gb330 rfl ((rd_T54 t323 x31_2).f0) ((rd_T54 t323 x31_2).f1) rfl t329 (show (World.heap _)[gb330]? = some (obM t329) from (show (World.heap _)[gb330]? = some (obM t329) from by (with_reducible repeat (first | refine blk_drewN ?_ _ | refine blk_drew ?_ | refine blk_alloc ?_ _)); refine blk_farO ?_ NB330_335.out _; (with_reducible repeat (first | refine blk_drewN ?_ _ | refine blk_drew ?_ | refine blk_alloc ?_ _)); refine blk_farO ?_ NB330_335.out _; (with_reducible repeat (first | refine blk_drewN ?_ _ | refine blk_drew ?_ | refine blk_alloc ?_ _)); exact BK330.out))) ?_))
             go_roundg k2
             case measure => have := HK1.out; have := HK2.out; omega
             case rel => exact ⟨(x9_2), (wrap64 (x31_2 + 1)), (by first | rfl | (simp; done) | (simp [*]; done)), H', ⟨by have := HK1.out; have := HK2.out; omega⟩, ⟨by (with_reducible repeat (first | apply Kd.R_alloc | apply Kd.R_drewN | apply Kd.R_drew)); exact Kd.R_mono (Kd.R_far (p := ⟨gb335, 1, none⟩) (Kd.R_far (p := ⟨gb335, 0, none⟩) (Kd.R_types HO_9.out BK335.out (by decide)) (fun _ hk => hk.2) (.int .i8 ((rd_T54 t323 x31_2).f0))) (fun _ hk => hk.2) (.int .i8 ((rd_T54 t323 x31_2).f1))) (fun _ hk => trivial)⟩, ⟨by (with_reducible repeat (first | apply Kd.R_alloc | apply Kd.R_drewN | apply Kd.R_drew)); exact Kd.R_mono (Kd.R_far (p := ⟨gb335, 1, none⟩) (Kd.R_far (p := ⟨gb335, 0, none⟩) (Kd.R_mono HO_18.out (fun k_ hk => (⟨hk, hk.2⟩ : _ ∧ k_ ≠ gb335))) (fun _ hk => hk.2) (.int .i8 ((rd_T54 t323 x31_2).f0))) (fun _ hk => hk.2) (.int .i8 ((rd_T54 t323 x31_2).f1))) (fun _ hk => hk.1.1)⟩, ⟨by (with_reducible repeat (first | apply Kd.R_alloc | apply Kd.R_drewN | apply Kd.R_drew)); exact Kd.R_mono (Kd.R_far (p := ⟨gb335, 1, none⟩) (Kd.R_far (p := ⟨gb335, 0, none⟩) (Kd.R_mono HO_29.out (fun k_ hk => (⟨hk, hk.2⟩ : _ ∧ k_ ≠ gb335))) (fun _ hk => hk.2) (.int .i8 ((rd_T54 t323 x31_2).f0))) (fun _ hk => hk.2) (.int .i8 ((rd_T54 t323 x31_2).f1))) (fun _ hk => hk.1.1)⟩, ⟨by (with_reducible repeat (first | apply Kd.R_alloc | apply Kd.R_drewN | apply Kd.R_drew)); exact Kd.R_mono (Kd.R_far (p := ⟨gb335, 1, none⟩) (Kd.R_far (p := ⟨gb335, 0, none⟩) (Kd.R_mono HO_327000.out (fun k_ hk => (⟨hk, hk.2⟩ : _ ∧ k_ ≠ gb335))) (fun _ hk => hk.2) (.int .i8 ((rd_T54 t323 x31_2).f0))) (fun _ hk => hk.2) (.int .i8 ((rd_T54 t323 x31_2).f1))) (fun _ hk => hk.1.1)⟩, ⟨by (with_reducible repeat (first | apply Kd.S_alloc | apply Kd.S_drewN | apply Kd.S_drew)); exact Kd.S_mono (Kd.S_far (p := ⟨gb335, 1, none⟩) (Kd.S_far (p := ⟨gb335, 0, none⟩) (Kd.S_types HO_327001.out BK335.out (by decide)) (fun _ hk => hk.2) (.int .i8 ((rd_T54 t323 x31_2).f0))) (fun _ hk => hk.2) (.int .i8 ((rd_T54 t323 x31_2).f1))) (fun _ hk => hk.1)⟩, ⟨by (with_reducible repeat (first | refine blk_drewN ?_ _ | refine blk_drew ?_ | refine blk_alloc ?_ _)); refine blk_far ?_ NB321_335.out _; (with_reducible repeat (first | refine blk_drewN ?_ _ | refine blk_drew ?_ | refine blk_alloc ?_ _)); refine blk_far ?_ NB321_335.out _; (with_reducible repeat (first | refine blk_drewN ?_ _ | refine blk_drew ?_ | refine blk_alloc ?_ _)); exact BK321.out⟩, ⟨by (with_reducible repeat (first | refine blk_drewN ?_ _ | refine blk_drew ?_ | refine blk_alloc ?_ _)); refine blk_far ?_ NB322_335.out _; (with_reducible repeat (first | refine blk_drewN ?_ _ | refine blk_drew ?_ | refine blk_alloc ?_ _)); refine blk_far ?_ NB322_335.out _; (with_reducible repeat (first | refine blk_drewN ?_ _ | refine blk_drew ?_ | refine blk_alloc ?_ _)); exact BK322.out⟩, ⟨by (with_reducible repeat (first | refine blk_drewN ?_ _ | refine blk_drew ?_ | refine blk_alloc ?_ _)); refine blk_far ?_ NB326_335.out _; (with_reducible repeat (first | refine blk_drewN ?_ _ | refine blk_drew ?_ | refine blk_alloc ?_ _)); refine blk_far ?_ NB326_335.out _; (with_reducible repeat (first | refine blk_drewN ?_ _ | refine blk_drew ?_ | refine blk_alloc ?_ _)); exact BK326.out⟩, ⟨by (with_reducible repeat (first | refine blk_drewN ?_ _ | refine blk_drew ?_ | refine blk_alloc ?_ _)); refine blk_far ?_ NB328_335.out _; (with_reducible repeat (first | refine blk_drewN ?_ _ | refine blk_drew ?_ | refine blk_alloc ?_ _)); refine blk_far ?_ NB328_335.out _; (with_reducible repeat (first | refine blk_drewN ?_ _ | refine blk_drew ?_ | refine blk_alloc ?_ _)); exact BK328.out⟩, ⟨by (with_reducible repeat (first | refine blk_drewN ?_ _ | refine blk_drew ?_ | refine blk_alloc ?_ _)); refine blk_farO ?_ NB330_335.out _; (with_reducible repeat (first | refine blk_drewN ?_ _ | refine blk_drew ?_ | refine blk_alloc ?_ _)); refine blk_farO ?_ NB330_335.out _; (with_reducible repeat (first | refine blk_drewN ?_ _ | refine blk_drew ?_ | refine blk_alloc ?_ _)); exact BK330.out⟩, ⟨pbs HB⟩⟩
           ·rw [if_neg c33] at H
            have c33b0 : mhas t329 ((rd_T54 t323 x31_2).f0) ((rd_T54 t323 x31_2).f1) = false := by simpa using c33
            clear c33
            have H' := Aside0.mk H
            clear H
            have p334 : 0 ≤ (x31_2 : Int) := of_decide_eq_true (by first | (with_reducible assumption) | assumption)
            have q334 : x31_2 < (t323.length : Int) := of_decide_eq_true (by first | (with_reducible assumption) | assumption)
            obtain ⟨ad334, e334, hx334_0, hx334_1⟩ := at_T54 (Kd.R_reads' HO_29.out).2.2 x31_2 p334 q334
            obtain rfl : ad327 = ad334 := (by injection e334)
            replace p334 := eq_true p334
            replace q334 := eq_true q334
            go_wp2_with (first | ((with_reducible refine gate_dst (N := 11) rfl ?_); refine box_event ?hg (N := 11) ?hd (cs := #[.int .i8 0, .int .i8 0]) (t := 54) ?hr ?_; (case hd => rfl); (case hg => rfl); (case hr => first | (go_simp; done) | (go_simp; rfl)); intro gb335 hg w53 hbox hb; have n0_ := krb HO_9 hb; have n1_ := Aside0.mk (Kd.R_below (Kd.R_elderB (by (with_reducible repeat (first | apply Kd.R_alloc | apply Kd.R_drewN | apply Kd.R_drew)); exact HO_18.out) gb335 (Nat.le_of_eq hg.symm)) hb); have n2_ := Aside0.mk (Kd.R_below (Kd.R_elderB (by (with_reducible repeat (first | apply Kd.R_alloc | apply Kd.R_drewN | apply Kd.R_drew)); exact HO_29.out) gb335 (Nat.le_of_eq hg.symm)) hb); have n3_ := Aside0.mk (Kd.R_below (Kd.R_elderB (by (with_reducible repeat (first | apply Kd.R_alloc | apply Kd.R_drewN | apply Kd.R_drew)); exact HO_327000.out) gb335 (Nat.le_of_eq hg.symm)) hb); have n4_ := Aside0.mk (Kd.S_below (by (with_reducible repeat (first | apply Kd.S_alloc | apply Kd.S_drewN | apply Kd.S_drew)); exact HO_327001.out) hb); have n5_ := bkb BK321 hb; have n6_ := bkb BK322 hb; have n7_ := bkb BK326 hb; have n8_ := bkb BK328 hb; have n9_ := bkb BK330 hb; have n10_ := bst HB hb; have n11_ := Aside0.mk (hbox); have n12_ := gwl HB hg; have n13_ := gwl HB hg; have n14_ := nbl BK321 hg; have n15_ := nbg BK321 hg; have n16_ := nbl BK322 hg; have n17_ := nbg BK322 hg; have n18_ := nbl BK326 hg; have n19_ := nbg BK326 hg; have n20_ := nbl BK328 hg; have n21_ := nbg BK328 hg; have n22_ := nbl BK330 hg; have n23_ := nbg BK330 hg; clear HO_9; clear HO_18; clear HO_29; clear HO_327000; clear HO_327001; clear BK321; clear BK322; clear BK326; clear BK328; clear BK330; clear HB; have HO_9 := n0_; have HO_18 := n1_; have HO_29 := n2_; have HO_327000 := n3_; have HO_327001 := n4_; have BK321 := n5_; have BK322 := n6_; have BK326 := n7_; have BK328 := n8_; have BK330 := n9_; have HB := n10_; have BK335 := n11_; have GW335 := n12_; have GE335 := n13_; have NB321_335 := n14_; have NB335_321 := n15_; have NB322_335 := n16_; have NB335_322 := n17_; have NB326_335 := n18_; have NB335_326 := n19_; have NB328_335 := n20_; have NB335_328 := n21_; have NB330_335 := n22_; have NB335_330 := n23_; clear n0_ n1_ n2_ n3_ n4_ n5_ n6_ n7_ n8_ n9_ n10_ n11_ n12_ n13_ n14_ n15_ n16_ n17_ n18_ n19_ n20_ n21_ n22_ n23_; clear hb hbox hg; have hnb54 := NB335_321.out; have hnc54 := NB321_335.out; have hnb55 := NB335_322.out; have hnc55 := NB322_335.out; have hnb56 := NB335_326.out; have hnc56 := NB326_335.out; have hnb57 := NB335_328.out; have hnc57 := NB328_335.out; have hnb58 := NB335_330.out; have hnc58 := NB330_335.out; have hcz59_0 : w53.cell? ⟨gb335, 0, none⟩ = some (.int .i8 0) := (blk_cell BK335.out 0).trans rfl; have hcz59_1 : w53.cell? ⟨gb335, 1, none⟩ = some (.int .i8 0) := (blk_cell BK335.out 1).trans rfl; have hfz59_0 := blk_frozen BK335.out 0; have hfz59_1 := blk_frozen BK335.out 1) | ((with_reducible refine gate_dst (N := 39) rfl ?_); refine wpList_run0 (v := .tuple #[.int .i64 (mval t329 ((rd_T54 t323 x31_2).f0) ((rd_T54 t323 x31_2).f1)), .bool (mhas t329 ((rd_T54 t323 x31_2).f0) ((rd_T54 t323 x31_2).f1))]) rfl (look_run1 (.tmp 37) (.tmp 38) rfl gb330 rfl ((rd_T54 t323 x31_2).f0) ((rd_T54 t323 x31_2).f1) rfl t329 (show (World.heap _)[gb330]? = some (obM t329) from (show (World.heap _)[gb330]? = some (obM t329) from by (with_reducible repeat (first | refine blk_drewN ?_ _ | refine blk_drew ?_ | refine blk_alloc ?_ _)); refine blk_farO ?_ NB330_335.out _; (with_reducible repeat (first | refine blk_drewN ?_ _ | refine blk_drew ?_ | refine blk_alloc ?_ _)); refine blk_farO ?_ NB330_335.out _; (with_reducible repeat (first | refine blk_drewN ?_ _ | refine blk_drew ?_ | refine blk_alloc ?_ _)); exact BK330.out))) ?_))
            go_roundg k2
            case measure => have := HK1.out; have := HK2.out; omega
            case rel => exact ⟨(x9_2), (wrap64 (x31_2 + 1)), (by first | rfl | (simp; done) | (simp [*]; done)), H', ⟨by have := HK1.out; have := HK2.out; omega⟩, ⟨by (with_reducible repeat (first | apply Kd.R_alloc | apply Kd.R_drewN | apply Kd.R_drew)); exact Kd.R_mono (Kd.R_far (p := ⟨gb335, 1, none⟩) (Kd.R_far (p := ⟨gb335, 0, none⟩) (Kd.R_types HO_9.out BK335.out (by decide)) (fun _ hk => hk.2) (.int .i8 ((rd_T54 t323 x31_2).f0))) (fun _ hk => hk.2) (.int .i8 ((rd_T54 t323 x31_2).f1))) (fun _ hk => trivial)⟩, ⟨by (with_reducible repeat (first | apply Kd.R_alloc | apply Kd.R_drewN | apply Kd.R_drew)); exact Kd.R_mono (Kd.R_far (p := ⟨gb335, 1, none⟩) (Kd.R_far (p := ⟨gb335, 0, none⟩) (Kd.R_mono HO_18.out (fun k_ hk => (⟨hk, hk.2⟩ : _ ∧ k_ ≠ gb335))) (fun _ hk => hk.2) (.int .i8 ((rd_T54 t323 x31_2).f0))) (fun _ hk => hk.2) (.int .i8 ((rd_T54 t323 x31_2).f1))) (fun _ hk => hk.1.1)⟩, ⟨by (with_reducible repeat (first | apply Kd.R_alloc | apply Kd.R_drewN | apply Kd.R_drew)); exact Kd.R_mono (Kd.R_far (p := ⟨gb335, 1, none⟩) (Kd.R_far (p := ⟨gb335, 0, none⟩) (Kd.R_mono HO_29.out (fun k_ hk => (⟨hk, hk.2⟩ : _ ∧ k_ ≠ gb335))) (fun _ hk => hk.2) (.int .i8 ((rd_T54 t323 x31_2).f0))) (fun _ hk => hk.2) (.int .i8 ((rd_T54 t323 x31_2).f1))) (fun _ hk => hk.1.1)⟩, ⟨by (with_reducible repeat (first | apply Kd.R_alloc | apply Kd.R_drewN | apply Kd.R_drew)); exact Kd.R_mono (Kd.R_far (p := ⟨gb335, 1, none⟩) (Kd.R_far (p := ⟨gb335, 0, none⟩) (Kd.R_mono HO_327000.out (fun k_ hk => (⟨hk, hk.2⟩ : _ ∧ k_ ≠ gb335))) (fun _ hk => hk.2) (.int .i8 ((rd_T54 t323 x31_2).f0))) (fun _ hk => hk.2) (.int .i8 ((rd_T54 t323 x31_2).f1))) (fun _ hk => hk.1.1)⟩, ⟨by (with_reducible repeat (first | apply Kd.S_alloc | apply Kd.S_drewN | apply Kd.S_drew)); exact Kd.S_mono (Kd.S_far (p := ⟨gb335, 1, none⟩) (Kd.S_far (p := ⟨gb335, 0, none⟩) (Kd.S_types HO_327001.out BK335.out (by decide)) (fun _ hk => hk.2) (.int .i8 ((rd_T54 t323 x31_2).f0))) (fun _ hk => hk.2) (.int .i8 ((rd_T54 t323 x31_2).f1))) (fun _ hk => hk.1)⟩, ⟨by (with_reducible repeat (first | refine blk_drewN ?_ _ | refine blk_drew ?_ | refine blk_alloc ?_ _)); refine blk_far ?_ NB321_335.out _; (with_reducible repeat (first | refine blk_drewN ?_ _ | refine blk_drew ?_ | refine blk_alloc ?_ _)); refine blk_far ?_ NB321_335.out _; (with_reducible repeat (first | refine blk_drewN ?_ _ | refine blk_drew ?_ | refine blk_alloc ?_ _)); exact BK321.out⟩, ⟨by (with_reducible repeat (first | refine blk_drewN ?_ _ | refine blk_drew ?_ | refine blk_alloc ?_ _)); refine blk_far ?_ NB322_335.out _; (with_reducible repeat (first | refine blk_drewN ?_ _ | refine blk_drew ?_ | refine blk_alloc ?_ _)); refine blk_far ?_ NB322_335.out _; (with_reducible repeat (first | refine blk_drewN ?_ _ | refine blk_drew ?_ | refine blk_alloc ?_ _)); exact BK322.out⟩, ⟨by (with_reducible repeat (first | refine blk_drewN ?_ _ | refine blk_drew ?_ | refine blk_alloc ?_ _)); refine blk_far ?_ NB326_335.out _; (with_reducible repeat (first | refine blk_drewN ?_ _ | refine blk_drew ?_ | refine blk_alloc ?_ _)); refine blk_far ?_ NB326_335.out _; (with_reducible repeat (first | refine blk_drewN ?_ _ | refine blk_drew ?_ | refine blk_alloc ?_ _)); exact BK326.out⟩, ⟨by (with_reducible repeat (first | refine blk_drewN ?_ _ | refine blk_drew ?_ | refine blk_alloc ?_ _)); refine blk_far ?_ NB328_335.out _; (with_reducible repeat (first | refine blk_drewN ?_ _ | refine blk_drew ?_ | refine blk_alloc ?_ _)); refine blk_far ?_ NB328_335.out _; (with_reducible repeat (first | refine blk_drewN ?_ _ | refine blk_drew ?_ | refine blk_alloc ?_ _)); exact BK328.out⟩, ⟨by (with_reducible repeat (first | refine blk_drewN ?_ _ | refine blk_drew ?_ | refine blk_alloc ?_ _)); refine blk_farO ?_ NB330_335.out _; (with_reducible repeat (first | refine blk_drewN ?_ _ | refine blk_drew ?_ | refine blk_alloc ?_ _)); refine blk_farO ?_ NB330_335.out _; (with_reducible repeat (first | refine blk_drewN ?_ _ | refine blk_drew ?_ | refine blk_alloc ?_ _)); exact BK330.out⟩, ⟨pbs HB⟩⟩
          ·rw [if_neg c32] at H
           exact absurd H (by simp)
         ·rw [if_neg c31] at H
          exact absurd H (by simp)
        ·rw [if_neg c30] at H
         have c30b0 : decide (x31_2 < (t323.length : Int)) = false := decide_eq_false c30
         clear c30
         by_cases c61 : x327001_1.length < 5864062014805
         ·rw [if_pos c61] at H
          have LMc61 := Aside0.mk c61
          clear c61
          obtain ⟨y339, hy339⟩ : ∃ y_ : List (List Int), y_ = (x327001_1 ++ [x9_2]) := ⟨_, rfl⟩
          replace H : (impl_Room_postsOf.l0 k2 a1 t323 (t323.length : Int) (wrap64 (x20_1 + 1)) a0_0 a0_1 a0_2 t323 y339) = some (r1, r2) := by first | (rw [hy339]; with_reducible exact H) | (have H2_ := (Option.bind_some _ _).symm.trans H; rw [hy339]; with_reducible exact H2_) | (have H2_ := (Option.bind_some _ _).symm.trans H; with_reducible exact H2_) | with_reducible exact H | (rw [hy339]; exact H) | exact H
          have Ny339 := Aside0.mk hy339
          clear hy339
          have H' := Aside0.mk H
          clear H
          have hnb62 := NB326_321.out
          have hnc62 := NB321_326.out
          have hnb63 := NB326_322.out
          have hnc63 := NB322_326.out
          have hnb64 := NB326_328.out
          have hnc64 := NB328_326.out
          have hnb65 := NB326_330.out
          have hnc65 := NB330_326.out
          have hcz66_0 : wr.cell? ⟨gb326, 0, none⟩ = some (.slice (some ad327) t323.length co8) := bc_ BK326.out 0
          have hcz66_1 : wr.cell? ⟨gb326, 1, none⟩ = some (u327001) := bc_ BK326.out 1
          have hfz66_0 := blk_frozen BK326.out 0
          have hfz66_1 := blk_frozen BK326.out 1
          obtain ⟨Ao68, co68, eo68⟩ := Kd.R_slice HO_9.out
          subst eo68
          go_wp2_with (first | ((with_reducible refine gate_builtin (b := .append) (xs := #[.tmp 54, .tmp 56]) rfl ?_); at_builtin; refine Kd.S_append (Kd.slice 3 (Kd.int .i64)) (w0 := w) w.heap.size rfl (.tmp 54) (.tmp 56) 59 65 (.slice none 0 0) 24 rfl Try.underlying59 info65 rfl (by decide) (by omega) u327001 x327001_1 x9_2 [.slice Ao68 x9_2.length co68] (fun _ => True) (fun k_ => some k_ = (.slice Ao68 x9_2.length co68 : Value).ownBlock) rfl rfl ?aP (fun k_ hk_ => ((Kd.R_mono (ok' := fun k_ => ((fun _ => True)) k_ ∧ some k_ ≠ (u327001 : Value).ownBlock) (Kd.R_apart' (HO_9.out) (Kd.S_typed HO_327001.out) (by decide)) (fun k_ hk => ⟨trivial, hk.2⟩))).1 k_ hk_.symm) ?aF ?aO ?aB ?aS ?aL ?_; (case aP => exact Kd.M_row (Kd.R_mono (Kd.R_tight rfl (Kd.R_mono (ok' := fun k_ => ((fun _ => True)) k_ ∧ some k_ ≠ (u327001 : Value).ownBlock) (Kd.R_apart' (HO_9.out) (Kd.S_typed HO_327001.out) (by decide)) (fun k_ hk => ⟨trivial, hk.2⟩))) (fun _ h_ => h_))); (case aB => exact (pbs HB)); (case aF => exact (fun _ _ => trivial)); (case aO => exact (by (with_reducible repeat (first | apply Kd.S_alloc | apply Kd.S_drewN | apply Kd.S_drew)); exact Kd.S_mono HO_327001.out (fun k_ hk => ⟨trivial, fun e_ => hk e_⟩))); (case aS => exact (below_size (by repeat (first | (with_reducible first | exact HB.out | apply below_alloc | apply pw_below_drewN | apply below_drew1 | refine below_set ?_ GE321.out | refine below_set ?_ GE322.out | refine below_set ?_ GE326.out | refine below_set ?_ GE328.out | refine below_set ?_ GE330.out) | exact HB.out)))); (case aL => have := LMc61.out; omega); intro v340 w67 ho hb hg hat; rw [← Ny339.out] at ho; have n0_ := Aside0.mk (Kd.R_over' (by (with_reducible repeat (first | apply Kd.R_alloc | apply Kd.R_drewN | apply Kd.R_drew)); exact HO_18.out) (Kd.S_typed (by (with_reducible repeat (first | apply Kd.S_alloc | apply Kd.S_drewN | apply Kd.S_drew)); exact HO_327001.out)) (by decide) hg); have n1_ := Aside0.mk (Kd.R_over' (by (with_reducible repeat (first | apply Kd.R_alloc | apply Kd.R_drewN | apply Kd.R_drew)); exact HO_29.out) (Kd.S_typed (by (with_reducible repeat (first | apply Kd.S_alloc | apply Kd.S_drewN | apply Kd.S_drew)); exact HO_327001.out)) (by decide) hg); have n2_ := Aside0.mk (Kd.R_over' (by (with_reducible repeat (first | apply Kd.R_alloc | apply Kd.R_drewN | apply Kd.R_drew)); exact HO_327000.out) (Kd.S_typed (by (with_reducible repeat (first | apply Kd.S_alloc | apply Kd.S_drewN | apply Kd.S_drew)); exact HO_327001.out)) (by decide) hg); have n3_ := Aside0.mk (blk_grown (g := gb321) (o := .cells (mixA (Value.int .u16) [.int .i8 a0_0, .int .i8 a0_1] a0_2) 31 (0, 0)) (pk BK321) hg (Kd.S_ne HO_327001.out BK321.out (by decide))); have n4_ := Aside0.mk (blk_grown (g := gb322) (o := .cells #[.slice none 0 0, .slice none 0 0] 61 (0, 0)) (pk BK322) hg (Kd.S_ne HO_327001.out BK322.out (by decide))); have n5_ := Aside0.mk (blk_grown (g := gb326) (o := .cells #[.slice (some ad327) t323.length co8, u327001] 61 (0, 0)) (pk BK326) hg (Kd.S_ne HO_327001.out BK326.out (by decide))); have n6_ := Aside0.mk (blk_grown (g := gb328) (o := .cells #[.int .i8 ((rd_T54 t323 x20_1).f0), .int .i8 ((rd_T54 t323 x20_1).f1)] 54 (0, 0)) (pk BK328) hg (Kd.S_ne HO_327001.out BK328.out (by decide))); have n7_ := Aside0.mk (blk_grown (g := gb330) (o := obM t329) (pk BK330) hg (Kd.S_neM HO_327001.out BK330.out)); have n8_ := Aside0.mk (hb); have n9_ := Aside0.mk (ho); clear HO_18; clear HO_29; clear HO_327000; clear BK321; clear BK322; clear BK326; clear BK328; clear BK330; clear HB; clear HO_327001; clear HO_9; have HO_18 := n0_; have HO_29 := n1_; have HO_327000 := n2_; have BK321 := n3_; have BK322 := n4_; have BK326 := n5_; have BK328 := n6_; have BK330 := n7_; have HB := n8_; have HO341 := n9_; clear n0_ n1_ n2_ n3_ n4_ n5_ n6_ n7_ n8_ n9_; clear ho hb hg hat; obtain ⟨Ao69, co69, eo69⟩ := Kd.S_slice HO341.out; subst eo69; have hcz70_0 : w67.cell? ⟨gb326, 0, none⟩ = some (.slice (some ad327) t323.length co8) := (blk_cell BK326.out 0).trans rfl; have hcz70_1 : w67.cell? ⟨gb326, 1, none⟩ = some (u327001) := (blk_cell BK326.out 1).trans rfl; have hfz70_0 := blk_frozen BK326.out 0; have hfz70_1 := blk_frozen BK326.out 1))
          go_roundg k2
          case measure => have := HK1.out; have := HK2.out; omega
          case rel => exact ⟨(wrap64 (x20_1 + 1)), (y339), (.slice Ao69 y339.length co69), (by first | rfl | (simp; done) | (simp [*]; done)), H', ⟨by have := HK1.out; have := HK2.out; omega⟩, ⟨by (with_reducible repeat (first | apply Kd.R_alloc | apply Kd.R_drewN | apply Kd.R_drew)); exact Kd.R_mono (Kd.R_far (p := ⟨gb326, 1, none⟩) (Kd.R_types HO_18.out BK326.out (by decide)) (fun _ hk => hk.2) (.slice Ao69 y339.length co69)) (fun _ hk => trivial)⟩, ⟨by (with_reducible repeat (first | apply Kd.R_alloc | apply Kd.R_drewN | apply Kd.R_drew)); exact Kd.R_mono (Kd.R_far (p := ⟨gb326, 1, none⟩) (Kd.R_types HO_327000.out BK326.out (by decide)) (fun _ hk => hk.2) (.slice Ao69 y339.length co69)) (fun _ hk => trivial)⟩, ⟨by (with_reducible repeat (first | apply Kd.S_alloc | apply Kd.S_drewN | apply Kd.S_drew)); exact Kd.S_mono (Kd.S_far (p := ⟨gb326, 1, none⟩) (Kd.S_types HO341.out BK326.out (by decide)) (fun _ hk => hk.2) (.slice Ao69 y339.length co69)) (fun _ hk => trivial)⟩, ⟨by (with_reducible repeat (first | refine blk_drewN ?_ _ | refine blk_drew ?_ | refine blk_alloc ?_ _)); refine blk_far ?_ NB321_326.out _; (with_reducible repeat (first | refine blk_drewN ?_ _ | refine blk_drew ?_ | refine blk_alloc ?_ _)); exact BK321.out⟩, ⟨by (with_reducible repeat (first | refine blk_drewN ?_ _ | refine blk_drew ?_ | refine blk_alloc ?_ _)); refine blk_far ?_ NB322_326.out _; (with_reducible repeat (first | refine blk_drewN ?_ _ | refine blk_drew ?_ | refine blk_alloc ?_ _)); exact BK322.out⟩, ⟨by (with_reducible repeat (first | refine blk_drewN ?_ _ | refine blk_drew ?_ | refine blk_alloc ?_ _)); refine blk_put (cs := #[.slice (some ad327) t323.length co8, u327001]) ?_ 1 _ rfl; (with_reducible repeat (first | refine blk_drewN ?_ _ | refine blk_drew ?_ | refine blk_alloc ?_ _)); exact BK326.out⟩, ⟨pbs HB⟩⟩
         ·rw [if_neg c61] at H
          exact absurd H (by simp)
     ·rw [if_neg c15] at H
      exact absurd H (by simp)
    ·rw [if_neg c14] at H
     exact absurd H (by simp)
   ·rw [if_neg c13] at H
    have c13b0 : decide (x20_1 < (t323.length : Int)) = false := decide_eq_false c13
    clear c13
    simp only [Option.some.injEq, Prod.mk.injEq] at H
    obtain ⟨rfl, rfl⟩ := H
    have hnb71 := NB326_321.out
    have hnc71 := NB321_326.out
    have hnb72 := NB326_322.out
    have hnc72 := NB322_326.out
    have hcz73_0 : wr.cell? ⟨gb326, 0, none⟩ = some (.slice Ao8 t323.length co8) := bc_ BK326.out 0
    have hcz73_1 : wr.cell? ⟨gb326, 1, none⟩ = some (u327001) := bc_ BK326.out 1
    have hfz73_0 := blk_frozen BK326.out 0
    have hfz73_1 := blk_frozen BK326.out 1
    have hnb74 := NB322_321.out
    have hnc74 := NB321_322.out
    have hcz75_0 : wr.cell? ⟨gb322, 0, none⟩ = some (.slice none 0 0) := bc_ BK322.out 0
    have hcz75_1 : wr.cell? ⟨gb322, 1, none⟩ = some (.slice none 0 0) := bc_ BK322.out 1
    have hfz75_0 := blk_frozen BK322.out 0
    have hfz75_1 := blk_frozen BK322.out 1
    obtain ⟨Ao76, co76, eo76⟩ := Kd.S_slice HO_327001.out
    subst eo76
    go_wp2
    refine bodyPost_ret (results_cell_row rfl _ _ gb322 61 #[.slice Ao8 t323.length co8, .slice Ao76 x327001_1.length co76] (0, 0) _ rfl (by (with_reducible repeat (first | refine blk_drewN ?_ _ | refine blk_drew ?_ | refine blk_alloc ?_ _)); refine blk_put (cs := #[.slice Ao8 t323.length co8, .slice none 0 0]) ?_ 1 _ rfl; (with_reducible repeat (first | refine blk_drewN ?_ _ | refine blk_drew ?_ | refine blk_alloc ?_ _)); refine blk_put (cs := #[.slice none 0 0, .slice none 0 0]) ?_ 0 _ rfl; (with_reducible repeat (first | refine blk_drewN ?_ _ | refine blk_drew ?_ | refine blk_alloc ?_ _)); exact BK322.out) Try.underlying61 rfl (by kernel_rfl)) rfl ?_
    exact ⟨_, _, by first | rfl | (simp [errW_none, errW_some] <;> rfl) | (simp [*, errW_none, errW_some] <;> rfl), by (with_reducible repeat (first | apply Kd.R_alloc | apply Kd.R_drewN | apply Kd.R_drew)); exact Kd.R_mono (Kd.R_far (p := ⟨gb322, 1, none⟩) (Kd.R_far (p := ⟨gb322, 0, none⟩) (Kd.R_types HO_327000.out BK322.out (by decide)) (fun _ hk => hk.2) (.slice Ao8 t323.length co8)) (fun _ hk => hk.2) (.slice Ao76 x327001_1.length co76)) (fun _ hk => trivial), by (with_reducible repeat (first | apply Kd.S_alloc | apply Kd.S_drewN | apply Kd.S_drew)); exact Kd.S_mono (Kd.S_far (p := ⟨gb322, 1, none⟩) (Kd.S_far (p := ⟨gb322, 0, none⟩) (Kd.S_types HO_327001.out BK322.out (by decide)) (fun _ hk => hk.2) (.slice Ao8 t323.length co8)) (fun _ hk => hk.2) (.slice Ao76 x327001_1.length co76)) (fun _ hk => trivial), pbs HB⟩
def bits_Mul32.f (a0 : Int) (a1 : Int) : Option (Int × Int) := some (((IntKind.u64.wrap ((IntKind.u64.wrap (a0)) * (IntKind.u64.wrap (a1)))) / 4294967296) % 4294967296, (IntKind.u64.wrap ((IntKind.u64.wrap (a0)) * (IntKind.u64.wrap (a1)))) % 4294967296)
def bits_Mul64.f (a0 : Int) (a1 : Int) : Option (Int × Int) := some (IntKind.u64.wrap ((IntKind.u64.wrap ((IntKind.u64.wrap ((a0 / 4294967296) * (a1 / 4294967296))) + ((IntKind.u64.wrap ((IntKind.u64.wrap ((a0 / 4294967296) * (Go.bits .and .u64 a1 4294967295))) + ((IntKind.u64.wrap ((Go.bits .and .u64 a0 4294967295) * (Go.bits .and .u64 a1 4294967295))) / 4294967296))) / 4294967296))) + ((IntKind.u64.wrap ((Go.bits .and .u64 (IntKind.u64.wrap ((IntKind.u64.wrap ((a0 / 4294967296) * (Go.bits .and .u64 a1 4294967295))) + ((IntKind.u64.wrap ((Go.bits .and .u64 a0 4294967295) * (Go.bits .and .u64 a1 4294967295))) / 4294967296))) 4294967295) + (IntKind.u64.wrap ((Go.bits .and .u64 a0 4294967295) * (a1 / 4294967296))))) / 4294967296)), IntKind.u64.wrap (a0 * a1))
set_option maxHeartbeats 8000000 in
set_option maxRecDepth 100000 in
theorem bits_Mul64.calls (a0 : Int) (a1 : Int) (r1 : Int) (r2 : Int) (w : World) (h : bits_Mul64.f a0 a1 = some (r1, r2)) :
  Calls Try.prog 101 #[.int .u64 a0, .int .u64 a1] w fun e w' => e = .returned (.tuple #[.int .u64 r1, .int .u64 r2]) ∧ Drawn0 w w' := by
 have H : (some (IntKind.u64.wrap ((IntKind.u64.wrap ((IntKind.u64.wrap ((a0 / 4294967296) * (a1 / 4294967296))) + ((IntKind.u64.wrap ((IntKind.u64.wrap ((a0 / 4294967296) * (Go.bits .and .u64 a1 4294967295))) + ((IntKind.u64.wrap ((Go.bits .and .u64 a0 4294967295) * (Go.bits .and .u64 a1 4294967295))) / 4294967296))) / 4294967296))) + ((IntKind.u64.wrap ((Go.bits .and .u64 (IntKind.u64.wrap ((IntKind.u64.wrap ((a0 / 4294967296) * (Go.bits .and .u64 a1 4294967295))) + ((IntKind.u64.wrap ((Go.bits .and .u64 a0 4294967295) * (Go.bits .and .u64 a1 4294967295))) / 4294967296))) 4294967295) + (IntKind.u64.wrap ((Go.bits .and .u64 a0 4294967295) * (a1 / 4294967296))))) / 4294967296)), IntKind.u64.wrap (a0 * a1))) = some (r1, r2) := h
 clear h
 simp only [Option.some.injEq, Prod.mk.injEq] at H
 obtain ⟨rfl, rfl⟩ := H
 go_enter Try.func101, Try.ntmps101
 go_wp2
 go_ret2
 exact ⟨by first | rfl | (simp; done) | (simp [*]; done), by repeat (first | exact Drawn0.refl _ | apply Drawn0.step)⟩
def bits_Mul.f (a0 : Int) (a1 : Int) : Option (Int × Int) := (bits_Mul64.f a0 a1).bind fun bt342 => (some (bt342.1, bt342.2))
set_option maxHeartbeats 8000000 in
set_option maxRecDepth 100000 in
theorem bits_Mul.calls (a0 : Int) (a1 : Int) (r1 : Int) (r2 : Int) (w : World) (h : bits_Mul.f a0 a1 = some (r1, r2)) :
  Calls Try.prog 94 #[.int .u64 a0, .int .u64 a1] w fun e w' => e = .returned (.tuple #[.int .u64 r1, .int .u64 r2]) ∧ Drawn0 w w' := by
 have H : ((bits_Mul64.f a0 a1).bind fun bt342 => (some (bt342.1, bt342.2))) = some (r1, r2) := h
 clear h
 replace H := Option.bind_eq_some_iff.mp H
 obtain ⟨⟨t342, t343⟩, A30, H⟩ := H
 replace H : (some (t342, t343)) = some (r1, r2) := H
 have A3 := Aside0.mk A30
 clear A30
 simp only [Option.some.injEq, Prod.mk.injEq] at H
 obtain ⟨rfl, rfl⟩ := H
 go_enter Try.func94, Try.ntmps94
 go_wp2_with (first | ((with_reducible refine gate_callee (f := 101) rfl ?_); refine goesL_ (some 25) rfl rfl Try.func101 (by kernel_rfl) rfl #[.int .u64 a0, .int .u64 a1] rfl (by (try simp only [List.map_toArray, List.map_cons, List.map_nil]); first | done | rfl | (simp only [List.length_drop, List.length_take]; rfl)) ?_; (with_reducible refine (bits_Mul64.calls a0 a1 t342 t343 _ A3.out).mono ?_); rintro e w' ⟨rfl, ⟨nd, rfl⟩⟩; refine ⟨_, rfl, ?_⟩))
 go_ret2
 exact ⟨by first | rfl | (simp; done) | (simp [*]; done), by repeat (first | exact Drawn0.refl _ | apply Drawn0.step)⟩
end Go.Proofs.Ytmcjgpbhjpakhaa.PB
end
section
namespace Go.Proofs.Ytmcjgpbhjpakhaa.PB
open Go.RowKit Go.Proofs.YtmcjgpbhjpakhaaW.PrintWords Go.Proofs.YtmcjgpbhjpakhaaW.PrintLast Go.Proofs.YtmcjgpbhjpakhaaW.PrintMore Go.Proofs.Ytmcjgpbhjpakhaa.La Go.Proofs.Ytmcjgpbhjpakhaa.Mp
attribute [local go_sem] max2_int min2_int max_two min_two max_three min_three max_four min_four   -- for this text's walks alone
set_option linter.unusedVariables false
set_option linter.unusedSimpArgs false
theorem eqA54 (d : Nat) (w : World) (x0 y0 : Int) (x1 y1 : Int) :
    (Op.equalIn (d + 2) 54 (.agg #[.int .i8 x0, .int .i8 x1]) (.agg #[.int .i8 y0, .int .i8 y1])).run Try.prog w = .ok (x0 == y0 && (x1 == y1)) w := by
  refine eqA_of Try.underlying54 (by kernel_rfl) ?_
  refine eqf_cons (by rfl) (by go_simp; rfl) (by go_simp; rfl) (by go_simp) ?_
  exact eqf_last (by rfl) (by go_simp; rfl) (by go_simp; rfl) (by go_simp)
end Go.Proofs.Ytmcjgpbhjpakhaa.PB
end
section
namespace Go.Proofs.Ytmcjgpbhjpakhaa.PB
open Go.RowKit Go.Proofs.YtmcjgpbhjpakhaaW.PrintWords Go.Proofs.YtmcjgpbhjpakhaaW.PrintLast Go.Proofs.YtmcjgpbhjpakhaaW.PrintMore Go.Proofs.Ytmcjgpbhjpakhaa.La Go.Proofs.Ytmcjgpbhjpakhaa.Mp
attribute [local go_sem] max2_int min2_int max_two min_two max_three min_three max_four min_four   -- for this text's walks alone
set_option linter.unusedVariables false
set_option linter.unusedSimpArgs false
attribute [local go_sem high] eqA54
def slices_Repeat_bool_bool.f (l0 : List Bool) (n : Int) : Option (List Bool) := if l0.length = 1 ∧ 0 ≤ n ∧ n ≤ 1000 then some (List.replicate n.toNat (l0.getD 0 false)) else none
theorem slices_Repeat_bool_bool.raw {w : World} {base B n : Nat} {v : Value} {xs : List Bool} (h : Kd.R Kd.bool 4 w base (fun _ => True) v xs) (hn : ∃ b, v.ownBlock = some b ∧ B ≤ b) (hl : xs.length = n) :
    ∃ (g cap : Nat) (cur : List Value), v = .slice (some ⟨g, 0, none⟩) n cap ∧ base ≤ g ∧ w.heap[g]? = some (.cells cur.toArray 4 (0, 0)) ∧ n ≤ cap ∧ cap ≤ maxLen ∧ cur.length = cap := by
  obtain ⟨inner, hr⟩ := Kd.R_own h
  obtain ⟨_, (⟨e, _⟩ | ⟨g, cap, cur, e, hg, hh, h1, h2, h3, _⟩)⟩ := hr
  · obtain ⟨b, hb, _⟩ := hn
    subst e
    simp [Value.ownBlock] at hb
  · subst hl
    have h4 : cur.size = cap * 1 := h3
    exact ⟨g, cap, cur.toList, e, hg, by simpa using hh, h1, h2, by rw [Array.length_toList]; omega⟩
theorem slices_Repeat_bool_bool.row {w : World} {base g n cap : Nat} {cur : List Value} {b : Bool} (hg : base ≤ g) (hh : w.heap[g]? = some (.cells cur.toArray 4 (0, 0))) (h1 : n ≤ cap) (h2 : cap ≤ maxLen) (h3 : cur.length = cap) (hb : ∀ j, j < n → cur[j]? = some (.bool b)) :
    Kd.R Kd.bool 4 w base (fun _ => True) (.slice (some ⟨g, 0, none⟩) n cap) (List.replicate n b) := by
  refine ⟨fun _ _ => trivial, List.replicate n (.bool b), ⟨by simp [Kd.bool, Kd.scalar], .inr ⟨g, cap, cur.toArray, by simp, hg, hh, by simpa using h1, h2, by simp [Kd.bool, Kd.scalar, h3], ?_⟩⟩, by simp [Kd.bool, Kd.scalar], ?_⟩
  · apply List.ext_getElem?
    intro j
    show (List.take (_ * 1) cur)[j]? = _
    rw [List.length_replicate, Nat.mul_one]
    by_cases hj : j < n
    · rw [List.getElem?_take_of_lt hj, hb j hj, List.getElem?_replicate, if_pos hj]
    · rw [List.getElem?_eq_none (by rw [List.length_take]; omega), List.getElem?_replicate, if_neg hj]
  · intro j p hj
    obtain ⟨hjl, hp⟩ := List.getElem?_eq_some_iff.1 hj
    have hjm : j < n := by simpa using hjl
    have hp' : b = p := by simpa using hp
    subst hp'
    show List.take 1 (List.drop (j * 1) _) = [Value.bool b]
    rw [List.drop_replicate, List.take_replicate, Nat.min_eq_left (by omega)]
    rfl
theorem slices_Repeat_bool_bool.cut {cur cs : List Value} {m n : Nat} {b : Bool} (hb : ∀ j, j < m → cur[j]? = some (.bool b)) (hc : ∀ j, j < cs.length → cs[j]? = some (.bool b)) (hm : m + cs.length ≤ cur.length) : ∀ j, j < m + cs.length → (splice cur m cs)[j]? = some (.bool b) := by
  intro j hj
  unfold splice
  have hl : (cur.take m).length = m := by rw [List.length_take]; omega
  by_cases h : j < m
  · rw [List.getElem?_append_left (by omega), List.getElem?_take_of_lt h, hb j h]
  · rw [List.getElem?_append_right (by omega), hl, List.getElem?_append_left (by omega)]
    exact hc _ (by omega)
theorem slices_Repeat_bool_bool.one (n : Nat) (hn : n ≤ 1000) : bits_Mul.f 1 (n : Int) = some (0, (n : Int)) := by
  have hand : ∀ x : Nat, x < 2 ^ 32 → Go.bits .and .u64 (x : Int) 4294967295 = (x : Int) := fun x hx => by
    have := (bits_nat .u64 64 (by decide) (fun n h₀ h₁ => by rw [IntKind.wrap_u64]; omega) x 4294967295 (by omega) (by decide)).1
    rw [show x &&& 4294967295 = x % 2 ^ 32 from Nat.and_two_pow_sub_one_eq_mod x 32, Nat.mod_eq_of_lt hx] at this
    exact this
  have h1 := hand 1 (by decide)
  have hN := hand n (by omega)
  have h0 := hand 0 (by decide)
  have hw : ∀ x : Int, 0 ≤ x → x < 1000000 → IntKind.u64.wrap x = x := fun x a b => by rw [IntKind.wrap_u64]; omega
  unfold bits_Mul.f bits_Mul64.f
  simp only [Int.natCast_one, Int.natCast_zero] at h1 h0
  have hd : (n : Int) / 4294967296 = 0 := by omega
  simp only [h1, hN, hd, h0, show (1 : Int) / 4294967296 = 0 from rfl, Int.one_mul, Int.zero_mul, Int.mul_zero, Int.zero_add, Int.add_zero, hw (n : Int) (by omega) (by omega), hw 0 (by decide) (by decide), Int.zero_ediv]
  rfl
theorem slices_Repeat_bool_bool.src {w w4 : World} {ad : Addr} {b : Bool} {m : Nat} {v : Value} {j : Nat} (hb : Below w.heap.size w w4) (h : w.cell? ad = some (.bool b)) (hv : (List.replicate (min 1 m) (Value.bool b))[j]? = some v) : w4.cell? (ad.add j) = some v := by
  obtain ⟨hj, he⟩ := List.getElem?_eq_some_iff.1 hv
  rw [List.length_replicate] at hj
  obtain rfl : j = 0 := by omega
  have he2 : Value.bool b = v := by simpa using he
  subst he2
  have e_ : ad.add 0 = ad := by cases ad; simp [Addr.add]
  rw [e_]
  exact pw_cell_below hb h
theorem slices_Repeat_bool_bool.add (m N : Nat) (h : N ≤ 1000) (hm : m ≤ N) : IntKind.i64.wrap ((m : Int) + ((min m (N - m) : Nat) : Int)) = ((m + min m (N - m) : Nat) : Int) := by
  have h1 : m + min m (N - m) ≤ 1000 := by omega
  rw [← Int.natCast_add]
  generalize m + min m (N - m) = z at h1
  rw [IntKind.wrap_i64]
  omega
theorem slices_Repeat_bool_bool.less (m N : Nat) (h : m < N) (h1 : 1 ≤ m ∨ N = 0) : N - (m + min m (N - m)) < N - m := by omega
theorem slices_Repeat_bool_bool.own {w : World} {g m n : Nat} {cu : List Value} {b : Bool} {j : Nat} {v : Value} (hg : w.heap[g]? = some (.cells cu.toArray 4 (0, 0))) (hb : ∀ j, j < m → cu[j]? = some (.bool b)) (hv : (List.replicate (min m n) (Value.bool b))[j]? = some v) : w.cell? ((⟨g, 0, none⟩ : Addr).add j) = some v := by
  obtain ⟨hj, he⟩ := List.getElem?_eq_some_iff.1 hv
  rw [List.length_replicate] at hj
  have he2 : Value.bool b = v := by simpa using he
  subst he2
  rw [Addr.add_lit, Nat.zero_add, blk_cell hg j, List.getElem?_toArray]
  exact hb j (by omega)
set_option maxHeartbeats 8000000 in
set_option maxRecDepth 100000 in
theorem slices_Repeat_bool_bool.calls (A0 : Option Addr) (c0 : Nat) (l0 : List Bool) (n : Int) (r : List Bool) (w : World) (hr0 : Kd.C Kd.bool w A0 l0.length l0) (hc0 : l0.length ≤ c0) (h : slices_Repeat_bool_bool.f l0 n = some r) :
    Calls Try.prog 66 #[.slice A0 l0.length c0, .int .i64 n] w fun e w' => ∃ v0_ : Value, e = .returned (v0_) ∧ Kd.R Kd.bool 4 w' w.heap.size (fun _ => True) v0_ r ∧ Below w.heap.size w w' := by
  unfold slices_Repeat_bool_bool.f at h
  by_cases hl : l0.length = 1 ∧ 0 ≤ n ∧ n ≤ 1000
  case neg => rw [if_neg hl] at h; cases h
  rw [if_pos hl] at h
  obtain rfl := Option.some.inj h
  clear h
  obtain ⟨hl1, hn0, hn1⟩ := hl
  obtain ⟨N, rfl⟩ := Int.eq_ofNat_of_zero_le hn0
  obtain ⟨b, rfl⟩ := List.length_eq_one_iff.1 hl1
  obtain ⟨ad, rfl, hcell⟩ := hr0.2.2 (by simp)
  have hN : N ≤ 1000 := by omega
  have hsrc : w.cell? ad = some (.bool b) := by
    obtain ⟨c, hc1, hc2, hc3⟩ := hcell 0 b rfl
    have hc4 : c = [Value.bool b] := hc2
    subst hc4
    have := hc3 0 _ rfl
    have e_ : ad.add 0 = ad := by cases ad; simp [Addr.add]
    rw [show 0 * Kd.bool.sz + 0 = 0 from rfl, e_] at this
    exact this
  have A1 := Aside0.mk (slices_Repeat_bool_bool.one N hN)
  have HS := Aside0.mk hsrc
  have HB := Aside0.mk (Below.refl w.heap.size w)
  clear hr0 hcell hsrc hl1
  simp only [List.length_cons, List.length_nil, Int.toNat_natCast, List.getD_cons_zero]
  go_enter Try.func66, Try.ntmps66
  go_wp2_with (first | ((with_reducible refine gate_callee (f := 94) rfl ?_); refine goesL_ (some 18) rfl rfl Try.func94 (by kernel_rfl) rfl #[.int .u64 1, .int .u64 (N : Int)] rfl (by (try simp only [List.map_toArray, List.map_cons, List.map_nil]); first | done | rfl | (go_simp; done)) ?_; (with_reducible refine (bits_Mul.calls 1 (N : Int) 0 (N : Int) _ A1.out).mono ?_); rintro e w' ⟨rfl, ⟨nd, rfl⟩⟩; refine ⟨_, rfl, ?_⟩) | ((with_reducible refine gate_dst (N := 30) rfl ?_); refine Kd.R_make Kd.bool (w0 := w) w.heap.size 4 rfl (N := 30) rfl 63 _ _ rfl (N : Int) rfl rfl Try.underlying63 (.bool false) 1 (by kernel_rfl) rfl (by decide) (by omega) false (ok := fun _ => True) (okp := fun _ => True) rfl (fun _ hk => hk) trivial (by omega) (by omega) (by repeat (first | (with_reducible first | exact HB.out | apply below_alloc | apply pw_below_drewN | apply below_drew1) | exact HB.out)) (Nat.le_refl _) ?_; intro v1 w4 ho hb hg_ hnew_; obtain ⟨g, cap, cur, rfl, hgb, hh, hc1, hc2, hc3⟩ := slices_Repeat_bool_bool.raw ho hnew_ (by simp : _ = N); have HG := Aside0.mk hh; have HC := Aside0.mk hc3; clear HB; have HB := Aside0.mk hb; clear ho hb hg_ hnew_ hh hc3) | ((with_reducible refine gate_builtin (b := .copy) (xs := #[.tmp 31, .tmp 32]) rfl ?_); refine wpList_copy_splice rfl (.tmp 31) (.tmp 32) 63 63 rfl 4 Try.underlying63 (by kernel_rfl) (some ⟨g, 0, none⟩) (some ad) N cap 1 c0 rfl rfl g 0 cur 4 HG.out (List.replicate (min 1 N) (.bool b)) (by simp) ?hp (by have := HC.out; simp; omega) ?h1 w.heap.size w HB.out hgb ?_; (case hp => exact fun h0 => ⟨rfl, ad, rfl, fun j v hv => slices_Repeat_bool_bool.src HB.out HS.out hv⟩); (case h1 => exact fun v hv => (by obtain ⟨_, rfl⟩ := List.mem_replicate.1 hv; rfl)); intro w5 hg5 hb5; have n0_ := Aside0.mk hg5.out; have n1_ := Aside0.mk hb5; clear HG; clear HB; have HG := n0_; have HB := n1_; clear n0_ n1_; clear hg5 hb5))
  go_loopw [8] (fun i wr => ∃ (m : Nat) (cu : List Value), m ≤ N ∧ (1 ≤ m ∨ N = 0) ∧ i = .int .i64 (m : Int) ∧ Aside0 (cu.length = cap) ∧ Aside0 (∀ j, j < m → cu[j]? = some (.bool b)) ∧ Aside0 (wr.heap[g]? = some (.cells cu.toArray 4 (0, 0))) ∧ Aside0 (Below w.heap.size w wr)) (fun i _ => N - (intOf i).toNat)
  case atStart =>
    refine ⟨min 1 N, splice cur 0 (List.replicate (min 1 N) (.bool b)), by omega, by omega, ?_, ⟨?_⟩, ⟨?_⟩, HG, HB⟩
    · simp [goInt]
    · rw [length_splice _ _ _ (by have := HC.out; simp; omega)]
      exact HC.out
    · have h_ := slices_Repeat_bool_bool.cut (cur := cur) (cs := List.replicate (min 1 N) (.bool b)) (m := 0) (n := 0) (b := b) (fun j hj => absurd hj (by omega)) (fun j hj => by rw [List.length_replicate] at hj; rw [List.getElem?_replicate, if_pos hj]) (by have := HC.out; simp; omega)
      intro j hj
      exact h_ j (by rw [List.length_replicate]; omega)
  case round =>
    obtain ⟨m, cu, hm, hm1, rfl, HC2, HP, HG2, HB2⟩ := hrel
    clear HG HB HC
    by_cases hlt : m < N
    · have hlti : ((m : Int) < (N : Int)) = True := eq_true (by omega)
      go_wp2_with fail
      have s1 : (0 : Int) ≤ (m : Int) := by omega
      have s2 : (m : Int) ≤ (N : Int) := by omega
      have s3 : (m : Int) ≤ (cap : Int) := by omega
      have s4 : m ≤ cap := by omega
      have s5 : ¬ cap = m := by omega
      have s6 : ¬ m = cap := by omega
      go_region_law (refine step_copy_splice rfl (.tmp 41) (.tmp 44) 63 63 rfl 4 Try.underlying63 (by kernel_rfl) (some ⟨g, m, none⟩) (some ⟨g, 0, none⟩) (N - m) (cap - m) m cap (by simp [Act.eval, Act.put, s4, s5, s6]) (by simp [Act.eval, Act.put]) g m cu 4 (blk_drew HG2.out) (List.replicate (min m (N - m)) (.bool b)) (by simp) ?hp (by have := HC2.out; simp; omega) ?h1 w.heap.size w (below_drew1 HB2.out) hgb ?_; (case hp => exact fun h0 => ⟨rfl, _, rfl, fun j v hv => slices_Repeat_bool_bool.own (blk_drew HG2.out) HP.out hv⟩); (case h1 => exact fun v hv => (by obtain ⟨_, rfl⟩ := List.mem_replicate.1 hv; rfl)); intro w5 hg5 hb5)
      all_goals (simp only [Act.put, List.setIfInBounds_toArray, List.set_cons_zero, List.set_cons_succ]; try go_simp)
      all_goals try go_wp2
      all_goals go_roundw
      case rel =>
        refine ⟨m + min m (N - m), splice cu m (List.replicate (min m (N - m)) (.bool b)), by omega, by omega, ?_, ⟨?_⟩, ⟨?_⟩, ⟨hg5.out⟩, ⟨hb5⟩⟩
        · rw [slices_Repeat_bool_bool.add m N hN hm]
        · rw [length_splice _ _ _ (by have := HC2.out; simp; omega)]
          exact HC2.out
        · have h_ := slices_Repeat_bool_bool.cut (cur := cu) (cs := List.replicate (min m (N - m)) (.bool b)) (m := m) (n := 0) (b := b) HP.out (fun j hj => by rw [List.length_replicate] at hj; rw [List.getElem?_replicate, if_pos hj]) (by have := HC2.out; simp; omega)
          intro j hj
          exact h_ j (by rw [List.length_replicate]; omega)
      case measure =>
        rw [slices_Repeat_bool_bool.add m N hN hm]
        simp only [intOf, Int.toNat_natCast]
        exact slices_Repeat_bool_bool.less m N hlt hm1
    · have hlti : ((m : Int) < (N : Int)) = False := eq_false (by omega)
      go_wp2_with fail
      go_ret
      obtain rfl : m = N := by omega
      exact ⟨_, rfl, slices_Repeat_bool_bool.row hgb HG2.out hc1 hc2 HC2.out HP.out, HB2.out⟩
def impl_Spot_67.l0 : Nat → List (S54) → Int → Int → Int → Int → Option (Int)
 | 0, _, _, _, _, _ => none
 | k + 1, x0, x7, x8, x345000, x345001 => if x8 < x7 then (if 0 ≤ x8 then (if x8 < (x0.length : Int) then (if (x345000 == ((rd_T54 x0 x8).f0) && (x345001 == ((rd_T54 x0 x8).f1))) = true then (some x8) else (impl_Spot_67.l0 k x0 x7 (wrap64 (x8 + 1)) x345000 x345001)) else (none)) else (none)) else (some (-1))
def impl_Spot_67.f (k : Nat) (l0 : List (S54)) (a1_0 : Int) (a1_1 : Int) : Option (Int) := impl_Spot_67.l0 k l0 (l0.length : Int) 0 a1_0 a1_1
theorem impl_Spot_67.mono_l : ∀ k, (∀ y0 y1 y2 y3 y4, LeO (impl_Spot_67.l0 k y0 y1 y2 y3 y4) (impl_Spot_67.l0 (k + 1) y0 y1 y2 y3 y4))
 | 0 => fun _ _ _ _ _ r h => by simp [impl_Spot_67.l0] at h
 | k + 1 => by
  have ih0 := impl_Spot_67.mono_l k
  ·intro y0 y1 y2 y3 y4
   unfold impl_Spot_67.l0
   repeat' first
   | (with_reducible exact ih0 _ _ _ _ _)
   | (with_reducible exact LeO.refl _)
   | (with_reducible exact LeO.none _)
   | (with_reducible refine LeO.ite ?_ ?_)
   | (with_reducible refine LeO.bind ?_ (fun _ => ?_))
   | exact ih0 _ _ _ _ _
   | exact LeO.none _
   | refine LeO.ite ?_ ?_
   | refine LeO.bind ?_ (fun _ => ?_)
theorem impl_Spot_67.mono : ∀ a0 a1 a2 k, LeO (impl_Spot_67.f k a0 a1 a2) (impl_Spot_67.f (k + 1) a0 a1 a2) := by
 intro a0 a1 a2 k
 have ih0 := impl_Spot_67.mono_l k
 unfold impl_Spot_67.f
 repeat' first
   | (with_reducible exact ih0 _ _ _ _ _)
   | (with_reducible exact LeO.refl _)
   | (with_reducible exact LeO.none _)
   | (with_reducible refine LeO.ite ?_ ?_)
   | (with_reducible refine LeO.bind ?_ (fun _ => ?_))
   | exact ih0 _ _ _ _ _
   | exact LeO.none _
   | refine LeO.ite ?_ ?_
   | refine LeO.bind ?_ (fun _ => ?_)
set_option maxHeartbeats 8000000 in
set_option maxRecDepth 100000 in
theorem impl_Spot_67.calls (k : Nat) (A0 : Option Addr) (c0 : Nat) (l0 : List (S54)) (a1_0 : Int) (a1_1 : Int) (r : Int) (w : World) (hr0 : Kd.C k54 w A0 l0.length l0) (hc0 : l0.length ≤ c0) (h : impl_Spot_67.f k l0 a1_0 a1_1 = some r) :
  Calls Try.prog 67 #[.slice A0 l0.length c0, .agg #[.int .i8 a1_0, .int .i8 a1_1]] w fun e w' => e = .returned (.int .i64 r) ∧ Below w.heap.size w w' := by
 have hu54 := Try.underlying54
 have HR0 := Aside0.mk hr0
 have HC0 := Aside0.mk hc0
 clear hr0 hc0
 have HB := Aside0.mk (Below.refl w.heap.size w)
 have H : (impl_Spot_67.l0 k l0 (l0.length : Int) 0 a1_0 a1_1) = some r := h
 clear h
 have H' := Aside0.mk H
 clear H
 go_enter Try.func67, Try.ntmps67
 go_wp2_with (first | ((with_reducible refine gate_dst (N := 3) rfl ?_); refine box_event ?hg (N := 3) ?hd (cs := #[.int .i8 a1_0, .int .i8 a1_1]) (t := 54) ?hr ?_; (case hd => rfl); (case hg => rfl); (case hr => first | (go_simp; done) | (go_simp; rfl)); intro gb344 hg w3 hbox hb; have n0_ := bst HB hb; have n1_ := Aside0.mk (hbox); have n2_ := gwl HB hg; have n3_ := gwl HB hg; clear HB; have HB := n0_; have BK344 := n1_; have GW344 := n2_; have GE344 := n3_; clear n0_ n1_ n2_ n3_; clear hb hbox hg))
 repeat (go_quiet (first | ((with_reducible refine gate_dst (N := 3) rfl ?_); refine box_event ?hg (N := 3) ?hd (cs := #[.int .i8 a1_0, .int .i8 a1_1]) (t := 54) ?hr ?_; (case hd => rfl); (case hg => rfl); (case hr => first | (go_simp; done) | (go_simp; rfl)); intro gb344 hg w3 hbox hb; have n0_ := bst HB hb; have n1_ := Aside0.mk (hbox); have n2_ := gwl HB hg; have n3_ := gwl HB hg; clear HB; have HB := n0_; have BK344 := n1_; have GW344 := n2_; have GE344 := n3_; clear n0_ n1_ n2_ n3_; clear hb hbox hg)); try go_wp2_with (first | ((with_reducible refine gate_dst (N := 3) rfl ?_); refine box_event ?hg (N := 3) ?hd (cs := #[.int .i8 a1_0, .int .i8 a1_1]) (t := 54) ?hr ?_; (case hd => rfl); (case hg => rfl); (case hr => first | (go_simp; done) | (go_simp; rfl)); intro gb344 hg w3 hbox hb; have n0_ := bst HB hb; have n1_ := Aside0.mk (hbox); have n2_ := gwl HB hg; have n3_ := gwl HB hg; clear HB; have HB := n0_; have BK344 := n1_; have GW344 := n2_; have GE344 := n3_; clear n0_ n1_ n2_ n3_; clear hb hbox hg)))
 go_loopg [8] k (fun kq v8 w' => ∃ (x8_1 : Int), v8 = .int .i64 x8_1 ∧ Aside0 (impl_Spot_67.l0 kq l0 (l0.length : Int) x8_1 a1_0 a1_1 = some r) ∧ Aside0 (kq ≤ k) ∧ Aside0 (w'.heap[gb344]? = some (.cells #[.int .i8 a1_0, .int .i8 a1_1] 54 (0, 0))) ∧ Aside0 (Below w.heap.size w w'))
 case atStart => exact ⟨(0), (by first | rfl | (simp; done) | (simp [*]; done)), H', ⟨Nat.le_refl _⟩, ⟨pk BK344⟩, ⟨pbs HB⟩⟩
 case round =>
  clear H'
  try clear p2
  obtain ⟨x8_1, rfl, HA, HK1, BK344, HB⟩ := hrel
  cases gk with
  | zero => exact absurd HA.out (by simp [impl_Spot_67.l0])
  | succ k1 =>
   have H := HA.out
   clear HA
   simp only [impl_Spot_67.l0] at H
   by_cases c4 : x8_1 < (l0.length : Int)
   ·rw [if_pos c4] at H
    have c4b0 : decide (x8_1 < (l0.length : Int)) = true := decide_eq_true c4
    clear c4
    by_cases c5 : 0 ≤ x8_1
    ·rw [if_pos c5] at H
     have c5b0 : decide (0 ≤ x8_1) = true := decide_eq_true c5
     clear c5
     by_cases c6 : x8_1 < (l0.length : Int)
     ·rw [if_pos c6] at H
      have c6b0 : decide (x8_1 < (l0.length : Int)) = true := decide_eq_true c6
      clear c6
      by_cases c7 : (a1_0 == ((rd_T54 l0 x8_1).f0) && (a1_1 == ((rd_T54 l0 x8_1).f1))) = true
      ·rw [if_pos c7] at H
       have c7b0 : (a1_0 == ((rd_T54 l0 x8_1).f0) && (a1_1 == ((rd_T54 l0 x8_1).f1))) = true := c7
       (try (have c7b1 : decide (a1_0 = ((rd_T54 l0 x8_1).f0) && (a1_1 == ((rd_T54 l0 x8_1).f1))) = true := by simpa using c7))
       (try (have c7b2 : (a1_0 == ((rd_T54 l0 x8_1).f0) && (a1_1 == ((rd_T54 l0 x8_1).f1))) = true := by simpa using c7))
       clear c7
       obtain rfl := Option.some.inj H
       have hcz8_0 : wr.cell? ⟨gb344, 0, none⟩ = some (.int .i8 a1_0) := (blk_cell BK344.out 0).trans rfl
       have hcz8_1 : wr.cell? ⟨gb344, 1, none⟩ = some (.int .i8 a1_1) := (blk_cell BK344.out 1).trans rfl
       have hfz8_0 := blk_frozen BK344.out 0
       have hfz8_1 := blk_frozen BK344.out 1
       have p345 : 0 ≤ (x8_1 : Int) := of_decide_eq_true (by first | (with_reducible assumption) | assumption)
       have q345 : x8_1 < (l0.length : Int) := of_decide_eq_true (by first | (with_reducible assumption) | assumption)
       obtain ⟨ad345, e345, hx345_0, hx345_1⟩ := at_T54 HR0.out x8_1 p345 q345
       cases e345
       try replace hx345_0 := (HB.out.cell (World.block_lt_of_cell? w _ hx345_0)).trans hx345_0
       try replace hx345_1 := (HB.out.cell (World.block_lt_of_cell? w _ hx345_1)).trans hx345_1
       replace p345 := eq_true p345
       replace q345 := eq_true q345
       go_wp2
       repeat (go_quiet (fail); try go_wp2)
       go_ret
       exact ⟨by first | rfl | (simp [errW_none, errW_some] <;> rfl) | (simp [*, errW_none, errW_some] <;> rfl), pbs HB⟩
      ·rw [if_neg c7] at H
       have c7b0 : (a1_0 == ((rd_T54 l0 x8_1).f0) && (a1_1 == ((rd_T54 l0 x8_1).f1))) = false := by simpa using c7
       (try (have c7b1 : decide (a1_0 = ((rd_T54 l0 x8_1).f0) && (a1_1 == ((rd_T54 l0 x8_1).f1))) = false := by simpa using c7))
       (try (have c7b2 : (a1_0 == ((rd_T54 l0 x8_1).f0) && (a1_1 == ((rd_T54 l0 x8_1).f1))) = false := by simpa using c7))
       (try (have c7b3 : ¬ (a1_0 = ((rd_T54 l0 x8_1).f0) && (a1_1 == ((rd_T54 l0 x8_1).f1))) := by simpa using c7))
       clear c7
       have H' := Aside0.mk H
       clear H
       have hcz9_0 : wr.cell? ⟨gb344, 0, none⟩ = some (.int .i8 a1_0) := (blk_cell BK344.out 0).trans rfl
       have hcz9_1 : wr.cell? ⟨gb344, 1, none⟩ = some (.int .i8 a1_1) := (blk_cell BK344.out 1).trans rfl
       have hfz9_0 := blk_frozen BK344.out 0
       have hfz9_1 := blk_frozen BK344.out 1
       have p345 : 0 ≤ (x8_1 : Int) := of_decide_eq_true (by first | (with_reducible assumption) | assumption)
       have q345 : x8_1 < (l0.length : Int) := of_decide_eq_true (by first | (with_reducible assumption) | assumption)
       obtain ⟨ad345, e345, hx345_0, hx345_1⟩ := at_T54 HR0.out x8_1 p345 q345
       cases e345
       try replace hx345_0 := (HB.out.cell (World.block_lt_of_cell? w _ hx345_0)).trans hx345_0
       try replace hx345_1 := (HB.out.cell (World.block_lt_of_cell? w _ hx345_1)).trans hx345_1
       replace p345 := eq_true p345
       replace q345 := eq_true q345
       go_wp2
       repeat (go_quiet (fail); try go_wp2)
       go_roundg k1
       case measure => have := HK1.out; omega
       case rel => exact ⟨(wrap64 (x8_1 + 1)), (by first | rfl | (simp; done) | (simp [*]; done)), H', ⟨by have := HK1.out; omega⟩, ⟨pk BK344⟩, ⟨pbs HB⟩⟩
     ·rw [if_neg c6] at H
      exact absurd H (by simp)
    ·rw [if_neg c5] at H
     exact absurd H (by simp)
   ·rw [if_neg c4] at H
    have c4b0 : decide (x8_1 < (l0.length : Int)) = false := decide_eq_false c4
    clear c4
    obtain rfl := Option.some.inj H
    go_wp2
    repeat (go_quiet (fail); try go_wp2)
    go_ret
    exact ⟨by first | rfl | (simp [errW_none, errW_some] <;> rfl) | (simp [*, errW_none, errW_some] <;> rfl), pbs HB⟩
end Go.Proofs.Ytmcjgpbhjpakhaa.PB
end
section
namespace Go.Proofs.Ytmcjgpbhjpakhaa.PB
open Go.RowKit Go.Proofs.YtmcjgpbhjpakhaaW.PrintWords Go.Proofs.YtmcjgpbhjpakhaaW.PrintLast Go.Proofs.YtmcjgpbhjpakhaaW.PrintMore Go.Proofs.Ytmcjgpbhjpakhaa.La Go.Proofs.Ytmcjgpbhjpakhaa.Mp
attribute [local go_sem] max2_int min2_int max_two min_two max_three min_three max_four min_four   -- for this text's walks alone
set_option linter.unusedVariables false
set_option linter.unusedSimpArgs false
mutual
def impl_posts_far.l0 : Nat → List Bool → List (S54) → Int → Int → List (S54) → List (List Int) → Option (List Bool)
 | 0, _, _, _, _, _, _ => none
 | k + 1, x5, x15, x16, x17, x347000, x347001 => if x17 < x16 then (if 0 ≤ x17 then (if x17 < (x15.length : Int) then ((impl_Spot_67.f k x347000 ((rd_T54 x15 x17).f0) ((rd_T54 x15 x17).f1)).bind fun t355 => (if 0 ≤ t355 then (if t355 < (x347001.length : Int) then (impl_posts_far.l1 k x5 x15 x16 x17 (rd_L4 x347001 t355) ((rd_L4 x347001 t355).length : Int) 0 x347000 x347001) else (none)) else (none))) else (none)) else (none)) else (some x5)
def impl_posts_far.l1 : Nat → List Bool → List (S54) → Int → Int → List Int → Int → Int → List (S54) → List (List Int) → Option (List Bool)
 | 0, _, _, _, _, _, _, _, _, _ => none
 | k + 1, x5, x15, x16, x17, x28, x29, x30, x347000, x347001 => if x30 < x29 then (if 0 ≤ x30 then (if x30 < (x28.length : Int) then (if 0 ≤ (rd x28 x30) then (if (rd x28 x30) < (x5.length : Int) then (impl_posts_far.l1 k (x5.set ((rd x28 x30) : Int).toNat false) x15 x16 x17 x28 x29 (wrap64 (x30 + 1)) x347000 x347001) else (none)) else (none)) else (none)) else (none)) else (impl_posts_far.l0 k x5 x15 x16 (wrap64 (x17 + 1)) x347000 x347001)
end
def impl_posts_far.f (k : Nat) (l0_0 : List (S54)) (l0_1 : List (List Int)) (l1 : List (S54)) : Option (List Bool) := (slices_Repeat_bool_bool.f (([true] : List Bool)) (l0_0.length : Int)).bind fun t350 => (impl_posts_far.l0 k t350 l1 (l1.length : Int) 0 l0_0 l0_1)
theorem impl_posts_far.mono_l : ∀ k, (∀ y0 y1 y2 y3 y4 y5, LeO (impl_posts_far.l0 k y0 y1 y2 y3 y4 y5) (impl_posts_far.l0 (k + 1) y0 y1 y2 y3 y4 y5)) ∧ (∀ y0 y1 y2 y3 y4 y5 y6 y7 y8, LeO (impl_posts_far.l1 k y0 y1 y2 y3 y4 y5 y6 y7 y8) (impl_posts_far.l1 (k + 1) y0 y1 y2 y3 y4 y5 y6 y7 y8))
 | 0 => ⟨fun _ _ _ _ _ _ r h => by simp [impl_posts_far.l0] at h, fun _ _ _ _ _ _ _ _ _ r h => by simp [impl_posts_far.l1] at h⟩
 | k + 1 => by
  obtain ⟨ih0, ih1⟩ := impl_posts_far.mono_l k
  refine ⟨?_, ?_⟩
  ·intro y0 y1 y2 y3 y4 y5
   unfold impl_posts_far.l0
   repeat' first
   | (with_reducible exact ih0 _ _ _ _ _ _)
   | (with_reducible exact ih1 _ _ _ _ _ _ _ _ _)
   | (with_reducible exact impl_Spot_67.mono _ _ _ _)
   | (with_reducible exact LeO.refl _)
   | (with_reducible exact LeO.none _)
   | (with_reducible refine LeO.ite ?_ ?_)
   | (with_reducible refine LeO.bind ?_ (fun _ => ?_))
   | exact ih0 _ _ _ _ _ _
   | exact ih1 _ _ _ _ _ _ _ _ _
   | exact impl_Spot_67.mono _ _ _ _
   | exact LeO.none _
   | refine LeO.ite ?_ ?_
   | refine LeO.bind ?_ (fun _ => ?_)
  ·intro y0 y1 y2 y3 y4 y5 y6 y7 y8
   unfold impl_posts_far.l1
   repeat' first
   | (with_reducible exact ih0 _ _ _ _ _ _)
   | (with_reducible exact ih1 _ _ _ _ _ _ _ _ _)
   | (with_reducible exact impl_Spot_67.mono _ _ _ _)
   | (with_reducible exact LeO.refl _)
   | (with_reducible exact LeO.none _)
   | (with_reducible refine LeO.ite ?_ ?_)
   | (with_reducible refine LeO.bind ?_ (fun _ => ?_))
   | exact ih0 _ _ _ _ _ _
   | exact ih1 _ _ _ _ _ _ _ _ _
   | exact impl_Spot_67.mono _ _ _ _
   | exact LeO.none _
   | refine LeO.ite ?_ ?_
   | refine LeO.bind ?_ (fun _ => ?_)
theorem impl_posts_far.mono : ∀ a0 a1 a2 k, LeO (impl_posts_far.f k a0 a1 a2) (impl_posts_far.f (k + 1) a0 a1 a2) := by
 intro a0 a1 a2 k
 obtain ⟨ih0, ih1⟩ := impl_posts_far.mono_l k
 unfold impl_posts_far.f
 repeat' first
   | (with_reducible exact ih0 _ _ _ _ _ _)
   | (with_reducible exact ih1 _ _ _ _ _ _ _ _ _)
   | (with_reducible exact impl_Spot_67.mono _ _ _ _)
   | (with_reducible exact LeO.refl _)
   | (with_reducible exact LeO.none _)
   | (with_reducible refine LeO.ite ?_ ?_)
   | (with_reducible refine LeO.bind ?_ (fun _ => ?_))
   | exact ih0 _ _ _ _ _ _
   | exact ih1 _ _ _ _ _ _ _ _ _
   | exact impl_Spot_67.mono _ _ _ _
   | exact LeO.none _
   | refine LeO.ite ?_ ?_
   | refine LeO.bind ?_ (fun _ => ?_)
def impl_posts_far.T5 : Bool × List (List Nat × List Nat) := (true, [([], []), ([0], [0]), ([], []), ([2], [2]), ([], []), ([3, 4], [3, 4]), ([1, 5], [1, 5]), ([6], [6]), ([7], [7]), ([], [])])
def impl_posts_far.B5 : List Nat := [0, 1, 0, 4, 0, 28, 63, 127, 255, 0]
theorem impl_posts_far.tab5 : rtab .any (opsOf Try.f35 5) = impl_posts_far.T5 := by kernel_rfl
theorem impl_posts_far.bits5 : waitsOk impl_posts_far.T5.2 impl_posts_far.B5 = true := by kernel_rfl
set_option maxHeartbeats 8000000 in
set_option maxRecDepth 100000 in
theorem impl_posts_far.calls (k : Nat) (A0_0 : Option Addr) (c0_0 : Nat) (l0_0 : List (S54)) (A0_1 : Option Addr) (c0_1 : Nat) (l0_1 : List (List Int)) (A1 : Option Addr) (c1 : Nat) (l1 : List (S54)) (r : List Bool) (w : World) (hr0_0 : Kd.C k54 w A0_0 l0_0.length l0_0) (hc0_0 : l0_0.length ≤ c0_0) (hr0_1 : Kd.C (Kd.slice 3 (Kd.int .i64)) w A0_1 l0_1.length l0_1) (hc0_1 : l0_1.length ≤ c0_1) (hr1 : Kd.C k54 w A1 l1.length l1) (hc1 : l1.length ≤ c1) (h : impl_posts_far.f k l0_0 l0_1 l1 = some r) :
  Calls Try.prog 35 #[.agg #[.slice A0_0 l0_0.length c0_0, .slice A0_1 l0_1.length c0_1], .slice A1 l1.length c1] w fun e w' => ∃ v0_ : Value, e = .returned (v0_) ∧ Kd.R Kd.bool 4 w' w.heap.size (fun _ => True) v0_ r ∧ Below w.heap.size w w' := by
 have hu61 := Try.underlying61
 have hu54 := Try.underlying54
 have HR0_0 := Aside0.mk hr0_0
 have HC0_0 := Aside0.mk hc0_0
 clear hr0_0 hc0_0
 have HR0_1 := Aside0.mk hr0_1
 have HC0_1 := Aside0.mk hc0_1
 clear hr0_1 hc0_1
 have HR1 := Aside0.mk hr1
 have HC1 := Aside0.mk hc1
 clear hr1 hc1
 have HB := Aside0.mk (Below.refl w.heap.size w)
 have H : ((slices_Repeat_bool_bool.f (([true] : List Bool)) (l0_0.length : Int)).bind fun t350 => (impl_posts_far.l0 k t350 l1 (l1.length : Int) 0 l0_0 l0_1)) = some r := h
 clear h
 obtain ⟨y347, hy347⟩ : ∃ y_ : List Bool, y_ = (([true] : List Bool)) := ⟨_, rfl⟩
 replace H : ((slices_Repeat_bool_bool.f y347 (l0_0.length : Int)).bind fun t350 => (impl_posts_far.l0 k t350 l1 (l1.length : Int) 0 l0_0 l0_1)) = some r := by first | (rw [hy347]; with_reducible exact H) | (have H2_ := (Option.bind_some _ _).symm.trans H; rw [hy347]; with_reducible exact H2_) | (have H2_ := (Option.bind_some _ _).symm.trans H; with_reducible exact H2_) | with_reducible exact H | (rw [hy347]; exact H) | exact H
 have Ny347 := Aside0.mk hy347
 clear hy347
 replace H := Option.bind_eq_some_iff.mp H
 obtain ⟨t350, A30, H⟩ := H
 replace H : (impl_posts_far.l0 k t350 l1 (l1.length : Int) 0 l0_0 l0_1) = some r := H
 have A3 := Aside0.mk A30
 clear A30
 have H' := Aside0.mk H
 clear H
 go_enter Try.func35, Try.ntmps35
 go_wp2_with (first | ((with_reducible refine gate_dst (N := 2) rfl ?_); refine box_event ?hg (N := 2) ?hd (cs := #[.slice A0_0 l0_0.length c0_0, .slice A0_1 l0_1.length c0_1]) (t := 61) ?hr ?_; (case hd => rfl); (case hg => rfl); (case hr => first | (go_simp; done) | (go_simp; rfl)); intro gb346 hg w4 hbox hb; have n0_ := bst HB hb; have n1_ := Aside0.mk (hbox); have n2_ := gwl HB hg; have n3_ := gwl HB hg; clear HB; have HB := n0_; have BK346 := n1_; have GW346 := n2_; have GE346 := n3_; clear n0_ n1_ n2_ n3_; clear hb hbox hg) | ((with_reducible refine gate_dst (N := 10) rfl ?_); refine Kd.R_lit Kd.bool _ 4 ?hg (N := 10) ?hd (xs := ([true] : List Bool)) (inner := [.bool true]) (ok := fun _ => True) (okp := fun _ => True) ?hr ?hp (fun _ hk => hk) trivial (Below.refl _ _) (Nat.le_refl _) (by simp) ?_; (case hd => rfl); (case hg => rfl); (case hr => first | (go_simp; done) | (go_simp; rfl)); (case hp => exact (Reps.one (show Kd.M Kd.bool _ _ _ true [.bool true] from rfl) (Reps.none _ _))); intro v348 w5 ho6 hb hg_ hnew_; clear hg_ hnew_; (first | rw [← Ny347.out] at ho6 | (simp only [Int.reduceToNat] at ho6; rw [← Ny347.out] at ho6)); have n0_ := Aside0.mk (Kd.R_lower ho6 (below_size (by repeat (first | (with_reducible first | exact HB.out | apply below_alloc | apply pw_below_drewN | apply below_drew1 | refine below_set ?_ GE346.out) | exact HB.out)))); have n1_ := bkb BK346 hb; have n2_ := bst HB hb; clear BK346; clear HB; have HO349 := n0_; have BK346 := n1_; have HB := n2_; clear n0_ n1_ n2_; clear hb ho6; have hcz7_0 : w5.cell? ⟨gb346, 0, none⟩ = some (.slice A0_0 l0_0.length c0_0) := (blk_cell BK346.out 0).trans rfl; have hcz7_1 : w5.cell? ⟨gb346, 1, none⟩ = some (.slice A0_1 l0_1.length c0_1) := (blk_cell BK346.out 1).trans rfl; have hfz7_0 := blk_frozen BK346.out 0; have hfz7_1 := blk_frozen BK346.out 1; obtain ⟨Ao8, co8, eo8⟩ := Kd.R_slice HO349.out; subst eo8) | ((with_reducible refine gate_callee (f := 66) rfl ?_); refine goesL_ (some 14) rfl rfl Try.func66 (by kernel_rfl) rfl #[.slice Ao8 y347.length co8, .int .i64 (l0_0.length : Int)] rfl (by (try simp only [List.map_toArray, List.map_cons, List.map_nil]); first | done | rfl | (simp only [List.length_drop, List.length_take]; rfl)) ?_; (with_reducible refine (slices_Repeat_bool_bool.calls _ _ y347 (l0_0.length : Int) t350 _ ?side1 ?side2 A3.out).mono ?_); (case side1 => repeat (first | exact (Kd.R_reads' HO349.out).2.2 | (with_reducible refine Kd.C_alloc ?_ _) | (with_reducible refine Kd.C_drewN ?_ _) | (with_reducible refine Kd.C_drew ?_))); (case side2 => exact (Kd.R_reads' HO349.out).2.1); rintro e w9 ⟨v351, rfl, ho0, hb⟩; refine ⟨_, rfl, ?_⟩; have n0_ := Aside0.mk (Kd.R_elder' (by (with_reducible repeat (first | apply Kd.R_alloc | apply Kd.R_drewN | apply Kd.R_drew)); exact HO349.out) (Kd.R_base ho0) hb); have n1_ := Aside0.mk (Kd.R_lower (Kd.R_new' ho0 (Kd.R_lt (by (with_reducible repeat (first | apply Kd.R_alloc | apply Kd.R_drewN | apply Kd.R_drew)); exact HO349.out))) (below_size (by repeat (first | (with_reducible first | exact HB.out | apply below_alloc | apply pw_below_drewN | apply below_drew1 | refine below_set ?_ GE346.out) | exact HB.out)))); have n2_ := bkb BK346 hb; have n3_ := bst HB hb; clear HO349; clear BK346; clear HB; have HO349 := n0_; have HO352 := n1_; have BK346 := n2_; have HB := n3_; clear n0_ n1_ n2_ n3_; (try clear hb); (try clear hb2); (try clear hk); (try clear hi); (try clear ho0)))
 go_loopg [17] k (fun kq v17 w' => ∃ (x5_1 : List Bool) (x17_1 : Int), v17 = .int .i64 x17_1 ∧ Aside0 (impl_posts_far.l0 kq x5_1 l1 (l1.length : Int) x17_1 l0_0 l0_1 = some r) ∧ Aside0 (kq ≤ k) ∧ Aside0 (Kd.R Kd.bool 4 w' w.heap.size (fun _ => True) v351 x5_1) ∧ Aside0 (w'.heap[gb346]? = some (.cells #[(.slice A0_0 l0_0.length c0_0), (.slice A0_1 l0_1.length c0_1)] 61 (0, 0))) ∧ Aside0 (Below w.heap.size w w'))
 case atStart => exact ⟨(t350), (0), (by first | rfl | (simp; done) | (simp [*]; done)), H', ⟨Nat.le_refl _⟩, ⟨by (with_reducible repeat (first | apply Kd.R_alloc | apply Kd.R_drewN | apply Kd.R_drew)); exact Kd.R_mono HO352.out (fun _ hk => trivial)⟩, ⟨pk BK346⟩, ⟨pbs HB⟩⟩
 case round =>
  clear H'
  try clear c1
  try clear p2
  try clear c3
  try clear c6
  try clear hcz7_0
  try clear hcz7_1
  try clear hfz7_0
  try clear hfz7_1
  obtain ⟨x5_1, x17_1, rfl, HA, HK1, HO_5, BK346, HB⟩ := hrel
  cases gk with
  | zero => exact absurd HA.out (by simp [impl_posts_far.l0])
  | succ k1 =>
   have H := HA.out
   clear HA
   simp only [impl_posts_far.l0] at H
   by_cases c10 : x17_1 < (l1.length : Int)
   ·rw [if_pos c10] at H
    have c10b0 : decide (x17_1 < (l1.length : Int)) = true := decide_eq_true c10
    clear c10
    by_cases c11 : 0 ≤ x17_1
    ·rw [if_pos c11] at H
     have c11b0 : decide (0 ≤ x17_1) = true := decide_eq_true c11
     clear c11
     by_cases c12 : x17_1 < (l1.length : Int)
     ·rw [if_pos c12] at H
      have c12b0 : decide (x17_1 < (l1.length : Int)) = true := decide_eq_true c12
      clear c12
      replace H := Option.bind_eq_some_iff.mp H
      obtain ⟨t355, A130, H⟩ := H
      replace H : (if 0 ≤ t355 then (if t355 < (l0_1.length : Int) then (impl_posts_far.l1 k1 x5_1 l1 (l1.length : Int) x17_1 (rd_L4 l0_1 t355) ((rd_L4 l0_1 t355).length : Int) 0 l0_0 l0_1) else (none)) else (none)) = some r := H
      have A13 := Aside0.mk A130
      clear A130
      by_cases c14 : 0 ≤ t355
      ·rw [if_pos c14] at H
       have c14b0 : decide (0 ≤ t355) = true := decide_eq_true c14
       clear c14
       by_cases c15 : t355 < (l0_1.length : Int)
       ·rw [if_pos c15] at H
        have c15b0 : decide (t355 < (l0_1.length : Int)) = true := decide_eq_true c15
        clear c15
        have H' := Aside0.mk H
        clear H
        have p353 : 0 ≤ (x17_1 : Int) := of_decide_eq_true (by first | (with_reducible assumption) | assumption)
        have q353 : x17_1 < (l1.length : Int) := of_decide_eq_true (by first | (with_reducible assumption) | assumption)
        obtain ⟨ad353, e353, hx353_0, hx353_1⟩ := at_T54 HR1.out x17_1 p353 q353
        cases e353
        try replace hx353_0 := (HB.out.cell (World.block_lt_of_cell? w _ hx353_0)).trans hx353_0
        try replace hx353_1 := (HB.out.cell (World.block_lt_of_cell? w _ hx353_1)).trans hx353_1
        replace p353 := eq_true p353
        replace q353 := eq_true q353
        try go_wp2_with (first | ((with_reducible refine gate_dst (N := 7) rfl ?_); refine box_event ?hg (N := 7) ?hd (cs := #[.int .i8 0, .int .i8 0]) (t := 54) ?hr ?_; (case hd => rfl); (case hg => rfl); (case hr => first | (go_simp; done) | (go_simp; rfl)); intro gb354 hg w16 hbox hb; have n0_ := krb HO_5 hb; have n1_ := bkb BK346 hb; have n2_ := bst HB hb; have n3_ := Aside0.mk (hbox); have n4_ := gwl HB hg; have n5_ := gwl HB hg; have n6_ := nbl BK346 hg; have n7_ := nbg BK346 hg; clear HO_5; clear BK346; clear HB; have HO_5 := n0_; have BK346 := n1_; have HB := n2_; have BK354 := n3_; have GW354 := n4_; have GE354 := n5_; have NB346_354 := n6_; have NB354_346 := n7_; clear n0_ n1_ n2_ n3_ n4_ n5_ n6_ n7_; clear hb hbox hg; have hnb17 := NB354_346.out; have hnc17 := NB346_354.out; have hcz18_0 : w16.cell? ⟨gb354, 0, none⟩ = some (.int .i8 0) := (blk_cell BK354.out 0).trans rfl; have hcz18_1 : w16.cell? ⟨gb354, 1, none⟩ = some (.int .i8 0) := (blk_cell BK354.out 1).trans rfl; have hfz18_0 := blk_frozen BK354.out 0; have hfz18_1 := blk_frozen BK354.out 1))
        have n0_ : Aside0 (Kd.R Kd.bool 4 ((w16.setCell ⟨gb354, 0, none⟩ (.int .i8 ((rd_T54 l1 x17_1).f0))).setCell ⟨gb354, 1, none⟩ (.int .i8 ((rd_T54 l1 x17_1).f1))) w.heap.size (fun _ => True) v351 x5_1) := ⟨by (with_reducible repeat (first | apply Kd.R_alloc | apply Kd.R_drewN | apply Kd.R_drew)); exact Kd.R_mono (Kd.R_far (p := ⟨gb354, 1, none⟩) (Kd.R_far (p := ⟨gb354, 0, none⟩) (Kd.R_types HO_5.out BK354.out (by decide)) (fun _ hk => hk.2) (.int .i8 ((rd_T54 l1 x17_1).f0))) (fun _ hk => hk.2) (.int .i8 ((rd_T54 l1 x17_1).f1))) (fun _ hk => trivial)⟩
        have n1_ : Aside0 (((w16.setCell ⟨gb354, 0, none⟩ (.int .i8 ((rd_T54 l1 x17_1).f0))).setCell ⟨gb354, 1, none⟩ (.int .i8 ((rd_T54 l1 x17_1).f1))).heap[gb346]? = some (.cells #[.slice A0_0 l0_0.length c0_0, .slice A0_1 l0_1.length c0_1] 61 (0, 0))) := ⟨by (with_reducible repeat (first | refine blk_drewN ?_ _ | refine blk_drew ?_ | refine blk_alloc ?_ _)); refine blk_far ?_ NB346_354.out _; (with_reducible repeat (first | refine blk_drewN ?_ _ | refine blk_drew ?_ | refine blk_alloc ?_ _)); refine blk_far ?_ NB346_354.out _; (with_reducible repeat (first | refine blk_drewN ?_ _ | refine blk_drew ?_ | refine blk_alloc ?_ _)); exact BK346.out⟩
        have n2_ : Aside0 (((w16.setCell ⟨gb354, 0, none⟩ (.int .i8 ((rd_T54 l1 x17_1).f0))).setCell ⟨gb354, 1, none⟩ (.int .i8 ((rd_T54 l1 x17_1).f1))).heap[gb354]? = some (.cells #[.int .i8 ((rd_T54 l1 x17_1).f0), .int .i8 ((rd_T54 l1 x17_1).f1)] 54 (0, 0))) := ⟨by (with_reducible repeat (first | refine blk_drewN ?_ _ | refine blk_drew ?_ | refine blk_alloc ?_ _)); refine blk_put (cs := #[.int .i8 ((rd_T54 l1 x17_1).f0), .int .i8 0]) ?_ 1 _ rfl; (with_reducible repeat (first | refine blk_drewN ?_ _ | refine blk_drew ?_ | refine blk_alloc ?_ _)); refine blk_put (cs := #[.int .i8 0, .int .i8 0]) ?_ 0 _ rfl; (with_reducible repeat (first | refine blk_drewN ?_ _ | refine blk_drew ?_ | refine blk_alloc ?_ _)); exact BK354.out⟩
        have n3_ : Aside0 (Below w.heap.size w ((w16.setCell ⟨gb354, 0, none⟩ (.int .i8 ((rd_T54 l1 x17_1).f0))).setCell ⟨gb354, 1, none⟩ (.int .i8 ((rd_T54 l1 x17_1).f1)))) := ⟨pbs HB⟩
        (try clear HO_5)
        (try clear BK346)
        (try clear BK354)
        (try clear HB)
        generalize ((w16.setCell ⟨gb354, 0, none⟩ (.int .i8 ((rd_T54 l1 x17_1).f0))).setCell ⟨gb354, 1, none⟩ (.int .i8 ((rd_T54 l1 x17_1).f1))) = w19 at n0_ n1_ n2_ n3_ ⊢
        have HO_5 := n0_
        have BK346 := n1_
        have BK354 := n2_
        have HB := n3_
        clear n0_ n1_ n2_ n3_
        have n0_ := Aside0.mk (Kd.R_drew HO_5.out)
        have n1_ := Aside0.mk (blk_drew BK346.out)
        have n2_ := Aside0.mk (blk_drew BK354.out)
        have n3_ := Aside0.mk (below_drew1 HB.out)
        clear HO_5
        clear BK346
        clear BK354
        clear HB
        have HO_5 := n0_
        have BK346 := n1_
        have BK354 := n2_
        have HB := n3_
        clear n0_ n1_ n2_ n3_
        have p356 : 0 ≤ (t355 : Int) := of_decide_eq_true (by first | (with_reducible assumption) | assumption)
        have q356 : t355 < (l0_1.length : Int) := of_decide_eq_true (by first | (with_reducible assumption) | assumption)
        obtain ⟨ad356, A356_0, c356_0, e356, hx356_0, hl356_0, hi356_0⟩ := at_L4 HR0_1.out t355 p356 q356
        have hw356_0 := hx356_0
        cases e356
        try replace hx356_0 := (HB.out.cell (World.block_lt_of_cell? w _ hx356_0)).trans hx356_0
        have HR356_0 := Aside0.mk hi356_0
        have HC356_0 := Aside0.mk hl356_0
        clear hi356_0 hl356_0
        replace p356 := eq_true p356
        replace q356 := eq_true q356
        refine start_ (n := 10) (S := fun w' => w'.cell? ⟨gb346, 0, none⟩ = some (.slice A0_0 l0_0.length c0_0) ∧ w'.cell? ⟨gb346, 1, none⟩ = some (.slice (some ad356) l0_1.length c0_1) ∧ w'.cell? ⟨gb354, 0, none⟩ = some (.int .i8 ((rd_T54 l1 x17_1).f0)) ∧ w'.cell? ⟨gb354, 1, none⟩ = some (.int .i8 ((rd_T54 l1 x17_1).f1)) ∧ w'.cell? (ad356.add (t355).toNat) = some (.slice A356_0 (rd_L4 l0_1 t355).length c356_0)) (ds := []) #[false, false, false, false, false, false, false, false, false, false] (by kernel_rfl) rfl rfl ⟨(blk_cell BK346.out 0).trans rfl, (blk_cell BK346.out 1).trans rfl, (blk_cell BK354.out 0).trans rfl, (blk_cell BK354.out 1).trans rfl, ((HB.out.cell (World.block_lt_of_cell? w _ hw356_0)).trans hw356_0)⟩ (fun hHeld => ?_); refine with_tabW impl_posts_far.tab5 impl_posts_far.bits5 (fun HT_ HW_ => ?_)
        generalize w19.drew = w20 at HO_5 BK346 BK354 HB HR356_0 hx356_0 hHeld ⊢
        refine pure_ (i := 0) (N := some 21) (v := ?_) (a' := ?_) #[true, false, false, false, false, false, false, false, false, false] rfl rfl (any_of HT_.out (by kernel_rfl)) (fun _ _ _ h => h) (Or.inl ⟨by rfl, ?_⟩) ?_ ?_
        rotate_left
        ·intro w'
         go_simp
         with_reducible rfl
        rotate_left
        ·simp only [Act.put, List.setIfInBounds_toArray, List.set_cons_zero, List.set_cons_succ, i64_w, i32_w]
         rfl
        refine pure_ (i := 2) (N := some 23) (v := ?_) (a' := ?_) #[true, false, true, false, false, false, false, false, false, false] rfl rfl (any_of HT_.out (by kernel_rfl)) (fun _ _ _ h => h) (Or.inl ⟨by rfl, ?_⟩) ?_ ?_
        rotate_left
        ·intro w'
         go_simp
         with_reducible rfl
        rotate_left
        ·simp only [Act.put, List.setIfInBounds_toArray, List.set_cons_zero, List.set_cons_succ, i64_w, i32_w]
         rfl
        refine pure_ (i := 9) (N := some 30) (v := ?_) (a' := ?_) #[true, false, true, false, false, false, false, false, false, true] rfl rfl (any_of HT_.out (by kernel_rfl)) (fun _ _ _ h => h) (Or.inl ⟨by rfl, ?_⟩) ?_ ?_
        rotate_left
        ·intro w'
         go_simp
         with_reducible rfl
        rotate_left
        ·simp only [Act.put, List.setIfInBounds_toArray, List.set_cons_zero, List.set_cons_succ, i64_w, i32_w]
         rfl
        refine take_ (i := 1) (N := some 22) (v := ?_) (a' := ?_) #[true, true, true, false, false, false, false, false, false, true] rfl rfl (take_ofW HT_.out HW_.out (by kernel_rfl)) (fun _ _ _ h => h) (Or.inl ⟨by rfl, ?_⟩) hHeld ?_ ?_
        rotate_left
        ·rintro w' ⟨s0, s1, s2, s3, s4⟩
         go_simp
         with_reducible rfl
        rotate_left
        ·simp only [Act.put, List.setIfInBounds_toArray, List.set_cons_zero, List.set_cons_succ, i64_w, i32_w]
         rfl
        refine take_ (i := 3) (N := some 24) (v := ?_) (a' := ?_) #[true, true, true, true, false, false, false, false, false, true] rfl rfl (take_ofW HT_.out HW_.out (by kernel_rfl)) (fun _ _ _ h => h) (Or.inl ⟨by rfl, ?_⟩) hHeld ?_ ?_
        rotate_left
        ·rintro w' ⟨s0, s1, s2, s3, s4⟩
         go_simp
         with_reducible rfl
        rotate_left
        ·simp only [Act.put, List.setIfInBounds_toArray, List.set_cons_zero, List.set_cons_succ, i64_w, i32_w]
         rfl
        refine take_ (i := 4) (N := some 25) (v := ?_) (a' := ?_) #[true, true, true, true, true, false, false, false, false, true] rfl rfl (take_ofW HT_.out HW_.out (by kernel_rfl)) (fun _ _ _ h => h) (Or.inl ⟨by rfl, ?_⟩) hHeld ?_ ?_
        rotate_left
        ·rintro w' ⟨s0, s1, s2, s3, s4⟩
         go_simp
         with_reducible rfl
        rotate_left
        ·simp only [Act.put, List.setIfInBounds_toArray, List.set_cons_zero, List.set_cons_succ, i64_w, i32_w]
         rfl
        refine one_ (i := 5) (N := some 26) #[true, true, true, true, true, true, false, false, false, true] rfl rfl (one_of HT_.out (by kernel_rfl)) (by decide) (fun K hK => ?_)
        refine goes_ Try.func67 (by kernel_rfl) rfl #[.slice A0_0 l0_0.length c0_0, .agg #[.int .i8 ((rd_T54 l1 x17_1).f0), .int .i8 ((rd_T54 l1 x17_1).f1)]] (by rfl) rfl rfl (by (try simp only [List.map_toArray, List.map_cons, List.map_nil]); first | done | rfl | (simp only [List.length_drop, List.length_take]; rfl)) ?_
        with_reducible refine (impl_Spot_67.calls k1 _ _ l0_0 ((rd_T54 l1 x17_1).f0) ((rd_T54 l1 x17_1).f1) t355 _ ?side1 ?side2 A13.out).mono ?_
        (case side1 => repeat (first | exact (Kd.C_below HR0_0.out HB.out) | (with_reducible refine Kd.C_alloc ?_ _) | (with_reducible refine Kd.C_drewN ?_ _) | (with_reducible refine Kd.C_drew ?_)))
        (case side2 => exact HC0_0.out)
        rintro e w21 ⟨rfl, hb⟩
        refine ⟨_, rfl, ?_⟩
        have n0_ := krb HO_5 hb
        have n1_ := bkb BK346 hb
        have n2_ := bkb BK354 hb
        have n3_ := bst HB hb
        clear HO_5
        clear BK346
        clear BK354
        clear HB
        have HO_5 := n0_
        have BK346 := n1_
        have BK354 := n2_
        have HB := n3_
        clear n0_ n1_ n2_ n3_
        (try clear hb)
        (try clear hb2)
        (try clear hk)
        (try clear hi)
        refine hK.out _ _ ⟨(blk_cell BK346.out 0).trans rfl, (blk_cell BK346.out 1).trans rfl, (blk_cell BK354.out 0).trans rfl, (blk_cell BK354.out 1).trans rfl, ((HB.out.cell (World.block_lt_of_cell? w _ hw356_0)).trans hw356_0)⟩ (fun hHeld => ?_)
        clear hK K
        refine norm_ (a' := ?_) ?_ ?_
        rotate_left
        ·show Act.put _ (some 26) _ = _
         simp only [Act.put, List.setIfInBounds_toArray, List.set_cons_zero, List.set_cons_succ, i64_w, i32_w]
         rfl
        refine pure_ (i := 6) (N := some 27) (v := ?_) (a' := ?_) #[true, true, true, true, true, true, true, false, false, true] rfl rfl (any_of HT_.out (by kernel_rfl)) (fun _ _ _ h => h) (Or.inl ⟨by rfl, ?_⟩) ?_ ?_
        rotate_left
        ·intro w'
         go_simp
         with_reducible rfl
        rotate_left
        ·simp only [Act.put, List.setIfInBounds_toArray, List.set_cons_zero, List.set_cons_succ, i64_w, i32_w]
         rfl
        refine take_ (i := 7) (N := some 28) (v := ?_) (a' := ?_) #[true, true, true, true, true, true, true, true, false, true] rfl rfl (take_ofW HT_.out HW_.out (by kernel_rfl)) (fun _ _ _ h => h) (Or.inl ⟨by rfl, ?_⟩) hHeld ?_ ?_
        rotate_left
        ·rintro w' ⟨s0, s1, s2, s3, s4⟩
         go_simp
         with_reducible rfl
        rotate_left
        ·simp only [Act.put, List.setIfInBounds_toArray, List.set_cons_zero, List.set_cons_succ, i64_w, i32_w]
         rfl
        refine pure_ (i := 8) (N := some 29) (v := ?_) (a' := ?_) #[true, true, true, true, true, true, true, true, true, true] rfl rfl (any_of HT_.out (by kernel_rfl)) (fun _ _ _ h => h) (Or.inl ⟨by rfl, ?_⟩) ?_ ?_
        rotate_left
        ·intro w'
         go_simp
         with_reducible rfl
        rotate_left
        ·simp only [Act.put, List.setIfInBounds_toArray, List.set_cons_zero, List.set_cons_succ, i64_w, i32_w]
         rfl
        refine done_ (done_of HT_.out (by kernel_rfl)) ?_
        try go_wp2
        go_loopg [30] k1 (fun kq v30 w' => ∃ (x5_2 : List Bool) (x30_2 : Int), v30 = .int .i64 x30_2 ∧ Aside0 (impl_posts_far.l1 kq x5_2 l1 (l1.length : Int) x17_1 (rd_L4 l0_1 t355) ((rd_L4 l0_1 t355).length : Int) x30_2 l0_0 l0_1 = some r) ∧ Aside0 (kq ≤ k1) ∧ Aside0 (Kd.R Kd.bool 4 w' w.heap.size (fun _ => True) v351 x5_2) ∧ Aside0 (w'.heap[gb346]? = some (.cells #[(.slice A0_0 l0_0.length c0_0), (.slice (some ad356) l0_1.length c0_1)] 61 (0, 0))) ∧ Aside0 (w'.heap[gb354]? = some (.cells #[.int .i8 ((rd_T54 l1 x17_1).f0), .int .i8 ((rd_T54 l1 x17_1).f1)] 54 (0, 0))) ∧ Aside0 (Below w.heap.size w w'))
        case atStart => exact ⟨(x5_1), (0), (by first | rfl | (simp; done) | (simp [*]; done)), H', ⟨Nat.le_refl _⟩, ⟨by (with_reducible repeat (first | apply Kd.R_alloc | apply Kd.R_drewN | apply Kd.R_drew)); exact HO_5.out⟩, ⟨pk BK346⟩, ⟨pk BK354⟩, ⟨pbs HB⟩⟩
        case round =>
         clear H'
         try clear c1
         try clear p2
         try clear c3
         try clear p3
         try clear q3
         try clear hx3
         try clear c6
         try clear c10
         try clear c10b0
         try clear c11
         try clear c11b0
         try clear c12
         try clear c12b0
         try clear c14
         try clear c14b0
         try clear c15
         try clear c15b0
         try clear c17
         try clear hcz18_0
         try clear hcz18_1
         try clear hcz7_0
         try clear hcz7_1
         try clear hfz18_0
         try clear hfz18_1
         try clear hfz7_0
         try clear hfz7_1
         try clear hx353_0
         try clear hx353_1
         try clear hx356_0
         try clear p2
         try clear p353
         try clear p356
         try clear q353
         try clear q356
         obtain ⟨x5_2, x30_2, rfl, HA, HK2, HO_5, BK346, BK354, HB⟩ := hrel
         cases gk with
         | zero => exact absurd HA.out (by simp [impl_posts_far.l1])
         | succ k2 =>
          have H := HA.out
          clear HA
          simp only [impl_posts_far.l1] at H
          by_cases c22 : x30_2 < ((rd_L4 l0_1 t355).length : Int)
          ·rw [if_pos c22] at H
           have c22b0 : decide (x30_2 < ((rd_L4 l0_1 t355).length : Int)) = true := decide_eq_true c22
           clear c22
           by_cases c23 : 0 ≤ x30_2
           ·rw [if_pos c23] at H
            have c23b0 : decide (0 ≤ x30_2) = true := decide_eq_true c23
            clear c23
            by_cases c24 : x30_2 < ((rd_L4 l0_1 t355).length : Int)
            ·rw [if_pos c24] at H
             have c24b0 : decide (x30_2 < ((rd_L4 l0_1 t355).length : Int)) = true := decide_eq_true c24
             clear c24
             by_cases c25 : 0 ≤ (rd (rd_L4 l0_1 t355) x30_2)
             ·rw [if_pos c25] at H
              have c25b0 : decide (0 ≤ (rd (rd_L4 l0_1 t355) x30_2)) = true := decide_eq_true c25
              clear c25
              by_cases c26 : (rd (rd_L4 l0_1 t355) x30_2) < (x5_2.length : Int)
              ·rw [if_pos c26] at H
               have c26b0 : decide ((rd (rd_L4 l0_1 t355) x30_2) < (x5_2.length : Int)) = true := decide_eq_true c26
               clear c26
               obtain ⟨y358, hy358⟩ : ∃ y_ : List Bool, y_ = (x5_2.set ((rd (rd_L4 l0_1 t355) x30_2) : Int).toNat false) := ⟨_, rfl⟩
               replace H : (impl_posts_far.l1 k2 y358 l1 (l1.length : Int) x17_1 (rd_L4 l0_1 t355) ((rd_L4 l0_1 t355).length : Int) (wrap64 (x30_2 + 1)) l0_0 l0_1) = some r := by first | (rw [hy358]; with_reducible exact H) | (have H2_ := (Option.bind_some _ _).symm.trans H; rw [hy358]; with_reducible exact H2_) | (have H2_ := (Option.bind_some _ _).symm.trans H; with_reducible exact H2_) | with_reducible exact H | (rw [hy358]; exact H) | exact H
               have Ny358 := Aside0.mk hy358
               clear hy358
               have H' := Aside0.mk H
               clear H
               have p357 : 0 ≤ (x30_2 : Int) := of_decide_eq_true (by first | (with_reducible assumption) | assumption)
               have q357 : x30_2 < ((rd_L4 l0_1 t355).length : Int) := of_decide_eq_true (by first | (with_reducible assumption) | assumption)
               obtain ⟨ad357, e357, hx357_0⟩ := Kd.at_int HR356_0.out x30_2 p357 q357
               cases e357
               try replace hx357_0 := (HB.out.cell (World.block_lt_of_cell? w _ hx357_0)).trans hx357_0
               replace p357 := eq_true p357
               replace q357 := eq_true q357
               have p27 : 0 ≤ ((rd (rd_L4 l0_1 t355) x30_2) : Int) := of_decide_eq_true (by first | (with_reducible assumption) | assumption)
               have q27 : ((rd (rd_L4 l0_1 t355) x30_2) : Int) < ((x5_2.length : Int) : Int) := of_decide_eq_true (by first | (with_reducible assumption) | assumption)
               obtain ⟨go27, co27, eo27, gb27, gl27, cl27, HG27⟩ := Kd.R_form HO_5.out (by omega)
               (first | cases eo27 | (injection eo27 with ea_ en_ ec_; (first | subst ea_ | (injection ea_ with ea_; subst ea_)); subst ec_; clear en_))
               have GB27 := Aside0.mk gb27
               have GG27 := Aside0.mk HG27
               clear gb27 gl27 HG27
               obtain ⟨hx27_0, hf27_0⟩ := Kd.R_celln false HO_5.out ((rd (rd_L4 l0_1 t355) x30_2) : Int) p27 q27
               replace p27 := eq_true p27
               replace q27 := eq_true q27
               have HP28 := Kd.R_putg HO_5.out ((rd (rd_L4 l0_1 t355) x30_2) : Int) false
               go_wp2_with (first | ((with_reducible refine gate_store (t := 4) (p := 36) rfl ?_); refine store_event (t := 4) (p := 36) (v := ?vo_w29) (w1 := (wr.setCell ⟨go27, ((rd (rd_L4 l0_1 t355) x30_2) : Int).toNat, none⟩ (.bool false))) ?hg ?ho ?hn ?hr ?_; (case ho => rfl); (case hg => rfl); (case hn => rfl); (case hr => first | (go_simp; done) | (go_simp; rfl)); intro w29 hw; have hg : wr.grownBy w29 (some go27) := (by rw [hw]; exact HP28.2); have hp_ : Kd.R Kd.bool 4 w29 w.heap.size (fun _ => True) (.slice (some ⟨go27, 0, none⟩) x5_2.length co27) y358 := (by rw [hw, Ny358.out]; exact HP28.1); clear HP28; have n0_ := Aside0.mk (hp_); have n1_ := Aside0.mk (blk_grown (g := gb346) (o := .cells #[.slice A0_0 l0_0.length c0_0, .slice (some ad356) l0_1.length c0_1] 61 (0, 0)) (pk BK346) hg (Kd.R_ne HO_5.out BK346.out (by decide))); have n2_ := Aside0.mk (blk_grown (g := gb354) (o := .cells #[.int .i8 ((rd_T54 l1 x17_1).f0), .int .i8 ((rd_T54 l1 x17_1).f1)] 54 (0, 0)) (pk BK354) hg (Kd.R_ne HO_5.out BK354.out (by decide))); have n3_ := Aside0.mk ((by rw [hw]; exact below_set (HB.out) GB27.out : Below w.heap.size w w29)); clear HO_5; clear BK346; clear BK354; clear HB; have HO_5 := n0_; have BK346 := n1_; have BK354 := n2_; have HB := n3_; clear n0_ n1_ n2_ n3_; clear hg hw hp_))
               go_roundg k2
               case measure => have := HK1.out; have := HK2.out; omega
               case rel => exact ⟨(y358), (wrap64 (x30_2 + 1)), (by first | rfl | (simp; done) | (simp [*]; done)), H', ⟨by have := HK1.out; have := HK2.out; omega⟩, ⟨by (with_reducible repeat (first | apply Kd.R_alloc | apply Kd.R_drewN | apply Kd.R_drew)); exact HO_5.out⟩, ⟨pk BK346⟩, ⟨pk BK354⟩, ⟨pbs HB⟩⟩
              ·rw [if_neg c26] at H
               exact absurd H (by simp)
             ·rw [if_neg c25] at H
              exact absurd H (by simp)
            ·rw [if_neg c24] at H
             exact absurd H (by simp)
           ·rw [if_neg c23] at H
            exact absurd H (by simp)
          ·rw [if_neg c22] at H
           have c22b0 : decide (x30_2 < ((rd_L4 l0_1 t355).length : Int)) = false := decide_eq_false c22
           clear c22
           have H' := Aside0.mk H
           clear H
           go_wp2
           go_roundg k2
           case measure => have := HK1.out; have := HK2.out; omega
           case rel => exact ⟨(x5_2), (wrap64 (x17_1 + 1)), (by first | rfl | (simp; done) | (simp [*]; done)), H', ⟨by have := HK1.out; have := HK2.out; omega⟩, ⟨by (with_reducible repeat (first | apply Kd.R_alloc | apply Kd.R_drewN | apply Kd.R_drew)); exact HO_5.out⟩, ⟨pk BK346⟩, ⟨pbs HB⟩⟩
       ·rw [if_neg c15] at H
        exact absurd H (by simp)
      ·rw [if_neg c14] at H
       exact absurd H (by simp)
     ·rw [if_neg c12] at H
      exact absurd H (by simp)
    ·rw [if_neg c11] at H
     exact absurd H (by simp)
   ·rw [if_neg c10] at H
    have c10b0 : decide (x17_1 < (l1.length : Int)) = false := decide_eq_false c10
    clear c10
    obtain rfl := Option.some.inj H
    go_wp2
    go_ret
    exact ⟨_, by first | rfl | (simp [errW_none, errW_some] <;> rfl) | (simp [*, errW_none, errW_some] <;> rfl), by (with_reducible repeat (first | apply Kd.R_alloc | apply Kd.R_drewN | apply Kd.R_drew)); exact HO_5.out, pbs HB⟩
end Go.Proofs.Ytmcjgpbhjpakhaa.PB
end
