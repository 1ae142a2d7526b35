/- The statement FnExactMoveCrowd of this program: what its proof uses, part 8 of 12. The call returns true for all arguments. No condition of its own. -/
import Derived.Test.YtdedijjbdkoekaaDoorZFnExactMoveCrowd6
section
namespace Go.Proofs.YtdedijjbdkoekaaDoor.PB
open Go.RowKit Go.Proofs.YtdedijjbdkoekaaDoorW.PrintWords Go.Proofs.YtdedijjbdkoekaaDoorW.PrintLast Go.Proofs.YtdedijjbdkoekaaDoorW.PrintMore Go.Proofs.YtdedijjbdkoekaaDoor.La
attribute [local go_sem] max2_int min2_int max_two min_two max_three min_three max_four min_four   -- for this text's walks alone
set_option linter.unusedVariables false
set_option linter.unusedSimpArgs false
mutual
def spec_l06Plain.l0 : Nat → List (S41) → Int → LA 40 → Option (LA 40)
 | 0, _, _, _ => none
 | k + 1, x4, x5, x129000 => if x5 < (x4.length : Int) then (spec_l06Plain.l1 k x4 x5 0 x129000) else (some x129000)
def spec_l06Plain.l1 : Nat → List (S41) → Int → Int → LA 40 → Option (LA 40)
 | 0, _, _, _, _ => none
 | k + 1, x4, x5, x6, x129000 => if x6 < 4 then (if 0 ≤ x5 then (if x5 < (x4.length : Int) then ((spec_l06Put.f x129000 ((rd_T41 x4 x5).f0) ((rd_T41 x4 x5).f1) x6).bind fun t133 => (spec_l06Plain.l1 k x4 x5 (wrap64 (x6 + 1)) t133)) else (none)) else (none)) else (spec_l06Plain.l0 k x4 (wrap64 (x5 + 1)) x129000)
end
def spec_l06Plain.f (k : Nat) (s0_0 : Int) (s0_1 : Int) (s0_2 : LA 10) : Option (LA 40) := (spec_l01All.f k s0_0 s0_1 s0_2).bind fun t129 => (spec_l06Plain.l0 k t129 0 (LA.zero 40))
theorem spec_l06Plain.mono_l : ∀ k, (∀ y0 y1 y2, LeO (spec_l06Plain.l0 k y0 y1 y2) (spec_l06Plain.l0 (k + 1) y0 y1 y2)) ∧ (∀ y0 y1 y2 y3, LeO (spec_l06Plain.l1 k y0 y1 y2 y3) (spec_l06Plain.l1 (k + 1) y0 y1 y2 y3))
 | 0 => ⟨fun _ _ _ r h => by simp [spec_l06Plain.l0] at h, fun _ _ _ _ r h => by simp [spec_l06Plain.l1] at h⟩
 | k + 1 => by
  obtain ⟨ih0, ih1⟩ := spec_l06Plain.mono_l k
  refine ⟨?_, ?_⟩
  ·intro y0 y1 y2
   unfold spec_l06Plain.l0
   repeat' first
   | (with_reducible exact ih0 _ _ _)
   | (with_reducible exact ih1 _ _ _ _)
   | (with_reducible exact spec_l01All.mono _ _ _ _)
   | (with_reducible exact LeO.refl _)
   | (with_reducible exact LeO.none _)
   | (with_reducible refine LeO.ite ?_ ?_)
   | (with_reducible refine LeO.bind ?_ (fun _ => ?_))
   | exact ih0 _ _ _
   | exact ih1 _ _ _ _
   | exact spec_l01All.mono _ _ _ _
   | exact LeO.none _
   | refine LeO.ite ?_ ?_
   | refine LeO.bind ?_ (fun _ => ?_)
  ·intro y0 y1 y2 y3
   unfold spec_l06Plain.l1
   repeat' first
   | (with_reducible exact ih0 _ _ _)
   | (with_reducible exact ih1 _ _ _ _)
   | (with_reducible exact spec_l01All.mono _ _ _ _)
   | (with_reducible exact LeO.refl _)
   | (with_reducible exact LeO.none _)
   | (with_reducible refine LeO.ite ?_ ?_)
   | (with_reducible refine LeO.bind ?_ (fun _ => ?_))
   | exact ih0 _ _ _
   | exact ih1 _ _ _ _
   | exact spec_l01All.mono _ _ _ _
   | exact LeO.none _
   | refine LeO.ite ?_ ?_
   | refine LeO.bind ?_ (fun _ => ?_)
theorem spec_l06Plain.mono : ∀ a0 a1 a2 k, LeO (spec_l06Plain.f k a0 a1 a2) (spec_l06Plain.f (k + 1) a0 a1 a2) := by
 intro a0 a1 a2 k
 obtain ⟨ih0, ih1⟩ := spec_l06Plain.mono_l k
 unfold spec_l06Plain.f
 repeat' first
   | (with_reducible exact ih0 _ _ _)
   | (with_reducible exact ih1 _ _ _ _)
   | (with_reducible exact spec_l01All.mono _ _ _ _)
   | (with_reducible exact LeO.refl _)
   | (with_reducible exact LeO.none _)
   | (with_reducible refine LeO.ite ?_ ?_)
   | (with_reducible refine LeO.bind ?_ (fun _ => ?_))
   | exact ih0 _ _ _
   | exact ih1 _ _ _ _
   | exact spec_l01All.mono _ _ _ _
   | exact LeO.none _
   | refine LeO.ite ?_ ?_
   | refine LeO.bind ?_ (fun _ => ?_)
set_option maxHeartbeats 8000000 in
set_option maxRecDepth 100000 in
theorem spec_l06Plain.calls (k : Nat) (g0 : Nat) (s0_0 : Int) (s0_1 : Int) (s0_2 : LA 10) (r : LA 40) (w : World) (hb0 : w.heap[g0]? = some (.cells (mixA (Value.int .u16) [.int .i8 s0_0, .int .i8 s0_1] s0_2) 31 (0, 0))) (h : spec_l06Plain.f k s0_0 s0_1 s0_2 = some r) :
  Calls Tryd.prog 37 #[.pointer (some ⟨g0, 0, none⟩)] w fun e w' => e = .returned (.agg (mixA (Value.int .u16) [] r)) ∧ Below w.heap.size w w' := by
 have hu41 := Tryd.underlying41
 have BK0 := Aside0.mk hb0
 clear hb0
 have HB := Aside0.mk (Below.refl w.heap.size w)
 have H : ((spec_l01All.f k s0_0 s0_1 s0_2).bind fun t129 => (spec_l06Plain.l0 k t129 0 (LA.zero 40))) = some r := h
 clear h
 replace H := Option.bind_eq_some_iff.mp H
 obtain ⟨t129, A20, H⟩ := H
 replace H : (spec_l06Plain.l0 k t129 0 (LA.zero 40)) = some r := H
 have A2 := Aside0.mk A20
 clear A20
 have H' := Aside0.mk H
 clear H
 go_enter Tryd.func37, Tryd.ntmps37
 go_wp2_with (first | ((with_reducible refine gate_dst (N := 2) rfl ?_); refine box_event ?hg (N := 2) ?hd (cs := (mixA (Value.int .u16) [] (LA.zero 40))) (t := 28) ?hr ?_; (case hd => rfl); (case hg => rfl); (case hr => first | (go_simp; done) | (go_simp; rfl)); intro gb127 hg w3 hbox hb; have n0_ := bkb BK0 hb; have n1_ := bst HB hb; have n2_ := Aside0.mk (hbox); have n3_ := gwl HB hg; have n4_ := gwl HB hg; have n5_ := nbl BK0 hg; have n6_ := nbg BK0 hg; clear BK0; clear HB; have BK0 := n0_; have HB := n1_; have BK127 := n2_; have GW127 := n3_; have GE127 := n4_; have NB0_127 := n5_; have NB127_0 := n6_; clear n0_ n1_ n2_ n3_ n4_ n5_ n6_; clear hb hbox hg) | ((with_reducible refine gate_dst (N := 3) rfl ?_); refine box_event ?hg (N := 3) ?hd (cs := (mixA (Value.int .u16) [] (LA.zero 40))) (t := 28) ?hr ?_; (case hd => rfl); (case hg => rfl); (case hr => first | (go_simp; done) | (go_simp; rfl)); intro gb128 hg w4 hbox hb; have n0_ := bkb BK0 hb; have n1_ := bkb BK127 hb; have n2_ := bst HB hb; have n3_ := Aside0.mk (hbox); have n4_ := gwl HB hg; have n5_ := gwl HB hg; have n6_ := nbl BK0 hg; have n7_ := nbg BK0 hg; have n8_ := nbl BK127 hg; have n9_ := nbg BK127 hg; clear BK0; clear BK127; clear HB; have BK0 := n0_; have BK127 := n1_; have HB := n2_; have BK128 := n3_; have GW128 := n4_; have GE128 := n5_; have NB0_128 := n6_; have NB128_0 := n7_; have NB127_128 := n8_; have NB128_127 := n9_; clear n0_ n1_ n2_ n3_ n4_ n5_ n6_ n7_ n8_ n9_; clear hb hbox hg) | ((with_reducible refine gate_store (p := 3) rfl ?_); refine wpList_store_lmix rfl 28 _ _ rfl gb128 (e := (Value.int .u16)) (cs' := []) (W' := (LA.zero 40)) (cs := []) (W := (LA.zero 40)) (T := 28) rfl rfl (pk BK128) rfl (by kernel_rfl) rfl (fun _ => rfl) rfl ?_; intro w5 hi hk hbl; have n0_ := Aside0.mk (KeepBut.blk hk (g' := g0) (o := .cells (mixA (Value.int .u16) [.int .i8 s0_0, .int .i8 s0_1] s0_2) 31 (0, 0)) (pk BK0) NB0_128.out (by simp)); have n1_ := Aside0.mk (KeepBut.blk hk (g' := gb127) (o := .cells (mixA (Value.int .u16) [] (LA.zero 40)) 28 (0, 0)) (pk BK127) NB127_128.out (by simp)); have n2_ := Aside0.mk (hbl _ _ (pbs HB) GE128.out); have n3_ := Aside0.mk (hi); clear BK0; clear BK127; clear HB; clear BK128; have BK0 := n0_; have BK127 := n1_; have HB := n2_; have BK128 := n3_; clear n0_ n1_ n2_ n3_; clear hi hk hbl) | ((with_reducible refine gate_callee (f := 21) rfl ?_); refine goesL_ (some 9) rfl rfl Tryd.func21 (by kernel_rfl) rfl #[.pointer (some ⟨g0, 0, none⟩)] rfl (by (try simp only [List.map_toArray, List.map_cons, List.map_nil]); first | done | rfl | (simp only [List.length_drop, List.length_take]; rfl)) ?_; (with_reducible refine (spec_l01All.calls k g0 s0_0 s0_1 s0_2 t129 _ ?side1 A2.out).mono ?_); (case side1 => exact (pk BK0)); rintro e w6 ⟨v130, rfl, ho0, hb⟩; refine ⟨_, rfl, ?_⟩; have n0_ := Aside0.mk (Kd.R_lower ho0 (below_size (by repeat (first | (with_reducible first | exact HB.out | apply below_alloc | apply pw_below_drewN | apply below_drew1 | refine below_set ?_ GE0.out | refine below_set ?_ GE127.out | refine below_set ?_ GE128.out) | exact HB.out)))); have n1_ := bkb BK0 hb; have n2_ := bkb BK127 hb; have n3_ := bkb BK128 hb; have n4_ := bst HB hb; clear BK0; clear BK127; clear BK128; clear HB; have HO131 := n0_; have BK0 := n1_; have BK127 := n2_; have BK128 := n3_; have HB := n4_; clear n0_ n1_ n2_ n3_ n4_; (try clear hb); (try clear hb2); (try clear hk); (try clear hi); (try clear ho0)))
 go_loopg [5] k (fun kq v5 w' => ∃ (x5_1 : Int) (x129000_1 : LA 40), v5 = .int .i64 x5_1 ∧ Aside0 (spec_l06Plain.l0 kq t129 x5_1 x129000_1 = some r) ∧ Aside0 (kq ≤ k) ∧ Aside0 (Kd.R k41 41 w' w.heap.size (fun _ => True) v130 t129) ∧ Aside0 (w'.heap[g0]? = some (.cells (mixA (Value.int .u16) [.int .i8 s0_0, .int .i8 s0_1] s0_2) 31 (0, 0))) ∧ Aside0 (w'.heap[gb127]? = some (.cells (mixA (Value.int .u16) [] (LA.zero 40)) 28 (0, 0))) ∧ Aside0 (w'.heap[gb128]? = some (.cells (mixA (Value.int .u16) [] x129000_1) 28 (0, 0))) ∧ Aside0 (Below w.heap.size w w'))
 case atStart => exact ⟨(0), ((LA.zero 40)), (by first | rfl | (simp; done) | (simp [*]; done)), H', ⟨Nat.le_refl _⟩, ⟨by (with_reducible repeat (first | apply Kd.R_alloc | apply Kd.R_drewN | apply Kd.R_drew)); exact HO131.out⟩, ⟨pk BK0⟩, ⟨pk BK127⟩, ⟨pk BK128⟩, ⟨pbs HB⟩⟩
 case round =>
  clear H'
  try clear c2
  try clear p2
  try clear c3
  obtain ⟨x5_1, x129000_1, rfl, HA, HK1, HO_4, BK0, BK127, BK128, HB⟩ := hrel
  cases gk with
  | zero => exact absurd HA.out (by simp [spec_l06Plain.l0])
  | succ k1 =>
   have H := HA.out
   clear HA
   simp only [spec_l06Plain.l0] at H
   by_cases c7 : x5_1 < (t129.length : Int)
   ·rw [if_pos c7] at H
    have c7b0 : decide (x5_1 < (t129.length : Int)) = true := decide_eq_true c7
    clear c7
    have H' := Aside0.mk H
    clear H
    obtain ⟨Ao8, co8, eo8⟩ := Kd.R_slice HO_4.out
    subst eo8
    go_wp2
    go_loopg [6] k1 (fun kq v6 w' => ∃ (x6_2 : Int) (x129000_2 : LA 40), v6 = .int .i64 x6_2 ∧ Aside0 (spec_l06Plain.l1 kq t129 x5_1 x6_2 x129000_2 = some r) ∧ Aside0 (kq ≤ k1) ∧ Aside0 (Kd.R k41 41 w' w.heap.size (fun _ => True) (.slice Ao8 t129.length co8) t129) ∧ Aside0 (w'.heap[g0]? = some (.cells (mixA (Value.int .u16) [.int .i8 s0_0, .int .i8 s0_1] s0_2) 31 (0, 0))) ∧ Aside0 (w'.heap[gb127]? = some (.cells (mixA (Value.int .u16) [] (LA.zero 40)) 28 (0, 0))) ∧ Aside0 (w'.heap[gb128]? = some (.cells (mixA (Value.int .u16) [] x129000_2) 28 (0, 0))) ∧ Aside0 (Below w.heap.size w w'))
    case atStart => exact ⟨(0), (x129000_1), (by first | rfl | (simp; done) | (simp [*]; done)), H', ⟨Nat.le_refl _⟩, ⟨by (with_reducible repeat (first | apply Kd.R_alloc | apply Kd.R_drewN | apply Kd.R_drew)); exact HO_4.out⟩, ⟨pk BK0⟩, ⟨pk BK127⟩, ⟨pk BK128⟩, ⟨pbs HB⟩⟩
    case round =>
     clear H'
     try clear c2
     try clear p2
     try clear c3
     try clear c7
     try clear c7b0
     try clear p2
     obtain ⟨x6_2, x129000_2, rfl, HA, HK2, HO_4, BK0, BK127, BK128, HB⟩ := hrel
     cases gk with
     | zero => exact absurd HA.out (by simp [spec_l06Plain.l1])
     | succ k2 =>
      have H := HA.out
      clear HA
      simp only [spec_l06Plain.l1] at H
      by_cases c9 : x6_2 < 4
      ·rw [if_pos c9] at H
       have c9b0 : decide (x6_2 < 4) = true := decide_eq_true c9
       clear c9
       by_cases c10 : 0 ≤ x5_1
       ·rw [if_pos c10] at H
        have c10b0 : decide (0 ≤ x5_1) = true := decide_eq_true c10
        clear c10
        by_cases c11 : x5_1 < (t129.length : Int)
        ·rw [if_pos c11] at H
         have c11b0 : decide (x5_1 < (t129.length : Int)) = true := decide_eq_true c11
         clear c11
         replace H := Option.bind_eq_some_iff.mp H
         obtain ⟨t133, A120, H⟩ := H
         replace H : (spec_l06Plain.l1 k2 t129 x5_1 (wrap64 (x6_2 + 1)) t133) = some r := H
         have A12 := Aside0.mk A120
         clear A120
         have H' := Aside0.mk H
         clear H
         have p132 : 0 ≤ (x5_1 : Int) := of_decide_eq_true (by first | (with_reducible assumption) | assumption)
         have q132 : x5_1 < (t129.length : Int) := of_decide_eq_true (by first | (with_reducible assumption) | assumption)
         obtain ⟨ad132, e132, hx132_0, hx132_1⟩ := at_T41 (Kd.R_reads' HO_4.out).2.2 x5_1 p132 q132
         cases e132
         replace p132 := eq_true p132
         replace q132 := eq_true q132
         go_wp2_with (first | ((with_reducible refine gate_callee (f := 24) rfl ?_); refine goesL_ (some 25) rfl rfl Tryd.func24 (by kernel_rfl) rfl #[.pointer (some ⟨gb128, 0, none⟩), .agg #[.int .i8 ((rd_T41 t129 x5_1).f0), .int .i8 ((rd_T41 t129 x5_1).f1)], .int .i64 x6_2] rfl (by (try simp only [List.map_toArray, List.map_cons, List.map_nil]); first | done | rfl | (simp only [List.length_drop, List.length_take]; rfl)) ?_; (with_reducible refine (spec_l06Put.calls gb128 x129000_2 ((rd_T41 t129 x5_1).f0) ((rd_T41 t129 x5_1).f1) x6_2 t133 w _ ?side1 ?side2 A12.out).mono ?_); (case side1 => exact ⟨(pk BK128), GE128.out⟩); (case side2 => repeat (first | (with_reducible first | exact HB.out | apply below_alloc | apply pw_below_drewN | apply below_drew1 | refine below_set ?_ GE0.out | refine below_set ?_ GE127.out | refine below_set ?_ GE128.out) | exact HB.out)); rintro e w13 ⟨rfl, hi, hb, hk⟩; refine ⟨_, rfl, ?_⟩; have n0_ := Aside0.mk (Kd.R_mono (Kd.R_keep (Kd.R_types (by (with_reducible repeat (first | apply Kd.R_alloc | apply Kd.R_drewN | apply Kd.R_drew)); exact HO_4.out) (pk BK128) (by decide)) hk (fun _ h => h.2)) (fun _ h => h.1)); have n1_ := Aside0.mk (KeepBut.blk hk (g' := g0) (o := .cells (mixA (Value.int .u16) [.int .i8 s0_0, .int .i8 s0_1] s0_2) 31 (0, 0)) (pk BK0) NB0_128.out (by simp)); have n2_ := Aside0.mk (KeepBut.blk hk (g' := gb127) (o := .cells (mixA (Value.int .u16) [] (LA.zero 40)) 28 (0, 0)) (pk BK127) NB127_128.out (by simp)); have n3_ := Aside0.mk (hb); have n4_ := Aside0.mk (hi.1); clear HO_4; clear BK0; clear BK127; clear HB; clear BK128; have HO_4 := n0_; have BK0 := n1_; have BK127 := n2_; have HB := n3_; have BK128 := n4_; clear n0_ n1_ n2_ n3_ n4_; (try clear hb); (try clear hb2); (try clear hk); (try clear hi)))
         go_roundg k2
         case measure => have := HK1.out; have := HK2.out; omega
         case rel => exact ⟨(wrap64 (x6_2 + 1)), (t133), (by first | rfl | (simp; done) | (simp [*]; done)), H', ⟨by have := HK1.out; have := HK2.out; omega⟩, ⟨by (with_reducible repeat (first | apply Kd.R_alloc | apply Kd.R_drewN | apply Kd.R_drew)); exact HO_4.out⟩, ⟨pk BK0⟩, ⟨pk BK127⟩, ⟨pk BK128⟩, ⟨pbs HB⟩⟩
        ·rw [if_neg c11] at H
         exact absurd H (by simp)
       ·rw [if_neg c10] at H
        exact absurd H (by simp)
      ·rw [if_neg c9] at H
       have c9b0 : decide (x6_2 < 4) = false := decide_eq_false c9
       clear c9
       have H' := Aside0.mk H
       clear H
       go_wp2
       go_roundg k2
       case measure => have := HK1.out; have := HK2.out; omega
       case rel => exact ⟨(wrap64 (x5_1 + 1)), (x129000_2), (by first | rfl | (simp; done) | (simp [*]; done)), H', ⟨by have := HK1.out; have := HK2.out; omega⟩, ⟨by (with_reducible repeat (first | apply Kd.R_alloc | apply Kd.R_drewN | apply Kd.R_drew)); exact HO_4.out⟩, ⟨pk BK0⟩, ⟨pk BK127⟩, ⟨pk BK128⟩, ⟨pbs HB⟩⟩
   ·rw [if_neg c7] at H
    have c7b0 : decide (x5_1 < (t129.length : Int)) = false := decide_eq_false c7
    clear c7
    obtain rfl := Option.some.inj H
    obtain ⟨Ao14, co14, eo14⟩ := Kd.R_slice HO_4.out
    subst eo14
    go_wp2_with (first | ((with_reducible refine gate_dst (N := 26) rfl ?_); refine wpList_run0 (v := .agg (mixA (Value.int .u16) [] x129000_1)) rfl (load_mix_run (P := Tryd.prog) 28 (.tmp 3) rfl gb128 rfl (show World.rangeAt _ gb128 0 ([] ++ x129000_1.l.map (Value.int .u16)) from mix_range (show (World.heap _)[gb128]? = some (.cells (mixA (Value.int .u16) [] x129000_1) 28 (0, 0)) from by (with_reducible repeat (first | refine blk_drewN ?_ _ | refine blk_drew ?_ | refine blk_alloc ?_ _)); exact BK128.out)) Tryd.underlying28 rfl (by kernel_rfl) rfl) ?_) | ((with_reducible refine gate_store (p := 2) rfl ?_); refine wpList_store_lmix rfl 28 _ _ rfl gb127 (e := (Value.int .u16)) (cs' := []) (W' := x129000_1) (cs := []) (W := (LA.zero 40)) (T := 28) rfl rfl (pk BK127) rfl (by kernel_rfl) rfl (fun _ => rfl) rfl ?_; intro w16 hi hk hbl; have n0_ := Aside0.mk (Kd.R_mono (Kd.R_keep (Kd.R_types (by (with_reducible repeat (first | apply Kd.R_alloc | apply Kd.R_drewN | apply Kd.R_drew)); exact HO_4.out) (pk BK127) (by decide)) hk (fun _ h => h.2)) (fun _ h => h.1)); have n1_ := Aside0.mk (KeepBut.blk hk (g' := g0) (o := .cells (mixA (Value.int .u16) [.int .i8 s0_0, .int .i8 s0_1] s0_2) 31 (0, 0)) (pk BK0) NB0_127.out (by simp)); have n2_ := Aside0.mk (KeepBut.blk hk (g' := gb128) (o := .cells (mixA (Value.int .u16) [] x129000_1) 28 (0, 0)) (pk BK128) NB128_127.out (by simp)); have n3_ := Aside0.mk (hbl _ _ (pbs HB) GE127.out); have n4_ := Aside0.mk (hi); clear HO_4; clear BK0; clear BK128; clear HB; clear BK127; have HO_4 := n0_; have BK0 := n1_; have BK128 := n2_; have HB := n3_; have BK127 := n4_; clear n0_ n1_ n2_ n3_ n4_; clear hi hk hbl))
    refine bodyPost_ret (results_cell_row rfl _ _ gb127 28 (mixA (Value.int .u16) [] x129000_1) (0, 0) _ rfl (pk BK127) Tryd.underlying28 rfl (by rw [mix_size]; kernel_rfl)) rfl ?_
    exact ⟨by first | rfl | (simp [errW_none, errW_some] <;> rfl) | (simp [*, errW_none, errW_some] <;> rfl), pbs HB⟩
mutual
def spec_l06Ok.l0 : Nat → Int → LA 40 → LA 40 → Option (Bool)
 | 0, _, _, _ => none
 | k + 1, x6, x2000, x137000 => if x6 < 4 then (spec_l06Ok.l1 k x6 0 x2000 x137000) else (some true)
def spec_l06Ok.l1 : Nat → Int → Int → LA 40 → LA 40 → Option (Bool)
 | 0, _, _, _, _ => none
 | k + 1, x6, x7, x2000, x137000 => if x7 < 10 then (if 0 ≤ x6 then (if x6 < 4 then (if 0 ≤ x7 then (if (Go.bits .andNot .u16 (rd x2000.l (x6 * 10 + x7)) (rd x137000.l (x6 * 10 + x7))) = 0 then (spec_l06Ok.l1 k x6 (wrap64 (x7 + 1)) x2000 x137000) else (some false)) else (none)) else (none)) else (none)) else (spec_l06Ok.l0 k (wrap64 (x6 + 1)) x2000 x137000)
end
def spec_l06Ok.f (k : Nat) (s0_0 : Int) (s0_1 : Int) (s0_2 : LA 10) (s1_0 : LA 40) : Option (Bool) := (spec_l01Ok.f k s0_0 s0_1 s0_2).bind fun t134 => (if t134 = true then ((spec_l06Plain.f k s0_0 s0_1 s0_2).bind fun t135 => (spec_l06Ok.l0 k 0 s1_0 t135)) else (some false))
theorem spec_l06Ok.mono_l : ∀ k, (∀ y0 y1 y2, LeO (spec_l06Ok.l0 k y0 y1 y2) (spec_l06Ok.l0 (k + 1) y0 y1 y2)) ∧ (∀ y0 y1 y2 y3, LeO (spec_l06Ok.l1 k y0 y1 y2 y3) (spec_l06Ok.l1 (k + 1) y0 y1 y2 y3))
 | 0 => ⟨fun _ _ _ r h => by simp [spec_l06Ok.l0] at h, fun _ _ _ _ r h => by simp [spec_l06Ok.l1] at h⟩
 | k + 1 => by
  obtain ⟨ih0, ih1⟩ := spec_l06Ok.mono_l k
  refine ⟨?_, ?_⟩
  ·intro y0 y1 y2
   unfold spec_l06Ok.l0
   repeat' first
   | (with_reducible exact ih0 _ _ _)
   | (with_reducible exact ih1 _ _ _ _)
   | (with_reducible exact spec_l01Ok.mono _ _ _ _)
   | (with_reducible exact spec_l06Plain.mono _ _ _ _)
   | (with_reducible exact LeO.refl _)
   | (with_reducible exact LeO.none _)
   | (with_reducible refine LeO.ite ?_ ?_)
   | (with_reducible refine LeO.bind ?_ (fun _ => ?_))
   | exact ih0 _ _ _
   | exact ih1 _ _ _ _
   | exact spec_l01Ok.mono _ _ _ _
   | exact spec_l06Plain.mono _ _ _ _
   | exact LeO.none _
   | refine LeO.ite ?_ ?_
   | refine LeO.bind ?_ (fun _ => ?_)
  ·intro y0 y1 y2 y3
   unfold spec_l06Ok.l1
   repeat' first
   | (with_reducible exact ih0 _ _ _)
   | (with_reducible exact ih1 _ _ _ _)
   | (with_reducible exact spec_l01Ok.mono _ _ _ _)
   | (with_reducible exact spec_l06Plain.mono _ _ _ _)
   | (with_reducible exact LeO.refl _)
   | (with_reducible exact LeO.none _)
   | (with_reducible refine LeO.ite ?_ ?_)
   | (with_reducible refine LeO.bind ?_ (fun _ => ?_))
   | exact ih0 _ _ _
   | exact ih1 _ _ _ _
   | exact spec_l01Ok.mono _ _ _ _
   | exact spec_l06Plain.mono _ _ _ _
   | exact LeO.none _
   | refine LeO.ite ?_ ?_
   | refine LeO.bind ?_ (fun _ => ?_)
theorem spec_l06Ok.mono : ∀ a0 a1 a2 a3 k, LeO (spec_l06Ok.f k a0 a1 a2 a3) (spec_l06Ok.f (k + 1) a0 a1 a2 a3) := by
 intro a0 a1 a2 a3 k
 obtain ⟨ih0, ih1⟩ := spec_l06Ok.mono_l k
 unfold spec_l06Ok.f
 repeat' first
   | (with_reducible exact ih0 _ _ _)
   | (with_reducible exact ih1 _ _ _ _)
   | (with_reducible exact spec_l01Ok.mono _ _ _ _)
   | (with_reducible exact spec_l06Plain.mono _ _ _ _)
   | (with_reducible exact LeO.refl _)
   | (with_reducible exact LeO.none _)
   | (with_reducible refine LeO.ite ?_ ?_)
   | (with_reducible refine LeO.bind ?_ (fun _ => ?_))
   | exact ih0 _ _ _
   | exact ih1 _ _ _ _
   | exact spec_l01Ok.mono _ _ _ _
   | exact spec_l06Plain.mono _ _ _ _
   | exact LeO.none _
   | refine LeO.ite ?_ ?_
   | refine LeO.bind ?_ (fun _ => ?_)
set_option maxHeartbeats 8000000 in
set_option maxRecDepth 100000 in
theorem spec_l06Ok.calls (k : Nat) (g0 : Nat) (s0_0 : Int) (s0_1 : Int) (s0_2 : LA 10) (g1 : Nat) (s1_0 : LA 40) (r : Bool) (w : World) (hb0 : w.heap[g0]? = some (.cells (mixA (Value.int .u16) [.int .i8 s0_0, .int .i8 s0_1] s0_2) 31 (0, 0))) (hb1 : w.heap[g1]? = some (.cells (mixA (Value.int .u16) [] s1_0) 28 (0, 0))) (h : spec_l06Ok.f k s0_0 s0_1 s0_2 s1_0 = some r) :
  Calls Tryd.prog 33 #[.pointer (some ⟨g0, 0, none⟩), .pointer (some ⟨g1, 0, none⟩)] w fun e w' => e = .returned (.bool r) ∧ Below w.heap.size w w' := by
 have NB0_1 := Aside0.mk (show g0 ≠ g1 from fun e_ => by rw [e_, hb1] at hb0; injection hb0 with h_; injection h_ with _ ht_; exact absurd ht_ (by decide))
 have NB1_0 := Aside0.mk (show g1 ≠ g0 from fun e_ => by rw [e_, hb0] at hb1; injection hb1 with h_; injection h_ with _ ht_; exact absurd ht_ (by decide))
 have BK0 := Aside0.mk hb0
 clear hb0
 have BK1 := Aside0.mk hb1
 clear hb1
 have HB := Aside0.mk (Below.refl w.heap.size w)
 have H : ((spec_l01Ok.f k s0_0 s0_1 s0_2).bind fun t134 => (if t134 = true then ((spec_l06Plain.f k s0_0 s0_1 s0_2).bind fun t135 => (spec_l06Ok.l0 k 0 s1_0 t135)) else (some false))) = some r := h
 clear h
 replace H := Option.bind_eq_some_iff.mp H
 obtain ⟨t134, A30, H⟩ := H
 replace H : (if t134 = true then ((spec_l06Plain.f k s0_0 s0_1 s0_2).bind fun t135 => (spec_l06Ok.l0 k 0 s1_0 t135)) else (some false)) = some r := H
 have A3 := Aside0.mk A30
 clear A30
 by_cases c4 : t134 = true
 ·subst c4
  have H1 : ((spec_l06Plain.f k s0_0 s0_1 s0_2).bind fun t135 => (spec_l06Ok.l0 k 0 s1_0 t135)) = some r := by rw [if_pos rfl] at H; exact H
  clear H
  have H := H1
  clear H1
  replace H := Option.bind_eq_some_iff.mp H
  obtain ⟨t135, A50, H⟩ := H
  replace H : (spec_l06Ok.l0 k 0 s1_0 t135) = some r := H
  have A5 := Aside0.mk A50
  clear A50
  have H' := Aside0.mk H
  clear H
  go_enter Tryd.func33, Tryd.ntmps33
  go_wp2_with (first | (go_at_call 19; (with_reducible refine (spec_l01Ok.calls k g0 s0_0 s0_1 s0_2 true _ ?side1 A3.out).mono ?_); (case side1 => exact (pk BK0)); rintro e w6 ⟨rfl, hb⟩; have n0_ := bkb BK0 hb; have n1_ := bkb BK1 hb; have n2_ := bst HB hb; clear BK0; clear BK1; clear HB; have BK0 := n0_; have BK1 := n1_; have HB := n2_; clear n0_ n1_ n2_; (try clear hb); (try clear hb2); (try clear hk); (try clear hi)) | (go_at_call 37; (with_reducible refine (spec_l06Plain.calls k g0 s0_0 s0_1 s0_2 t135 _ ?side1 A5.out).mono ?_); (case side1 => exact (pk BK0)); rintro e w7 ⟨rfl, hb⟩; have n0_ := bkb BK0 hb; have n1_ := bkb BK1 hb; have n2_ := bst HB hb; clear BK0; clear BK1; clear HB; have BK0 := n0_; have BK1 := n1_; have HB := n2_; clear n0_ n1_ n2_; (try clear hb); (try clear hb2); (try clear hk); (try clear hi)) | ((with_reducible refine gate_dst (N := 5) rfl ?_); refine box_event ?hg (N := 5) ?hd (cs := (mixA (Value.int .u16) [] (LA.zero 40))) (t := 28) ?hr ?_; (case hd => rfl); (case hg => rfl); (case hr => first | (go_simp; done) | (go_simp; rfl)); intro gb136 hg w8 hbox hb; have n0_ := bkb BK0 hb; have n1_ := bkb BK1 hb; have n2_ := bst HB hb; have n3_ := Aside0.mk (hbox); have n4_ := gwl HB hg; have n5_ := gwl HB hg; have n6_ := nbl BK0 hg; have n7_ := nbg BK0 hg; have n8_ := nbl BK1 hg; have n9_ := nbg BK1 hg; clear BK0; clear BK1; clear HB; have BK0 := n0_; have BK1 := n1_; have HB := n2_; have BK136 := n3_; have GW136 := n4_; have GE136 := n5_; have NB0_136 := n6_; have NB136_0 := n7_; have NB1_136 := n8_; have NB136_1 := n9_; clear n0_ n1_ n2_ n3_ n4_ n5_ n6_ n7_ n8_ n9_; clear hb hbox hg) | ((with_reducible refine gate_store (p := 5) rfl ?_); (try (rw [drewN_self w8]; generalize hq_ : World.drewN w8 _ = w8; have n0_ := Aside0.mk (blk_at hq_ BK0.out); have n1_ := Aside0.mk (blk_at hq_ BK1.out); have n2_ := Aside0.mk (blk_at hq_ BK136.out); have n3_ := Aside0.mk (below_at hq_ HB.out); clear hq_ BK0 BK1 BK136 HB; have BK0 := n0_; have BK1 := n1_; have BK136 := n2_; have HB := n3_; clear n0_ n1_ n2_ n3_)); refine wpList_store_lmix rfl 28 _ _ rfl gb136 (e := (Value.int .u16)) (cs' := []) (W' := t135) (cs := []) (W := (LA.zero 40)) (T := 28) rfl rfl (pk BK136) rfl (by kernel_rfl) rfl (fun _ => rfl) rfl ?_; intro w9 hi hk hbl; have n0_ := Aside0.mk (KeepBut.blk hk (g' := g0) (o := .cells (mixA (Value.int .u16) [.int .i8 s0_0, .int .i8 s0_1] s0_2) 31 (0, 0)) (pk BK0) NB0_136.out (by simp)); have n1_ := Aside0.mk (KeepBut.blk hk (g' := g1) (o := .cells (mixA (Value.int .u16) [] s1_0) 28 (0, 0)) (pk BK1) NB1_136.out (by simp)); have n2_ := Aside0.mk (hbl _ _ (pbs HB) GE136.out); have n3_ := Aside0.mk (hi); clear BK0; clear BK1; clear HB; clear BK136; have BK0 := n0_; have BK1 := n1_; have HB := n2_; have BK136 := n3_; clear n0_ n1_ n2_ n3_; clear hi hk hbl))
  repeat (go_quiet (first | (go_at_call 19; (with_reducible refine (spec_l01Ok.calls k g0 s0_0 s0_1 s0_2 true _ ?side1 A3.out).mono ?_); (case side1 => exact (pk BK0)); rintro e w6 ⟨rfl, hb⟩; have n0_ := bkb BK0 hb; have n1_ := bkb BK1 hb; have n2_ := bst HB hb; clear BK0; clear BK1; clear HB; have BK0 := n0_; have BK1 := n1_; have HB := n2_; clear n0_ n1_ n2_; (try clear hb); (try clear hb2); (try clear hk); (try clear hi)) | (go_at_call 37; (with_reducible refine (spec_l06Plain.calls k g0 s0_0 s0_1 s0_2 t135 _ ?side1 A5.out).mono ?_); (case side1 => exact (pk BK0)); rintro e w7 ⟨rfl, hb⟩; have n0_ := bkb BK0 hb; have n1_ := bkb BK1 hb; have n2_ := bst HB hb; clear BK0; clear BK1; clear HB; have BK0 := n0_; have BK1 := n1_; have HB := n2_; clear n0_ n1_ n2_; (try clear hb); (try clear hb2); (try clear hk); (try clear hi)) | ((with_reducible refine gate_dst (N := 5) rfl ?_); refine box_event ?hg (N := 5) ?hd (cs := (mixA (Value.int .u16) [] (LA.zero 40))) (t := 28) ?hr ?_; (case hd => rfl); (case hg => rfl); (case hr => first | (go_simp; done) | (go_simp; rfl)); intro gb136 hg w8 hbox hb; have n0_ := bkb BK0 hb; have n1_ := bkb BK1 hb; have n2_ := bst HB hb; have n3_ := Aside0.mk (hbox); have n4_ := gwl HB hg; have n5_ := gwl HB hg; have n6_ := nbl BK0 hg; have n7_ := nbg BK0 hg; have n8_ := nbl BK1 hg; have n9_ := nbg BK1 hg; clear BK0; clear BK1; clear HB; have BK0 := n0_; have BK1 := n1_; have HB := n2_; have BK136 := n3_; have GW136 := n4_; have GE136 := n5_; have NB0_136 := n6_; have NB136_0 := n7_; have NB1_136 := n8_; have NB136_1 := n9_; clear n0_ n1_ n2_ n3_ n4_ n5_ n6_ n7_ n8_ n9_; clear hb hbox hg) | ((with_reducible refine gate_store (p := 5) rfl ?_); (try (rw [drewN_self w8]; generalize hq_ : World.drewN w8 _ = w8; have n0_ := Aside0.mk (blk_at hq_ BK0.out); have n1_ := Aside0.mk (blk_at hq_ BK1.out); have n2_ := Aside0.mk (blk_at hq_ BK136.out); have n3_ := Aside0.mk (below_at hq_ HB.out); clear hq_ BK0 BK1 BK136 HB; have BK0 := n0_; have BK1 := n1_; have BK136 := n2_; have HB := n3_; clear n0_ n1_ n2_ n3_)); refine wpList_store_lmix rfl 28 _ _ rfl gb136 (e := (Value.int .u16)) (cs' := []) (W' := t135) (cs := []) (W := (LA.zero 40)) (T := 28) rfl rfl (pk BK136) rfl (by kernel_rfl) rfl (fun _ => rfl) rfl ?_; intro w9 hi hk hbl; have n0_ := Aside0.mk (KeepBut.blk hk (g' := g0) (o := .cells (mixA (Value.int .u16) [.int .i8 s0_0, .int .i8 s0_1] s0_2) 31 (0, 0)) (pk BK0) NB0_136.out (by simp)); have n1_ := Aside0.mk (KeepBut.blk hk (g' := g1) (o := .cells (mixA (Value.int .u16) [] s1_0) 28 (0, 0)) (pk BK1) NB1_136.out (by simp)); have n2_ := Aside0.mk (hbl _ _ (pbs HB) GE136.out); have n3_ := Aside0.mk (hi); clear BK0; clear BK1; clear HB; clear BK136; have BK0 := n0_; have BK1 := n1_; have HB := n2_; have BK136 := n3_; clear n0_ n1_ n2_ n3_; clear hi hk hbl)); try go_wp2_with (first | (go_at_call 19; (with_reducible refine (spec_l01Ok.calls k g0 s0_0 s0_1 s0_2 true _ ?side1 A3.out).mono ?_); (case side1 => exact (pk BK0)); rintro e w6 ⟨rfl, hb⟩; have n0_ := bkb BK0 hb; have n1_ := bkb BK1 hb; have n2_ := bst HB hb; clear BK0; clear BK1; clear HB; have BK0 := n0_; have BK1 := n1_; have HB := n2_; clear n0_ n1_ n2_; (try clear hb); (try clear hb2); (try clear hk); (try clear hi)) | (go_at_call 37; (with_reducible refine (spec_l06Plain.calls k g0 s0_0 s0_1 s0_2 t135 _ ?side1 A5.out).mono ?_); (case side1 => exact (pk BK0)); rintro e w7 ⟨rfl, hb⟩; have n0_ := bkb BK0 hb; have n1_ := bkb BK1 hb; have n2_ := bst HB hb; clear BK0; clear BK1; clear HB; have BK0 := n0_; have BK1 := n1_; have HB := n2_; clear n0_ n1_ n2_; (try clear hb); (try clear hb2); (try clear hk); (try clear hi)) | ((with_reducible refine gate_dst (N := 5) rfl ?_); refine box_event ?hg (N := 5) ?hd (cs := (mixA (Value.int .u16) [] (LA.zero 40))) (t := 28) ?hr ?_; (case hd => rfl); (case hg => rfl); (case hr => first | (go_simp; done) | (go_simp; rfl)); intro gb136 hg w8 hbox hb; have n0_ := bkb BK0 hb; have n1_ := bkb BK1 hb; have n2_ := bst HB hb; have n3_ := Aside0.mk (hbox); have n4_ := gwl HB hg; have n5_ := gwl HB hg; have n6_ := nbl BK0 hg; have n7_ := nbg BK0 hg; have n8_ := nbl BK1 hg; have n9_ := nbg BK1 hg; clear BK0; clear BK1; clear HB; have BK0 := n0_; have BK1 := n1_; have HB := n2_; have BK136 := n3_; have GW136 := n4_; have GE136 := n5_; have NB0_136 := n6_; have NB136_0 := n7_; have NB1_136 := n8_; have NB136_1 := n9_; clear n0_ n1_ n2_ n3_ n4_ n5_ n6_ n7_ n8_ n9_; clear hb hbox hg) | ((with_reducible refine gate_store (p := 5) rfl ?_); (try (rw [drewN_self w8]; generalize hq_ : World.drewN w8 _ = w8; have n0_ := Aside0.mk (blk_at hq_ BK0.out); have n1_ := Aside0.mk (blk_at hq_ BK1.out); have n2_ := Aside0.mk (blk_at hq_ BK136.out); have n3_ := Aside0.mk (below_at hq_ HB.out); clear hq_ BK0 BK1 BK136 HB; have BK0 := n0_; have BK1 := n1_; have BK136 := n2_; have HB := n3_; clear n0_ n1_ n2_ n3_)); refine wpList_store_lmix rfl 28 _ _ rfl gb136 (e := (Value.int .u16)) (cs' := []) (W' := t135) (cs := []) (W := (LA.zero 40)) (T := 28) rfl rfl (pk BK136) rfl (by kernel_rfl) rfl (fun _ => rfl) rfl ?_; intro w9 hi hk hbl; have n0_ := Aside0.mk (KeepBut.blk hk (g' := g0) (o := .cells (mixA (Value.int .u16) [.int .i8 s0_0, .int .i8 s0_1] s0_2) 31 (0, 0)) (pk BK0) NB0_136.out (by simp)); have n1_ := Aside0.mk (KeepBut.blk hk (g' := g1) (o := .cells (mixA (Value.int .u16) [] s1_0) 28 (0, 0)) (pk BK1) NB1_136.out (by simp)); have n2_ := Aside0.mk (hbl _ _ (pbs HB) GE136.out); have n3_ := Aside0.mk (hi); clear BK0; clear BK1; clear HB; clear BK136; have BK0 := n0_; have BK1 := n1_; have HB := n2_; have BK136 := n3_; clear n0_ n1_ n2_ n3_; clear hi hk hbl)))
  go_loopg [6] k (fun kq v6 w' => ∃ (x6_1 : Int), v6 = .int .i64 x6_1 ∧ Aside0 (spec_l06Ok.l0 kq x6_1 s1_0 t135 = some r) ∧ Aside0 (kq ≤ k) ∧ Aside0 (w'.heap[g0]? = some (.cells (mixA (Value.int .u16) [.int .i8 s0_0, .int .i8 s0_1] s0_2) 31 (0, 0))) ∧ Aside0 (w'.heap[g1]? = some (.cells (mixA (Value.int .u16) [] s1_0) 28 (0, 0))) ∧ Aside0 (w'.heap[gb136]? = some (.cells (mixA (Value.int .u16) [] t135) 28 (0, 0))) ∧ Aside0 (Below w.heap.size w w'))
  case atStart => exact ⟨(0), (by first | rfl | (simp; done) | (simp [*]; done)), H', ⟨Nat.le_refl _⟩, ⟨pk BK0⟩, ⟨pk BK1⟩, ⟨pk BK136⟩, ⟨pbs HB⟩⟩
  case round =>
   clear H'
   try clear p2
   try clear c3
   try clear c4
   obtain ⟨x6_1, rfl, HA, HK1, BK0, BK1, BK136, HB⟩ := hrel
   cases gk with
   | zero => exact absurd HA.out (by simp [spec_l06Ok.l0])
   | succ k1 =>
    have H := HA.out
    clear HA
    simp only [spec_l06Ok.l0] at H
    by_cases c10 : x6_1 < 4
    ·rw [if_pos c10] at H
     have c10b0 : decide (x6_1 < 4) = true := decide_eq_true c10
     clear c10
     have H' := Aside0.mk H
     clear H
     go_wp2
     repeat (go_quiet (fail); try go_wp2)
     go_loopg [7] k1 (fun kq v7 w' => ∃ (x7_2 : Int), v7 = .int .i64 x7_2 ∧ Aside0 (spec_l06Ok.l1 kq x6_1 x7_2 s1_0 t135 = some r) ∧ Aside0 (kq ≤ k1) ∧ Aside0 (w'.heap[g0]? = some (.cells (mixA (Value.int .u16) [.int .i8 s0_0, .int .i8 s0_1] s0_2) 31 (0, 0))) ∧ Aside0 (w'.heap[g1]? = some (.cells (mixA (Value.int .u16) [] s1_0) 28 (0, 0))) ∧ Aside0 (w'.heap[gb136]? = some (.cells (mixA (Value.int .u16) [] t135) 28 (0, 0))) ∧ Aside0 (Below w.heap.size w w'))
     case atStart => exact ⟨(0), (by first | rfl | (simp; done) | (simp [*]; done)), H', ⟨Nat.le_refl _⟩, ⟨pk BK0⟩, ⟨pk BK1⟩, ⟨pk BK136⟩, ⟨pbs HB⟩⟩
     case round =>
      clear H'
      try clear c1
      try clear p2
      try clear c3
      try clear c4
      try clear c10
      try clear c10b0
      try clear p2
      obtain ⟨x7_2, rfl, HA, HK2, BK0, BK1, BK136, HB⟩ := hrel
      cases gk with
      | zero => exact absurd HA.out (by simp [spec_l06Ok.l1])
      | succ k2 =>
       have H := HA.out
       clear HA
       simp only [spec_l06Ok.l1] at H
       by_cases c11 : x7_2 < 10
       ·rw [if_pos c11] at H
        have c11b0 : decide (x7_2 < 10) = true := decide_eq_true c11
        clear c11
        by_cases c12 : 0 ≤ x6_1
        ·rw [if_pos c12] at H
         have c12b0 : decide (0 ≤ x6_1) = true := decide_eq_true c12
         clear c12
         by_cases c13 : x6_1 < 4
         ·rw [if_pos c13] at H
          have c13b0 : decide (x6_1 < 4) = true := decide_eq_true c13
          clear c13
          by_cases c14 : 0 ≤ x7_2
          ·rw [if_pos c14] at H
           have c14b0 : decide (0 ≤ x7_2) = true := decide_eq_true c14
           clear c14
           by_cases c15 : (Go.bits .andNot .u16 (rd s1_0.l (x6_1 * 10 + x7_2)) (rd t135.l (x6_1 * 10 + x7_2))) = 0
           ·rw [if_pos c15] at H
            have c15b0 : ((Go.bits .andNot .u16 (rd s1_0.l (x6_1 * 10 + x7_2)) (rd t135.l (x6_1 * 10 + x7_2))) == 0) = true := beq_iff_eq.mpr c15
            have c15b1 : ((Go.bits .andNot .u16 (rd s1_0.l (x6_1 * 10 + x7_2)) (rd t135.l (x6_1 * 10 + x7_2))) != 0) = false := bne_eq_false_iff_eq.mpr c15
            clear c15
            have H' := Aside0.mk H
            clear H
            have hnb16 := NB1_0.out
            have hnc16 := NB0_1.out
            have hnb17 := NB1_136.out
            have hnc17 := NB136_1.out
            have hpd19 : (0 ≤ x6_1) = True := eq_true (by first | omega | exact of_decide_eq_true (by first | (with_reducible assumption) | assumption))
            have hqd19 : (x6_1 < 4) = True := eq_true (by first | omega | exact of_decide_eq_true (by first | (with_reducible assumption) | assumption))
            have hrd19 : (x6_1 < ((4 : Nat) : Int)) = True := eq_true (by first | omega | exact of_decide_eq_true (by first | (with_reducible assumption) | assumption))
            have hpbd19 : (0 ≤ x7_2) = True := eq_true (by first | omega | exact of_decide_eq_true (by first | (with_reducible assumption) | assumption))
            have hqbd19 : (x7_2 < 10) = True := eq_true (by first | omega | exact of_decide_eq_true (by first | (with_reducible assumption) | assumption))
            have hrbd19 : (x7_2 < ((10 : Nat) : Int)) = True := eq_true (by first | omega | exact of_decide_eq_true (by first | (with_reducible assumption) | assumption))
            have hdd19 : wr.cell? ⟨g1, x6_1.toNat * 10 + x7_2.toNat, none⟩ = some (.int .u16 (rd s1_0.l (x6_1 * 10 + x7_2))) := mix_at2z 10 BK1.out x6_1 x7_2 (of_eq_true hpd19) (of_eq_true hpbd19) (by have := of_eq_true hqd19; have := of_eq_true hqbd19; omega)
            have hfdd19 := blk_frozen BK1.out (x6_1.toNat * 10 + x7_2.toNat)
            have hnb20 := NB136_0.out
            have hnc20 := NB0_136.out
            have hpd22 : (0 ≤ x6_1) = True := eq_true (by first | omega | exact of_decide_eq_true (by first | (with_reducible assumption) | assumption))
            have hqd22 : (x6_1 < 4) = True := eq_true (by first | omega | exact of_decide_eq_true (by first | (with_reducible assumption) | assumption))
            have hrd22 : (x6_1 < ((4 : Nat) : Int)) = True := eq_true (by first | omega | exact of_decide_eq_true (by first | (with_reducible assumption) | assumption))
            have hpbd22 : (0 ≤ x7_2) = True := eq_true (by first | omega | exact of_decide_eq_true (by first | (with_reducible assumption) | assumption))
            have hqbd22 : (x7_2 < 10) = True := eq_true (by first | omega | exact of_decide_eq_true (by first | (with_reducible assumption) | assumption))
            have hrbd22 : (x7_2 < ((10 : Nat) : Int)) = True := eq_true (by first | omega | exact of_decide_eq_true (by first | (with_reducible assumption) | assumption))
            have hdd22 : wr.cell? ⟨gb136, x6_1.toNat * 10 + x7_2.toNat, none⟩ = some (.int .u16 (rd t135.l (x6_1 * 10 + x7_2))) := mix_at2z 10 BK136.out x6_1 x7_2 (of_eq_true hpd22) (of_eq_true hpbd22) (by have := of_eq_true hqd22; have := of_eq_true hqbd22; omega)
            have hfdd22 := blk_frozen BK136.out (x6_1.toNat * 10 + x7_2.toNat)
            go_wp2
            repeat (go_quiet (fail); try go_wp2)
            go_roundg k2
            case measure => have := HK1.out; have := HK2.out; omega
            case rel => exact ⟨(wrap64 (x7_2 + 1)), (by first | rfl | (simp; done) | (simp [*]; done)), H', ⟨by have := HK1.out; have := HK2.out; omega⟩, ⟨pk BK0⟩, ⟨pk BK1⟩, ⟨pk BK136⟩, ⟨pbs HB⟩⟩
           ·rw [if_neg c15] at H
            have c15b0 : ((Go.bits .andNot .u16 (rd s1_0.l (x6_1 * 10 + x7_2)) (rd t135.l (x6_1 * 10 + x7_2))) == 0) = false := beq_eq_false_iff_ne.mpr c15
            have c15b1 : ((Go.bits .andNot .u16 (rd s1_0.l (x6_1 * 10 + x7_2)) (rd t135.l (x6_1 * 10 + x7_2))) != 0) = true := bne_iff_ne.mpr c15
            obtain rfl := Option.some.inj H
            have hnb23 := NB1_0.out
            have hnc23 := NB0_1.out
            have hnb24 := NB1_136.out
            have hnc24 := NB136_1.out
            have hpd26 : (0 ≤ x6_1) = True := eq_true (by first | omega | exact of_decide_eq_true (by first | (with_reducible assumption) | assumption))
            have hqd26 : (x6_1 < 4) = True := eq_true (by first | omega | exact of_decide_eq_true (by first | (with_reducible assumption) | assumption))
            have hrd26 : (x6_1 < ((4 : Nat) : Int)) = True := eq_true (by first | omega | exact of_decide_eq_true (by first | (with_reducible assumption) | assumption))
            have hpbd26 : (0 ≤ x7_2) = True := eq_true (by first | omega | exact of_decide_eq_true (by first | (with_reducible assumption) | assumption))
            have hqbd26 : (x7_2 < 10) = True := eq_true (by first | omega | exact of_decide_eq_true (by first | (with_reducible assumption) | assumption))
            have hrbd26 : (x7_2 < ((10 : Nat) : Int)) = True := eq_true (by first | omega | exact of_decide_eq_true (by first | (with_reducible assumption) | assumption))
            have hdd26 : wr.cell? ⟨g1, x6_1.toNat * 10 + x7_2.toNat, none⟩ = some (.int .u16 (rd s1_0.l (x6_1 * 10 + x7_2))) := mix_at2z 10 BK1.out x6_1 x7_2 (of_eq_true hpd26) (of_eq_true hpbd26) (by have := of_eq_true hqd26; have := of_eq_true hqbd26; omega)
            have hfdd26 := blk_frozen BK1.out (x6_1.toNat * 10 + x7_2.toNat)
            have hnb27 := NB136_0.out
            have hnc27 := NB0_136.out
            have hpd29 : (0 ≤ x6_1) = True := eq_true (by first | omega | exact of_decide_eq_true (by first | (with_reducible assumption) | assumption))
            have hqd29 : (x6_1 < 4) = True := eq_true (by first | omega | exact of_decide_eq_true (by first | (with_reducible assumption) | assumption))
            have hrd29 : (x6_1 < ((4 : Nat) : Int)) = True := eq_true (by first | omega | exact of_decide_eq_true (by first | (with_reducible assumption) | assumption))
            have hpbd29 : (0 ≤ x7_2) = True := eq_true (by first | omega | exact of_decide_eq_true (by first | (with_reducible assumption) | assumption))
            have hqbd29 : (x7_2 < 10) = True := eq_true (by first | omega | exact of_decide_eq_true (by first | (with_reducible assumption) | assumption))
            have hrbd29 : (x7_2 < ((10 : Nat) : Int)) = True := eq_true (by first | omega | exact of_decide_eq_true (by first | (with_reducible assumption) | assumption))
            have hdd29 : wr.cell? ⟨gb136, x6_1.toNat * 10 + x7_2.toNat, none⟩ = some (.int .u16 (rd t135.l (x6_1 * 10 + x7_2))) := mix_at2z 10 BK136.out x6_1 x7_2 (of_eq_true hpd29) (of_eq_true hpbd29) (by have := of_eq_true hqd29; have := of_eq_true hqbd29; omega)
            have hfdd29 := blk_frozen BK136.out (x6_1.toNat * 10 + x7_2.toNat)
            go_wp2
            repeat (go_quiet (fail); try go_wp2)
            go_ret
            exact ⟨by first | rfl | (simp [errW_none, errW_some] <;> rfl) | (simp [*, errW_none, errW_some] <;> rfl), pbs HB⟩
          ·rw [if_neg c14] at H
           exact absurd H (by simp)
         ·rw [if_neg c13] at H
          exact absurd H (by simp)
        ·rw [if_neg c12] at H
         exact absurd H (by simp)
       ·rw [if_neg c11] at H
        have c11b0 : decide (x7_2 < 10) = false := decide_eq_false c11
        clear c11
        have H' := Aside0.mk H
        clear H
        go_wp2
        repeat (go_quiet (fail); try go_wp2)
        go_roundg k2
        case measure => have := HK1.out; have := HK2.out; omega
        case rel => exact ⟨(wrap64 (x6_1 + 1)), (by first | rfl | (simp; done) | (simp [*]; done)), H', ⟨by have := HK1.out; have := HK2.out; omega⟩, ⟨pk BK0⟩, ⟨pk BK1⟩, ⟨pk BK136⟩, ⟨pbs HB⟩⟩
    ·rw [if_neg c10] at H
     have c10b0 : decide (x6_1 < 4) = false := decide_eq_false c10
     clear c10
     obtain rfl := Option.some.inj H
     go_wp2
     repeat (go_quiet (fail); try go_wp2)
     go_ret
     exact ⟨by first | rfl | (simp [errW_none, errW_some] <;> rfl) | (simp [*, errW_none, errW_some] <;> rfl), pbs HB⟩
 ·replace c4 := Bool.eq_false_iff.mpr c4
  subst c4
  have H1 : (some false) = some r := by rw [if_neg (show ¬ (false = true) by decide)] at H; exact H
  clear H
  have H := H1
  clear H1
  obtain rfl := Option.some.inj H
  go_enter Tryd.func33, Tryd.ntmps33
  go_wp2_with (first | (go_at_call 19; (with_reducible refine (spec_l01Ok.calls k g0 s0_0 s0_1 s0_2 false _ ?side1 A3.out).mono ?_); (case side1 => exact (pk BK0)); rintro e w30 ⟨rfl, hb⟩; have n0_ := bkb BK0 hb; have n1_ := bkb BK1 hb; have n2_ := bst HB hb; clear BK0; clear BK1; clear HB; have BK0 := n0_; have BK1 := n1_; have HB := n2_; clear n0_ n1_ n2_; (try clear hb); (try clear hb2); (try clear hk); (try clear hi)))
  repeat (go_quiet (first | (go_at_call 19; (with_reducible refine (spec_l01Ok.calls k g0 s0_0 s0_1 s0_2 false _ ?side1 A3.out).mono ?_); (case side1 => exact (pk BK0)); rintro e w30 ⟨rfl, hb⟩; have n0_ := bkb BK0 hb; have n1_ := bkb BK1 hb; have n2_ := bst HB hb; clear BK0; clear BK1; clear HB; have BK0 := n0_; have BK1 := n1_; have HB := n2_; clear n0_ n1_ n2_; (try clear hb); (try clear hb2); (try clear hk); (try clear hi))); try go_wp2_with (first | (go_at_call 19; (with_reducible refine (spec_l01Ok.calls k g0 s0_0 s0_1 s0_2 false _ ?side1 A3.out).mono ?_); (case side1 => exact (pk BK0)); rintro e w30 ⟨rfl, hb⟩; have n0_ := bkb BK0 hb; have n1_ := bkb BK1 hb; have n2_ := bst HB hb; clear BK0; clear BK1; clear HB; have BK0 := n0_; have BK1 := n1_; have HB := n2_; clear n0_ n1_ n2_; (try clear hb); (try clear hb2); (try clear hk); (try clear hi))))
  go_ret
  exact ⟨by first | rfl | (simp [errW_none, errW_some] <;> rfl) | (simp [*, errW_none, errW_some] <;> rfl), pbs HB⟩
def spec_l06Has.f (s0_0 : LA 40) (a1_0 : Int) (a1_1 : Int) (a2 : Int) : Option (Bool) := if 0 ≤ a2 then (if a2 < 4 then (if 0 ≤ a1_1 then (if a1_1 < 10 then (if 0 ≤ (IntKind.u64.wrap (a1_0)) then (some ((Go.bits .and .u16 (shr .u16 (rd s0_0.l (a2 * 10 + a1_1)) (IntKind.u64.wrap (a1_0))) 1) == 1)) else (none)) else (none)) else (none)) else (none)) else (none)
set_option maxHeartbeats 8000000 in
set_option maxRecDepth 100000 in
theorem spec_l06Has.calls (g0 : Nat) (s0_0 : LA 40) (a1_0 : Int) (a1_1 : Int) (a2 : Int) (r : Bool) (w : World) (hb0 : w.heap[g0]? = some (.cells (mixA (Value.int .u16) [] s0_0) 28 (0, 0))) (h : spec_l06Has.f s0_0 a1_0 a1_1 a2 = some r) :
  Calls Tryd.prog 40 #[.pointer (some ⟨g0, 0, none⟩), .agg #[.int .i8 a1_0, .int .i8 a1_1], .int .i64 a2] w fun e w' => e = .returned (.bool r) ∧ Below w.heap.size w w' := by
 have hu41 := Tryd.underlying41
 have BK0 := Aside0.mk hb0
 clear hb0
 have HB := Aside0.mk (Below.refl w.heap.size w)
 have H : (if 0 ≤ a2 then (if a2 < 4 then (if 0 ≤ a1_1 then (if a1_1 < 10 then (if 0 ≤ (IntKind.u64.wrap (a1_0)) then (some ((Go.bits .and .u16 (shr .u16 (rd s0_0.l (a2 * 10 + a1_1)) (IntKind.u64.wrap (a1_0))) 1) == 1)) else (none)) else (none)) else (none)) else (none)) else (none)) = some r := h
 clear h
 by_cases c4 : 0 ≤ a2
 ·rw [if_pos c4] at H
  have c4b0 : decide (0 ≤ a2) = true := decide_eq_true c4
  clear c4
  by_cases c5 : a2 < 4
  ·rw [if_pos c5] at H
   have c5b0 : decide (a2 < 4) = true := decide_eq_true c5
   clear c5
   by_cases c6 : 0 ≤ a1_1
   ·rw [if_pos c6] at H
    have c6b0 : decide (0 ≤ a1_1) = true := decide_eq_true c6
    clear c6
    by_cases c7 : a1_1 < 10
    ·rw [if_pos c7] at H
     have c7b0 : decide (a1_1 < 10) = true := decide_eq_true c7
     clear c7
     obtain ⟨ji8, hji8⟩ : ∃ j_ : Int, (IntKind.u64.wrap (a1_0)) = j_ := ⟨_, rfl⟩
     replace H : (if 0 ≤ (ji8) then (some ((Go.bits .and .u16 (shr .u16 (rd s0_0.l (a2 * 10 + a1_1)) (ji8)) 1) == 1)) else (none)) = some r := by first | (rw [hji8] at H; exact H) | (simp only [hji8] at H ⊢; exact H)
     by_cases c9 : 0 ≤ (ji8)
     ·rw [if_pos c9] at H
      have c9b0 := eq_true c9
      have c9b1 : decide (0 ≤ (ji8)) = true := decide_eq_true c9
      clear c9
      obtain ⟨ji10, hji10⟩ : ∃ j_ : Int, (shr .u16 (rd s0_0.l (a2 * 10 + a1_1)) (ji8)) = j_ := ⟨_, rfl⟩
      replace H : (some ((Go.bits .and .u16 (ji10) 1) == 1)) = some r := by first | (rw [hji10] at H; exact H) | (simp only [hji10] at H ⊢; exact H)
      have hji10_ : ((rd s0_0.l (a2 * 10 + a1_1)) / 2 ^ min (ji8).toNat 16) = ji10 := hji10
      have hji10z : (ji8) ≤ 16 → ((rd s0_0.l (a2 * 10 + a1_1)) / 2 ^ (ji8).toNat) = ji10 := shr_small hji10
      obtain rfl := Option.some.inj H
      go_enter Tryd.func40, Tryd.ntmps40
      go_wp2_with (first | ((with_reducible refine gate_dst (N := 4) rfl ?_); refine box_event ?hg (N := 4) ?hd (cs := #[.int .i8 a1_0, .int .i8 a1_1]) (t := 41) ?hr ?_; (case hd => rfl); (case hg => rfl); (case hr => first | (go_simp; done) | (go_simp; rfl)); intro gb149 hg w11 hbox hb; have n0_ := bkb BK0 hb; have n1_ := bst HB hb; have n2_ := Aside0.mk (hbox); have n3_ := gwl HB hg; have n4_ := gwl HB hg; have n5_ := nbl BK0 hg; have n6_ := nbg BK0 hg; clear BK0; clear HB; have BK0 := n0_; have HB := n1_; have BK149 := n2_; have GW149 := n3_; have GE149 := n4_; have NB0_149 := n5_; have NB149_0 := n6_; clear n0_ n1_ n2_ n3_ n4_ n5_ n6_; clear hb hbox hg; have hnb12 := NB149_0.out; have hnc12 := NB0_149.out; have hcz13_0 : w11.cell? ⟨gb149, 0, none⟩ = some (.int .i8 a1_0) := (blk_cell BK149.out 0).trans rfl; have hcz13_1 : w11.cell? ⟨gb149, 1, none⟩ = some (.int .i8 a1_1) := (blk_cell BK149.out 1).trans rfl; have hfz13_0 := blk_frozen BK149.out 0; have hfz13_1 := blk_frozen BK149.out 1; have hpd15 : (0 ≤ a2) = True := eq_true (by first | omega | exact of_decide_eq_true (by first | (with_reducible assumption) | assumption)); have hqd15 : (a2 < 4) = True := eq_true (by first | omega | exact of_decide_eq_true (by first | (with_reducible assumption) | assumption)); have hrd15 : (a2 < ((4 : Nat) : Int)) = True := eq_true (by first | omega | exact of_decide_eq_true (by first | (with_reducible assumption) | assumption)); have hpbd15 : (0 ≤ a1_1) = True := eq_true (by first | omega | exact of_decide_eq_true (by first | (with_reducible assumption) | assumption)); have hqbd15 : (a1_1 < 10) = True := eq_true (by first | omega | exact of_decide_eq_true (by first | (with_reducible assumption) | assumption)); have hrbd15 : (a1_1 < ((10 : Nat) : Int)) = True := eq_true (by first | omega | exact of_decide_eq_true (by first | (with_reducible assumption) | assumption)); have hdd15 : w11.cell? ⟨g0, a2.toNat * 10 + a1_1.toNat, none⟩ = some (.int .u16 (rd s0_0.l (a2 * 10 + a1_1))) := mix_at2z 10 BK0.out a2 a1_1 (of_eq_true hpd15) (of_eq_true hpbd15) (by have := of_eq_true hqd15; have := of_eq_true hqbd15; omega); have hfdd15 := blk_frozen BK0.out (a2.toNat * 10 + a1_1.toNat)))
      repeat (go_quiet (first | ((with_reducible refine gate_dst (N := 4) rfl ?_); refine box_event ?hg (N := 4) ?hd (cs := #[.int .i8 a1_0, .int .i8 a1_1]) (t := 41) ?hr ?_; (case hd => rfl); (case hg => rfl); (case hr => first | (go_simp; done) | (go_simp; rfl)); intro gb149 hg w11 hbox hb; have n0_ := bkb BK0 hb; have n1_ := bst HB hb; have n2_ := Aside0.mk (hbox); have n3_ := gwl HB hg; have n4_ := gwl HB hg; have n5_ := nbl BK0 hg; have n6_ := nbg BK0 hg; clear BK0; clear HB; have BK0 := n0_; have HB := n1_; have BK149 := n2_; have GW149 := n3_; have GE149 := n4_; have NB0_149 := n5_; have NB149_0 := n6_; clear n0_ n1_ n2_ n3_ n4_ n5_ n6_; clear hb hbox hg; have hnb12 := NB149_0.out; have hnc12 := NB0_149.out; have hcz13_0 : w11.cell? ⟨gb149, 0, none⟩ = some (.int .i8 a1_0) := (blk_cell BK149.out 0).trans rfl; have hcz13_1 : w11.cell? ⟨gb149, 1, none⟩ = some (.int .i8 a1_1) := (blk_cell BK149.out 1).trans rfl; have hfz13_0 := blk_frozen BK149.out 0; have hfz13_1 := blk_frozen BK149.out 1; have hpd15 : (0 ≤ a2) = True := eq_true (by first | omega | exact of_decide_eq_true (by first | (with_reducible assumption) | assumption)); have hqd15 : (a2 < 4) = True := eq_true (by first | omega | exact of_decide_eq_true (by first | (with_reducible assumption) | assumption)); have hrd15 : (a2 < ((4 : Nat) : Int)) = True := eq_true (by first | omega | exact of_decide_eq_true (by first | (with_reducible assumption) | assumption)); have hpbd15 : (0 ≤ a1_1) = True := eq_true (by first | omega | exact of_decide_eq_true (by first | (with_reducible assumption) | assumption)); have hqbd15 : (a1_1 < 10) = True := eq_true (by first | omega | exact of_decide_eq_true (by first | (with_reducible assumption) | assumption)); have hrbd15 : (a1_1 < ((10 : Nat) : Int)) = True := eq_true (by first | omega | exact of_decide_eq_true (by first | (with_reducible assumption) | assumption)); have hdd15 : w11.cell? ⟨g0, a2.toNat * 10 + a1_1.toNat, none⟩ = some (.int .u16 (rd s0_0.l (a2 * 10 + a1_1))) := mix_at2z 10 BK0.out a2 a1_1 (of_eq_true hpd15) (of_eq_true hpbd15) (by have := of_eq_true hqd15; have := of_eq_true hqbd15; omega); have hfdd15 := blk_frozen BK0.out (a2.toNat * 10 + a1_1.toNat))); try go_wp2_with (first | ((with_reducible refine gate_dst (N := 4) rfl ?_); refine box_event ?hg (N := 4) ?hd (cs := #[.int .i8 a1_0, .int .i8 a1_1]) (t := 41) ?hr ?_; (case hd => rfl); (case hg => rfl); (case hr => first | (go_simp; done) | (go_simp; rfl)); intro gb149 hg w11 hbox hb; have n0_ := bkb BK0 hb; have n1_ := bst HB hb; have n2_ := Aside0.mk (hbox); have n3_ := gwl HB hg; have n4_ := gwl HB hg; have n5_ := nbl BK0 hg; have n6_ := nbg BK0 hg; clear BK0; clear HB; have BK0 := n0_; have HB := n1_; have BK149 := n2_; have GW149 := n3_; have GE149 := n4_; have NB0_149 := n5_; have NB149_0 := n6_; clear n0_ n1_ n2_ n3_ n4_ n5_ n6_; clear hb hbox hg; have hnb12 := NB149_0.out; have hnc12 := NB0_149.out; have hcz13_0 : w11.cell? ⟨gb149, 0, none⟩ = some (.int .i8 a1_0) := (blk_cell BK149.out 0).trans rfl; have hcz13_1 : w11.cell? ⟨gb149, 1, none⟩ = some (.int .i8 a1_1) := (blk_cell BK149.out 1).trans rfl; have hfz13_0 := blk_frozen BK149.out 0; have hfz13_1 := blk_frozen BK149.out 1; have hpd15 : (0 ≤ a2) = True := eq_true (by first | omega | exact of_decide_eq_true (by first | (with_reducible assumption) | assumption)); have hqd15 : (a2 < 4) = True := eq_true (by first | omega | exact of_decide_eq_true (by first | (with_reducible assumption) | assumption)); have hrd15 : (a2 < ((4 : Nat) : Int)) = True := eq_true (by first | omega | exact of_decide_eq_true (by first | (with_reducible assumption) | assumption)); have hpbd15 : (0 ≤ a1_1) = True := eq_true (by first | omega | exact of_decide_eq_true (by first | (with_reducible assumption) | assumption)); have hqbd15 : (a1_1 < 10) = True := eq_true (by first | omega | exact of_decide_eq_true (by first | (with_reducible assumption) | assumption)); have hrbd15 : (a1_1 < ((10 : Nat) : Int)) = True := eq_true (by first | omega | exact of_decide_eq_true (by first | (with_reducible assumption) | assumption)); have hdd15 : w11.cell? ⟨g0, a2.toNat * 10 + a1_1.toNat, none⟩ = some (.int .u16 (rd s0_0.l (a2 * 10 + a1_1))) := mix_at2z 10 BK0.out a2 a1_1 (of_eq_true hpd15) (of_eq_true hpbd15) (by have := of_eq_true hqd15; have := of_eq_true hqbd15; omega); have hfdd15 := blk_frozen BK0.out (a2.toNat * 10 + a1_1.toNat))))
      go_ret
      exact ⟨by first | rfl | (simp [errW_none, errW_some] <;> rfl) | (simp only [← hji8, ← hji10]; first | rfl | (simp [errW_none, errW_some] <;> rfl)) | (simp [*, errW_none, errW_some] <;> rfl), pbs HB⟩
     ·rw [if_neg c9] at H
      exact absurd H (by simp)
    ·rw [if_neg c7] at H
     exact absurd H (by simp)
   ·rw [if_neg c6] at H
    exact absurd H (by simp)
  ·rw [if_neg c5] at H
   exact absurd H (by simp)
 ·rw [if_neg c4] at H
  exact absurd H (by simp)
def spec_l06Spot.f (a0 : Int) : Option (Int × Int) := some (IntKind.i8.wrap (Int.tmod a0 10), IntKind.i8.wrap (wrap64 (Int.tdiv a0 10)))
set_option maxHeartbeats 8000000 in
set_option maxRecDepth 100000 in
theorem spec_l06Spot.calls (a0 : Int) (r1 : Int) (r2 : Int) (w : World) (h : spec_l06Spot.f a0 = some (r1, r2)) :
  Calls Tryd.prog 54 #[.int .i64 a0] w fun e w' => e = .returned (.agg #[.int .i8 r1, .int .i8 r2]) ∧ Below w.heap.size w w' := by
 have hu41 := Tryd.underlying41
 have HB := Aside0.mk (Below.refl w.heap.size w)
 have H : (some (IntKind.i8.wrap (Int.tmod a0 10), IntKind.i8.wrap (wrap64 (Int.tdiv a0 10)))) = some (r1, r2) := h
 clear h
 simp only [Option.some.injEq, Prod.mk.injEq] at H
 obtain ⟨rfl, rfl⟩ := H
 go_enter Tryd.func54, Tryd.ntmps54
 go_wp2_with (first | ((with_reducible refine gate_dst (N := 2) rfl ?_); refine box_event ?hg (N := 2) ?hd (cs := #[.int .i8 0, .int .i8 0]) (t := 41) ?hr ?_; (case hd => rfl); (case hg => rfl); (case hr => first | (go_simp; done) | (go_simp; rfl)); intro gb150 hg w2 hbox hb; have n0_ := bst HB hb; have n1_ := Aside0.mk (hbox); have n2_ := gwl HB hg; have n3_ := gwl HB hg; clear HB; have HB := n0_; have BK150 := n1_; have GW150 := n2_; have GE150 := n3_; clear n0_ n1_ n2_ n3_; clear hb hbox hg; have hcz3_0 : w2.cell? ⟨gb150, 0, none⟩ = some (.int .i8 0) := (blk_cell BK150.out 0).trans rfl; have hcz3_1 : w2.cell? ⟨gb150, 1, none⟩ = some (.int .i8 0) := (blk_cell BK150.out 1).trans rfl; have hfz3_0 := blk_frozen BK150.out 0; have hfz3_1 := blk_frozen BK150.out 1))
 refine bodyPost_ret (results_cell_row rfl _ _ gb150 41 #[.int .i8 (IntKind.i8.wrap (Int.tmod a0 10)), .int .i8 (IntKind.i8.wrap (wrap64 (Int.tdiv a0 10)))] (0, 0) _ rfl (by (with_reducible repeat (first | refine blk_drewN ?_ _ | refine blk_drew ?_ | refine blk_alloc ?_ _)); refine blk_put (cs := #[.int .i8 (IntKind.i8.wrap (Int.tmod a0 10)), .int .i8 0]) ?_ 1 _ rfl; (with_reducible repeat (first | refine blk_drewN ?_ _ | refine blk_drew ?_ | refine blk_alloc ?_ _)); refine blk_put (cs := #[.int .i8 0, .int .i8 0]) ?_ 0 _ rfl; (with_reducible repeat (first | refine blk_drewN ?_ _ | refine blk_drew ?_ | refine blk_alloc ?_ _)); exact BK150.out) Tryd.underlying41 rfl (by kernel_rfl)) rfl ?_
 exact ⟨by first | rfl | (simp [errW_none, errW_some] <;> rfl) | (simp [*, errW_none, errW_some] <;> rfl), pbs HB⟩
end Go.Proofs.YtdedijjbdkoekaaDoor.PB
end
section
namespace Go.Proofs.YtdedijjbdkoekaaDoor.PB
open Go.RowKit Go.Proofs.YtdedijjbdkoekaaDoorW.PrintWords Go.Proofs.YtdedijjbdkoekaaDoorW.PrintLast Go.Proofs.YtdedijjbdkoekaaDoorW.PrintMore Go.Proofs.YtdedijjbdkoekaaDoor.La
attribute [local go_sem] max2_int min2_int max_two min_two max_three min_three max_four min_four   -- for this text's walks alone
set_option linter.unusedVariables false
set_option linter.unusedSimpArgs false
def strings_makeASCIISet.l0 : Nat → ByteArray → Int → LA 256 → Option (LA 256 × Bool)
 | 0, _, _, _ => none
 | k + 1, x0, x4, x174000 => if x4 < (x0.size : Int) then (if 0 ≤ x4 then (if (bt x0 x4) ≥ 128 then (some (x174000, false)) else (if 0 ≤ (bt x0 x4) then (if (bt x0 x4) < 256 then (strings_makeASCIISet.l0 k x0 (wrap64 (x4 + 1)) (LA.set x174000 (bt x0 x4) (nbool true))) else (none)) else (none))) else (none)) else (some (x174000, true))
def strings_makeASCIISet.f (k : Nat) (a0 : ByteArray) : Option (LA 256 × Bool) := strings_makeASCIISet.l0 k a0 0 (LA.zero 256)
theorem strings_makeASCIISet.mono_l : ∀ k, (∀ y0 y1 y2, LeO (strings_makeASCIISet.l0 k y0 y1 y2) (strings_makeASCIISet.l0 (k + 1) y0 y1 y2))
 | 0 => fun _ _ _ r h => by simp [strings_makeASCIISet.l0] at h
 | k + 1 => by
  have ih0 := strings_makeASCIISet.mono_l k
  ·intro y0 y1 y2
   unfold strings_makeASCIISet.l0
   repeat' first
   | (with_reducible exact ih0 _ _ _)
   | (with_reducible exact LeO.refl _)
   | (with_reducible exact LeO.none _)
   | (with_reducible refine LeO.ite ?_ ?_)
   | (with_reducible refine LeO.bind ?_ (fun _ => ?_))
   | exact ih0 _ _ _
   | exact LeO.none _
   | refine LeO.ite ?_ ?_
   | refine LeO.bind ?_ (fun _ => ?_)
theorem strings_makeASCIISet.mono : ∀ a0 k, LeO (strings_makeASCIISet.f k a0) (strings_makeASCIISet.f (k + 1) a0) := by
 intro a0 k
 have ih0 := strings_makeASCIISet.mono_l k
 unfold strings_makeASCIISet.f
 repeat' first
   | (with_reducible exact ih0 _ _ _)
   | (with_reducible exact LeO.refl _)
   | (with_reducible exact LeO.none _)
   | (with_reducible refine LeO.ite ?_ ?_)
   | (with_reducible refine LeO.bind ?_ (fun _ => ?_))
   | exact ih0 _ _ _
   | exact LeO.none _
   | refine LeO.ite ?_ ?_
   | refine LeO.bind ?_ (fun _ => ?_)
def strings_asciiSet_contains.f (s0_0 : LA 256) (a1 : Int) : Option (Bool) := if 0 ≤ a1 then (if a1 < 256 then (some (decide (rd s0_0.l a1 = 1))) else (none)) else (none)
def strings_trimLeftASCII.l0 : Nat → ByteArray → LA 256 → Option (ByteArray)
 | 0, _, _ => none
 | k + 1, x0, x2000 => if (x0.size : Int) > 0 then (if 0 < (x0.size : Int) then ((strings_asciiSet_contains.f x2000 (bt x0 0)).bind fun t174 => (if t174 = true then (if 1 ≤ (x0.size : Int) then (strings_trimLeftASCII.l0 k (x0.extract 1 x0.size) x2000) else (none)) else (some x0))) else (none)) else (some x0)
def strings_trimLeftASCII.f (k : Nat) (a0 : ByteArray) (s1_0 : LA 256) : Option (ByteArray) := strings_trimLeftASCII.l0 k a0 s1_0
theorem strings_trimLeftASCII.mono_l : ∀ k, (∀ y0 y1, LeO (strings_trimLeftASCII.l0 k y0 y1) (strings_trimLeftASCII.l0 (k + 1) y0 y1))
 | 0 => fun _ _ r h => by simp [strings_trimLeftASCII.l0] at h
 | k + 1 => by
  have ih0 := strings_trimLeftASCII.mono_l k
  ·intro y0 y1
   unfold strings_trimLeftASCII.l0
   repeat' first
   | (with_reducible exact ih0 _ _)
   | (with_reducible exact LeO.refl _)
   | (with_reducible exact LeO.none _)
   | (with_reducible refine LeO.ite ?_ ?_)
   | (with_reducible refine LeO.bind ?_ (fun _ => ?_))
   | exact ih0 _ _
   | exact LeO.none _
   | refine LeO.ite ?_ ?_
   | refine LeO.bind ?_ (fun _ => ?_)
theorem strings_trimLeftASCII.mono : ∀ a0 a1 k, LeO (strings_trimLeftASCII.f k a0 a1) (strings_trimLeftASCII.f (k + 1) a0 a1) := by
 intro a0 a1 k
 have ih0 := strings_trimLeftASCII.mono_l k
 unfold strings_trimLeftASCII.f
 repeat' first
   | (with_reducible exact ih0 _ _)
   | (with_reducible exact LeO.refl _)
   | (with_reducible exact LeO.none _)
   | (with_reducible refine LeO.ite ?_ ?_)
   | (with_reducible refine LeO.bind ?_ (fun _ => ?_))
   | exact ih0 _ _
   | exact LeO.none _
   | refine LeO.ite ?_ ?_
   | refine LeO.bind ?_ (fun _ => ?_)
def strings_trimRightASCII.l0 : Nat → ByteArray → LA 256 → Option (ByteArray)
 | 0, _, _ => none
 | k + 1, x0, x2000 => if (x0.size : Int) > 0 then (if 0 ≤ (wrap64 ((x0.size : Int) - 1)) then (if (wrap64 ((x0.size : Int) - 1)) < (x0.size : Int) then ((strings_asciiSet_contains.f x2000 (bt x0 (wrap64 ((x0.size : Int) - 1)))).bind fun t175 => (if t175 = true then (if (wrap64 ((x0.size : Int) - 1)) ≤ (x0.size : Int) then (strings_trimRightASCII.l0 k (x0.extract 0 ((wrap64 ((x0.size : Int) - 1)) : Int).toNat) x2000) else (none)) else (some x0))) else (none)) else (none)) else (some x0)
def strings_trimRightASCII.f (k : Nat) (a0 : ByteArray) (s1_0 : LA 256) : Option (ByteArray) := strings_trimRightASCII.l0 k a0 s1_0
theorem strings_trimRightASCII.mono_l : ∀ k, (∀ y0 y1, LeO (strings_trimRightASCII.l0 k y0 y1) (strings_trimRightASCII.l0 (k + 1) y0 y1))
 | 0 => fun _ _ r h => by simp [strings_trimRightASCII.l0] at h
 | k + 1 => by
  have ih0 := strings_trimRightASCII.mono_l k
  ·intro y0 y1
   unfold strings_trimRightASCII.l0
   repeat' first
   | (with_reducible exact ih0 _ _)
   | (with_reducible exact LeO.refl _)
   | (with_reducible exact LeO.none _)
   | (with_reducible refine LeO.ite ?_ ?_)
   | (with_reducible refine LeO.bind ?_ (fun _ => ?_))
   | exact ih0 _ _
   | exact LeO.none _
   | refine LeO.ite ?_ ?_
   | refine LeO.bind ?_ (fun _ => ?_)
theorem strings_trimRightASCII.mono : ∀ a0 a1 k, LeO (strings_trimRightASCII.f k a0 a1) (strings_trimRightASCII.f (k + 1) a0 a1) := by
 intro a0 a1 k
 have ih0 := strings_trimRightASCII.mono_l k
 unfold strings_trimRightASCII.f
 repeat' first
   | (with_reducible exact ih0 _ _)
   | (with_reducible exact LeO.refl _)
   | (with_reducible exact LeO.none _)
   | (with_reducible refine LeO.ite ?_ ?_)
   | (with_reducible refine LeO.bind ?_ (fun _ => ?_))
   | exact ih0 _ _
   | exact LeO.none _
   | refine LeO.ite ?_ ?_
   | refine LeO.bind ?_ (fun _ => ?_)
def utf8_ValidRune.j0 : Nat → Int → Bool → Option (Bool)
 | 0, _, _ => none
 | k + 1, x0, x3 => if x3 = true then (some true) else (if 57343 < x0 then (if x0 ≤ 1114111 then (some true) else (some false)) else (some false))
def utf8_ValidRune.f (k : Nat) (a0 : Int) : Option (Bool) := if 0 ≤ a0 then (utf8_ValidRune.j0 k a0 (decide (a0 < 55296))) else (utf8_ValidRune.j0 k a0 false)
theorem utf8_ValidRune.mono_l : ∀ k, (∀ y0 y1, LeO (utf8_ValidRune.j0 k y0 y1) (utf8_ValidRune.j0 (k + 1) y0 y1))
 | 0 => fun _ _ r h => by simp [utf8_ValidRune.j0] at h
 | k + 1 => by
  have ih0 := utf8_ValidRune.mono_l k
  ·intro y0 y1
   unfold utf8_ValidRune.j0
   repeat' first
   | (with_reducible exact ih0 _ _)
   | (with_reducible exact LeO.refl _)
   | (with_reducible exact LeO.none _)
   | (with_reducible refine LeO.ite ?_ ?_)
   | (with_reducible refine LeO.bind ?_ (fun _ => ?_))
   | exact ih0 _ _
   | exact LeO.none _
   | refine LeO.ite ?_ ?_
   | refine LeO.bind ?_ (fun _ => ?_)
theorem utf8_ValidRune.mono : ∀ a0 k, LeO (utf8_ValidRune.f k a0) (utf8_ValidRune.f (k + 1) a0) := by
 intro a0 k
 have ih0 := utf8_ValidRune.mono_l k
 unfold utf8_ValidRune.f
 repeat' first
   | (with_reducible exact ih0 _ _)
   | (with_reducible exact LeO.refl _)
   | (with_reducible exact LeO.none _)
   | (with_reducible refine LeO.ite ?_ ?_)
   | (with_reducible refine LeO.bind ?_ (fun _ => ?_))
   | exact ih0 _ _
   | exact LeO.none _
   | refine LeO.ite ?_ ?_
   | refine LeO.bind ?_ (fun _ => ?_)
def bytealg_Cutover.f (a0 : Int) : Option (Int) := some (wrap64 (Int.tdiv (wrap64 (a0 + 16)) 8))
def utf8_RuneStart.f (a0 : Int) : Option (Bool) := some ((Go.bits .and .u8 a0 192) != 128)
def strings_Trim.f (a0 a1 : ByteArray) : Option (ByteArray) := if a0.size ≤ 9223372036854775807 ∧ a1.size < 4294967281 ∧ (a1.data.toList.all (fun b => decide (b.toNat < 128))) = true then some ⟨(Lib.trimS a0.data.toList a1.data.toList).toArray⟩ else none
theorem strings_Trim.calls (a0 a1 : ByteArray) (r : ByteArray) (w : World) (h : strings_Trim.f a0 a1 = some r) :
    Calls Tryd.prog 49 #[.string a0, .string a1] w fun e w' => e = .returned (.string r) ∧ Below w.heap.size w w' := by
  unfold strings_Trim.f at h
  by_cases hc : a0.size ≤ 9223372036854775807 ∧ a1.size < 4294967281 ∧ (a1.data.toList.all (fun b => decide (b.toNat < 128))) = true
  case neg => rw [if_neg hc] at h; cases h
  rw [if_pos hc] at h
  obtain rfl := Option.some.inj h
  refine Tryd.strings_Trim a0 a1 w hc.1 hc.2.1 (fun j b hb => ?_)
  exact of_decide_eq_true (List.all_eq_true.1 hc.2.2 b (List.mem_of_getElem? hb))
def impl_movesCode.f (a0 : ByteArray) : Option (Int) := if (a0.size : Int) > 60 then (some 3) else ((strings_Trim.f a0 (⟨#[98, 102, 108, 114]⟩ : ByteArray)).bind fun t177 => ((impl_unless.f (t177.toList.isEmpty) 5).bind fun t178 => (some t178)))
set_option maxHeartbeats 8000000 in
set_option maxRecDepth 100000 in
theorem impl_movesCode.calls (a0 : ByteArray) (r : Int) (w : World) (h : impl_movesCode.f a0 = some r) :
  Calls Tryd.prog 27 #[.string a0] w fun e w' => e = .returned (.int .i64 r) ∧ Below w.heap.size w w' := by
 have HB := Aside0.mk (Below.refl w.heap.size w)
 have H : (if (a0.size : Int) > 60 then (some 3) else ((strings_Trim.f a0 (⟨#[98, 102, 108, 114]⟩ : ByteArray)).bind fun t177 => ((impl_unless.f (t177.toList.isEmpty) 5).bind fun t178 => (some t178)))) = some r := h
 clear h
 by_cases c2 : (a0.size : Int) > 60
 ·rw [if_pos c2] at H
  have c2b0 : decide (60 < (a0.size : Int)) = true := decide_eq_true c2
  have c2b1 : decide (60 < a0.size) = true := decide_eq_true (by omega)
  clear c2
  obtain rfl := Option.some.inj H
  go_enter Tryd.func27, Tryd.ntmps27
  go_wp2
  go_ret
  exact ⟨by first | rfl | (simp [errW_none, errW_some] <;> rfl) | (simp [*, errW_none, errW_some] <;> rfl), pb HB⟩
 ·rw [if_neg c2] at H
  have c2b0 : decide (60 < (a0.size : Int)) = false := decide_eq_false c2
  have c2b1 : decide (60 < a0.size) = false := decide_eq_false (by omega)
  clear c2
  replace H := Option.bind_eq_some_iff.mp H
  obtain ⟨t177, A30, H⟩ := H
  replace H : ((impl_unless.f (t177.toList.isEmpty) 5).bind fun t178 => (some t178)) = some r := H
  have A3 := Aside0.mk A30
  clear A30
  replace H := Option.bind_eq_some_iff.mp H
  obtain ⟨t178, A40, H⟩ := H
  replace H : (some t178) = some r := H
  have A4 := Aside0.mk A40
  clear A40
  obtain rfl := Option.some.inj H
  go_enter Tryd.func27, Tryd.ntmps27
  go_wp2_with (first | ((with_reducible refine gate_callee (f := 49) rfl ?_); refine goesL_ (some 7) rfl rfl Tryd.func49 (by kernel_rfl) rfl #[.string a0, .string (⟨#[98, 102, 108, 114]⟩ : ByteArray)] rfl (by (try simp only [List.map_toArray, List.map_cons, List.map_nil]); first | done | rfl | (simp only [List.length_drop, List.length_take]; rfl)) ?_; (with_reducible refine (strings_Trim.calls a0 (⟨#[98, 102, 108, 114]⟩ : ByteArray) t177 _ A3.out).mono ?_); rintro e w5 ⟨rfl, hb⟩; refine ⟨_, rfl, ?_⟩; have n0_ := bst HB hb; clear HB; have HB := n0_; clear n0_; (try clear hb); (try clear hb2); (try clear hk); (try clear hi)) | ((with_reducible refine gate_callee (f := 48) rfl ?_); refine goesL_ (some 9) rfl rfl Tryd.func48 (by kernel_rfl) rfl #[.bool (t177.toList.isEmpty), .int .i64 5] rfl (by (try simp only [List.map_toArray, List.map_cons, List.map_nil]); first | done | rfl | (simp only [List.length_drop, List.length_take]; rfl)) ?_; (with_reducible refine (impl_unless.calls (t177.toList.isEmpty) 5 t178 _ A4.out).mono ?_); rintro e w' ⟨rfl, ⟨nd, rfl⟩⟩; refine ⟨_, rfl, ?_⟩))
  go_ret
  exact ⟨by first | rfl | (simp [errW_none, errW_some] <;> rfl) | (simp [*, errW_none, errW_some] <;> rfl), pb HB⟩
def impl_within.f (a0 : Int) (a1 : Int) (a2 : Int) : Option (Bool) := if a1 ≤ a0 then (some (decide (a0 ≤ a2))) else (some false)
set_option maxHeartbeats 8000000 in
set_option maxRecDepth 100000 in
theorem impl_within.calls (a0 : Int) (a1 : Int) (a2 : Int) (r : Bool) (w : World) (h : impl_within.f a0 a1 a2 = some r) :
  Calls Tryd.prog 47 #[.int .i64 a0, .int .i64 a1, .int .i64 a2] w fun e w' => e = .returned (.bool r) ∧ Drawn0 w w' := by
 have H : (if a1 ≤ a0 then (some (decide (a0 ≤ a2))) else (some false)) = some r := h
 clear h
 by_cases c4 : a1 ≤ a0
 ·rw [if_pos c4] at H
  have c4b0 : decide (a1 ≤ a0) = true := decide_eq_true c4
  clear c4
  obtain rfl := Option.some.inj H
  go_enter Tryd.func47, Tryd.ntmps47
  go_wp2
  go_ret
  exact ⟨by first | rfl | (simp; done) | (simp [*]; done), by repeat (first | exact Drawn0.refl _ | apply Drawn0.step)⟩
 ·rw [if_neg c4] at H
  have c4b0 : decide (a1 ≤ a0) = false := decide_eq_false c4
  clear c4
  obtain rfl := Option.some.inj H
  go_enter Tryd.func47, Tryd.ntmps47
  go_wp2
  go_ret
  exact ⟨by first | rfl | (simp; done) | (simp [*]; done), by repeat (first | exact Drawn0.refl _ | apply Drawn0.step)⟩
def impl_Room_isCell.f (a0_0 : Int) (a0_1 : Int) (a0_2 : LA 10) (a1_0 : Int) (a1_1 : Int) : Option (Bool) := (impl_within.f (wrap64 (a1_0)) 0 (wrap64 ((mn (wrap64 (a0_0)) 10) - 1))).bind fun t181 => (if t181 = true then ((impl_within.f (wrap64 (a1_1)) 0 (wrap64 ((mn (wrap64 (a0_1)) 10) - 1))).bind fun t182 => (some t182)) else (some false))
set_option maxHeartbeats 8000000 in
set_option maxRecDepth 100000 in
theorem impl_Room_isCell.calls (a0_0 : Int) (a0_1 : Int) (a0_2 : LA 10) (a1_0 : Int) (a1_1 : Int) (r : Bool) (w : World) (h : impl_Room_isCell.f a0_0 a0_1 a0_2 a1_0 a1_1 = some r) :
  Calls Tryd.prog 65 #[.agg (mixA (Value.int .u16) [.int .i8 a0_0, .int .i8 a0_1] a0_2), .agg #[.int .i8 a1_0, .int .i8 a1_1]] w fun e w' => e = .returned (.bool r) ∧ Below w.heap.size w w' := by
 have hu31 := Tryd.underlying31
 have hu41 := Tryd.underlying41
 have HB := Aside0.mk (Below.refl w.heap.size w)
 have H : ((impl_within.f (wrap64 (a1_0)) 0 (wrap64 ((mn (wrap64 (a0_0)) 10) - 1))).bind fun t181 => (if t181 = true then ((impl_within.f (wrap64 (a1_1)) 0 (wrap64 ((mn (wrap64 (a0_1)) 10) - 1))).bind fun t182 => (some t182)) else (some false))) = some r := h
 clear h
 obtain ⟨ji3, hji3⟩ : ∃ j_ : Int, (mn (wrap64 (a0_0)) 10) = j_ := ⟨_, rfl⟩
 replace H : ((impl_within.f (wrap64 (a1_0)) 0 (wrap64 ((ji3) - 1))).bind fun t181 => (if t181 = true then ((impl_within.f (wrap64 (a1_1)) 0 (wrap64 ((mn (wrap64 (a0_1)) 10) - 1))).bind fun t182 => (some t182)) else (some false))) = some r := by first | (rw [hji3] at H; exact H) | (simp only [hji3] at H ⊢; exact H)
 (try (have hji3h : ji3 ≤ 10 := by (rw [← hji3]; unfold mn; (repeat' split) <;> omega)))
 (try (have hji3g : ji3 ≤ 64 := by omega))
 have hji3_ : (if 10 < (wrap64 (a0_0)) then 10 else (wrap64 (a0_0))) = ji3 := hji3
 replace H := Option.bind_eq_some_iff.mp H
 obtain ⟨t181, A40, H⟩ := H
 replace H : (if t181 = true then ((impl_within.f (wrap64 (a1_1)) 0 (wrap64 ((mn (wrap64 (a0_1)) 10) - 1))).bind fun t182 => (some t182)) else (some false)) = some r := H
 have A4 := Aside0.mk A40
 clear A40
 by_cases c5 : t181 = true
 ·subst c5
  have H1 : ((impl_within.f (wrap64 (a1_1)) 0 (wrap64 ((mn (wrap64 (a0_1)) 10) - 1))).bind fun t182 => (some t182)) = some r := by rw [if_pos rfl] at H; exact H
  clear H
  have H := H1
  clear H1
  obtain ⟨ji6, hji6⟩ : ∃ j_ : Int, (mn (wrap64 (a0_1)) 10) = j_ := ⟨_, rfl⟩
  replace H : ((impl_within.f (wrap64 (a1_1)) 0 (wrap64 ((ji6) - 1))).bind fun t182 => (some t182)) = some r := by first | (rw [hji6] at H; exact H) | (simp only [hji6] at H ⊢; exact H)
  (try rw [hji6] at A4)
  (try (have hji6h : ji6 ≤ 10 := by (rw [← hji6]; unfold mn; (repeat' split) <;> omega)))
  (try (have hji6g : ji6 ≤ 64 := by omega))
  have hji6_ : (if 10 < (wrap64 (a0_1)) then 10 else (wrap64 (a0_1))) = ji6 := hji6
  replace H := Option.bind_eq_some_iff.mp H
  obtain ⟨t182, A70, H⟩ := H
  replace H : (some t182) = some r := H
  have A7 := Aside0.mk A70
  clear A70
  obtain rfl := Option.some.inj H
  go_enter Tryd.func65, Tryd.ntmps65
  go_wp2_with (first | ((with_reducible refine gate_dst (N := 2) rfl ?_); (try (refine gate_guard (by rfl) ?_; dsimp only)); refine box_event ?hg (N := 2) ?hd (cs := (mixA (Value.int .u16) [.int .i8 a0_0, .int .i8 a0_1] a0_2)) (t := 31) ?hr ?_; (case hd => rfl); (case hg => rfl); (case hr => first | (go_simp; done) | (go_simp; rfl)); intro gb179 hg w8 hbox hb; have n0_ := bst HB hb; have n1_ := Aside0.mk (hbox); have n2_ := gwl HB hg; have n3_ := gwl HB hg; clear HB; have HB := n0_; have BK179 := n1_; have GW179 := n2_; have GE179 := n3_; clear n0_ n1_ n2_ n3_; clear hb hbox hg) | ((with_reducible refine gate_dst (N := 3) rfl ?_); (try (refine gate_guard (by rfl) ?_; dsimp only)); refine box_event ?hg (N := 3) ?hd (cs := #[.int .i8 a1_0, .int .i8 a1_1]) (t := 41) ?hr ?_; (case hd => rfl); (case hg => rfl); (case hr => first | (go_simp; done) | (go_simp; rfl)); intro gb180 hg w9 hbox hb; have n0_ := bkb BK179 hb; have n1_ := bst HB hb; have n2_ := Aside0.mk (hbox); have n3_ := gwl HB hg; have n4_ := gwl HB hg; have n5_ := nbl BK179 hg; have n6_ := nbg BK179 hg; clear BK179; clear HB; have BK179 := n0_; have HB := n1_; have BK180 := n2_; have GW180 := n3_; have GE180 := n4_; have NB179_180 := n5_; have NB180_179 := n6_; clear n0_ n1_ n2_ n3_ n4_ n5_ n6_; clear hb hbox hg; have hnb10 := NB180_179.out; have hnc10 := NB179_180.out; have hcz11_0 : w9.cell? ⟨gb180, 0, none⟩ = some (.int .i8 a1_0) := (blk_cell BK180.out 0).trans rfl; have hcz11_1 : w9.cell? ⟨gb180, 1, none⟩ = some (.int .i8 a1_1) := (blk_cell BK180.out 1).trans rfl; have hfz11_0 := blk_frozen BK180.out 0; have hfz11_1 := blk_frozen BK180.out 1; have hcz12_0 : w9.cell? ⟨gb179, 0, none⟩ = some (.int .i8 a0_0) := mix_cell0 BK179.out 0; have hcz12_1 : w9.cell? ⟨gb179, 1, none⟩ = some (.int .i8 a0_1) := mix_cell0 BK179.out 1; have hfz12_0 := blk_frozen BK179.out 0; have hfz12_1 := blk_frozen BK179.out 1) | ((with_reducible refine gate_callee (f := 47) rfl ?_); refine goesL_ (some 13) rfl rfl Tryd.func47 (by kernel_rfl) rfl #[.int .i64 (wrap64 (a1_0)), .int .i64 0, .int .i64 (wrap64 ((ji3) - 1))] rfl (by (try simp only [List.map_toArray, List.map_cons, List.map_nil]); first | done | (simp only [hji3]; rfl) | rfl | (simp only [List.length_drop, List.length_take]; rfl)) ?_; (with_reducible refine (impl_within.calls (wrap64 (a1_0)) 0 (wrap64 ((ji3) - 1)) true _ A4.out).mono ?_); rintro e w' ⟨rfl, ⟨nd, rfl⟩⟩; refine ⟨_, rfl, ?_⟩) | (go_at_call 47; (with_reducible refine (impl_within.calls (wrap64 (a1_1)) 0 (wrap64 ((ji6) - 1)) t182 _ A7.out).mono ?_); rintro e w' ⟨rfl, ⟨nd, rfl⟩⟩))
  go_ret
  exact ⟨by first | rfl | (simp [errW_none, errW_some] <;> rfl) | (simp only [← hji3, ← hji6]; first | rfl | (simp [errW_none, errW_some] <;> rfl)) | (simp [*, errW_none, errW_some] <;> rfl), pbs HB⟩
 ·replace c5 := Bool.eq_false_iff.mpr c5
  subst c5
  have H1 : (some false) = some r := by rw [if_neg (show ¬ (false = true) by decide)] at H; exact H
  clear H
  have H := H1
  clear H1
  obtain rfl := Option.some.inj H
  go_enter Tryd.func65, Tryd.ntmps65
  go_wp2_with (first | ((with_reducible refine gate_dst (N := 2) rfl ?_); (try (refine gate_guard (by rfl) ?_; dsimp only)); refine box_event ?hg (N := 2) ?hd (cs := (mixA (Value.int .u16) [.int .i8 a0_0, .int .i8 a0_1] a0_2)) (t := 31) ?hr ?_; (case hd => rfl); (case hg => rfl); (case hr => first | (go_simp; done) | (go_simp; rfl)); intro gb179 hg w13 hbox hb; have n0_ := bst HB hb; have n1_ := Aside0.mk (hbox); have n2_ := gwl HB hg; have n3_ := gwl HB hg; clear HB; have HB := n0_; have BK179 := n1_; have GW179 := n2_; have GE179 := n3_; clear n0_ n1_ n2_ n3_; clear hb hbox hg) | ((with_reducible refine gate_dst (N := 3) rfl ?_); (try (refine gate_guard (by rfl) ?_; dsimp only)); refine box_event ?hg (N := 3) ?hd (cs := #[.int .i8 a1_0, .int .i8 a1_1]) (t := 41) ?hr ?_; (case hd => rfl); (case hg => rfl); (case hr => first | (go_simp; done) | (go_simp; rfl)); intro gb180 hg w14 hbox hb; have n0_ := bkb BK179 hb; have n1_ := bst HB hb; have n2_ := Aside0.mk (hbox); have n3_ := gwl HB hg; have n4_ := gwl HB hg; have n5_ := nbl BK179 hg; have n6_ := nbg BK179 hg; clear BK179; clear HB; have BK179 := n0_; have HB := n1_; have BK180 := n2_; have GW180 := n3_; have GE180 := n4_; have NB179_180 := n5_; have NB180_179 := n6_; clear n0_ n1_ n2_ n3_ n4_ n5_ n6_; clear hb hbox hg; have hnb15 := NB180_179.out; have hnc15 := NB179_180.out; have hcz16_0 : w14.cell? ⟨gb180, 0, none⟩ = some (.int .i8 a1_0) := (blk_cell BK180.out 0).trans rfl; have hcz16_1 : w14.cell? ⟨gb180, 1, none⟩ = some (.int .i8 a1_1) := (blk_cell BK180.out 1).trans rfl; have hfz16_0 := blk_frozen BK180.out 0; have hfz16_1 := blk_frozen BK180.out 1; have hcz17_0 : w14.cell? ⟨gb179, 0, none⟩ = some (.int .i8 a0_0) := mix_cell0 BK179.out 0; have hcz17_1 : w14.cell? ⟨gb179, 1, none⟩ = some (.int .i8 a0_1) := mix_cell0 BK179.out 1; have hfz17_0 := blk_frozen BK179.out 0; have hfz17_1 := blk_frozen BK179.out 1) | ((with_reducible refine gate_callee (f := 47) rfl ?_); refine goesL_ (some 13) rfl rfl Tryd.func47 (by kernel_rfl) rfl #[.int .i64 (wrap64 (a1_0)), .int .i64 0, .int .i64 (wrap64 ((ji3) - 1))] rfl (by (try simp only [List.map_toArray, List.map_cons, List.map_nil]); first | done | (simp only [hji3]; rfl) | rfl | (simp only [List.length_drop, List.length_take]; rfl)) ?_; (with_reducible refine (impl_within.calls (wrap64 (a1_0)) 0 (wrap64 ((ji3) - 1)) false _ A4.out).mono ?_); rintro e w' ⟨rfl, ⟨nd, rfl⟩⟩; refine ⟨_, rfl, ?_⟩))
  go_ret
  exact ⟨by first | rfl | (simp [errW_none, errW_some] <;> rfl) | (simp only [← hji3]; first | rfl | (simp [errW_none, errW_some] <;> rfl)) | (simp [*, errW_none, errW_some] <;> rfl), pbs HB⟩
end Go.Proofs.YtdedijjbdkoekaaDoor.PB
end
section
namespace Go.Proofs.YtdedijjbdkoekaaDoor.PB
open Go.RowKit Go.Proofs.YtdedijjbdkoekaaDoorW.PrintWords Go.Proofs.YtdedijjbdkoekaaDoorW.PrintLast Go.Proofs.YtdedijjbdkoekaaDoorW.PrintMore Go.Proofs.YtdedijjbdkoekaaDoor.La
attribute [local go_sem] max2_int min2_int max_two min_two max_three min_three max_four min_four   -- for this text's walks alone
set_option linter.unusedVariables false
set_option linter.unusedSimpArgs false
def impl_Room_isFree.f (a0_0 : Int) (a0_1 : Int) (a0_2 : LA 10) (a1_0 : Int) (a1_1 : Int) : Option (Bool) := (impl_Room_isCell.f a0_0 a0_1 a0_2 a1_0 a1_1).bind fun t185 => (if t185 = true then (if 0 ≤ a1_1 then (if a1_1 < 10 then (if 0 ≤ a1_0 then (some ((Go.bits .and .u16 (shr .u16 (rd a0_2.l a1_1) a1_0) 1) == 0)) else (none)) else (none)) else (none)) else (some false))
def impl_Room_isFree.T1 : Bool × List (List Nat × List Nat) := (true, [([], []), ([], []), ([0, 1], [0, 1]), ([2, 2], [2]), ([3], [3]), ([4, 3], [3, 4]), ([3], [3]), ([6, 5, 3], [3, 5, 6]), ([7, 3], [3, 7]), ([3], [3]), ([9, 3], [3, 9]), ([8, 10, 3], [3, 8, 10]), ([11, 3], [3, 11]), ([12, 3], [3, 12]), ([3, 13], [3, 13]), ([14, 3, 0, 1, 2, 3, 4, 5, 6, 7, 8, 9, 10, 11, 12, 13, 14], [14])])
def impl_Room_isFree.B1 : List Nat := [0, 0, 3, 7, 15, 31, 15, 127, 255, 15, 527, 2047, 4095, 8191, 16383, 32767]
theorem impl_Room_isFree.tab1 : rtab .any (opsOf Tryd.f51 1) = impl_Room_isFree.T1 := by kernel_rfl
theorem impl_Room_isFree.bits1 : waitsOk impl_Room_isFree.T1.2 impl_Room_isFree.B1 = true := by kernel_rfl
set_option maxHeartbeats 8000000 in
set_option maxRecDepth 100000 in
theorem impl_Room_isFree.calls (a0_0 : Int) (a0_1 : Int) (a0_2 : LA 10) (a1_0 : Int) (a1_1 : Int) (r : Bool) (w : World) (h : impl_Room_isFree.f a0_0 a0_1 a0_2 a1_0 a1_1 = some r) :
  Calls Tryd.prog 51 #[.agg (mixA (Value.int .u16) [.int .i8 a0_0, .int .i8 a0_1] a0_2), .agg #[.int .i8 a1_0, .int .i8 a1_1]] w fun e w' => e = .returned (.bool r) ∧ Below w.heap.size w w' := by
 have hu31 := Tryd.underlying31
 have hu41 := Tryd.underlying41
 have HB := Aside0.mk (Below.refl w.heap.size w)
 have H : ((impl_Room_isCell.f a0_0 a0_1 a0_2 a1_0 a1_1).bind fun t185 => (if t185 = true then (if 0 ≤ a1_1 then (if a1_1 < 10 then (if 0 ≤ a1_0 then (some ((Go.bits .and .u16 (shr .u16 (rd a0_2.l a1_1) a1_0) 1) == 0)) else (none)) else (none)) else (none)) else (some false))) = some r := h
 clear h
 replace H := Option.bind_eq_some_iff.mp H
 obtain ⟨t185, A30, H⟩ := H
 replace H : (if t185 = true then (if 0 ≤ a1_1 then (if a1_1 < 10 then (if 0 ≤ a1_0 then (some ((Go.bits .and .u16 (shr .u16 (rd a0_2.l a1_1) a1_0) 1) == 0)) else (none)) else (none)) else (none)) else (some false)) = some r := H
 have A3 := Aside0.mk A30
 clear A30
 by_cases c4 : t185 = true
 ·subst c4
  have H1 : (if 0 ≤ a1_1 then (if a1_1 < 10 then (if 0 ≤ a1_0 then (some ((Go.bits .and .u16 (shr .u16 (rd a0_2.l a1_1) a1_0) 1) == 0)) else (none)) else (none)) else (none)) = some r := by rw [if_pos rfl] at H; exact H
  clear H
  have H := H1
  clear H1
  by_cases c5 : 0 ≤ a1_1
  ·rw [if_pos c5] at H
   have c5b0 : decide (0 ≤ a1_1) = true := decide_eq_true c5
   clear c5
   by_cases c6 : a1_1 < 10
   ·rw [if_pos c6] at H
    have c6b0 : decide (a1_1 < 10) = true := decide_eq_true c6
    clear c6
    by_cases c7 : 0 ≤ a1_0
    ·rw [if_pos c7] at H
     have c7b0 := eq_true c7
     have c7b1 : decide (0 ≤ a1_0) = true := decide_eq_true c7
     clear c7
     obtain ⟨ji8, hji8⟩ : ∃ j_ : Int, (shr .u16 (rd a0_2.l a1_1) a1_0) = j_ := ⟨_, rfl⟩
     replace H : (some ((Go.bits .and .u16 (ji8) 1) == 0)) = some r := by first | (rw [hji8] at H; exact H) | (simp only [hji8] at H ⊢; exact H)
     (try rw [hji8] at A3)
     have hji8_ : ((rd a0_2.l a1_1) / 2 ^ min a1_0.toNat 16) = ji8 := hji8
     have hji8z : a1_0 ≤ 16 → ((rd a0_2.l a1_1) / 2 ^ a1_0.toNat) = ji8 := shr_small hji8
     obtain rfl := Option.some.inj H
     go_enter Tryd.func51, Tryd.ntmps51
     try go_wp2_with (first | ((with_reducible refine gate_dst (N := 2) rfl ?_); refine box_event ?hg (N := 2) ?hd (cs := (mixA (Value.int .u16) [.int .i8 a0_0, .int .i8 a0_1] a0_2)) (t := 31) ?hr ?_; (case hd => rfl); (case hg => rfl); (case hr => first | (go_simp; done) | (go_simp; rfl)); intro gb183 hg w9 hbox hb; have n0_ := bst HB hb; have n1_ := Aside0.mk (hbox); have n2_ := gwl HB hg; have n3_ := gwl HB hg; clear HB; have HB := n0_; have BK183 := n1_; have GW183 := n2_; have GE183 := n3_; clear n0_ n1_ n2_ n3_; clear hb hbox hg) | ((with_reducible refine gate_dst (N := 3) rfl ?_); refine box_event ?hg (N := 3) ?hd (cs := #[.int .i8 a1_0, .int .i8 a1_1]) (t := 41) ?hr ?_; (case hd => rfl); (case hg => rfl); (case hr => first | (go_simp; done) | (go_simp; rfl)); intro gb184 hg w10 hbox hb; have n0_ := bkb BK183 hb; have n1_ := bst HB hb; have n2_ := Aside0.mk (hbox); have n3_ := gwl HB hg; have n4_ := gwl HB hg; have n5_ := nbl BK183 hg; have n6_ := nbg BK183 hg; clear BK183; clear HB; have BK183 := n0_; have HB := n1_; have BK184 := n2_; have GW184 := n3_; have GE184 := n4_; have NB183_184 := n5_; have NB184_183 := n6_; clear n0_ n1_ n2_ n3_ n4_ n5_ n6_; clear hb hbox hg))
     have n0_ := Aside0.mk (blk_drew BK183.out)
     have n1_ := Aside0.mk (blk_drew BK184.out)
     have n2_ := Aside0.mk (below_drew1 HB.out)
     clear BK183
     clear BK184
     clear HB
     have BK183 := n0_
     have BK184 := n1_
     have HB := n2_
     clear n0_ n1_ n2_
     have hpd13 : (0 ≤ a1_1) = True := eq_true (by first | omega | exact of_decide_eq_true (by first | (with_reducible assumption) | assumption))
     have hqd13 : (a1_1 < 10) = True := eq_true (by first | omega | exact of_decide_eq_true (by first | (with_reducible assumption) | assumption))
     have hrd13 : (a1_1 < ((10 : Nat) : Int)) = True := eq_true (by first | omega | exact of_decide_eq_true (by first | (with_reducible assumption) | assumption))
     refine start_ (n := 16) (S := fun w' => w'.cell? ⟨gb184, 0, none⟩ = some (.int .i8 a1_0) ∧ w'.cell? ⟨gb184, 1, none⟩ = some (.int .i8 a1_1) ∧ w'.cell? ⟨gb183, 2 + a1_1.toNat, none⟩ = some (.int .u16 (rd a0_2.l a1_1)) ∧ World.rangeAt w' gb183 0 ([.int .i8 a0_0, .int .i8 a0_1] ++ a0_2.l.map (Value.int .u16))) (ds := []) #[false, false, false, false, false, false, false, false, false, false, false, false, false, false, false, false] (by kernel_rfl) rfl rfl ⟨(blk_cell BK184.out 0).trans rfl, (blk_cell BK184.out 1).trans rfl, mix_at BK183.out 2 rfl a1_1 (of_eq_true hpd13) (of_eq_true hqd13), mix_range BK183.out⟩ (fun hHeld => ?_); refine with_tabW impl_Room_isFree.tab1 impl_Room_isFree.bits1 (fun HT_ HW_ => ?_)
     generalize w10.drew = w11 at BK183 BK184 HB hHeld ⊢
     refine take_ (i := 0) (N := some 5) (v := ?_) (a' := ?_) #[true, false, false, false, false, false, false, false, false, false, false, false, false, false, false, false] rfl rfl (take_ofW HT_.out HW_.out (by kernel_rfl)) (fun _ _ _ h => h) (Or.inl ⟨by rfl, ?_⟩) hHeld ?_ ?_
     rotate_left
     ·rintro w' ⟨s0, s1, s2, s3⟩
      refine load_mix_run (P := Tryd.prog) 31 (.tmp 2) ?_ gb183 ?_ s3 Tryd.underlying31 rfl (by kernel_rfl) rfl
      all_goals rfl
     rotate_left
     ·simp only [Act.put, List.setIfInBounds_toArray, List.set_cons_zero, List.set_cons_succ, i64_w, i32_w]
      rfl
     refine take_ (i := 1) (N := some 6) (v := ?_) (a' := ?_) #[true, true, false, false, false, false, false, false, false, false, false, false, false, false, false, false] rfl rfl (take_ofW HT_.out HW_.out (by kernel_rfl)) (fun _ _ _ h => h) (Or.inl ⟨by rfl, ?_⟩) hHeld ?_ ?_
     rotate_left
     ·rintro w' ⟨s0, s1, s2, s3⟩
      go_simp
      with_reducible rfl
     rotate_left
     ·simp only [Act.put, List.setIfInBounds_toArray, List.set_cons_zero, List.set_cons_succ, i64_w, i32_w]
      rfl
     refine one_ (i := 2) (N := some 7) #[true, true, true, false, false, false, false, false, false, false, false, false, false, false, false, false] rfl rfl (one_of HT_.out (by kernel_rfl)) (by decide) (fun K hK => ?_)
     refine goes_ Tryd.func65 (by kernel_rfl) rfl #[.agg (mixA (Value.int .u16) [.int .i8 a0_0, .int .i8 a0_1] a0_2), .agg #[.int .i8 a1_0, .int .i8 a1_1]] (by rfl) rfl rfl (by (try simp only [List.map_toArray, List.map_cons, List.map_nil]); first | done | rfl | (simp only [List.length_drop, List.length_take]; rfl)) ?_
     with_reducible refine (impl_Room_isCell.calls a0_0 a0_1 a0_2 a1_0 a1_1 true _ A3.out).mono ?_
     rintro e w12 ⟨rfl, hb⟩
     refine ⟨_, rfl, ?_⟩
     have n0_ := bkb BK183 hb
     have n1_ := bkb BK184 hb
     have n2_ := bst HB hb
     clear BK183
     clear BK184
     clear HB
     have BK183 := n0_
     have BK184 := n1_
     have HB := n2_
     clear n0_ n1_ n2_
     (try clear hb)
     (try clear hb2)
     (try clear hk)
     (try clear hi)
     refine hK.out _ _ ⟨(blk_cell BK184.out 0).trans rfl, (blk_cell BK184.out 1).trans rfl, mix_at BK183.out 2 rfl a1_1 (of_eq_true hpd13) (of_eq_true hqd13), mix_range BK183.out⟩ (fun hHeld => ?_)
     clear hK K
     refine norm_ (a' := ?_) ?_ ?_
     rotate_left
     ·show Act.put _ (some 7) _ = _
      simp only [Act.put, List.setIfInBounds_toArray, List.set_cons_zero, List.set_cons_succ, i64_w, i32_w]
      rfl
     refine pure_ (i := 3) (N := some 8) (v := ?_) (a' := ?_) #[true, true, true, true, false, false, false, false, false, false, false, false, false, false, false, false] rfl rfl (any_of HT_.out (by kernel_rfl)) (fun _ _ _ h => h) (Or.inl ⟨by rfl, ?_⟩) ?_ ?_
     rotate_left
     ·intro w'
      go_simp
      with_reducible rfl
     rotate_left
     ·simp only [Act.put, List.setIfInBounds_toArray, List.set_cons_zero, List.set_cons_succ, i64_w, i32_w]
      rfl
     refine pure_ (i := 4) (N := some 9) (v := ?_) (a' := ?_) #[true, true, true, true, true, false, false, false, false, false, false, false, false, false, false, false] rfl rfl (any_of HT_.out (by kernel_rfl)) (fun _ _ _ h => h) (Or.inl ⟨by rfl, ?_⟩) ?_ ?_
     rotate_left
     ·intro w'
      go_simp
      with_reducible rfl
     rotate_left
     ·simp only [Act.put, List.setIfInBounds_toArray, List.set_cons_zero, List.set_cons_succ, i64_w, i32_w]
      rfl
     refine pure_ (i := 6) (N := some 11) (v := ?_) (a' := ?_) #[true, true, true, true, true, false, true, false, false, false, false, false, false, false, false, false] rfl rfl (any_of HT_.out (by kernel_rfl)) (fun _ _ _ h => h) (Or.inl ⟨by rfl, ?_⟩) ?_ ?_
     rotate_left
     ·intro w'
      go_simp
      with_reducible rfl
     rotate_left
     ·simp only [Act.put, List.setIfInBounds_toArray, List.set_cons_zero, List.set_cons_succ, i64_w, i32_w]
      rfl
     refine pure_ (i := 9) (N := some 14) (v := ?_) (a' := ?_) #[true, true, true, true, true, false, true, false, false, true, false, false, false, false, false, false] rfl rfl (any_of HT_.out (by kernel_rfl)) (fun _ _ _ h => h) (Or.inl ⟨by rfl, ?_⟩) ?_ ?_
     rotate_left
     ·intro w'
      go_simp
      with_reducible rfl
     rotate_left
     ·simp only [Act.put, List.setIfInBounds_toArray, List.set_cons_zero, List.set_cons_succ, i64_w, i32_w]
      rfl
     refine take_ (i := 5) (N := some 10) (v := ?_) (a' := ?_) #[true, true, true, true, true, true, true, false, false, true, false, false, false, false, false, false] rfl rfl (take_ofW HT_.out HW_.out (by kernel_rfl)) (fun _ _ _ h => h) (Or.inl ⟨by rfl, ?_⟩) hHeld ?_ ?_
     rotate_left
     ·rintro w' ⟨s0, s1, s2, s3⟩
      go_simp
      with_reducible rfl
     rotate_left
     ·simp only [Act.put, List.setIfInBounds_toArray, List.set_cons_zero, List.set_cons_succ, i64_w, i32_w]
      rfl
     refine pure_ (i := 7) (N := some 12) (v := ?_) (a' := ?_) #[true, true, true, true, true, true, true, true, false, true, false, false, false, false, false, false] rfl rfl (any_of HT_.out (by kernel_rfl)) (fun _ _ _ h => h) (Or.inl ⟨by rfl, ?_⟩) ?_ ?_
     rotate_left
     ·intro w'
      go_simp
      with_reducible rfl
     rotate_left
     ·simp only [Act.put, List.setIfInBounds_toArray, List.set_cons_zero, List.set_cons_succ, i64_w, i32_w]
      rfl
     refine take_ (i := 8) (N := some 13) (v := ?_) (a' := ?_) #[true, true, true, true, true, true, true, true, true, true, false, false, false, false, false, false] rfl rfl (take_ofW HT_.out HW_.out (by kernel_rfl)) (fun _ _ _ h => h) (Or.inl ⟨by rfl, ?_⟩) hHeld ?_ ?_
     rotate_left
     ·rintro w' ⟨s0, s1, s2, s3⟩
      go_simp
      with_reducible rfl
     rotate_left
     ·simp only [Act.put, List.setIfInBounds_toArray, List.set_cons_zero, List.set_cons_succ, i64_w, i32_w]
      rfl
     refine take_ (i := 10) (N := some 15) (v := ?_) (a' := ?_) #[true, true, true, true, true, true, true, true, true, true, true, false, false, false, false, false] rfl rfl (take_ofW HT_.out HW_.out (by kernel_rfl)) (fun _ _ _ h => h) (Or.inl ⟨by rfl, ?_⟩) hHeld ?_ ?_
     rotate_left
     ·rintro w' ⟨s0, s1, s2, s3⟩
      go_simp
      with_reducible rfl
     rotate_left
     ·simp only [Act.put, List.setIfInBounds_toArray, List.set_cons_zero, List.set_cons_succ, i64_w, i32_w]
      rfl
     refine pure_ (i := 11) (N := some 16) (v := ?_) (a' := ?_) #[true, true, true, true, true, true, true, true, true, true, true, true, false, false, false, false] rfl rfl (any_of HT_.out (by kernel_rfl)) (fun _ _ _ h => h) (Or.inl ⟨by rfl, ?_⟩) ?_ ?_
     rotate_left
     ·intro w'
      go_simp
      with_reducible rfl
     rotate_left
     ·simp only [Act.put, List.setIfInBounds_toArray, List.set_cons_zero, List.set_cons_succ, i64_w, i32_w]
      rfl
     refine pure_ (i := 12) (N := some 17) (v := ?_) (a' := ?_) #[true, true, true, true, true, true, true, true, true, true, true, true, true, false, false, false] rfl rfl (any_of HT_.out (by kernel_rfl)) (fun _ _ _ h => h) (Or.inl ⟨by rfl, ?_⟩) ?_ ?_
     rotate_left
     ·intro w'
      go_simp
      with_reducible rfl
     rotate_left
     ·simp only [Act.put, List.setIfInBounds_toArray, List.set_cons_zero, List.set_cons_succ, i64_w, i32_w]
      rfl
     refine pure_ (i := 13) (N := some 18) (v := ?_) (a' := ?_) #[true, true, true, true, true, true, true, true, true, true, true, true, true, true, false, false] rfl rfl (any_of HT_.out (by kernel_rfl)) (fun _ _ _ h => h) (Or.inl ⟨by rfl, ?_⟩) ?_ ?_
     rotate_left
     ·intro w'
      go_simp
      with_reducible rfl
     rotate_left
     ·simp only [Act.put, List.setIfInBounds_toArray, List.set_cons_zero, List.set_cons_succ, i64_w, i32_w]
      rfl
     refine pure_ (i := 14) (N := some 19) (v := ?_) (a' := ?_) #[true, true, true, true, true, true, true, true, true, true, true, true, true, true, true, false] rfl rfl (any_of HT_.out (by kernel_rfl)) (fun _ _ _ h => h) (Or.inl ⟨by rfl, ?_⟩) ?_ ?_
     rotate_left
     ·intro w'
      go_simp
      with_reducible rfl
     rotate_left
     ·simp only [Act.put, List.setIfInBounds_toArray, List.set_cons_zero, List.set_cons_succ, i64_w, i32_w]
      rfl
     refine pure_ (i := 15) (N := some 4) (v := ?_) (a' := ?_) #[true, true, true, true, true, true, true, true, true, true, true, true, true, true, true, true] rfl rfl (any_of HT_.out (by kernel_rfl)) (fun _ _ _ h => h) (Or.inl ⟨by rfl, ?_⟩) ?_ ?_
     rotate_left
     ·intro w'
      go_simp
      with_reducible rfl
     rotate_left
     ·simp only [Act.put, List.setIfInBounds_toArray, List.set_cons_zero, List.set_cons_succ, i64_w, i32_w]
      rfl
     refine done_ (done_of HT_.out (by kernel_rfl)) ?_
     try go_wp2
     go_ret
     exact ⟨by first | rfl | (simp [errW_none, errW_some] <;> rfl) | (simp only [← hji8]; first | rfl | (simp [errW_none, errW_some] <;> rfl)) | (simp [*, errW_none, errW_some] <;> rfl), pbs HB⟩
    ·rw [if_neg c7] at H
     exact absurd H (by simp)
   ·rw [if_neg c6] at H
    exact absurd H (by simp)
  ·rw [if_neg c5] at H
   exact absurd H (by simp)
 ·replace c4 := Bool.eq_false_iff.mpr c4
  subst c4
  have H1 : (some false) = some r := by rw [if_neg (show ¬ (false = true) by decide)] at H; exact H
  clear H
  have H := H1
  clear H1
  obtain rfl := Option.some.inj H
  go_enter Tryd.func51, Tryd.ntmps51
  try go_wp2_with (first | ((with_reducible refine gate_dst (N := 2) rfl ?_); refine box_event ?hg (N := 2) ?hd (cs := (mixA (Value.int .u16) [.int .i8 a0_0, .int .i8 a0_1] a0_2)) (t := 31) ?hr ?_; (case hd => rfl); (case hg => rfl); (case hr => first | (go_simp; done) | (go_simp; rfl)); intro gb183 hg w15 hbox hb; have n0_ := bst HB hb; have n1_ := Aside0.mk (hbox); have n2_ := gwl HB hg; have n3_ := gwl HB hg; clear HB; have HB := n0_; have BK183 := n1_; have GW183 := n2_; have GE183 := n3_; clear n0_ n1_ n2_ n3_; clear hb hbox hg) | ((with_reducible refine gate_dst (N := 3) rfl ?_); refine box_event ?hg (N := 3) ?hd (cs := #[.int .i8 a1_0, .int .i8 a1_1]) (t := 41) ?hr ?_; (case hd => rfl); (case hg => rfl); (case hr => first | (go_simp; done) | (go_simp; rfl)); intro gb184 hg w16 hbox hb; have n0_ := bkb BK183 hb; have n1_ := bst HB hb; have n2_ := Aside0.mk (hbox); have n3_ := gwl HB hg; have n4_ := gwl HB hg; have n5_ := nbl BK183 hg; have n6_ := nbg BK183 hg; clear BK183; clear HB; have BK183 := n0_; have HB := n1_; have BK184 := n2_; have GW184 := n3_; have GE184 := n4_; have NB183_184 := n5_; have NB184_183 := n6_; clear n0_ n1_ n2_ n3_ n4_ n5_ n6_; clear hb hbox hg))
  have n0_ := Aside0.mk (blk_drew BK183.out)
  have n1_ := Aside0.mk (blk_drew BK184.out)
  have n2_ := Aside0.mk (below_drew1 HB.out)
  clear BK183
  clear BK184
  clear HB
  have BK183 := n0_
  have BK184 := n1_
  have HB := n2_
  clear n0_ n1_ n2_
  refine start_ (n := 16) (S := fun w' => w'.cell? ⟨gb184, 0, none⟩ = some (.int .i8 a1_0) ∧ w'.cell? ⟨gb184, 1, none⟩ = some (.int .i8 a1_1) ∧ World.rangeAt w' gb183 0 ([.int .i8 a0_0, .int .i8 a0_1] ++ a0_2.l.map (Value.int .u16))) (ds := []) #[false, false, false, false, false, false, false, false, false, false, false, false, false, false, false, false] (by kernel_rfl) rfl rfl ⟨(blk_cell BK184.out 0).trans rfl, (blk_cell BK184.out 1).trans rfl, mix_range BK183.out⟩ (fun hHeld => ?_); refine with_tabW impl_Room_isFree.tab1 impl_Room_isFree.bits1 (fun HT_ HW_ => ?_)
  generalize w16.drew = w17 at BK183 BK184 HB hHeld ⊢
  refine take_ (i := 0) (N := some 5) (v := ?_) (a' := ?_) #[true, false, false, false, false, false, false, false, false, false, false, false, false, false, false, false] rfl rfl (take_ofW HT_.out HW_.out (by kernel_rfl)) (fun _ _ _ h => h) (Or.inl ⟨by rfl, ?_⟩) hHeld ?_ ?_
  rotate_left
  ·rintro w' ⟨s0, s1, s2⟩
   refine load_mix_run (P := Tryd.prog) 31 (.tmp 2) ?_ gb183 ?_ s2 Tryd.underlying31 rfl (by kernel_rfl) rfl
   all_goals rfl
  rotate_left
  ·simp only [Act.put, List.setIfInBounds_toArray, List.set_cons_zero, List.set_cons_succ, i64_w, i32_w]
   rfl
  refine take_ (i := 1) (N := some 6) (v := ?_) (a' := ?_) #[true, true, false, false, false, false, false, false, false, false, false, false, false, false, false, false] rfl rfl (take_ofW HT_.out HW_.out (by kernel_rfl)) (fun _ _ _ h => h) (Or.inl ⟨by rfl, ?_⟩) hHeld ?_ ?_
  rotate_left
  ·rintro w' ⟨s0, s1, s2⟩
   go_simp
   with_reducible rfl
  rotate_left
  ·simp only [Act.put, List.setIfInBounds_toArray, List.set_cons_zero, List.set_cons_succ, i64_w, i32_w]
   rfl
  refine one_ (i := 2) (N := some 7) #[true, true, true, false, false, false, false, false, false, false, false, false, false, false, false, false] rfl rfl (one_of HT_.out (by kernel_rfl)) (by decide) (fun K hK => ?_)
  refine goes_ Tryd.func65 (by kernel_rfl) rfl #[.agg (mixA (Value.int .u16) [.int .i8 a0_0, .int .i8 a0_1] a0_2), .agg #[.int .i8 a1_0, .int .i8 a1_1]] (by rfl) rfl rfl (by (try simp only [List.map_toArray, List.map_cons, List.map_nil]); first | done | rfl | (simp only [List.length_drop, List.length_take]; rfl)) ?_
  with_reducible refine (impl_Room_isCell.calls a0_0 a0_1 a0_2 a1_0 a1_1 false _ A3.out).mono ?_
  rintro e w18 ⟨rfl, hb⟩
  refine ⟨_, rfl, ?_⟩
  have n0_ := bkb BK183 hb
  have n1_ := bkb BK184 hb
  have n2_ := bst HB hb
  clear BK183
  clear BK184
  clear HB
  have BK183 := n0_
  have BK184 := n1_
  have HB := n2_
  clear n0_ n1_ n2_
  (try clear hb)
  (try clear hb2)
  (try clear hk)
  (try clear hi)
  refine hK.out _ _ ⟨(blk_cell BK184.out 0).trans rfl, (blk_cell BK184.out 1).trans rfl, mix_range BK183.out⟩ (fun hHeld => ?_)
  clear hK K
  refine norm_ (a' := ?_) ?_ ?_
  rotate_left
  ·show Act.put _ (some 7) _ = _
   simp only [Act.put, List.setIfInBounds_toArray, List.set_cons_zero, List.set_cons_succ, i64_w, i32_w]
   rfl
  refine pure_ (i := 3) (N := some 8) (v := ?_) (a' := ?_) #[true, true, true, true, false, false, false, false, false, false, false, false, false, false, false, false] rfl rfl (any_of HT_.out (by kernel_rfl)) (fun _ _ _ h => h) (Or.inl ⟨by rfl, ?_⟩) ?_ ?_
  rotate_left
  ·intro w'
   go_simp
   with_reducible rfl
  rotate_left
  ·simp only [Act.put, List.setIfInBounds_toArray, List.set_cons_zero, List.set_cons_succ, i64_w, i32_w]
   rfl
  refine pure_ (i := 4) (N := some 9) (v := undef) (a' := ?_) #[true, true, true, true, true, false, false, false, false, false, false, false, false, false, false, false] rfl rfl (any_of HT_.out (by kernel_rfl)) (fun _ _ _ h => h) (Or.inr ⟨by rfl, rfl⟩) ?_ ?_
  rotate_left
  ·simp only [Act.put, List.setIfInBounds_toArray, List.set_cons_zero, List.set_cons_succ, i64_w, i32_w]
   rfl
  refine pure_ (i := 5) (N := some 10) (v := undef) (a' := ?_) #[true, true, true, true, true, true, false, false, false, false, false, false, false, false, false, false] rfl rfl (any_of HT_.out (by kernel_rfl)) (fun _ _ _ h => h) (Or.inr ⟨by rfl, rfl⟩) ?_ ?_
  rotate_left
  ·simp only [Act.put, List.setIfInBounds_toArray, List.set_cons_zero, List.set_cons_succ, i64_w, i32_w]
   rfl
  refine pure_ (i := 6) (N := some 11) (v := undef) (a' := ?_) #[true, true, true, true, true, true, true, false, false, false, false, false, false, false, false, false] rfl rfl (any_of HT_.out (by kernel_rfl)) (fun _ _ _ h => h) (Or.inr ⟨by rfl, rfl⟩) ?_ ?_
  rotate_left
  ·simp only [Act.put, List.setIfInBounds_toArray, List.set_cons_zero, List.set_cons_succ, i64_w, i32_w]
   rfl
  refine pure_ (i := 7) (N := some 12) (v := undef) (a' := ?_) #[true, true, true, true, true, true, true, true, false, false, false, false, false, false, false, false] rfl rfl (any_of HT_.out (by kernel_rfl)) (fun _ _ _ h => h) (Or.inr ⟨by rfl, rfl⟩) ?_ ?_
  rotate_left
  ·simp only [Act.put, List.setIfInBounds_toArray, List.set_cons_zero, List.set_cons_succ, i64_w, i32_w]
   rfl
  refine pure_ (i := 8) (N := some 13) (v := undef) (a' := ?_) #[true, true, true, true, true, true, true, true, true, false, false, false, false, false, false, false] rfl rfl (any_of HT_.out (by kernel_rfl)) (fun _ _ _ h => h) (Or.inr ⟨by rfl, rfl⟩) ?_ ?_
  rotate_left
  ·simp only [Act.put, List.setIfInBounds_toArray, List.set_cons_zero, List.set_cons_succ, i64_w, i32_w]
   rfl
  refine pure_ (i := 9) (N := some 14) (v := undef) (a' := ?_) #[true, true, true, true, true, true, true, true, true, true, false, false, false, false, false, false] rfl rfl (any_of HT_.out (by kernel_rfl)) (fun _ _ _ h => h) (Or.inr ⟨by rfl, rfl⟩) ?_ ?_
  rotate_left
  ·simp only [Act.put, List.setIfInBounds_toArray, List.set_cons_zero, List.set_cons_succ, i64_w, i32_w]
   rfl
  refine pure_ (i := 10) (N := some 15) (v := undef) (a' := ?_) #[true, true, true, true, true, true, true, true, true, true, true, false, false, false, false, false] rfl rfl (any_of HT_.out (by kernel_rfl)) (fun _ _ _ h => h) (Or.inr ⟨by rfl, rfl⟩) ?_ ?_
  rotate_left
  ·simp only [Act.put, List.setIfInBounds_toArray, List.set_cons_zero, List.set_cons_succ, i64_w, i32_w]
   rfl
  refine pure_ (i := 11) (N := some 16) (v := undef) (a' := ?_) #[true, true, true, true, true, true, true, true, true, true, true, true, false, false, false, false] rfl rfl (any_of HT_.out (by kernel_rfl)) (fun _ _ _ h => h) (Or.inr ⟨by rfl, rfl⟩) ?_ ?_
  rotate_left
  ·simp only [Act.put, List.setIfInBounds_toArray, List.set_cons_zero, List.set_cons_succ, i64_w, i32_w]
   rfl
  refine pure_ (i := 12) (N := some 17) (v := undef) (a' := ?_) #[true, true, true, true, true, true, true, true, true, true, true, true, true, false, false, false] rfl rfl (any_of HT_.out (by kernel_rfl)) (fun _ _ _ h => h) (Or.inr ⟨by rfl, rfl⟩) ?_ ?_
  rotate_left
  ·simp only [Act.put, List.setIfInBounds_toArray, List.set_cons_zero, List.set_cons_succ, i64_w, i32_w]
   rfl
  refine pure_ (i := 13) (N := some 18) (v := undef) (a' := ?_) #[true, true, true, true, true, true, true, true, true, true, true, true, true, true, false, false] rfl rfl (any_of HT_.out (by kernel_rfl)) (fun _ _ _ h => h) (Or.inr ⟨by rfl, rfl⟩) ?_ ?_
  rotate_left
  ·simp only [Act.put, List.setIfInBounds_toArray, List.set_cons_zero, List.set_cons_succ, i64_w, i32_w]
   rfl
  refine pure_ (i := 14) (N := some 19) (v := ?_) (a' := ?_) #[true, true, true, true, true, true, true, true, true, true, true, true, true, true, true, false] rfl rfl (any_of HT_.out (by kernel_rfl)) (fun _ _ _ h => h) (Or.inl ⟨by rfl, ?_⟩) ?_ ?_
  rotate_left
  ·intro w'
   go_simp
   with_reducible rfl
  rotate_left
  ·simp only [Act.put, List.setIfInBounds_toArray, List.set_cons_zero, List.set_cons_succ, i64_w, i32_w]
   rfl
  refine pure_ (i := 15) (N := some 4) (v := ?_) (a' := ?_) #[true, true, true, true, true, true, true, true, true, true, true, true, true, true, true, true] rfl rfl (any_of HT_.out (by kernel_rfl)) (fun _ _ _ h => h) (Or.inl ⟨by rfl, ?_⟩) ?_ ?_
  rotate_left
  ·intro w'
   go_simp
   with_reducible rfl
  rotate_left
  ·simp only [Act.put, List.setIfInBounds_toArray, List.set_cons_zero, List.set_cons_succ, i64_w, i32_w]
   rfl
  refine done_ (done_of HT_.out (by kernel_rfl)) ?_
  try go_wp2
  go_ret
  exact ⟨by first | rfl | (simp [errW_none, errW_some] <;> rfl) | (simp [*, errW_none, errW_some] <;> rfl), pbs HB⟩
mutual
def impl_Room_cells__51.l0 : Nat → List (S41) → Int → Int → Int → Int → LA 10 → Int → Int → LA 10 → Option ((List (S41)))
 | 0, _, _, _, _, _, _, _, _, _ => none
 | k + 1, x5, x11, x12, x187000, x187001, x187002, x188000, x188001, x188002 => if x12 < x11 then (impl_Room_cells__51.l1 k x5 x12 x11 x12 x188000 0 x187000 x187001 x187002 x188000 x188001 x188002) else (some x5)
def impl_Room_cells__51.l1 : Nat → List (S41) → Int → Int → Int → Int → Int → Int → Int → LA 10 → Int → Int → LA 10 → Option ((List (S41)))
 | 0, _, _, _, _, _, _, _, _, _, _, _, _ => none
 | k + 1, x5, x6, x11, x12, x16, x17, x187000, x187001, x187002, x188000, x188001, x188002 => if x17 < x16 then ((impl_Room_isFree.f x187000 x187001 x187002 x17 x6).bind fun t192 => (if t192 = true then (if x5.length < 70368744177664 then (impl_Room_cells__51.l1 k (x5 ++ [(⟨x17, x6⟩ : S41)]) x6 x11 x12 x16 (IntKind.i8.wrap (x17 + 1)) x187000 x187001 x187002 x188000 x188001 x188002) else (none)) else (impl_Room_cells__51.l1 k x5 x6 x11 x12 x16 (IntKind.i8.wrap (x17 + 1)) x187000 x187001 x187002 x188000 x188001 x188002))) else (impl_Room_cells__51.l0 k x5 x11 (IntKind.i8.wrap (x12 + 1)) x187000 x187001 x187002 x188000 x188001 x188002)
end
def impl_Room_cells__51.f (k : Nat) (a0_0 : Int) (a0_1 : Int) (a0_2 : LA 10) (a1_0 : Int) (a1_1 : Int) (a1_2 : LA 10) : Option ((List (S41))) := impl_Room_cells__51.l0 k (([] : List (S41))) a0_1 0 a1_0 a1_1 a1_2 a0_0 a0_1 a0_2
theorem impl_Room_cells__51.mono_l : ∀ k, (∀ y0 y1 y2 y3 y4 y5 y6 y7 y8, LeO (impl_Room_cells__51.l0 k y0 y1 y2 y3 y4 y5 y6 y7 y8) (impl_Room_cells__51.l0 (k + 1) y0 y1 y2 y3 y4 y5 y6 y7 y8)) ∧ (∀ y0 y1 y2 y3 y4 y5 y6 y7 y8 y9 y10 y11, LeO (impl_Room_cells__51.l1 k y0 y1 y2 y3 y4 y5 y6 y7 y8 y9 y10 y11) (impl_Room_cells__51.l1 (k + 1) y0 y1 y2 y3 y4 y5 y6 y7 y8 y9 y10 y11))
 | 0 => ⟨fun _ _ _ _ _ _ _ _ _ r h => by simp [impl_Room_cells__51.l0] at h, fun _ _ _ _ _ _ _ _ _ _ _ _ r h => by simp [impl_Room_cells__51.l1] at h⟩
 | k + 1 => by
  obtain ⟨ih0, ih1⟩ := impl_Room_cells__51.mono_l k
  refine ⟨?_, ?_⟩
  ·intro y0 y1 y2 y3 y4 y5 y6 y7 y8
   unfold impl_Room_cells__51.l0
   repeat' first
   | (with_reducible exact ih0 _ _ _ _ _ _ _ _ _)
   | (with_reducible exact ih1 _ _ _ _ _ _ _ _ _ _ _ _)
   | (with_reducible exact LeO.refl _)
   | (with_reducible exact LeO.none _)
   | (with_reducible refine LeO.ite ?_ ?_)
   | (with_reducible refine LeO.bind ?_ (fun _ => ?_))
   | exact ih0 _ _ _ _ _ _ _ _ _
   | exact ih1 _ _ _ _ _ _ _ _ _ _ _ _
   | exact LeO.none _
   | refine LeO.ite ?_ ?_
   | refine LeO.bind ?_ (fun _ => ?_)
  ·intro y0 y1 y2 y3 y4 y5 y6 y7 y8 y9 y10 y11
   unfold impl_Room_cells__51.l1
   repeat' first
   | (with_reducible exact ih0 _ _ _ _ _ _ _ _ _)
   | (with_reducible exact ih1 _ _ _ _ _ _ _ _ _ _ _ _)
   | (with_reducible exact LeO.refl _)
   | (with_reducible exact LeO.none _)
   | (with_reducible refine LeO.ite ?_ ?_)
   | (with_reducible refine LeO.bind ?_ (fun _ => ?_))
   | exact ih0 _ _ _ _ _ _ _ _ _
   | exact ih1 _ _ _ _ _ _ _ _ _ _ _ _
   | exact LeO.none _
   | refine LeO.ite ?_ ?_
   | refine LeO.bind ?_ (fun _ => ?_)
theorem impl_Room_cells__51.mono : ∀ a0 a1 a2 a3 a4 a5 k, LeO (impl_Room_cells__51.f k a0 a1 a2 a3 a4 a5) (impl_Room_cells__51.f (k + 1) a0 a1 a2 a3 a4 a5) := by
 intro a0 a1 a2 a3 a4 a5 k
 obtain ⟨ih0, ih1⟩ := impl_Room_cells__51.mono_l k
 unfold impl_Room_cells__51.f
 repeat' first
   | (with_reducible exact ih0 _ _ _ _ _ _ _ _ _)
   | (with_reducible exact ih1 _ _ _ _ _ _ _ _ _ _ _ _)
   | (with_reducible exact LeO.refl _)
   | (with_reducible exact LeO.none _)
   | (with_reducible refine LeO.ite ?_ ?_)
   | (with_reducible refine LeO.bind ?_ (fun _ => ?_))
   | exact ih0 _ _ _ _ _ _ _ _ _
   | exact ih1 _ _ _ _ _ _ _ _ _ _ _ _
   | exact LeO.none _
   | refine LeO.ite ?_ ?_
   | refine LeO.bind ?_ (fun _ => ?_)
set_option maxHeartbeats 8000000 in
set_option maxRecDepth 100000 in
theorem impl_Room_cells__51.calls (k : Nat) (a0_0 : Int) (a0_1 : Int) (a0_2 : LA 10) (a1_0 : Int) (a1_1 : Int) (a1_2 : LA 10) (r : List (S41)) (w : World) (h : impl_Room_cells__51.f k a0_0 a0_1 a0_2 a1_0 a1_1 a1_2 = some r) :
  Calls Tryd.prog 50 #[.agg (mixA (Value.int .u16) [.int .i8 a0_0, .int .i8 a0_1] a0_2), .func (.func 51) #[.agg (mixA (Value.int .u16) [.int .i8 a1_0, .int .i8 a1_1] a1_2)] #[]] w fun e w' => ∃ v0_ : Value, e = .returned (v0_) ∧ Kd.R k41 41 w' w.heap.size (fun _ => True) v0_ r ∧ Below w.heap.size w w' := by
 have hu31 := Tryd.underlying31
 have hu41 := Tryd.underlying41
 have HB := Aside0.mk (Below.refl w.heap.size w)
 have H : (impl_Room_cells__51.l0 k (([] : List (S41))) a0_1 0 a1_0 a1_1 a1_2 a0_0 a0_1 a0_2) = some r := h
 clear h
 obtain ⟨y188, hy188⟩ : ∃ y_ : List (S41), y_ = (([] : List (S41))) := ⟨_, rfl⟩
 replace H : (impl_Room_cells__51.l0 k y188 a0_1 0 a1_0 a1_1 a1_2 a0_0 a0_1 a0_2) = some r := by first | (rw [hy188]; with_reducible exact H) | (have H2_ := (Option.bind_some _ _).symm.trans H; rw [hy188]; with_reducible exact H2_) | (have H2_ := (Option.bind_some _ _).symm.trans H; with_reducible exact H2_) | with_reducible exact H | (rw [hy188]; exact H) | exact H
 have Ny188 := Aside0.mk hy188
 clear hy188
 have H' := Aside0.mk H
 clear H
 go_enter Tryd.func50, Tryd.ntmps50
 go_wp2_with (first | ((with_reducible refine gate_dst (N := 2) rfl ?_); refine box_event ?hg (N := 2) ?hd (cs := (mixA (Value.int .u16) [.int .i8 a0_0, .int .i8 a0_1] a0_2)) (t := 31) ?hr ?_; (case hd => rfl); (case hg => rfl); (case hr => first | (go_simp; done) | (go_simp; rfl)); intro gb187 hg w3 hbox hb; have n0_ := bst HB hb; have n1_ := Aside0.mk (hbox); have n2_ := gwl HB hg; have n3_ := gwl HB hg; clear HB; have HB := n0_; have BK187 := n1_; have GW187 := n2_; have GE187 := n3_; clear n0_ n1_ n2_ n3_; clear hb hbox hg) | ((with_reducible refine gate_dst (N := 9) rfl ?_); refine Kd.R_lit k41 _ 41 ?hg (N := 9) ?hd (xs := ([] : List (S41))) (inner := []) (ok := fun _ => True) (okp := fun _ => True) ?hr ?hp (fun _ hk => hk) trivial (Below.refl _ _) (Nat.le_refl _) (by simp) ?_; (case hd => rfl); (case hg => rfl); (case hr => first | (go_simp; done) | (go_simp; rfl)); (case hp => exact (Reps.none _ _)); intro v189 w4 ho5 hb hg_ hnew_; clear hg_ hnew_; (first | rw [← Ny188.out] at ho5 | (simp only [Int.reduceToNat] at ho5; rw [← Ny188.out] at ho5)); have n0_ := Aside0.mk (Kd.R_lower ho5 (below_size (by repeat (first | (with_reducible first | exact HB.out | apply below_alloc | apply pw_below_drewN | apply below_drew1 | refine below_set ?_ GE187.out) | exact HB.out)))); have n1_ := bkb BK187 hb; have n2_ := bst HB hb; clear BK187; clear HB; have HO190 := n0_; have BK187 := n1_; have HB := n2_; clear n0_ n1_ n2_; clear hb ho5; have hcz6_0 : w4.cell? ⟨gb187, 0, none⟩ = some (.int .i8 a0_0) := mix_cell0 BK187.out 0; have hcz6_1 : w4.cell? ⟨gb187, 1, none⟩ = some (.int .i8 a0_1) := mix_cell0 BK187.out 1; have hfz6_0 := blk_frozen BK187.out 0; have hfz6_1 := blk_frozen BK187.out 1))
 go_loopg [5, 12] k (fun kq v5 v12 w' => ∃ (x5_1 : List (S41)) (x12_1 : Int), v12 = .int .i8 x12_1 ∧ Aside0 (impl_Room_cells__51.l0 kq x5_1 a0_1 x12_1 a1_0 a1_1 a1_2 a0_0 a0_1 a0_2 = some r) ∧ Aside0 (kq ≤ k) ∧ Aside0 (Kd.R k41 41 w' w.heap.size (fun _ => True) v5 x5_1) ∧ Aside0 (w'.heap[gb187]? = some (.cells (mixA (Value.int .u16) [.int .i8 a0_0, .int .i8 a0_1] a0_2) 31 (0, 0))) ∧ Aside0 (Below w.heap.size w w'))
 case atStart => exact ⟨(y188), (0), (by first | rfl | (simp; done) | (simp [*]; done)), H', ⟨Nat.le_refl _⟩, ⟨by (with_reducible repeat (first | apply Kd.R_alloc | apply Kd.R_drewN | apply Kd.R_drew)); exact HO190.out⟩, ⟨pk BK187⟩, ⟨pbs HB⟩⟩
 case round =>
  clear H'
  try clear p2
  try clear c5
  try clear hcz6_0
  try clear hcz6_1
  try clear hfz6_0
  try clear hfz6_1
  obtain ⟨x5_1, x12_1, rfl, HA, HK1, HO_5, BK187, HB⟩ := hrel
  cases gk with
  | zero => exact absurd HA.out (by simp [impl_Room_cells__51.l0])
  | succ k1 =>
   have H := HA.out
   clear HA
   simp only [impl_Room_cells__51.l0] at H
   by_cases c7 : x12_1 < a0_1
   ·rw [if_pos c7] at H
    have c7b0 : decide (x12_1 < a0_1) = true := decide_eq_true c7
    clear c7
    have H' := Aside0.mk H
    clear H
    have hcz8_0 : wr.cell? ⟨gb187, 0, none⟩ = some (.int .i8 a0_0) := mix_cell0 BK187.out 0
    have hcz8_1 : wr.cell? ⟨gb187, 1, none⟩ = some (.int .i8 a0_1) := mix_cell0 BK187.out 1
    have hfz8_0 := blk_frozen BK187.out 0
    have hfz8_1 := blk_frozen BK187.out 1
    go_wp2
    go_loopg [5, 17] k1 (fun kq v5 v17 w' => ∃ (x5_2 : List (S41)) (x17_2 : Int), v17 = .int .i8 x17_2 ∧ Aside0 (impl_Room_cells__51.l1 kq x5_2 x12_1 a0_1 x12_1 a0_0 x17_2 a1_0 a1_1 a1_2 a0_0 a0_1 a0_2 = some r) ∧ Aside0 (kq ≤ k1) ∧ Aside0 (Kd.R k41 41 w' w.heap.size (fun _ => True) v5 x5_2) ∧ Aside0 (w'.heap[gb187]? = some (.cells (mixA (Value.int .u16) [.int .i8 a0_0, .int .i8 a0_1] a0_2) 31 (0, 0))) ∧ Aside0 (Below w.heap.size w w'))
    case atStart => exact ⟨(x5_1), (0), (by first | rfl | (simp; done) | (simp [*]; done)), H', ⟨Nat.le_refl _⟩, ⟨by (with_reducible repeat (first | apply Kd.R_alloc | apply Kd.R_drewN | apply Kd.R_drew)); exact HO_5.out⟩, ⟨pk BK187⟩, ⟨pbs HB⟩⟩
    case round =>
     clear H'
     try clear p2
     try clear c5
     try clear c7
     try clear c7b0
     try clear hcz6_0
     try clear hcz6_1
     try clear hcz8_0
     try clear hcz8_1
     try clear hfz6_0
     try clear hfz6_1
     try clear hfz8_0
     try clear hfz8_1
     try clear p2
     obtain ⟨x5_2, x17_2, rfl, HA, HK2, HO_5, BK187, HB⟩ := hrel
     cases gk with
     | zero => exact absurd HA.out (by simp [impl_Room_cells__51.l1])
     | succ k2 =>
      have H := HA.out
      clear HA
      simp only [impl_Room_cells__51.l1] at H
      by_cases c9 : x17_2 < a0_0
      ·rw [if_pos c9] at H
       have c9b0 : decide (x17_2 < a0_0) = true := decide_eq_true c9
       clear c9
       replace H := Option.bind_eq_some_iff.mp H
       obtain ⟨t192, A100, H⟩ := H
       replace H : (if t192 = true then (if x5_2.length < 70368744177664 then (impl_Room_cells__51.l1 k2 (x5_2 ++ [(⟨x17_2, x12_1⟩ : S41)]) x12_1 a0_1 x12_1 a0_0 (IntKind.i8.wrap (x17_2 + 1)) a1_0 a1_1 a1_2 a0_0 a0_1 a0_2) else (none)) else (impl_Room_cells__51.l1 k2 x5_2 x12_1 a0_1 x12_1 a0_0 (IntKind.i8.wrap (x17_2 + 1)) a1_0 a1_1 a1_2 a0_0 a0_1 a0_2)) = some r := H
       have A10 := Aside0.mk A100
       clear A100
       by_cases c11 : t192 = true
       ·subst c11
        have H1 : (if x5_2.length < 70368744177664 then (impl_Room_cells__51.l1 k2 (x5_2 ++ [(⟨x17_2, x12_1⟩ : S41)]) x12_1 a0_1 x12_1 a0_0 (IntKind.i8.wrap (x17_2 + 1)) a1_0 a1_1 a1_2 a0_0 a0_1 a0_2) else (none)) = some r := by rw [if_pos rfl] at H; exact H
        clear H
        have H := H1
        clear H1
        by_cases c12 : x5_2.length < 70368744177664
        ·rw [if_pos c12] at H
         have LMc12 := Aside0.mk c12
         clear c12
         obtain ⟨y193, hy193⟩ : ∃ y_ : List (S41), y_ = (x5_2 ++ [(⟨x17_2, x12_1⟩ : S41)]) := ⟨_, rfl⟩
         replace H : (impl_Room_cells__51.l1 k2 y193 x12_1 a0_1 x12_1 a0_0 (IntKind.i8.wrap (x17_2 + 1)) a1_0 a1_1 a1_2 a0_0 a0_1 a0_2) = some r := by first | (rw [hy193]; with_reducible exact H) | (have H2_ := (Option.bind_some _ _).symm.trans H; rw [hy193]; with_reducible exact H2_) | (have H2_ := (Option.bind_some _ _).symm.trans H; with_reducible exact H2_) | with_reducible exact H | (rw [hy193]; exact H) | exact H
         have Ny193 := Aside0.mk hy193
         clear hy193
         have H' := Aside0.mk H
         clear H
         go_wp2_with (first | ((with_reducible refine gate_dst (N := 8) rfl ?_); refine box_event ?hg (N := 8) ?hd (cs := #[.int .i8 0, .int .i8 0]) (t := 41) ?hr ?_; (case hd => rfl); (case hg => rfl); (case hr => first | (go_simp; done) | (go_simp; rfl)); intro gb191 hg w13 hbox hb; have n0_ := Aside0.mk (Kd.R_below (Kd.R_elderB (by (with_reducible repeat (first | apply Kd.R_alloc | apply Kd.R_drewN | apply Kd.R_drew)); exact HO_5.out) gb191 (Nat.le_of_eq hg.symm)) hb); have n1_ := bkb BK187 hb; have n2_ := bst HB hb; have n3_ := Aside0.mk (hbox); have n4_ := gwl HB hg; have n5_ := gwl HB hg; have n6_ := nbl BK187 hg; have n7_ := nbg BK187 hg; clear HO_5; clear BK187; clear HB; have HO_5 := n0_; have BK187 := n1_; have HB := n2_; have BK191 := n3_; have GW191 := n4_; have GE191 := n5_; have NB187_191 := n6_; have NB191_187 := n7_; clear n0_ n1_ n2_ n3_ n4_ n5_ n6_ n7_; clear hb hbox hg; have hnb14 := NB191_187.out; have hnc14 := NB187_191.out; have hcz15_0 : w13.cell? ⟨gb191, 0, none⟩ = some (.int .i8 0) := (blk_cell BK191.out 0).trans rfl; have hcz15_1 : w13.cell? ⟨gb191, 1, none⟩ = some (.int .i8 0) := (blk_cell BK191.out 1).trans rfl; have hfz15_0 := blk_frozen BK191.out 0; have hfz15_1 := blk_frozen BK191.out 1) | (go_at_call 51; (with_reducible refine (impl_Room_isFree.calls a1_0 a1_1 a1_2 x17_2 x12_1 true _ A10.out).mono ?_); rintro e w16 ⟨rfl, hb⟩; have n0_ := Aside0.mk (Kd.R_below (by (with_reducible repeat (first | apply Kd.R_alloc | apply Kd.R_drewN | apply Kd.R_drew)); exact (Kd.R_mono (Kd.R_far (p := ⟨gb191, 1, none⟩) (Kd.R_far (p := ⟨gb191, 0, none⟩) (Kd.R_mono HO_5.out (fun k_ hk => (⟨hk, hk.2⟩ : _ ∧ k_ ≠ gb191))) (fun _ hk => hk.2) (.int .i8 x17_2)) (fun _ hk => hk.2) (.int .i8 x12_1)) (fun _ h_ => h_.1))) hb); have n1_ := Aside0.mk (blk_below (g := gb187) (o := .cells (mixA (Value.int .u16) [.int .i8 a0_0, .int .i8 a0_1] a0_2) 31 (0, 0)) (by (with_reducible repeat (first | refine blk_drewN ?_ _ | refine blk_drew ?_ | refine blk_alloc ?_ _)); refine blk_far ?_ NB187_191.out _; (with_reducible repeat (first | refine blk_drewN ?_ _ | refine blk_drew ?_ | refine blk_alloc ?_ _)); refine blk_far ?_ NB187_191.out _; (with_reducible repeat (first | refine blk_drewN ?_ _ | refine blk_drew ?_ | refine blk_alloc ?_ _)); exact BK187.out) hb); have n2_ := Aside0.mk (blk_below (g := gb191) (o := .cells #[.int .i8 x17_2, .int .i8 x12_1] 41 (0, 0)) (by (with_reducible repeat (first | refine blk_drewN ?_ _ | refine blk_drew ?_ | refine blk_alloc ?_ _)); refine blk_put (cs := #[.int .i8 x17_2, .int .i8 0]) ?_ 1 _ rfl; (with_reducible repeat (first | refine blk_drewN ?_ _ | refine blk_drew ?_ | refine blk_alloc ?_ _)); refine blk_put (cs := #[.int .i8 0, .int .i8 0]) ?_ 0 _ rfl; (with_reducible repeat (first | refine blk_drewN ?_ _ | refine blk_drew ?_ | refine blk_alloc ?_ _)); exact BK191.out) hb); have n3_ := bst HB hb; clear HO_5; clear BK187; clear BK191; clear HB; have HO_5 := n0_; have BK187 := n1_; have BK191 := n2_; have HB := n3_; clear n0_ n1_ n2_ n3_; (try clear hb); (try clear hb2); (try clear hk); (try clear hi); have hcz17_0 : w16.cell? ⟨gb191, 0, none⟩ = some (.int .i8 x17_2) := (blk_cell BK191.out 0).trans rfl; have hcz17_1 : w16.cell? ⟨gb191, 1, none⟩ = some (.int .i8 x12_1) := (blk_cell BK191.out 1).trans rfl; have hfz17_0 := blk_frozen BK191.out 0; have hfz17_1 := blk_frozen BK191.out 1) | ((with_reducible refine gate_builtin (b := .append) (xs := #[.tmp 26, .tmp 28]) rfl ?_); at_builtin; refine Kd.R_append k41 (w0 := w) w.heap.size rfl (.tmp 26) (.tmp 28) 48 41 (.agg #[(.int .i8 0), (.int .i8 0)]) 2 rfl Tryd.underlying48 info41 rfl (by decide) (by omega) u5 x5_2 (⟨x17_2, x12_1⟩ : S41) [.int .i8 x17_2, .int .i8 x12_1] (fun k_ => k_ ≠ gb191) (fun _ => False) rfl rfl ?aP (fun _ hk => hk.elim) ?aF ?aO ?aB ?aS ?aL ?_; (case aP => exact k41_mkM _ _ _ (⟨x17_2, x12_1⟩ : S41)); (case aB => exact (pbs HB)); (case aF => exact (fun k_ hk => Kd.freshB (g := gb191) (o := .cells #[.int .i8 x17_2, .int .i8 x12_1] 41 (0, 0)) (pk BK191) k_ hk)); (case aO => exact (by (with_reducible repeat (first | apply Kd.R_alloc | apply Kd.R_drewN | apply Kd.R_drew)); exact Kd.R_mono HO_5.out (fun _ hk => hk.2))); (case aS => exact (below_size (by repeat (first | (with_reducible first | exact HB.out | apply below_alloc | apply pw_below_drewN | apply below_drew1 | refine below_set ?_ GE187.out | refine below_set ?_ GE191.out) | exact HB.out)))); (case aL => have := LMc12.out; omega); intro v194 w18 ho hb hg hat; rw [← Ny193.out] at ho; have n0_ := Aside0.mk (blk_grown (g := gb187) (o := .cells (mixA (Value.int .u16) [.int .i8 a0_0, .int .i8 a0_1] a0_2) 31 (0, 0)) (pk BK187) hg (Kd.R_ne HO_5.out BK187.out (by decide))); have n1_ := Aside0.mk (blk_grown (g := gb191) (o := .cells #[.int .i8 x17_2, .int .i8 x12_1] 41 (0, 0)) (pk BK191) hg (Kd.R_away HO_5.out (fun _ hk => hk.2))); have n2_ := Aside0.mk (hb); have n3_ := Aside0.mk (ho); clear BK187; clear BK191; clear HB; clear HO_5; have BK187 := n0_; have BK191 := n1_; have HB := n2_; have HO195 := n3_; clear n0_ n1_ n2_ n3_; clear ho hb hg hat))
         go_roundg k2
         case measure => have := HK1.out; have := HK2.out; omega
         case rel => exact ⟨(y193), (IntKind.i8.wrap (x17_2 + 1)), (by first | rfl | (simp; done) | (simp [*]; done)), H', ⟨by have := HK1.out; have := HK2.out; omega⟩, ⟨by (with_reducible repeat (first | apply Kd.R_alloc | apply Kd.R_drewN | apply Kd.R_drew)); exact Kd.R_mono HO195.out (fun _ hk => trivial)⟩, ⟨pk BK187⟩, ⟨pbs HB⟩⟩
        ·rw [if_neg c12] at H
         exact absurd H (by simp)
       ·replace c11 := Bool.eq_false_iff.mpr c11
        subst c11
        have H1 : (impl_Room_cells__51.l1 k2 x5_2 x12_1 a0_1 x12_1 a0_0 (IntKind.i8.wrap (x17_2 + 1)) a1_0 a1_1 a1_2 a0_0 a0_1 a0_2) = some r := by rw [if_neg (show ¬ (false = true) by decide)] at H; exact H
        clear H
        have H := H1
        clear H1
        have H' := Aside0.mk H
        clear H
        go_wp2_with (first | ((with_reducible refine gate_dst (N := 8) rfl ?_); refine box_event ?hg (N := 8) ?hd (cs := #[.int .i8 0, .int .i8 0]) (t := 41) ?hr ?_; (case hd => rfl); (case hg => rfl); (case hr => first | (go_simp; done) | (go_simp; rfl)); intro gb191 hg w19 hbox hb; have n0_ := Aside0.mk (Kd.R_below (Kd.R_elderB (by (with_reducible repeat (first | apply Kd.R_alloc | apply Kd.R_drewN | apply Kd.R_drew)); exact HO_5.out) gb191 (Nat.le_of_eq hg.symm)) hb); have n1_ := bkb BK187 hb; have n2_ := bst HB hb; have n3_ := Aside0.mk (hbox); have n4_ := gwl HB hg; have n5_ := gwl HB hg; have n6_ := nbl BK187 hg; have n7_ := nbg BK187 hg; clear HO_5; clear BK187; clear HB; have HO_5 := n0_; have BK187 := n1_; have HB := n2_; have BK191 := n3_; have GW191 := n4_; have GE191 := n5_; have NB187_191 := n6_; have NB191_187 := n7_; clear n0_ n1_ n2_ n3_ n4_ n5_ n6_ n7_; clear hb hbox hg; have hnb20 := NB191_187.out; have hnc20 := NB187_191.out; have hcz21_0 : w19.cell? ⟨gb191, 0, none⟩ = some (.int .i8 0) := (blk_cell BK191.out 0).trans rfl; have hcz21_1 : w19.cell? ⟨gb191, 1, none⟩ = some (.int .i8 0) := (blk_cell BK191.out 1).trans rfl; have hfz21_0 := blk_frozen BK191.out 0; have hfz21_1 := blk_frozen BK191.out 1) | (go_at_call 51; (with_reducible refine (impl_Room_isFree.calls a1_0 a1_1 a1_2 x17_2 x12_1 false _ A10.out).mono ?_); rintro e w22 ⟨rfl, hb⟩; have n0_ := Aside0.mk (Kd.R_below (by (with_reducible repeat (first | apply Kd.R_alloc | apply Kd.R_drewN | apply Kd.R_drew)); exact (Kd.R_mono (Kd.R_far (p := ⟨gb191, 1, none⟩) (Kd.R_far (p := ⟨gb191, 0, none⟩) (Kd.R_mono HO_5.out (fun k_ hk => (⟨hk, hk.2⟩ : _ ∧ k_ ≠ gb191))) (fun _ hk => hk.2) (.int .i8 x17_2)) (fun _ hk => hk.2) (.int .i8 x12_1)) (fun _ h_ => h_.1))) hb); have n1_ := Aside0.mk (blk_below (g := gb187) (o := .cells (mixA (Value.int .u16) [.int .i8 a0_0, .int .i8 a0_1] a0_2) 31 (0, 0)) (by (with_reducible repeat (first | refine blk_drewN ?_ _ | refine blk_drew ?_ | refine blk_alloc ?_ _)); refine blk_far ?_ NB187_191.out _; (with_reducible repeat (first | refine blk_drewN ?_ _ | refine blk_drew ?_ | refine blk_alloc ?_ _)); refine blk_far ?_ NB187_191.out _; (with_reducible repeat (first | refine blk_drewN ?_ _ | refine blk_drew ?_ | refine blk_alloc ?_ _)); exact BK187.out) hb); have n2_ := Aside0.mk (blk_below (g := gb191) (o := .cells #[.int .i8 x17_2, .int .i8 x12_1] 41 (0, 0)) (by (with_reducible repeat (first | refine blk_drewN ?_ _ | refine blk_drew ?_ | refine blk_alloc ?_ _)); refine blk_put (cs := #[.int .i8 x17_2, .int .i8 0]) ?_ 1 _ rfl; (with_reducible repeat (first | refine blk_drewN ?_ _ | refine blk_drew ?_ | refine blk_alloc ?_ _)); refine blk_put (cs := #[.int .i8 0, .int .i8 0]) ?_ 0 _ rfl; (with_reducible repeat (first | refine blk_drewN ?_ _ | refine blk_drew ?_ | refine blk_alloc ?_ _)); exact BK191.out) hb); have n3_ := bst HB hb; clear HO_5; clear BK187; clear BK191; clear HB; have HO_5 := n0_; have BK187 := n1_; have BK191 := n2_; have HB := n3_; clear n0_ n1_ n2_ n3_; (try clear hb); (try clear hb2); (try clear hk); (try clear hi)))
        go_roundg k2
        case measure => have := HK1.out; have := HK2.out; omega
        case rel => exact ⟨(x5_2), (IntKind.i8.wrap (x17_2 + 1)), (by first | rfl | (simp; done) | (simp [*]; done)), H', ⟨by have := HK1.out; have := HK2.out; omega⟩, ⟨by (with_reducible repeat (first | apply Kd.R_alloc | apply Kd.R_drewN | apply Kd.R_drew)); exact Kd.R_mono HO_5.out (fun _ hk => trivial)⟩, ⟨pk BK187⟩, ⟨pbs HB⟩⟩
      ·rw [if_neg c9] at H
       have c9b0 : decide (x17_2 < a0_0) = false := decide_eq_false c9
       clear c9
       have H' := Aside0.mk H
       clear H
       go_wp2
       go_roundg k2
       case measure => have := HK1.out; have := HK2.out; omega
       case rel => exact ⟨(x5_2), (IntKind.i8.wrap (x12_1 + 1)), (by first | rfl | (simp; done) | (simp [*]; done)), H', ⟨by have := HK1.out; have := HK2.out; omega⟩, ⟨by (with_reducible repeat (first | apply Kd.R_alloc | apply Kd.R_drewN | apply Kd.R_drew)); exact HO_5.out⟩, ⟨pk BK187⟩, ⟨pbs HB⟩⟩
   ·rw [if_neg c7] at H
    have c7b0 : decide (x12_1 < a0_1) = false := decide_eq_false c7
    clear c7
    obtain rfl := Option.some.inj H
    go_wp2
    go_ret
    exact ⟨_, by first | rfl | (simp [errW_none, errW_some] <;> rfl) | (simp [*, errW_none, errW_some] <;> rfl), by (with_reducible repeat (first | apply Kd.R_alloc | apply Kd.R_drewN | apply Kd.R_drew)); exact HO_5.out, pbs HB⟩
def impl_Room_free.f (k : Nat) (a0_0 : Int) (a0_1 : Int) (a0_2 : LA 10) : Option ((List (S41))) := (impl_Room_cells__51.f k a0_0 a0_1 a0_2 a0_0 a0_1 a0_2).bind fun t197 => (some t197)
theorem impl_Room_free.mono : ∀ a0 a1 a2 k, LeO (impl_Room_free.f k a0 a1 a2) (impl_Room_free.f (k + 1) a0 a1 a2) := by
 intro a0 a1 a2 k
 unfold impl_Room_free.f
 repeat' first
   | (with_reducible exact impl_Room_cells__51.mono _ _ _ _ _ _ _)
   | (with_reducible exact LeO.refl _)
   | (with_reducible exact LeO.none _)
   | (with_reducible refine LeO.ite ?_ ?_)
   | (with_reducible refine LeO.bind ?_ (fun _ => ?_))
   | exact impl_Room_cells__51.mono _ _ _ _ _ _ _
   | exact LeO.none _
   | refine LeO.ite ?_ ?_
   | refine LeO.bind ?_ (fun _ => ?_)
set_option maxHeartbeats 8000000 in
set_option maxRecDepth 100000 in
theorem impl_Room_free.calls (k : Nat) (a0_0 : Int) (a0_1 : Int) (a0_2 : LA 10) (r : List (S41)) (w : World) (h : impl_Room_free.f k a0_0 a0_1 a0_2 = some r) :
  Calls Tryd.prog 28 #[.agg (mixA (Value.int .u16) [.int .i8 a0_0, .int .i8 a0_1] a0_2)] w fun e w' => ∃ v0_ : Value, e = .returned (v0_) ∧ Kd.R k41 41 w' w.heap.size (fun _ => True) v0_ r ∧ Below w.heap.size w w' := by
 have hu31 := Tryd.underlying31
 have HB := Aside0.mk (Below.refl w.heap.size w)
 have H : ((impl_Room_cells__51.f k a0_0 a0_1 a0_2 a0_0 a0_1 a0_2).bind fun t197 => (some t197)) = some r := h
 clear h
 replace H := Option.bind_eq_some_iff.mp H
 obtain ⟨t197, A20, H⟩ := H
 replace H : (some t197) = some r := H
 have A2 := Aside0.mk A20
 clear A20
 obtain rfl := Option.some.inj H
 go_enter Tryd.func28, Tryd.ntmps28
 go_wp2_with (first | ((with_reducible refine gate_dst (N := 1) rfl ?_); refine box_event ?hg (N := 1) ?hd (cs := (mixA (Value.int .u16) [.int .i8 a0_0, .int .i8 a0_1] a0_2)) (t := 31) ?hr ?_; (case hd => rfl); (case hg => rfl); (case hr => first | (go_simp; done) | (go_simp; rfl)); intro gb196 hg w3 hbox hb; have n0_ := bst HB hb; have n1_ := Aside0.mk (hbox); have n2_ := gwl HB hg; have n3_ := gwl HB hg; clear HB; have HB := n0_; have BK196 := n1_; have GW196 := n2_; have GE196 := n3_; clear n0_ n1_ n2_ n3_; clear hb hbox hg) | ((with_reducible refine gate_dst (N := 3) rfl ?_); refine wpList_run0 (v := .agg (mixA (Value.int .u16) [.int .i8 a0_0, .int .i8 a0_1] a0_2)) rfl (load_mix_run (P := Tryd.prog) 31 (.tmp 1) rfl gb196 rfl (show World.rangeAt _ gb196 0 ([.int .i8 a0_0, .int .i8 a0_1] ++ a0_2.l.map (Value.int .u16)) from mix_range (show (World.heap _)[gb196]? = some (.cells (mixA (Value.int .u16) [.int .i8 a0_0, .int .i8 a0_1] a0_2) 31 (0, 0)) from by (with_reducible repeat (first | refine blk_drewN ?_ _ | refine blk_drew ?_ | refine blk_alloc ?_ _)); exact BK196.out)) Tryd.underlying31 rfl (by kernel_rfl) rfl) ?_) | ((with_reducible refine gate_dst (N := 4) rfl ?_); refine wpList_run0 (v := .agg (mixA (Value.int .u16) [.int .i8 a0_0, .int .i8 a0_1] a0_2)) rfl (load_mix_run (P := Tryd.prog) 31 (.tmp 1) rfl gb196 rfl (show World.rangeAt _ gb196 0 ([.int .i8 a0_0, .int .i8 a0_1] ++ a0_2.l.map (Value.int .u16)) from mix_range (show (World.heap _)[gb196]? = some (.cells (mixA (Value.int .u16) [.int .i8 a0_0, .int .i8 a0_1] a0_2) 31 (0, 0)) from by (with_reducible repeat (first | refine blk_drewN ?_ _ | refine blk_drew ?_ | refine blk_alloc ?_ _)); exact BK196.out)) Tryd.underlying31 rfl (by kernel_rfl) rfl) ?_) | ((with_reducible refine gate_callee (f := 50) rfl ?_); refine goesL_ (some 6) rfl rfl Tryd.func50 (by kernel_rfl) rfl #[.agg (mixA (Value.int .u16) [.int .i8 a0_0, .int .i8 a0_1] a0_2), .func (.func 51) #[.agg (mixA (Value.int .u16) [.int .i8 a0_0, .int .i8 a0_1] a0_2)] #[]] rfl (by (try simp only [List.map_toArray, List.map_cons, List.map_nil]); first | done | rfl | (simp only [List.length_drop, List.length_take]; rfl)) ?_; (with_reducible refine (impl_Room_cells__51.calls k a0_0 a0_1 a0_2 a0_0 a0_1 a0_2 t197 _ A2.out).mono ?_); rintro e w6 ⟨v198, rfl, ho0, hb⟩; refine ⟨_, rfl, ?_⟩; have n0_ := Aside0.mk (Kd.R_lower ho0 (below_size (by repeat (first | (with_reducible first | exact HB.out | apply below_alloc | apply pw_below_drewN | apply below_drew1 | refine below_set ?_ GE196.out) | exact HB.out)))); have n1_ := bkb BK196 hb; have n2_ := bst HB hb; clear BK196; clear HB; have HO199 := n0_; have BK196 := n1_; have HB := n2_; clear n0_ n1_ n2_; (try clear hb); (try clear hb2); (try clear hk); (try clear hi); (try clear ho0)))
 go_ret
 exact ⟨_, by first | rfl | (simp [errW_none, errW_some] <;> rfl) | (simp [*, errW_none, errW_some] <;> rfl), by (with_reducible repeat (first | apply Kd.R_alloc | apply Kd.R_drewN | apply Kd.R_drew)); exact HO199.out, pbs HB⟩
def impl_Crowd_set.f (C : LA 40) (a1_0 a1_1 a2 : Int) : Option (LA 40) := if 0 ≤ a2 then (if a2 < 4 then (if 0 ≤ a1_1 then (if a1_1 < 10 then (if 0 ≤ a1_0 then some (LA.set C (a2 * 10 + a1_1) (Go.bits .or .u16 (rd C.l (a2 * 10 + a1_1)) (shl .u16 1 a1_0))) else none) else none) else none) else none) else none
set_option maxHeartbeats 8000000 in
set_option maxRecDepth 100000 in
theorem impl_Crowd_set.calls (g : Nat) (C : LA 40) (a1_0 a1_1 a2 : Int) (r1 : LA 40) (w0 w : World) (hI : IsS28 w0 w g C) (hB : Below w0.heap.size w0 w) (h : impl_Crowd_set.f C a1_0 a1_1 a2 = some r1) :
    Calls Tryd.prog 29 #[.pointer (some ⟨g, 0, none⟩), .agg #[.int .i8 a1_0, .int .i8 a1_1], .int .i64 a2] w fun e w' => e = .returned (.tuple #[]) ∧ IsS28 w0 w' g r1 ∧ Below w0.heap.size w0 w' ∧ KeepBut w w' g none := by
  have hu33 := Tryd.underlying41
  have hu26 := Tryd.underlying28
  have hu23 := Tryd.underlying24
  unfold impl_Crowd_set.f at h
  by_cases h0 : 0 ≤ a2
  · rw [if_pos h0] at h
    by_cases h1 : a2 < 4
    · rw [if_pos h1] at h
      by_cases h2 : 0 ≤ a1_1
      · rw [if_pos h2] at h
        by_cases h3 : a1_1 < 10
        · rw [if_pos h3] at h
          by_cases h4 : 0 ≤ a1_0
          case neg => rw [if_neg h4] at h; cases h
          rw [if_pos h4] at h
          have hx4 : (0 ≤ a1_0) = True := eq_true h4
          have hx5 : decide (0 ≤ a1_0) = true := decide_eq_true h4
          obtain rfl := Option.some.inj h
          clear h
          obtain ⟨w1, hw1⟩ : ∃ w1, w.alloc (.cells #[.int .i8 a1_0, .int .i8 a1_1] 41) = w1 := ⟨_, rfl⟩
          have G1 : Aside0 (w1.heap[g]? = some (.cells (mixA (Value.int .u16) [] C) 28 (0, 0))) := ⟨by rw [← hw1]; exact blk_alloc hI.1 _⟩
          have G2 : Aside0 (w1.heap[w.heap.size]? = some (.cells #[.int .i8 a1_0, .int .i8 a1_1] 41 (0, 0))) := ⟨by rw [← hw1]; exact blk_new w _⟩
          have G3 : Aside0 (Below w0.heap.size w0 w1) := ⟨by rw [← hw1]; exact below_alloc hB _⟩
          have G4 : Aside0 (KeepBut w w1 g none) := ⟨by rw [← hw1]; exact keep_alloc (KeepBut.refl w g none) _⟩
          have G5 := Aside0.mk hI.2
          have HW := Aside0.mk hw1
          clear hI hB hw1
          have hx0 : (0 ≤ a2) = True := eq_true h0
          have hx1 : (a2 < 4) = True := eq_true h1
          have hx1' : (a2 < ((4 : Nat) : Int)) = True := eq_true h1
          have hx2 : (0 ≤ a1_1) = True := eq_true h2
          have hx3 : (a1_1 < 10) = True := eq_true h3
          have hx3' : (a1_1 < ((10 : Nat) : Int)) = True := eq_true h3
          go_enter Tryd.func29, Tryd.ntmps29
          go_wp2_with fail
          rw [HW.out]
          have hx : w1.cell? ⟨w.heap.size, 0, none⟩ = some (.int .i8 a1_0) := blk_cell G2.out 0
          have hy : w1.cell? ⟨w.heap.size, 1, none⟩ = some (.int .i8 a1_1) := blk_cell G2.out 1
          have hc : w1.cell? ⟨g, a2.toNat * 10 + a1_1.toNat, none⟩ = some (.int .u16 (rd C.l (a2 * 10 + a1_1))) := mix_at2z 10 G1.out a2 a1_1 h0 h2 (by omega)
          have hf := blk_frozen G1.out (a2.toNat * 10 + a1_1.toNat)
          go_still_tail 15, (by kernel_rfl)
          change wpList _ _ _ _ _ w1.drew
          have hf2 : w1.drew.frozen? ⟨g, a2.toNat * 10 + a1_1.toNat, none⟩ = false := hf
          have hc2 : w1.drew.cell? ⟨g, a2.toNat * 10 + a1_1.toNat, none⟩ = _ := hc
          go_wp2
          first | go_end0 | ((try simp only [Exit.inBlock, Exit.then]); refine bodyPost_ret (results_none rfl _ _ _) rfl ?_)
          have hv : (Go.bits .or .u16 (rd C.l (a2 * 10 + a1_1)) (shl .u16 1 a1_0)) = (Go.bits .or .u16 (rd C.l (a2 * 10 + a1_1)) (IntKind.u16.wrap (2 ^ min (a1_0).toNat 16))) := by unfold shl; rw [Int.one_mul]; rfl
          rw [hv]
          refine ⟨rfl, ⟨mix_set2z (e := Value.int .u16) 10 (w := w1) G1.out a2 a1_1 _ h0 h2 (by omega), G5.out⟩, ?_, ?_⟩
          · exact below_drew1 (below_set G3.out G5.out)
          · exact keep_drew (KeepBut.set_ G4.out _ _)
        · rw [if_neg h3] at h
          cases h
      · rw [if_neg h2] at h
        cases h
    · rw [if_neg h1] at h
      cases h
  · rw [if_neg h0] at h
    cases h
def impl_Crowd_has.f (a0 : LA 40) (a1_0 : Int) (a1_1 : Int) (a2 : Int) : Option (Bool) := if 0 ≤ a2 then (if a2 < 4 then (if 0 ≤ a1_1 then (if a1_1 < 10 then (if 0 ≤ a1_0 then (some ((Go.bits .and .u16 (shr .u16 (rd a0.l (a2 * 10 + a1_1)) a1_0) 1) == 1)) else (none)) else (none)) else (none)) else (none)) else (none)
set_option maxHeartbeats 8000000 in
set_option maxRecDepth 100000 in
theorem impl_Crowd_has.calls (a0 : LA 40) (a1_0 : Int) (a1_1 : Int) (a2 : Int) (r : Bool) (w : World) (h : impl_Crowd_has.f a0 a1_0 a1_1 a2 = some r) :
  Calls Tryd.prog 57 #[.agg (mixA (Value.int .u16) [] a0), .agg #[.int .i8 a1_0, .int .i8 a1_1], .int .i64 a2] w fun e w' => e = .returned (.bool r) ∧ Below w.heap.size w w' := by
 have hu41 := Tryd.underlying41
 have HB := Aside0.mk (Below.refl w.heap.size w)
 have H : (if 0 ≤ a2 then (if a2 < 4 then (if 0 ≤ a1_1 then (if a1_1 < 10 then (if 0 ≤ a1_0 then (some ((Go.bits .and .u16 (shr .u16 (rd a0.l (a2 * 10 + a1_1)) a1_0) 1) == 1)) else (none)) else (none)) else (none)) else (none)) else (none)) = some r := h
 clear h
 by_cases c4 : 0 ≤ a2
 ·rw [if_pos c4] at H
  have c4b0 : decide (0 ≤ a2) = true := decide_eq_true c4
  clear c4
  by_cases c5 : a2 < 4
  ·rw [if_pos c5] at H
   have c5b0 : decide (a2 < 4) = true := decide_eq_true c5
   clear c5
   by_cases c6 : 0 ≤ a1_1
   ·rw [if_pos c6] at H
    have c6b0 : decide (0 ≤ a1_1) = true := decide_eq_true c6
    clear c6
    by_cases c7 : a1_1 < 10
    ·rw [if_pos c7] at H
     have c7b0 : decide (a1_1 < 10) = true := decide_eq_true c7
     clear c7
     by_cases c8 : 0 ≤ a1_0
     ·rw [if_pos c8] at H
      have c8b0 := eq_true c8
      have c8b1 : decide (0 ≤ a1_0) = true := decide_eq_true c8
      clear c8
      obtain ⟨ji9, hji9⟩ : ∃ j_ : Int, (shr .u16 (rd a0.l (a2 * 10 + a1_1)) a1_0) = j_ := ⟨_, rfl⟩
      replace H : (some ((Go.bits .and .u16 (ji9) 1) == 1)) = some r := by first | (rw [hji9] at H; exact H) | (simp only [hji9] at H ⊢; exact H)
      have hji9_ : ((rd a0.l (a2 * 10 + a1_1)) / 2 ^ min a1_0.toNat 16) = ji9 := hji9
      have hji9z : a1_0 ≤ 16 → ((rd a0.l (a2 * 10 + a1_1)) / 2 ^ a1_0.toNat) = ji9 := shr_small hji9
      obtain rfl := Option.some.inj H
      go_enter Tryd.func57, Tryd.ntmps57
      go_wp2_with (first | ((with_reducible refine gate_dst (N := 3) rfl ?_); refine box_event ?hg (N := 3) ?hd (cs := (mixA (Value.int .u16) [] a0)) (t := 28) ?hr ?_; (case hd => rfl); (case hg => rfl); (case hr => first | (go_simp; done) | (go_simp; rfl)); intro gb200 hg w10 hbox hb; have n0_ := bst HB hb; have n1_ := Aside0.mk (hbox); have n2_ := gwl HB hg; have n3_ := gwl HB hg; clear HB; have HB := n0_; have BK200 := n1_; have GW200 := n2_; have GE200 := n3_; clear n0_ n1_ n2_ n3_; clear hb hbox hg) | ((with_reducible refine gate_dst (N := 4) rfl ?_); refine box_event ?hg (N := 4) ?hd (cs := #[.int .i8 a1_0, .int .i8 a1_1]) (t := 41) ?hr ?_; (case hd => rfl); (case hg => rfl); (case hr => first | (go_simp; done) | (go_simp; rfl)); intro gb201 hg w11 hbox hb; have n0_ := bkb BK200 hb; have n1_ := bst HB hb; have n2_ := Aside0.mk (hbox); have n3_ := gwl HB hg; have n4_ := gwl HB hg; have n5_ := nbl BK200 hg; have n6_ := nbg BK200 hg; clear BK200; clear HB; have BK200 := n0_; have HB := n1_; have BK201 := n2_; have GW201 := n3_; have GE201 := n4_; have NB200_201 := n5_; have NB201_200 := n6_; clear n0_ n1_ n2_ n3_ n4_ n5_ n6_; clear hb hbox hg; have hnb12 := NB201_200.out; have hnc12 := NB200_201.out; have hcz13_0 : w11.cell? ⟨gb201, 0, none⟩ = some (.int .i8 a1_0) := (blk_cell BK201.out 0).trans rfl; have hcz13_1 : w11.cell? ⟨gb201, 1, none⟩ = some (.int .i8 a1_1) := (blk_cell BK201.out 1).trans rfl; have hfz13_0 := blk_frozen BK201.out 0; have hfz13_1 := blk_frozen BK201.out 1; have hpd15 : (0 ≤ a2) = True := eq_true (by first | omega | exact of_decide_eq_true (by first | (with_reducible assumption) | assumption)); have hqd15 : (a2 < 4) = True := eq_true (by first | omega | exact of_decide_eq_true (by first | (with_reducible assumption) | assumption)); have hrd15 : (a2 < ((4 : Nat) : Int)) = True := eq_true (by first | omega | exact of_decide_eq_true (by first | (with_reducible assumption) | assumption)); have hpbd15 : (0 ≤ a1_1) = True := eq_true (by first | omega | exact of_decide_eq_true (by first | (with_reducible assumption) | assumption)); have hqbd15 : (a1_1 < 10) = True := eq_true (by first | omega | exact of_decide_eq_true (by first | (with_reducible assumption) | assumption)); have hrbd15 : (a1_1 < ((10 : Nat) : Int)) = True := eq_true (by first | omega | exact of_decide_eq_true (by first | (with_reducible assumption) | assumption)); have hdd15 : w11.cell? ⟨gb200, a2.toNat * 10 + a1_1.toNat, none⟩ = some (.int .u16 (rd a0.l (a2 * 10 + a1_1))) := mix_at2z 10 BK200.out a2 a1_1 (of_eq_true hpd15) (of_eq_true hpbd15) (by have := of_eq_true hqd15; have := of_eq_true hqbd15; omega); have hfdd15 := blk_frozen BK200.out (a2.toNat * 10 + a1_1.toNat)))
      repeat (go_quiet (first | ((with_reducible refine gate_dst (N := 3) rfl ?_); refine box_event ?hg (N := 3) ?hd (cs := (mixA (Value.int .u16) [] a0)) (t := 28) ?hr ?_; (case hd => rfl); (case hg => rfl); (case hr => first | (go_simp; done) | (go_simp; rfl)); intro gb200 hg w10 hbox hb; have n0_ := bst HB hb; have n1_ := Aside0.mk (hbox); have n2_ := gwl HB hg; have n3_ := gwl HB hg; clear HB; have HB := n0_; have BK200 := n1_; have GW200 := n2_; have GE200 := n3_; clear n0_ n1_ n2_ n3_; clear hb hbox hg) | ((with_reducible refine gate_dst (N := 4) rfl ?_); refine box_event ?hg (N := 4) ?hd (cs := #[.int .i8 a1_0, .int .i8 a1_1]) (t := 41) ?hr ?_; (case hd => rfl); (case hg => rfl); (case hr => first | (go_simp; done) | (go_simp; rfl)); intro gb201 hg w11 hbox hb; have n0_ := bkb BK200 hb; have n1_ := bst HB hb; have n2_ := Aside0.mk (hbox); have n3_ := gwl HB hg; have n4_ := gwl HB hg; have n5_ := nbl BK200 hg; have n6_ := nbg BK200 hg; clear BK200; clear HB; have BK200 := n0_; have HB := n1_; have BK201 := n2_; have GW201 := n3_; have GE201 := n4_; have NB200_201 := n5_; have NB201_200 := n6_; clear n0_ n1_ n2_ n3_ n4_ n5_ n6_; clear hb hbox hg; have hnb12 := NB201_200.out; have hnc12 := NB200_201.out; have hcz13_0 : w11.cell? ⟨gb201, 0, none⟩ = some (.int .i8 a1_0) := (blk_cell BK201.out 0).trans rfl; have hcz13_1 : w11.cell? ⟨gb201, 1, none⟩ = some (.int .i8 a1_1) := (blk_cell BK201.out 1).trans rfl; have hfz13_0 := blk_frozen BK201.out 0; have hfz13_1 := blk_frozen BK201.out 1; have hpd15 : (0 ≤ a2) = True := eq_true (by first | omega | exact of_decide_eq_true (by first | (with_reducible assumption) | assumption)); have hqd15 : (a2 < 4) = True := eq_true (by first | omega | exact of_decide_eq_true (by first | (with_reducible assumption) | assumption)); have hrd15 : (a2 < ((4 : Nat) : Int)) = True := eq_true (by first | omega | exact of_decide_eq_true (by first | (with_reducible assumption) | assumption)); have hpbd15 : (0 ≤ a1_1) = True := eq_true (by first | omega | exact of_decide_eq_true (by first | (with_reducible assumption) | assumption)); have hqbd15 : (a1_1 < 10) = True := eq_true (by first | omega | exact of_decide_eq_true (by first | (with_reducible assumption) | assumption)); have hrbd15 : (a1_1 < ((10 : Nat) : Int)) = True := eq_true (by first | omega | exact of_decide_eq_true (by first | (with_reducible assumption) | assumption)); have hdd15 : w11.cell? ⟨gb200, a2.toNat * 10 + a1_1.toNat, none⟩ = some (.int .u16 (rd a0.l (a2 * 10 + a1_1))) := mix_at2z 10 BK200.out a2 a1_1 (of_eq_true hpd15) (of_eq_true hpbd15) (by have := of_eq_true hqd15; have := of_eq_true hqbd15; omega); have hfdd15 := blk_frozen BK200.out (a2.toNat * 10 + a1_1.toNat))); try go_wp2_with (first | ((with_reducible refine gate_dst (N := 3) rfl ?_); refine box_event ?hg (N := 3) ?hd (cs := (mixA (Value.int .u16) [] a0)) (t := 28) ?hr ?_; (case hd => rfl); (case hg => rfl); (case hr => first | (go_simp; done) | (go_simp; rfl)); intro gb200 hg w10 hbox hb; have n0_ := bst HB hb; have n1_ := Aside0.mk (hbox); have n2_ := gwl HB hg; have n3_ := gwl HB hg; clear HB; have HB := n0_; have BK200 := n1_; have GW200 := n2_; have GE200 := n3_; clear n0_ n1_ n2_ n3_; clear hb hbox hg) | ((with_reducible refine gate_dst (N := 4) rfl ?_); refine box_event ?hg (N := 4) ?hd (cs := #[.int .i8 a1_0, .int .i8 a1_1]) (t := 41) ?hr ?_; (case hd => rfl); (case hg => rfl); (case hr => first | (go_simp; done) | (go_simp; rfl)); intro gb201 hg w11 hbox hb; have n0_ := bkb BK200 hb; have n1_ := bst HB hb; have n2_ := Aside0.mk (hbox); have n3_ := gwl HB hg; have n4_ := gwl HB hg; have n5_ := nbl BK200 hg; have n6_ := nbg BK200 hg; clear BK200; clear HB; have BK200 := n0_; have HB := n1_; have BK201 := n2_; have GW201 := n3_; have GE201 := n4_; have NB200_201 := n5_; have NB201_200 := n6_; clear n0_ n1_ n2_ n3_ n4_ n5_ n6_; clear hb hbox hg; have hnb12 := NB201_200.out; have hnc12 := NB200_201.out; have hcz13_0 : w11.cell? ⟨gb201, 0, none⟩ = some (.int .i8 a1_0) := (blk_cell BK201.out 0).trans rfl; have hcz13_1 : w11.cell? ⟨gb201, 1, none⟩ = some (.int .i8 a1_1) := (blk_cell BK201.out 1).trans rfl; have hfz13_0 := blk_frozen BK201.out 0; have hfz13_1 := blk_frozen BK201.out 1; have hpd15 : (0 ≤ a2) = True := eq_true (by first | omega | exact of_decide_eq_true (by first | (with_reducible assumption) | assumption)); have hqd15 : (a2 < 4) = True := eq_true (by first | omega | exact of_decide_eq_true (by first | (with_reducible assumption) | assumption)); have hrd15 : (a2 < ((4 : Nat) : Int)) = True := eq_true (by first | omega | exact of_decide_eq_true (by first | (with_reducible assumption) | assumption)); have hpbd15 : (0 ≤ a1_1) = True := eq_true (by first | omega | exact of_decide_eq_true (by first | (with_reducible assumption) | assumption)); have hqbd15 : (a1_1 < 10) = True := eq_true (by first | omega | exact of_decide_eq_true (by first | (with_reducible assumption) | assumption)); have hrbd15 : (a1_1 < ((10 : Nat) : Int)) = True := eq_true (by first | omega | exact of_decide_eq_true (by first | (with_reducible assumption) | assumption)); have hdd15 : w11.cell? ⟨gb200, a2.toNat * 10 + a1_1.toNat, none⟩ = some (.int .u16 (rd a0.l (a2 * 10 + a1_1))) := mix_at2z 10 BK200.out a2 a1_1 (of_eq_true hpd15) (of_eq_true hpbd15) (by have := of_eq_true hqd15; have := of_eq_true hqbd15; omega); have hfdd15 := blk_frozen BK200.out (a2.toNat * 10 + a1_1.toNat))))
      go_ret
      exact ⟨by first | rfl | (simp [errW_none, errW_some] <;> rfl) | (simp only [← hji9]; first | rfl | (simp [errW_none, errW_some] <;> rfl)) | (simp [*, errW_none, errW_some] <;> rfl), pbs HB⟩
     ·rw [if_neg c8] at H
      exact absurd H (by simp)
    ·rw [if_neg c7] at H
     exact absurd H (by simp)
   ·rw [if_neg c6] at H
    exact absurd H (by simp)
  ·rw [if_neg c5] at H
   exact absurd H (by simp)
 ·rw [if_neg c4] at H
  exact absurd H (by simp)
end Go.Proofs.YtdedijjbdkoekaaDoor.PB
end
