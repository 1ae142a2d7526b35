/- The statement FnExactWhereNow of this program: what its proof uses, part 9 of 13. The call returns true for all arguments. No condition of its own. -/
import Derived.Test.YtdedijjbdkoekaaDoorZFnExactWhereNow7
section
namespace Go.Proofs.YtdedijjbdkoekaaDoor.PB
open Go.RowKit Go.Proofs.YtdedijjbdkoekaaDoorW.PrintWords Go.Proofs.YtdedijjbdkoekaaDoorW.PrintLast Go.Proofs.YtdedijjbdkoekaaDoorW.PrintMore Go.Proofs.YtdedijjbdkoekaaDoor.La
attribute [local go_sem] max2_int min2_int max_two min_two max_three min_three max_four min_four   -- for this text's walks alone
set_option linter.unusedVariables false
set_option linter.unusedSimpArgs false
mutual
def spec_l06Plain.l0 : Nat → List (S41) → Int → LA 40 → Option (LA 40)
 | 0, _, _, _ => none
 | k + 1, x4, x5, x129000 => if x5 < (x4.length : Int) then (spec_l06Plain.l1 k x4 x5 0 x129000) else (some x129000)
def spec_l06Plain.l1 : Nat → List (S41) → Int → Int → LA 40 → Option (LA 40)
 | 0, _, _, _, _ => none
 | k + 1, x4, x5, x6, x129000 => if x6 < 4 then (if 0 ≤ x5 then (if x5 < (x4.length : Int) then ((spec_l06Put.f x129000 ((rd_T41 x4 x5).f0) ((rd_T41 x4 x5).f1) x6).bind fun t133 => (spec_l06Plain.l1 k x4 x5 (wrap64 (x6 + 1)) t133)) else (none)) else (none)) else (spec_l06Plain.l0 k x4 (wrap64 (x5 + 1)) x129000)
end
def spec_l06Plain.f (k : Nat) (s0_0 : Int) (s0_1 : Int) (s0_2 : LA 10) : Option (LA 40) := (spec_l01All.f k s0_0 s0_1 s0_2).bind fun t129 => (spec_l06Plain.l0 k t129 0 (LA.zero 40))
theorem spec_l06Plain.mono_l : ∀ k, (∀ y0 y1 y2, LeO (spec_l06Plain.l0 k y0 y1 y2) (spec_l06Plain.l0 (k + 1) y0 y1 y2)) ∧ (∀ y0 y1 y2 y3, LeO (spec_l06Plain.l1 k y0 y1 y2 y3) (spec_l06Plain.l1 (k + 1) y0 y1 y2 y3))
 | 0 => ⟨fun _ _ _ r h => by simp [spec_l06Plain.l0] at h, fun _ _ _ _ r h => by simp [spec_l06Plain.l1] at h⟩
 | k + 1 => by
  obtain ⟨ih0, ih1⟩ := spec_l06Plain.mono_l k
  refine ⟨?_, ?_⟩
  ·intro y0 y1 y2
   unfold spec_l06Plain.l0
   repeat' first
   | (with_reducible exact ih0 _ _ _)
   | (with_reducible exact ih1 _ _ _ _)
   | (with_reducible exact spec_l01All.mono _ _ _ _)
   | (with_reducible exact LeO.refl _)
   | (with_reducible exact LeO.none _)
   | (with_reducible refine LeO.ite ?_ ?_)
   | (with_reducible refine LeO.bind ?_ (fun _ => ?_))
   | exact ih0 _ _ _
   | exact ih1 _ _ _ _
   | exact spec_l01All.mono _ _ _ _
   | exact LeO.none _
   | refine LeO.ite ?_ ?_
   | refine LeO.bind ?_ (fun _ => ?_)
  ·intro y0 y1 y2 y3
   unfold spec_l06Plain.l1
   repeat' first
   | (with_reducible exact ih0 _ _ _)
   | (with_reducible exact ih1 _ _ _ _)
   | (with_reducible exact spec_l01All.mono _ _ _ _)
   | (with_reducible exact LeO.refl _)
   | (with_reducible exact LeO.none _)
   | (with_reducible refine LeO.ite ?_ ?_)
   | (with_reducible refine LeO.bind ?_ (fun _ => ?_))
   | exact ih0 _ _ _
   | exact ih1 _ _ _ _
   | exact spec_l01All.mono _ _ _ _
   | exact LeO.none _
   | refine LeO.ite ?_ ?_
   | refine LeO.bind ?_ (fun _ => ?_)
theorem spec_l06Plain.mono : ∀ a0 a1 a2 k, LeO (spec_l06Plain.f k a0 a1 a2) (spec_l06Plain.f (k + 1) a0 a1 a2) := by
 intro a0 a1 a2 k
 obtain ⟨ih0, ih1⟩ := spec_l06Plain.mono_l k
 unfold spec_l06Plain.f
 repeat' first
   | (with_reducible exact ih0 _ _ _)
   | (with_reducible exact ih1 _ _ _ _)
   | (with_reducible exact spec_l01All.mono _ _ _ _)
   | (with_reducible exact LeO.refl _)
   | (with_reducible exact LeO.none _)
   | (with_reducible refine LeO.ite ?_ ?_)
   | (with_reducible refine LeO.bind ?_ (fun _ => ?_))
   | exact ih0 _ _ _
   | exact ih1 _ _ _ _
   | exact spec_l01All.mono _ _ _ _
   | exact LeO.none _
   | refine LeO.ite ?_ ?_
   | refine LeO.bind ?_ (fun _ => ?_)
set_option maxHeartbeats 8000000 in
set_option maxRecDepth 100000 in
theorem spec_l06Plain.calls (k : Nat) (g0 : Nat) (s0_0 : Int) (s0_1 : Int) (s0_2 : LA 10) (r : LA 40) (w : World) (hb0 : w.heap[g0]? = some (.cells (mixA (Value.int .u16) [.int .i8 s0_0, .int .i8 s0_1] s0_2) 31 (0, 0))) (h : spec_l06Plain.f k s0_0 s0_1 s0_2 = some r) :
  Calls Tryd.prog 37 #[.pointer (some ⟨g0, 0, none⟩)] w fun e w' => e = .returned (.agg (mixA (Value.int .u16) [] r)) ∧ Below w.heap.size w w' := by
 have hu41 := Tryd.underlying41
 have BK0 := Aside0.mk hb0
 clear hb0
 have HB := Aside0.mk (Below.refl w.heap.size w)
 have H : ((spec_l01All.f k s0_0 s0_1 s0_2).bind fun t129 => (spec_l06Plain.l0 k t129 0 (LA.zero 40))) = some r := h
 clear h
 replace H := Option.bind_eq_some_iff.mp H
 obtain ⟨t129, A20, H⟩ := H
 replace H : (spec_l06Plain.l0 k t129 0 (LA.zero 40)) = some r := H
 have A2 := Aside0.mk A20
 clear A20
 have H' := Aside0.mk H
 clear H
 go_enter Tryd.func37, Tryd.ntmps37
 go_wp2_with (first | ((with_reducible refine gate_dst (N := 2) rfl ?_); refine box_event ?hg (N := 2) ?hd (cs := (mixA (Value.int .u16) [] (LA.zero 40))) (t := 28) ?hr ?_; (case hd => rfl); (case hg => rfl); (case hr => first | (go_simp; done) | (go_simp; rfl)); intro gb127 hg w3 hbox hb; have n0_ := bkb BK0 hb; have n1_ := bst HB hb; have n2_ := Aside0.mk (hbox); have n3_ := gwl HB hg; have n4_ := gwl HB hg; have n5_ := nbl BK0 hg; have n6_ := nbg BK0 hg; clear BK0; clear HB; have BK0 := n0_; have HB := n1_; have BK127 := n2_; have GW127 := n3_; have GE127 := n4_; have NB0_127 := n5_; have NB127_0 := n6_; clear n0_ n1_ n2_ n3_ n4_ n5_ n6_; clear hb hbox hg) | ((with_reducible refine gate_dst (N := 3) rfl ?_); refine box_event ?hg (N := 3) ?hd (cs := (mixA (Value.int .u16) [] (LA.zero 40))) (t := 28) ?hr ?_; (case hd => rfl); (case hg => rfl); (case hr => first | (go_simp; done) | (go_simp; rfl)); intro gb128 hg w4 hbox hb; have n0_ := bkb BK0 hb; have n1_ := bkb BK127 hb; have n2_ := bst HB hb; have n3_ := Aside0.mk (hbox); have n4_ := gwl HB hg; have n5_ := gwl HB hg; have n6_ := nbl BK0 hg; have n7_ := nbg BK0 hg; have n8_ := nbl BK127 hg; have n9_ := nbg BK127 hg; clear BK0; clear BK127; clear HB; have BK0 := n0_; have BK127 := n1_; have HB := n2_; have BK128 := n3_; have GW128 := n4_; have GE128 := n5_; have NB0_128 := n6_; have NB128_0 := n7_; have NB127_128 := n8_; have NB128_127 := n9_; clear n0_ n1_ n2_ n3_ n4_ n5_ n6_ n7_ n8_ n9_; clear hb hbox hg) | ((with_reducible refine gate_store (p := 3) rfl ?_); refine wpList_store_lmix rfl 28 _ _ rfl gb128 (e := (Value.int .u16)) (cs' := []) (W' := (LA.zero 40)) (cs := []) (W := (LA.zero 40)) (T := 28) rfl rfl (pk BK128) rfl (by kernel_rfl) rfl (fun _ => rfl) rfl ?_; intro w5 hi hk hbl; have n0_ := Aside0.mk (KeepBut.blk hk (g' := g0) (o := .cells (mixA (Value.int .u16) [.int .i8 s0_0, .int .i8 s0_1] s0_2) 31 (0, 0)) (pk BK0) NB0_128.out (by simp)); have n1_ := Aside0.mk (KeepBut.blk hk (g' := gb127) (o := .cells (mixA (Value.int .u16) [] (LA.zero 40)) 28 (0, 0)) (pk BK127) NB127_128.out (by simp)); have n2_ := Aside0.mk (hbl _ _ (pbs HB) GE128.out); have n3_ := Aside0.mk (hi); clear BK0; clear BK127; clear HB; clear BK128; have BK0 := n0_; have BK127 := n1_; have HB := n2_; have BK128 := n3_; clear n0_ n1_ n2_ n3_; clear hi hk hbl) | ((with_reducible refine gate_callee (f := 21) rfl ?_); refine goesL_ (some 9) rfl rfl Tryd.func21 (by kernel_rfl) rfl #[.pointer (some ⟨g0, 0, none⟩)] rfl (by (try simp only [List.map_toArray, List.map_cons, List.map_nil]); first | done | rfl | (simp only [List.length_drop, List.length_take]; rfl)) ?_; (with_reducible refine (spec_l01All.calls k g0 s0_0 s0_1 s0_2 t129 _ ?side1 A2.out).mono ?_); (case side1 => exact (pk BK0)); rintro e w6 ⟨v130, rfl, ho0, hb⟩; refine ⟨_, rfl, ?_⟩; have n0_ := Aside0.mk (Kd.R_lower ho0 (below_size (by repeat (first | (with_reducible first | exact HB.out | apply below_alloc | apply pw_below_drewN | apply below_drew1 | refine below_set ?_ GE0.out | refine below_set ?_ GE127.out | refine below_set ?_ GE128.out) | exact HB.out)))); have n1_ := bkb BK0 hb; have n2_ := bkb BK127 hb; have n3_ := bkb BK128 hb; have n4_ := bst HB hb; clear BK0; clear BK127; clear BK128; clear HB; have HO131 := n0_; have BK0 := n1_; have BK127 := n2_; have BK128 := n3_; have HB := n4_; clear n0_ n1_ n2_ n3_ n4_; (try clear hb); (try clear hb2); (try clear hk); (try clear hi); (try clear ho0)))
 go_loopg [5] k (fun kq v5 w' => ∃ (x5_1 : Int) (x129000_1 : LA 40), v5 = .int .i64 x5_1 ∧ Aside0 (spec_l06Plain.l0 kq t129 x5_1 x129000_1 = some r) ∧ Aside0 (kq ≤ k) ∧ Aside0 (Kd.R k41 41 w' w.heap.size (fun _ => True) v130 t129) ∧ Aside0 (w'.heap[g0]? = some (.cells (mixA (Value.int .u16) [.int .i8 s0_0, .int .i8 s0_1] s0_2) 31 (0, 0))) ∧ Aside0 (w'.heap[gb127]? = some (.cells (mixA (Value.int .u16) [] (LA.zero 40)) 28 (0, 0))) ∧ Aside0 (w'.heap[gb128]? = some (.cells (mixA (Value.int .u16) [] x129000_1) 28 (0, 0))) ∧ Aside0 (Below w.heap.size w w'))
 case atStart => exact ⟨(0), ((LA.zero 40)), (by first | rfl | (simp; done) | (simp [*]; done)), H', ⟨Nat.le_refl _⟩, ⟨by (with_reducible repeat (first | apply Kd.R_alloc | apply Kd.R_drewN | apply Kd.R_drew)); exact HO131.out⟩, ⟨pk BK0⟩, ⟨pk BK127⟩, ⟨pk BK128⟩, ⟨pbs HB⟩⟩
 case round =>
  clear H'
  try clear c2
  try clear p2
  try clear c3
  obtain ⟨x5_1, x129000_1, rfl, HA, HK1, HO_4, BK0, BK127, BK128, HB⟩ := hrel
  cases gk with
  | zero => exact absurd HA.out (by simp [spec_l06Plain.l0])
  | succ k1 =>
   have H := HA.out
   clear HA
   simp only [spec_l06Plain.l0] at H
   by_cases c7 : x5_1 < (t129.length : Int)
   ·rw [if_pos c7] at H
    have c7b0 : decide (x5_1 < (t129.length : Int)) = true := decide_eq_true c7
    clear c7
    have H' := Aside0.mk H
    clear H
    obtain ⟨Ao8, co8, eo8⟩ := Kd.R_slice HO_4.out
    subst eo8
    go_wp2
    go_loopg [6] k1 (fun kq v6 w' => ∃ (x6_2 : Int) (x129000_2 : LA 40), v6 = .int .i64 x6_2 ∧ Aside0 (spec_l06Plain.l1 kq t129 x5_1 x6_2 x129000_2 = some r) ∧ Aside0 (kq ≤ k1) ∧ Aside0 (Kd.R k41 41 w' w.heap.size (fun _ => True) (.slice Ao8 t129.length co8) t129) ∧ Aside0 (w'.heap[g0]? = some (.cells (mixA (Value.int .u16) [.int .i8 s0_0, .int .i8 s0_1] s0_2) 31 (0, 0))) ∧ Aside0 (w'.heap[gb127]? = some (.cells (mixA (Value.int .u16) [] (LA.zero 40)) 28 (0, 0))) ∧ Aside0 (w'.heap[gb128]? = some (.cells (mixA (Value.int .u16) [] x129000_2) 28 (0, 0))) ∧ Aside0 (Below w.heap.size w w'))
    case atStart => exact ⟨(0), (x129000_1), (by first | rfl | (simp; done) | (simp [*]; done)), H', ⟨Nat.le_refl _⟩, ⟨by (with_reducible repeat (first | apply Kd.R_alloc | apply Kd.R_drewN | apply Kd.R_drew)); exact HO_4.out⟩, ⟨pk BK0⟩, ⟨pk BK127⟩, ⟨pk BK128⟩, ⟨pbs HB⟩⟩
    case round =>
     clear H'
     try clear c2
     try clear p2
     try clear c3
     try clear c7
     try clear c7b0
     try clear p2
     obtain ⟨x6_2, x129000_2, rfl, HA, HK2, HO_4, BK0, BK127, BK128, HB⟩ := hrel
     cases gk with
     | zero => exact absurd HA.out (by simp [spec_l06Plain.l1])
     | succ k2 =>
      have H := HA.out
      clear HA
      simp only [spec_l06Plain.l1] at H
      by_cases c9 : x6_2 < 4
      ·rw [if_pos c9] at H
       have c9b0 : decide (x6_2 < 4) = true := decide_eq_true c9
       clear c9
       by_cases c10 : 0 ≤ x5_1
       ·rw [if_pos c10] at H
        have c10b0 : decide (0 ≤ x5_1) = true := decide_eq_true c10
        clear c10
        by_cases c11 : x5_1 < (t129.length : Int)
        ·rw [if_pos c11] at H
         have c11b0 : decide (x5_1 < (t129.length : Int)) = true := decide_eq_true c11
         clear c11
         replace H := Option.bind_eq_some_iff.mp H
         obtain ⟨t133, A120, H⟩ := H
         replace H : (spec_l06Plain.l1 k2 t129 x5_1 (wrap64 (x6_2 + 1)) t133) = some r := H
         have A12 := Aside0.mk A120
         clear A120
         have H' := Aside0.mk H
         clear H
         have p132 : 0 ≤ (x5_1 : Int) := of_decide_eq_true (by first | (with_reducible assumption) | assumption)
         have q132 : x5_1 < (t129.length : Int) := of_decide_eq_true (by first | (with_reducible assumption) | assumption)
         obtain ⟨ad132, e132, hx132_0, hx132_1⟩ := at_T41 (Kd.R_reads' HO_4.out).2.2 x5_1 p132 q132
         cases e132
         replace p132 := eq_true p132
         replace q132 := eq_true q132
         go_wp2_with (first | ((with_reducible refine gate_callee (f := 24) rfl ?_); refine goesL_ (some 25) rfl rfl Tryd.func24 (by kernel_rfl) rfl #[.pointer (some ⟨gb128, 0, none⟩), .agg #[.int .i8 ((rd_T41 t129 x5_1).f0), .int .i8 ((rd_T41 t129 x5_1).f1)], .int .i64 x6_2] rfl (by (try simp only [List.map_toArray, List.map_cons, List.map_nil]); first | done | rfl | (simp only [List.length_drop, List.length_take]; rfl)) ?_; (with_reducible refine (spec_l06Put.calls gb128 x129000_2 ((rd_T41 t129 x5_1).f0) ((rd_T41 t129 x5_1).f1) x6_2 t133 w _ ?side1 ?side2 A12.out).mono ?_); (case side1 => exact ⟨(pk BK128), GE128.out⟩); (case side2 => repeat (first | (with_reducible first | exact HB.out | apply below_alloc | apply pw_below_drewN | apply below_drew1 | refine below_set ?_ GE0.out | refine below_set ?_ GE127.out | refine below_set ?_ GE128.out) | exact HB.out)); rintro e w13 ⟨rfl, hi, hb, hk⟩; refine ⟨_, rfl, ?_⟩; have n0_ := Aside0.mk (Kd.R_mono (Kd.R_keep (Kd.R_types (by (with_reducible repeat (first | apply Kd.R_alloc | apply Kd.R_drewN | apply Kd.R_drew)); exact HO_4.out) (pk BK128) (by decide)) hk (fun _ h => h.2)) (fun _ h => h.1)); have n1_ := Aside0.mk (KeepBut.blk hk (g' := g0) (o := .cells (mixA (Value.int .u16) [.int .i8 s0_0, .int .i8 s0_1] s0_2) 31 (0, 0)) (pk BK0) NB0_128.out (by simp)); have n2_ := Aside0.mk (KeepBut.blk hk (g' := gb127) (o := .cells (mixA (Value.int .u16) [] (LA.zero 40)) 28 (0, 0)) (pk BK127) NB127_128.out (by simp)); have n3_ := Aside0.mk (hb); have n4_ := Aside0.mk (hi.1); clear HO_4; clear BK0; clear BK127; clear HB; clear BK128; have HO_4 := n0_; have BK0 := n1_; have BK127 := n2_; have HB := n3_; have BK128 := n4_; clear n0_ n1_ n2_ n3_ n4_; (try clear hb); (try clear hb2); (try clear hk); (try clear hi)))
         go_roundg k2
         case measure => have := HK1.out; have := HK2.out; omega
         case rel => exact ⟨(wrap64 (x6_2 + 1)), (t133), (by first | rfl | (simp; done) | (simp [*]; done)), H', ⟨by have := HK1.out; have := HK2.out; omega⟩, ⟨by (with_reducible repeat (first | apply Kd.R_alloc | apply Kd.R_drewN | apply Kd.R_drew)); exact HO_4.out⟩, ⟨pk BK0⟩, ⟨pk BK127⟩, ⟨pk BK128⟩, ⟨pbs HB⟩⟩
        ·rw [if_neg c11] at H
         exact absurd H (by simp)
       ·rw [if_neg c10] at H
        exact absurd H (by simp)
      ·rw [if_neg c9] at H
       have c9b0 : decide (x6_2 < 4) = false := decide_eq_false c9
       clear c9
       have H' := Aside0.mk H
       clear H
       go_wp2
       go_roundg k2
       case measure => have := HK1.out; have := HK2.out; omega
       case rel => exact ⟨(wrap64 (x5_1 + 1)), (x129000_2), (by first | rfl | (simp; done) | (simp [*]; done)), H', ⟨by have := HK1.out; have := HK2.out; omega⟩, ⟨by (with_reducible repeat (first | apply Kd.R_alloc | apply Kd.R_drewN | apply Kd.R_drew)); exact HO_4.out⟩, ⟨pk BK0⟩, ⟨pk BK127⟩, ⟨pk BK128⟩, ⟨pbs HB⟩⟩
   ·rw [if_neg c7] at H
    have c7b0 : decide (x5_1 < (t129.length : Int)) = false := decide_eq_false c7
    clear c7
    obtain rfl := Option.some.inj H
    obtain ⟨Ao14, co14, eo14⟩ := Kd.R_slice HO_4.out
    subst eo14
    go_wp2_with (first | ((with_reducible refine gate_dst (N := 26) rfl ?_); refine wpList_run0 (v := .agg (mixA (Value.int .u16) [] x129000_1)) rfl (load_mix_run (P := Tryd.prog) 28 (.tmp 3) rfl gb128 rfl (show World.rangeAt _ gb128 0 ([] ++ x129000_1.l.map (Value.int .u16)) from mix_range (show (World.heap _)[gb128]? = some (.cells (mixA (Value.int .u16) [] x129000_1) 28 (0, 0)) from by (with_reducible repeat (first | refine blk_drewN ?_ _ | refine blk_drew ?_ | refine blk_alloc ?_ _)); exact BK128.out)) Tryd.underlying28 rfl (by kernel_rfl) rfl) ?_) | ((with_reducible refine gate_store (p := 2) rfl ?_); refine wpList_store_lmix rfl 28 _ _ rfl gb127 (e := (Value.int .u16)) (cs' := []) (W' := x129000_1) (cs := []) (W := (LA.zero 40)) (T := 28) rfl rfl (pk BK127) rfl (by kernel_rfl) rfl (fun _ => rfl) rfl ?_; intro w16 hi hk hbl; have n0_ := Aside0.mk (Kd.R_mono (Kd.R_keep (Kd.R_types (by (with_reducible repeat (first | apply Kd.R_alloc | apply Kd.R_drewN | apply Kd.R_drew)); exact HO_4.out) (pk BK127) (by decide)) hk (fun _ h => h.2)) (fun _ h => h.1)); have n1_ := Aside0.mk (KeepBut.blk hk (g' := g0) (o := .cells (mixA (Value.int .u16) [.int .i8 s0_0, .int .i8 s0_1] s0_2) 31 (0, 0)) (pk BK0) NB0_127.out (by simp)); have n2_ := Aside0.mk (KeepBut.blk hk (g' := gb128) (o := .cells (mixA (Value.int .u16) [] x129000_1) 28 (0, 0)) (pk BK128) NB128_127.out (by simp)); have n3_ := Aside0.mk (hbl _ _ (pbs HB) GE127.out); have n4_ := Aside0.mk (hi); clear HO_4; clear BK0; clear BK128; clear HB; clear BK127; have HO_4 := n0_; have BK0 := n1_; have BK128 := n2_; have HB := n3_; have BK127 := n4_; clear n0_ n1_ n2_ n3_ n4_; clear hi hk hbl))
    refine bodyPost_ret (results_cell_row rfl _ _ gb127 28 (mixA (Value.int .u16) [] x129000_1) (0, 0) _ rfl (pk BK127) Tryd.underlying28 rfl (by rw [mix_size]; kernel_rfl)) rfl ?_
    exact ⟨by first | rfl | (simp [errW_none, errW_some] <;> rfl) | (simp [*, errW_none, errW_some] <;> rfl), pbs HB⟩
mutual
def spec_l06Ok.l0 : Nat → Int → LA 40 → LA 40 → Option (Bool)
 | 0, _, _, _ => none
 | k + 1, x6, x2000, x137000 => if x6 < 4 then (spec_l06Ok.l1 k x6 0 x2000 x137000) else (some true)
def spec_l06Ok.l1 : Nat → Int → Int → LA 40 → LA 40 → Option (Bool)
 | 0, _, _, _, _ => none
 | k + 1, x6, x7, x2000, x137000 => if x7 < 10 then (if 0 ≤ x6 then (if x6 < 4 then (if 0 ≤ x7 then (if (Go.bits .andNot .u16 (rd x2000.l (x6 * 10 + x7)) (rd x137000.l (x6 * 10 + x7))) = 0 then (spec_l06Ok.l1 k x6 (wrap64 (x7 + 1)) x2000 x137000) else (some false)) else (none)) else (none)) else (none)) else (spec_l06Ok.l0 k (wrap64 (x6 + 1)) x2000 x137000)
end
def spec_l06Ok.f (k : Nat) (s0_0 : Int) (s0_1 : Int) (s0_2 : LA 10) (s1_0 : LA 40) : Option (Bool) := (spec_l01Ok.f k s0_0 s0_1 s0_2).bind fun t134 => (if t134 = true then ((spec_l06Plain.f k s0_0 s0_1 s0_2).bind fun t135 => (spec_l06Ok.l0 k 0 s1_0 t135)) else (some false))
theorem spec_l06Ok.mono_l : ∀ k, (∀ y0 y1 y2, LeO (spec_l06Ok.l0 k y0 y1 y2) (spec_l06Ok.l0 (k + 1) y0 y1 y2)) ∧ (∀ y0 y1 y2 y3, LeO (spec_l06Ok.l1 k y0 y1 y2 y3) (spec_l06Ok.l1 (k + 1) y0 y1 y2 y3))
 | 0 => ⟨fun _ _ _ r h => by simp [spec_l06Ok.l0] at h, fun _ _ _ _ r h => by simp [spec_l06Ok.l1] at h⟩
 | k + 1 => by
  obtain ⟨ih0, ih1⟩ := spec_l06Ok.mono_l k
  refine ⟨?_, ?_⟩
  ·intro y0 y1 y2
   unfold spec_l06Ok.l0
   repeat' first
   | (with_reducible exact ih0 _ _ _)
   | (with_reducible exact ih1 _ _ _ _)
   | (with_reducible exact spec_l01Ok.mono _ _ _ _)
   | (with_reducible exact spec_l06Plain.mono _ _ _ _)
   | (with_reducible exact LeO.refl _)
   | (with_reducible exact LeO.none _)
   | (with_reducible refine LeO.ite ?_ ?_)
   | (with_reducible refine LeO.bind ?_ (fun _ => ?_))
   | exact ih0 _ _ _
   | exact ih1 _ _ _ _
   | exact spec_l01Ok.mono _ _ _ _
   | exact spec_l06Plain.mono _ _ _ _
   | exact LeO.none _
   | refine LeO.ite ?_ ?_
   | refine LeO.bind ?_ (fun _ => ?_)
  ·intro y0 y1 y2 y3
   unfold spec_l06Ok.l1
   repeat' first
   | (with_reducible exact ih0 _ _ _)
   | (with_reducible exact ih1 _ _ _ _)
   | (with_reducible exact spec_l01Ok.mono _ _ _ _)
   | (with_reducible exact spec_l06Plain.mono _ _ _ _)
   | (with_reducible exact LeO.refl _)
   | (with_reducible exact LeO.none _)
   | (with_reducible refine LeO.ite ?_ ?_)
   | (with_reducible refine LeO.bind ?_ (fun _ => ?_))
   | exact ih0 _ _ _
   | exact ih1 _ _ _ _
   | exact spec_l01Ok.mono _ _ _ _
   | exact spec_l06Plain.mono _ _ _ _
   | exact LeO.none _
   | refine LeO.ite ?_ ?_
   | refine LeO.bind ?_ (fun _ => ?_)
theorem spec_l06Ok.mono : ∀ a0 a1 a2 a3 k, LeO (spec_l06Ok.f k a0 a1 a2 a3) (spec_l06Ok.f (k + 1) a0 a1 a2 a3) := by
 intro a0 a1 a2 a3 k
 obtain ⟨ih0, ih1⟩ := spec_l06Ok.mono_l k
 unfold spec_l06Ok.f
 repeat' first
   | (with_reducible exact ih0 _ _ _)
   | (with_reducible exact ih1 _ _ _ _)
   | (with_reducible exact spec_l01Ok.mono _ _ _ _)
   | (with_reducible exact spec_l06Plain.mono _ _ _ _)
   | (with_reducible exact LeO.refl _)
   | (with_reducible exact LeO.none _)
   | (with_reducible refine LeO.ite ?_ ?_)
   | (with_reducible refine LeO.bind ?_ (fun _ => ?_))
   | exact ih0 _ _ _
   | exact ih1 _ _ _ _
   | exact spec_l01Ok.mono _ _ _ _
   | exact spec_l06Plain.mono _ _ _ _
   | exact LeO.none _
   | refine LeO.ite ?_ ?_
   | refine LeO.bind ?_ (fun _ => ?_)
set_option maxHeartbeats 8000000 in
set_option maxRecDepth 100000 in
theorem spec_l06Ok.calls (k : Nat) (g0 : Nat) (s0_0 : Int) (s0_1 : Int) (s0_2 : LA 10) (g1 : Nat) (s1_0 : LA 40) (r : Bool) (w : World) (hb0 : w.heap[g0]? = some (.cells (mixA (Value.int .u16) [.int .i8 s0_0, .int .i8 s0_1] s0_2) 31 (0, 0))) (hb1 : w.heap[g1]? = some (.cells (mixA (Value.int .u16) [] s1_0) 28 (0, 0))) (h : spec_l06Ok.f k s0_0 s0_1 s0_2 s1_0 = some r) :
  Calls Tryd.prog 33 #[.pointer (some ⟨g0, 0, none⟩), .pointer (some ⟨g1, 0, none⟩)] w fun e w' => e = .returned (.bool r) ∧ Below w.heap.size w w' := by
 have NB0_1 := Aside0.mk (show g0 ≠ g1 from fun e_ => by rw [e_, hb1] at hb0; injection hb0 with h_; injection h_ with _ ht_; exact absurd ht_ (by decide))
 have NB1_0 := Aside0.mk (show g1 ≠ g0 from fun e_ => by rw [e_, hb0] at hb1; injection hb1 with h_; injection h_ with _ ht_; exact absurd ht_ (by decide))
 have BK0 := Aside0.mk hb0
 clear hb0
 have BK1 := Aside0.mk hb1
 clear hb1
 have HB := Aside0.mk (Below.refl w.heap.size w)
 have H : ((spec_l01Ok.f k s0_0 s0_1 s0_2).bind fun t134 => (if t134 = true then ((spec_l06Plain.f k s0_0 s0_1 s0_2).bind fun t135 => (spec_l06Ok.l0 k 0 s1_0 t135)) else (some false))) = some r := h
 clear h
 replace H := Option.bind_eq_some_iff.mp H
 obtain ⟨t134, A30, H⟩ := H
 replace H : (if t134 = true then ((spec_l06Plain.f k s0_0 s0_1 s0_2).bind fun t135 => (spec_l06Ok.l0 k 0 s1_0 t135)) else (some false)) = some r := H
 have A3 := Aside0.mk A30
 clear A30
 by_cases c4 : t134 = true
 ·subst c4
  have H1 : ((spec_l06Plain.f k s0_0 s0_1 s0_2).bind fun t135 => (spec_l06Ok.l0 k 0 s1_0 t135)) = some r := by rw [if_pos rfl] at H; exact H
  clear H
  have H := H1
  clear H1
  replace H := Option.bind_eq_some_iff.mp H
  obtain ⟨t135, A50, H⟩ := H
  replace H : (spec_l06Ok.l0 k 0 s1_0 t135) = some r := H
  have A5 := Aside0.mk A50
  clear A50
  have H' := Aside0.mk H
  clear H
  go_enter Tryd.func33, Tryd.ntmps33
  go_wp2_with (first | (go_at_call 19; (with_reducible refine (spec_l01Ok.calls k g0 s0_0 s0_1 s0_2 true _ ?side1 A3.out).mono ?_); (case side1 => exact (pk BK0)); rintro e w6 ⟨rfl, hb⟩; have n0_ := bkb BK0 hb; have n1_ := bkb BK1 hb; have n2_ := bst HB hb; clear BK0; clear BK1; clear HB; have BK0 := n0_; have BK1 := n1_; have HB := n2_; clear n0_ n1_ n2_; (try clear hb); (try clear hb2); (try clear hk); (try clear hi)) | (go_at_call 37; (with_reducible refine (spec_l06Plain.calls k g0 s0_0 s0_1 s0_2 t135 _ ?side1 A5.out).mono ?_); (case side1 => exact (pk BK0)); rintro e w7 ⟨rfl, hb⟩; have n0_ := bkb BK0 hb; have n1_ := bkb BK1 hb; have n2_ := bst HB hb; clear BK0; clear BK1; clear HB; have BK0 := n0_; have BK1 := n1_; have HB := n2_; clear n0_ n1_ n2_; (try clear hb); (try clear hb2); (try clear hk); (try clear hi)) | ((with_reducible refine gate_dst (N := 5) rfl ?_); refine box_event ?hg (N := 5) ?hd (cs := (mixA (Value.int .u16) [] (LA.zero 40))) (t := 28) ?hr ?_; (case hd => rfl); (case hg => rfl); (case hr => first | (go_simp; done) | (go_simp; rfl)); intro gb136 hg w8 hbox hb; have n0_ := bkb BK0 hb; have n1_ := bkb BK1 hb; have n2_ := bst HB hb; have n3_ := Aside0.mk (hbox); have n4_ := gwl HB hg; have n5_ := gwl HB hg; have n6_ := nbl BK0 hg; have n7_ := nbg BK0 hg; have n8_ := nbl BK1 hg; have n9_ := nbg BK1 hg; clear BK0; clear BK1; clear HB; have BK0 := n0_; have BK1 := n1_; have HB := n2_; have BK136 := n3_; have GW136 := n4_; have GE136 := n5_; have NB0_136 := n6_; have NB136_0 := n7_; have NB1_136 := n8_; have NB136_1 := n9_; clear n0_ n1_ n2_ n3_ n4_ n5_ n6_ n7_ n8_ n9_; clear hb hbox hg) | ((with_reducible refine gate_store (p := 5) rfl ?_); (try (rw [drewN_self w8]; generalize hq_ : World.drewN w8 _ = w8; have n0_ := Aside0.mk (blk_at hq_ BK0.out); have n1_ := Aside0.mk (blk_at hq_ BK1.out); have n2_ := Aside0.mk (blk_at hq_ BK136.out); have n3_ := Aside0.mk (below_at hq_ HB.out); clear hq_ BK0 BK1 BK136 HB; have BK0 := n0_; have BK1 := n1_; have BK136 := n2_; have HB := n3_; clear n0_ n1_ n2_ n3_)); refine wpList_store_lmix rfl 28 _ _ rfl gb136 (e := (Value.int .u16)) (cs' := []) (W' := t135) (cs := []) (W := (LA.zero 40)) (T := 28) rfl rfl (pk BK136) rfl (by kernel_rfl) rfl (fun _ => rfl) rfl ?_; intro w9 hi hk hbl; have n0_ := Aside0.mk (KeepBut.blk hk (g' := g0) (o := .cells (mixA (Value.int .u16) [.int .i8 s0_0, .int .i8 s0_1] s0_2) 31 (0, 0)) (pk BK0) NB0_136.out (by simp)); have n1_ := Aside0.mk (KeepBut.blk hk (g' := g1) (o := .cells (mixA (Value.int .u16) [] s1_0) 28 (0, 0)) (pk BK1) NB1_136.out (by simp)); have n2_ := Aside0.mk (hbl _ _ (pbs HB) GE136.out); have n3_ := Aside0.mk (hi); clear BK0; clear BK1; clear HB; clear BK136; have BK0 := n0_; have BK1 := n1_; have HB := n2_; have BK136 := n3_; clear n0_ n1_ n2_ n3_; clear hi hk hbl))
  repeat (go_quiet (first | (go_at_call 19; (with_reducible refine (spec_l01Ok.calls k g0 s0_0 s0_1 s0_2 true _ ?side1 A3.out).mono ?_); (case side1 => exact (pk BK0)); rintro e w6 ⟨rfl, hb⟩; have n0_ := bkb BK0 hb; have n1_ := bkb BK1 hb; have n2_ := bst HB hb; clear BK0; clear BK1; clear HB; have BK0 := n0_; have BK1 := n1_; have HB := n2_; clear n0_ n1_ n2_; (try clear hb); (try clear hb2); (try clear hk); (try clear hi)) | (go_at_call 37; (with_reducible refine (spec_l06Plain.calls k g0 s0_0 s0_1 s0_2 t135 _ ?side1 A5.out).mono ?_); (case side1 => exact (pk BK0)); rintro e w7 ⟨rfl, hb⟩; have n0_ := bkb BK0 hb; have n1_ := bkb BK1 hb; have n2_ := bst HB hb; clear BK0; clear BK1; clear HB; have BK0 := n0_; have BK1 := n1_; have HB := n2_; clear n0_ n1_ n2_; (try clear hb); (try clear hb2); (try clear hk); (try clear hi)) | ((with_reducible refine gate_dst (N := 5) rfl ?_); refine box_event ?hg (N := 5) ?hd (cs := (mixA (Value.int .u16) [] (LA.zero 40))) (t := 28) ?hr ?_; (case hd => rfl); (case hg => rfl); (case hr => first | (go_simp; done) | (go_simp; rfl)); intro gb136 hg w8 hbox hb; have n0_ := bkb BK0 hb; have n1_ := bkb BK1 hb; have n2_ := bst HB hb; have n3_ := Aside0.mk (hbox); have n4_ := gwl HB hg; have n5_ := gwl HB hg; have n6_ := nbl BK0 hg; have n7_ := nbg BK0 hg; have n8_ := nbl BK1 hg; have n9_ := nbg BK1 hg; clear BK0; clear BK1; clear HB; have BK0 := n0_; have BK1 := n1_; have HB := n2_; have BK136 := n3_; have GW136 := n4_; have GE136 := n5_; have NB0_136 := n6_; have NB136_0 := n7_; have NB1_136 := n8_; have NB136_1 := n9_; clear n0_ n1_ n2_ n3_ n4_ n5_ n6_ n7_ n8_ n9_; clear hb hbox hg) | ((with_reducible refine gate_store (p := 5) rfl ?_); (try (rw [drewN_self w8]; generalize hq_ : World.drewN w8 _ = w8; have n0_ := Aside0.mk (blk_at hq_ BK0.out); have n1_ := Aside0.mk (blk_at hq_ BK1.out); have n2_ := Aside0.mk (blk_at hq_ BK136.out); have n3_ := Aside0.mk (below_at hq_ HB.out); clear hq_ BK0 BK1 BK136 HB; have BK0 := n0_; have BK1 := n1_; have BK136 := n2_; have HB := n3_; clear n0_ n1_ n2_ n3_)); refine wpList_store_lmix rfl 28 _ _ rfl gb136 (e := (Value.int .u16)) (cs' := []) (W' := t135) (cs := []) (W := (LA.zero 40)) (T := 28) rfl rfl (pk BK136) rfl (by kernel_rfl) rfl (fun _ => rfl) rfl ?_; intro w9 hi hk hbl; have n0_ := Aside0.mk (KeepBut.blk hk (g' := g0) (o := .cells (mixA (Value.int .u16) [.int .i8 s0_0, .int .i8 s0_1] s0_2) 31 (0, 0)) (pk BK0) NB0_136.out (by simp)); have n1_ := Aside0.mk (KeepBut.blk hk (g' := g1) (o := .cells (mixA (Value.int .u16) [] s1_0) 28 (0, 0)) (pk BK1) NB1_136.out (by simp)); have n2_ := Aside0.mk (hbl _ _ (pbs HB) GE136.out); have n3_ := Aside0.mk (hi); clear BK0; clear BK1; clear HB; clear BK136; have BK0 := n0_; have BK1 := n1_; have HB := n2_; have BK136 := n3_; clear n0_ n1_ n2_ n3_; clear hi hk hbl)); try go_wp2_with (first | (go_at_call 19; (with_reducible refine (spec_l01Ok.calls k g0 s0_0 s0_1 s0_2 true _ ?side1 A3.out).mono ?_); (case side1 => exact (pk BK0)); rintro e w6 ⟨rfl, hb⟩; have n0_ := bkb BK0 hb; have n1_ := bkb BK1 hb; have n2_ := bst HB hb; clear BK0; clear BK1; clear HB; have BK0 := n0_; have BK1 := n1_; have HB := n2_; clear n0_ n1_ n2_; (try clear hb); (try clear hb2); (try clear hk); (try clear hi)) | (go_at_call 37; (with_reducible refine (spec_l06Plain.calls k g0 s0_0 s0_1 s0_2 t135 _ ?side1 A5.out).mono ?_); (case side1 => exact (pk BK0)); rintro e w7 ⟨rfl, hb⟩; have n0_ := bkb BK0 hb; have n1_ := bkb BK1 hb; have n2_ := bst HB hb; clear BK0; clear BK1; clear HB; have BK0 := n0_; have BK1 := n1_; have HB := n2_; clear n0_ n1_ n2_; (try clear hb); (try clear hb2); (try clear hk); (try clear hi)) | ((with_reducible refine gate_dst (N := 5) rfl ?_); refine box_event ?hg (N := 5) ?hd (cs := (mixA (Value.int .u16) [] (LA.zero 40))) (t := 28) ?hr ?_; (case hd => rfl); (case hg => rfl); (case hr => first | (go_simp; done) | (go_simp; rfl)); intro gb136 hg w8 hbox hb; have n0_ := bkb BK0 hb; have n1_ := bkb BK1 hb; have n2_ := bst HB hb; have n3_ := Aside0.mk (hbox); have n4_ := gwl HB hg; have n5_ := gwl HB hg; have n6_ := nbl BK0 hg; have n7_ := nbg BK0 hg; have n8_ := nbl BK1 hg; have n9_ := nbg BK1 hg; clear BK0; clear BK1; clear HB; have BK0 := n0_; have BK1 := n1_; have HB := n2_; have BK136 := n3_; have GW136 := n4_; have GE136 := n5_; have NB0_136 := n6_; have NB136_0 := n7_; have NB1_136 := n8_; have NB136_1 := n9_; clear n0_ n1_ n2_ n3_ n4_ n5_ n6_ n7_ n8_ n9_; clear hb hbox hg) | ((with_reducible refine gate_store (p := 5) rfl ?_); (try (rw [drewN_self w8]; generalize hq_ : World.drewN w8 _ = w8; have n0_ := Aside0.mk (blk_at hq_ BK0.out); have n1_ := Aside0.mk (blk_at hq_ BK1.out); have n2_ := Aside0.mk (blk_at hq_ BK136.out); have n3_ := Aside0.mk (below_at hq_ HB.out); clear hq_ BK0 BK1 BK136 HB; have BK0 := n0_; have BK1 := n1_; have BK136 := n2_; have HB := n3_; clear n0_ n1_ n2_ n3_)); refine wpList_store_lmix rfl 28 _ _ rfl gb136 (e := (Value.int .u16)) (cs' := []) (W' := t135) (cs := []) (W := (LA.zero 40)) (T := 28) rfl rfl (pk BK136) rfl (by kernel_rfl) rfl (fun _ => rfl) rfl ?_; intro w9 hi hk hbl; have n0_ := Aside0.mk (KeepBut.blk hk (g' := g0) (o := .cells (mixA (Value.int .u16) [.int .i8 s0_0, .int .i8 s0_1] s0_2) 31 (0, 0)) (pk BK0) NB0_136.out (by simp)); have n1_ := Aside0.mk (KeepBut.blk hk (g' := g1) (o := .cells (mixA (Value.int .u16) [] s1_0) 28 (0, 0)) (pk BK1) NB1_136.out (by simp)); have n2_ := Aside0.mk (hbl _ _ (pbs HB) GE136.out); have n3_ := Aside0.mk (hi); clear BK0; clear BK1; clear HB; clear BK136; have BK0 := n0_; have BK1 := n1_; have HB := n2_; have BK136 := n3_; clear n0_ n1_ n2_ n3_; clear hi hk hbl)))
  go_loopg [6] k (fun kq v6 w' => ∃ (x6_1 : Int), v6 = .int .i64 x6_1 ∧ Aside0 (spec_l06Ok.l0 kq x6_1 s1_0 t135 = some r) ∧ Aside0 (kq ≤ k) ∧ Aside0 (w'.heap[g0]? = some (.cells (mixA (Value.int .u16) [.int .i8 s0_0, .int .i8 s0_1] s0_2) 31 (0, 0))) ∧ Aside0 (w'.heap[g1]? = some (.cells (mixA (Value.int .u16) [] s1_0) 28 (0, 0))) ∧ Aside0 (w'.heap[gb136]? = some (.cells (mixA (Value.int .u16) [] t135) 28 (0, 0))) ∧ Aside0 (Below w.heap.size w w'))
  case atStart => exact ⟨(0), (by first | rfl | (simp; done) | (simp [*]; done)), H', ⟨Nat.le_refl _⟩, ⟨pk BK0⟩, ⟨pk BK1⟩, ⟨pk BK136⟩, ⟨pbs HB⟩⟩
  case round =>
   clear H'
   try clear p2
   try clear c3
   try clear c4
   obtain ⟨x6_1, rfl, HA, HK1, BK0, BK1, BK136, HB⟩ := hrel
   cases gk with
   | zero => exact absurd HA.out (by simp [spec_l06Ok.l0])
   | succ k1 =>
    have H := HA.out
    clear HA
    simp only [spec_l06Ok.l0] at H
    by_cases c10 : x6_1 < 4
    ·rw [if_pos c10] at H
     have c10b0 : decide (x6_1 < 4) = true := decide_eq_true c10
     clear c10
     have H' := Aside0.mk H
     clear H
     go_wp2
     repeat (go_quiet (fail); try go_wp2)
     go_loopg [7] k1 (fun kq v7 w' => ∃ (x7_2 : Int), v7 = .int .i64 x7_2 ∧ Aside0 (spec_l06Ok.l1 kq x6_1 x7_2 s1_0 t135 = some r) ∧ Aside0 (kq ≤ k1) ∧ Aside0 (w'.heap[g0]? = some (.cells (mixA (Value.int .u16) [.int .i8 s0_0, .int .i8 s0_1] s0_2) 31 (0, 0))) ∧ Aside0 (w'.heap[g1]? = some (.cells (mixA (Value.int .u16) [] s1_0) 28 (0, 0))) ∧ Aside0 (w'.heap[gb136]? = some (.cells (mixA (Value.int .u16) [] t135) 28 (0, 0))) ∧ Aside0 (Below w.heap.size w w'))
     case atStart => exact ⟨(0), (by first | rfl | (simp; done) | (simp [*]; done)), H', ⟨Nat.le_refl _⟩, ⟨pk BK0⟩, ⟨pk BK1⟩, ⟨pk BK136⟩, ⟨pbs HB⟩⟩
     case round =>
      clear H'
      try clear c1
      try clear p2
      try clear c3
      try clear c4
      try clear c10
      try clear c10b0
      try clear p2
      obtain ⟨x7_2, rfl, HA, HK2, BK0, BK1, BK136, HB⟩ := hrel
      cases gk with
      | zero => exact absurd HA.out (by simp [spec_l06Ok.l1])
      | succ k2 =>
       have H := HA.out
       clear HA
       simp only [spec_l06Ok.l1] at H
       by_cases c11 : x7_2 < 10
       ·rw [if_pos c11] at H
        have c11b0 : decide (x7_2 < 10) = true := decide_eq_true c11
        clear c11
        by_cases c12 : 0 ≤ x6_1
        ·rw [if_pos c12] at H
         have c12b0 : decide (0 ≤ x6_1) = true := decide_eq_true c12
         clear c12
         by_cases c13 : x6_1 < 4
         ·rw [if_pos c13] at H
          have c13b0 : decide (x6_1 < 4) = true := decide_eq_true c13
          clear c13
          by_cases c14 : 0 ≤ x7_2
          ·rw [if_pos c14] at H
           have c14b0 : decide (0 ≤ x7_2) = true := decide_eq_true c14
           clear c14
           by_cases c15 : (Go.bits .andNot .u16 (rd s1_0.l (x6_1 * 10 + x7_2)) (rd t135.l (x6_1 * 10 + x7_2))) = 0
           ·rw [if_pos c15] at H
            have c15b0 : ((Go.bits .andNot .u16 (rd s1_0.l (x6_1 * 10 + x7_2)) (rd t135.l (x6_1 * 10 + x7_2))) == 0) = true := beq_iff_eq.mpr c15
            have c15b1 : ((Go.bits .andNot .u16 (rd s1_0.l (x6_1 * 10 + x7_2)) (rd t135.l (x6_1 * 10 + x7_2))) != 0) = false := bne_eq_false_iff_eq.mpr c15
            clear c15
            have H' := Aside0.mk H
            clear H
            have hnb16 := NB1_0.out
            have hnc16 := NB0_1.out
            have hnb17 := NB1_136.out
            have hnc17 := NB136_1.out
            have hpd19 : (0 ≤ x6_1) = True := eq_true (by first | omega | exact of_decide_eq_true (by first | (with_reducible assumption) | assumption))
            have hqd19 : (x6_1 < 4) = True := eq_true (by first | omega | exact of_decide_eq_true (by first | (with_reducible assumption) | assumption))
            have hrd19 : (x6_1 < ((4 : Nat) : Int)) = True := eq_true (by first | omega | exact of_decide_eq_true (by first | (with_reducible assumption) | assumption))
            have hpbd19 : (0 ≤ x7_2) = True := eq_true (by first | omega | exact of_decide_eq_true (by first | (with_reducible assumption) | assumption))
            have hqbd19 : (x7_2 < 10) = True := eq_true (by first | omega | exact of_decide_eq_true (by first | (with_reducible assumption) | assumption))
            have hrbd19 : (x7_2 < ((10 : Nat) : Int)) = True := eq_true (by first | omega | exact of_decide_eq_true (by first | (with_reducible assumption) | assumption))
            have hdd19 : wr.cell? ⟨g1, x6_1.toNat * 10 + x7_2.toNat, none⟩ = some (.int .u16 (rd s1_0.l (x6_1 * 10 + x7_2))) := mix_at2z 10 BK1.out x6_1 x7_2 (of_eq_true hpd19) (of_eq_true hpbd19) (by have := of_eq_true hqd19; have := of_eq_true hqbd19; omega)
            have hfdd19 := blk_frozen BK1.out (x6_1.toNat * 10 + x7_2.toNat)
            have hnb20 := NB136_0.out
            have hnc20 := NB0_136.out
            have hpd22 : (0 ≤ x6_1) = True := eq_true (by first | omega | exact of_decide_eq_true (by first | (with_reducible assumption) | assumption))
            have hqd22 : (x6_1 < 4) = True := eq_true (by first | omega | exact of_decide_eq_true (by first | (with_reducible assumption) | assumption))
            have hrd22 : (x6_1 < ((4 : Nat) : Int)) = True := eq_true (by first | omega | exact of_decide_eq_true (by first | (with_reducible assumption) | assumption))
            have hpbd22 : (0 ≤ x7_2) = True := eq_true (by first | omega | exact of_decide_eq_true (by first | (with_reducible assumption) | assumption))
            have hqbd22 : (x7_2 < 10) = True := eq_true (by first | omega | exact of_decide_eq_true (by first | (with_reducible assumption) | assumption))
            have hrbd22 : (x7_2 < ((10 : Nat) : Int)) = True := eq_true (by first | omega | exact of_decide_eq_true (by first | (with_reducible assumption) | assumption))
            have hdd22 : wr.cell? ⟨gb136, x6_1.toNat * 10 + x7_2.toNat, none⟩ = some (.int .u16 (rd t135.l (x6_1 * 10 + x7_2))) := mix_at2z 10 BK136.out x6_1 x7_2 (of_eq_true hpd22) (of_eq_true hpbd22) (by have := of_eq_true hqd22; have := of_eq_true hqbd22; omega)
            have hfdd22 := blk_frozen BK136.out (x6_1.toNat * 10 + x7_2.toNat)
            go_wp2
            repeat (go_quiet (fail); try go_wp2)
            go_roundg k2
            case measure => have := HK1.out; have := HK2.out; omega
            case rel => exact ⟨(wrap64 (x7_2 + 1)), (by first | rfl | (simp; done) | (simp [*]; done)), H', ⟨by have := HK1.out; have := HK2.out; omega⟩, ⟨pk BK0⟩, ⟨pk BK1⟩, ⟨pk BK136⟩, ⟨pbs HB⟩⟩
           ·rw [if_neg c15] at H
            have c15b0 : ((Go.bits .andNot .u16 (rd s1_0.l (x6_1 * 10 + x7_2)) (rd t135.l (x6_1 * 10 + x7_2))) == 0) = false := beq_eq_false_iff_ne.mpr c15
            have c15b1 : ((Go.bits .andNot .u16 (rd s1_0.l (x6_1 * 10 + x7_2)) (rd t135.l (x6_1 * 10 + x7_2))) != 0) = true := bne_iff_ne.mpr c15
            obtain rfl := Option.some.inj H
            have hnb23 := NB1_0.out
            have hnc23 := NB0_1.out
            have hnb24 := NB1_136.out
            have hnc24 := NB136_1.out
            have hpd26 : (0 ≤ x6_1) = True := eq_true (by first | omega | exact of_decide_eq_true (by first | (with_reducible assumption) | assumption))
            have hqd26 : (x6_1 < 4) = True := eq_true (by first | omega | exact of_decide_eq_true (by first | (with_reducible assumption) | assumption))
            have hrd26 : (x6_1 < ((4 : Nat) : Int)) = True := eq_true (by first | omega | exact of_decide_eq_true (by first | (with_reducible assumption) | assumption))
            have hpbd26 : (0 ≤ x7_2) = True := eq_true (by first | omega | exact of_decide_eq_true (by first | (with_reducible assumption) | assumption))
            have hqbd26 : (x7_2 < 10) = True := eq_true (by first | omega | exact of_decide_eq_true (by first | (with_reducible assumption) | assumption))
            have hrbd26 : (x7_2 < ((10 : Nat) : Int)) = True := eq_true (by first | omega | exact of_decide_eq_true (by first | (with_reducible assumption) | assumption))
            have hdd26 : wr.cell? ⟨g1, x6_1.toNat * 10 + x7_2.toNat, none⟩ = some (.int .u16 (rd s1_0.l (x6_1 * 10 + x7_2))) := mix_at2z 10 BK1.out x6_1 x7_2 (of_eq_true hpd26) (of_eq_true hpbd26) (by have := of_eq_true hqd26; have := of_eq_true hqbd26; omega)
            have hfdd26 := blk_frozen BK1.out (x6_1.toNat * 10 + x7_2.toNat)
            have hnb27 := NB136_0.out
            have hnc27 := NB0_136.out
            have hpd29 : (0 ≤ x6_1) = True := eq_true (by first | omega | exact of_decide_eq_true (by first | (with_reducible assumption) | assumption))
            have hqd29 : (x6_1 < 4) = True := eq_true (by first | omega | exact of_decide_eq_true (by first | (with_reducible assumption) | assumption))
            have hrd29 : (x6_1 < ((4 : Nat) : Int)) = True := eq_true (by first | omega | exact of_decide_eq_true (by first | (with_reducible assumption) | assumption))
            have hpbd29 : (0 ≤ x7_2) = True := eq_true (by first | omega | exact of_decide_eq_true (by first | (with_reducible assumption) | assumption))
            have hqbd29 : (x7_2 < 10) = True := eq_true (by first | omega | exact of_decide_eq_true (by first | (with_reducible assumption) | assumption))
            have hrbd29 : (x7_2 < ((10 : Nat) : Int)) = True := eq_true (by first | omega | exact of_decide_eq_true (by first | (with_reducible assumption) | assumption))
            have hdd29 : wr.cell? ⟨gb136, x6_1.toNat * 10 + x7_2.toNat, none⟩ = some (.int .u16 (rd t135.l (x6_1 * 10 + x7_2))) := mix_at2z 10 BK136.out x6_1 x7_2 (of_eq_true hpd29) (of_eq_true hpbd29) (by have := of_eq_true hqd29; have := of_eq_true hqbd29; omega)
            have hfdd29 := blk_frozen BK136.out (x6_1.toNat * 10 + x7_2.toNat)
            go_wp2
            repeat (go_quiet (fail); try go_wp2)
            go_ret
            exact ⟨by first | rfl | (simp [errW_none, errW_some] <;> rfl) | (simp [*, errW_none, errW_some] <;> rfl), pbs HB⟩
          ·rw [if_neg c14] at H
           exact absurd H (by simp)
         ·rw [if_neg c13] at H
          exact absurd H (by simp)
        ·rw [if_neg c12] at H
         exact absurd H (by simp)
       ·rw [if_neg c11] at H
        have c11b0 : decide (x7_2 < 10) = false := decide_eq_false c11
        clear c11
        have H' := Aside0.mk H
        clear H
        go_wp2
        repeat (go_quiet (fail); try go_wp2)
        go_roundg k2
        case measure => have := HK1.out; have := HK2.out; omega
        case rel => exact ⟨(wrap64 (x6_1 + 1)), (by first | rfl | (simp; done) | (simp [*]; done)), H', ⟨by have := HK1.out; have := HK2.out; omega⟩, ⟨pk BK0⟩, ⟨pk BK1⟩, ⟨pk BK136⟩, ⟨pbs HB⟩⟩
    ·rw [if_neg c10] at H
     have c10b0 : decide (x6_1 < 4) = false := decide_eq_false c10
     clear c10
     obtain rfl := Option.some.inj H
     go_wp2
     repeat (go_quiet (fail); try go_wp2)
     go_ret
     exact ⟨by first | rfl | (simp [errW_none, errW_some] <;> rfl) | (simp [*, errW_none, errW_some] <;> rfl), pbs HB⟩
 ·replace c4 := Bool.eq_false_iff.mpr c4
  subst c4
  have H1 : (some false) = some r := by rw [if_neg (show ¬ (false = true) by decide)] at H; exact H
  clear H
  have H := H1
  clear H1
  obtain rfl := Option.some.inj H
  go_enter Tryd.func33, Tryd.ntmps33
  go_wp2_with (first | (go_at_call 19; (with_reducible refine (spec_l01Ok.calls k g0 s0_0 s0_1 s0_2 false _ ?side1 A3.out).mono ?_); (case side1 => exact (pk BK0)); rintro e w30 ⟨rfl, hb⟩; have n0_ := bkb BK0 hb; have n1_ := bkb BK1 hb; have n2_ := bst HB hb; clear BK0; clear BK1; clear HB; have BK0 := n0_; have BK1 := n1_; have HB := n2_; clear n0_ n1_ n2_; (try clear hb); (try clear hb2); (try clear hk); (try clear hi)))
  repeat (go_quiet (first | (go_at_call 19; (with_reducible refine (spec_l01Ok.calls k g0 s0_0 s0_1 s0_2 false _ ?side1 A3.out).mono ?_); (case side1 => exact (pk BK0)); rintro e w30 ⟨rfl, hb⟩; have n0_ := bkb BK0 hb; have n1_ := bkb BK1 hb; have n2_ := bst HB hb; clear BK0; clear BK1; clear HB; have BK0 := n0_; have BK1 := n1_; have HB := n2_; clear n0_ n1_ n2_; (try clear hb); (try clear hb2); (try clear hk); (try clear hi))); try go_wp2_with (first | (go_at_call 19; (with_reducible refine (spec_l01Ok.calls k g0 s0_0 s0_1 s0_2 false _ ?side1 A3.out).mono ?_); (case side1 => exact (pk BK0)); rintro e w30 ⟨rfl, hb⟩; have n0_ := bkb BK0 hb; have n1_ := bkb BK1 hb; have n2_ := bst HB hb; clear BK0; clear BK1; clear HB; have BK0 := n0_; have BK1 := n1_; have HB := n2_; clear n0_ n1_ n2_; (try clear hb); (try clear hb2); (try clear hk); (try clear hi))))
  go_ret
  exact ⟨by first | rfl | (simp [errW_none, errW_some] <;> rfl) | (simp [*, errW_none, errW_some] <;> rfl), pbs HB⟩
def spec_l06Has.f (s0_0 : LA 40) (a1_0 : Int) (a1_1 : Int) (a2 : Int) : Option (Bool) := if 0 ≤ a2 then (if a2 < 4 then (if 0 ≤ a1_1 then (if a1_1 < 10 then (if 0 ≤ (IntKind.u64.wrap (a1_0)) then (some ((Go.bits .and .u16 (shr .u16 (rd s0_0.l (a2 * 10 + a1_1)) (IntKind.u64.wrap (a1_0))) 1) == 1)) else (none)) else (none)) else (none)) else (none)) else (none)
set_option maxHeartbeats 8000000 in
set_option maxRecDepth 100000 in
theorem spec_l06Has.calls (g0 : Nat) (s0_0 : LA 40) (a1_0 : Int) (a1_1 : Int) (a2 : Int) (r : Bool) (w : World) (hb0 : w.heap[g0]? = some (.cells (mixA (Value.int .u16) [] s0_0) 28 (0, 0))) (h : spec_l06Has.f s0_0 a1_0 a1_1 a2 = some r) :
  Calls Tryd.prog 40 #[.pointer (some ⟨g0, 0, none⟩), .agg #[.int .i8 a1_0, .int .i8 a1_1], .int .i64 a2] w fun e w' => e = .returned (.bool r) ∧ Below w.heap.size w w' := by
 have hu41 := Tryd.underlying41
 have BK0 := Aside0.mk hb0
 clear hb0
 have HB := Aside0.mk (Below.refl w.heap.size w)
 have H : (if 0 ≤ a2 then (if a2 < 4 then (if 0 ≤ a1_1 then (if a1_1 < 10 then (if 0 ≤ (IntKind.u64.wrap (a1_0)) then (some ((Go.bits .and .u16 (shr .u16 (rd s0_0.l (a2 * 10 + a1_1)) (IntKind.u64.wrap (a1_0))) 1) == 1)) else (none)) else (none)) else (none)) else (none)) else (none)) = some r := h
 clear h
 by_cases c4 : 0 ≤ a2
 ·rw [if_pos c4] at H
  have c4b0 : decide (0 ≤ a2) = true := decide_eq_true c4
  clear c4
  by_cases c5 : a2 < 4
  ·rw [if_pos c5] at H
   have c5b0 : decide (a2 < 4) = true := decide_eq_true c5
   clear c5
   by_cases c6 : 0 ≤ a1_1
   ·rw [if_pos c6] at H
    have c6b0 : decide (0 ≤ a1_1) = true := decide_eq_true c6
    clear c6
    by_cases c7 : a1_1 < 10
    ·rw [if_pos c7] at H
     have c7b0 : decide (a1_1 < 10) = true := decide_eq_true c7
     clear c7
     obtain ⟨ji8, hji8⟩ : ∃ j_ : Int, (IntKind.u64.wrap (a1_0)) = j_ := ⟨_, rfl⟩
     replace H : (if 0 ≤ (ji8) then (some ((Go.bits .and .u16 (shr .u16 (rd s0_0.l (a2 * 10 + a1_1)) (ji8)) 1) == 1)) else (none)) = some r := by first | (rw [hji8] at H; exact H) | (simp only [hji8] at H ⊢; exact H)
     by_cases c9 : 0 ≤ (ji8)
     ·rw [if_pos c9] at H
      have c9b0 := eq_true c9
      have c9b1 : decide (0 ≤ (ji8)) = true := decide_eq_true c9
      clear c9
      obtain ⟨ji10, hji10⟩ : ∃ j_ : Int, (shr .u16 (rd s0_0.l (a2 * 10 + a1_1)) (ji8)) = j_ := ⟨_, rfl⟩
      replace H : (some ((Go.bits .and .u16 (ji10) 1) == 1)) = some r := by first | (rw [hji10] at H; exact H) | (simp only [hji10] at H ⊢; exact H)
      have hji10_ : ((rd s0_0.l (a2 * 10 + a1_1)) / 2 ^ min (ji8).toNat 16) = ji10 := hji10
      have hji10z : (ji8) ≤ 16 → ((rd s0_0.l (a2 * 10 + a1_1)) / 2 ^ (ji8).toNat) = ji10 := shr_small hji10
      obtain rfl := Option.some.inj H
      go_enter Tryd.func40, Tryd.ntmps40
      go_wp2_with (first | ((with_reducible refine gate_dst (N := 4) rfl ?_); refine box_event ?hg (N := 4) ?hd (cs := #[.int .i8 a1_0, .int .i8 a1_1]) (t := 41) ?hr ?_; (case hd => rfl); (case hg => rfl); (case hr => first | (go_simp; done) | (go_simp; rfl)); intro gb149 hg w11 hbox hb; have n0_ := bkb BK0 hb; have n1_ := bst HB hb; have n2_ := Aside0.mk (hbox); have n3_ := gwl HB hg; have n4_ := gwl HB hg; have n5_ := nbl BK0 hg; have n6_ := nbg BK0 hg; clear BK0; clear HB; have BK0 := n0_; have HB := n1_; have BK149 := n2_; have GW149 := n3_; have GE149 := n4_; have NB0_149 := n5_; have NB149_0 := n6_; clear n0_ n1_ n2_ n3_ n4_ n5_ n6_; clear hb hbox hg; have hnb12 := NB149_0.out; have hnc12 := NB0_149.out; have hcz13_0 : w11.cell? ⟨gb149, 0, none⟩ = some (.int .i8 a1_0) := (blk_cell BK149.out 0).trans rfl; have hcz13_1 : w11.cell? ⟨gb149, 1, none⟩ = some (.int .i8 a1_1) := (blk_cell BK149.out 1).trans rfl; have hfz13_0 := blk_frozen BK149.out 0; have hfz13_1 := blk_frozen BK149.out 1; have hpd15 : (0 ≤ a2) = True := eq_true (by first | omega | exact of_decide_eq_true (by first | (with_reducible assumption) | assumption)); have hqd15 : (a2 < 4) = True := eq_true (by first | omega | exact of_decide_eq_true (by first | (with_reducible assumption) | assumption)); have hrd15 : (a2 < ((4 : Nat) : Int)) = True := eq_true (by first | omega | exact of_decide_eq_true (by first | (with_reducible assumption) | assumption)); have hpbd15 : (0 ≤ a1_1) = True := eq_true (by first | omega | exact of_decide_eq_true (by first | (with_reducible assumption) | assumption)); have hqbd15 : (a1_1 < 10) = True := eq_true (by first | omega | exact of_decide_eq_true (by first | (with_reducible assumption) | assumption)); have hrbd15 : (a1_1 < ((10 : Nat) : Int)) = True := eq_true (by first | omega | exact of_decide_eq_true (by first | (with_reducible assumption) | assumption)); have hdd15 : w11.cell? ⟨g0, a2.toNat * 10 + a1_1.toNat, none⟩ = some (.int .u16 (rd s0_0.l (a2 * 10 + a1_1))) := mix_at2z 10 BK0.out a2 a1_1 (of_eq_true hpd15) (of_eq_true hpbd15) (by have := of_eq_true hqd15; have := of_eq_true hqbd15; omega); have hfdd15 := blk_frozen BK0.out (a2.toNat * 10 + a1_1.toNat)))
      repeat (go_quiet (first | ((with_reducible refine gate_dst (N := 4) rfl ?_); refine box_event ?hg (N := 4) ?hd (cs := #[.int .i8 a1_0, .int .i8 a1_1]) (t := 41) ?hr ?_; (case hd => rfl); (case hg => rfl); (case hr => first | (go_simp; done) | (go_simp; rfl)); intro gb149 hg w11 hbox hb; have n0_ := bkb BK0 hb; have n1_ := bst HB hb; have n2_ := Aside0.mk (hbox); have n3_ := gwl HB hg; have n4_ := gwl HB hg; have n5_ := nbl BK0 hg; have n6_ := nbg BK0 hg; clear BK0; clear HB; have BK0 := n0_; have HB := n1_; have BK149 := n2_; have GW149 := n3_; have GE149 := n4_; have NB0_149 := n5_; have NB149_0 := n6_; clear n0_ n1_ n2_ n3_ n4_ n5_ n6_; clear hb hbox hg; have hnb12 := NB149_0.out; have hnc12 := NB0_149.out; have hcz13_0 : w11.cell? ⟨gb149, 0, none⟩ = some (.int .i8 a1_0) := (blk_cell BK149.out 0).trans rfl; have hcz13_1 : w11.cell? ⟨gb149, 1, none⟩ = some (.int .i8 a1_1) := (blk_cell BK149.out 1).trans rfl; have hfz13_0 := blk_frozen BK149.out 0; have hfz13_1 := blk_frozen BK149.out 1; have hpd15 : (0 ≤ a2) = True := eq_true (by first | omega | exact of_decide_eq_true (by first | (with_reducible assumption) | assumption)); have hqd15 : (a2 < 4) = True := eq_true (by first | omega | exact of_decide_eq_true (by first | (with_reducible assumption) | assumption)); have hrd15 : (a2 < ((4 : Nat) : Int)) = True := eq_true (by first | omega | exact of_decide_eq_true (by first | (with_reducible assumption) | assumption)); have hpbd15 : (0 ≤ a1_1) = True := eq_true (by first | omega | exact of_decide_eq_true (by first | (with_reducible assumption) | assumption)); have hqbd15 : (a1_1 < 10) = True := eq_true (by first | omega | exact of_decide_eq_true (by first | (with_reducible assumption) | assumption)); have hrbd15 : (a1_1 < ((10 : Nat) : Int)) = True := eq_true (by first | omega | exact of_decide_eq_true (by first | (with_reducible assumption) | assumption)); have hdd15 : w11.cell? ⟨g0, a2.toNat * 10 + a1_1.toNat, none⟩ = some (.int .u16 (rd s0_0.l (a2 * 10 + a1_1))) := mix_at2z 10 BK0.out a2 a1_1 (of_eq_true hpd15) (of_eq_true hpbd15) (by have := of_eq_true hqd15; have := of_eq_true hqbd15; omega); have hfdd15 := blk_frozen BK0.out (a2.toNat * 10 + a1_1.toNat))); try go_wp2_with (first | ((with_reducible refine gate_dst (N := 4) rfl ?_); refine box_event ?hg (N := 4) ?hd (cs := #[.int .i8 a1_0, .int .i8 a1_1]) (t := 41) ?hr ?_; (case hd => rfl); (case hg => rfl); (case hr => first | (go_simp; done) | (go_simp; rfl)); intro gb149 hg w11 hbox hb; have n0_ := bkb BK0 hb; have n1_ := bst HB hb; have n2_ := Aside0.mk (hbox); have n3_ := gwl HB hg; have n4_ := gwl HB hg; have n5_ := nbl BK0 hg; have n6_ := nbg BK0 hg; clear BK0; clear HB; have BK0 := n0_; have HB := n1_; have BK149 := n2_; have GW149 := n3_; have GE149 := n4_; have NB0_149 := n5_; have NB149_0 := n6_; clear n0_ n1_ n2_ n3_ n4_ n5_ n6_; clear hb hbox hg; have hnb12 := NB149_0.out; have hnc12 := NB0_149.out; have hcz13_0 : w11.cell? ⟨gb149, 0, none⟩ = some (.int .i8 a1_0) := (blk_cell BK149.out 0).trans rfl; have hcz13_1 : w11.cell? ⟨gb149, 1, none⟩ = some (.int .i8 a1_1) := (blk_cell BK149.out 1).trans rfl; have hfz13_0 := blk_frozen BK149.out 0; have hfz13_1 := blk_frozen BK149.out 1; have hpd15 : (0 ≤ a2) = True := eq_true (by first | omega | exact of_decide_eq_true (by first | (with_reducible assumption) | assumption)); have hqd15 : (a2 < 4) = True := eq_true (by first | omega | exact of_decide_eq_true (by first | (with_reducible assumption) | assumption)); have hrd15 : (a2 < ((4 : Nat) : Int)) = True := eq_true (by first | omega | exact of_decide_eq_true (by first | (with_reducible assumption) | assumption)); have hpbd15 : (0 ≤ a1_1) = True := eq_true (by first | omega | exact of_decide_eq_true (by first | (with_reducible assumption) | assumption)); have hqbd15 : (a1_1 < 10) = True := eq_true (by first | omega | exact of_decide_eq_true (by first | (with_reducible assumption) | assumption)); have hrbd15 : (a1_1 < ((10 : Nat) : Int)) = True := eq_true (by first | omega | exact of_decide_eq_true (by first | (with_reducible assumption) | assumption)); have hdd15 : w11.cell? ⟨g0, a2.toNat * 10 + a1_1.toNat, none⟩ = some (.int .u16 (rd s0_0.l (a2 * 10 + a1_1))) := mix_at2z 10 BK0.out a2 a1_1 (of_eq_true hpd15) (of_eq_true hpbd15) (by have := of_eq_true hqd15; have := of_eq_true hqbd15; omega); have hfdd15 := blk_frozen BK0.out (a2.toNat * 10 + a1_1.toNat))))
      go_ret
      exact ⟨by first | rfl | (simp [errW_none, errW_some] <;> rfl) | (simp only [← hji8, ← hji10]; first | rfl | (simp [errW_none, errW_some] <;> rfl)) | (simp [*, errW_none, errW_some] <;> rfl), pbs HB⟩
     ·rw [if_neg c9] at H
      exact absurd H (by simp)
    ·rw [if_neg c7] at H
     exact absurd H (by simp)
   ·rw [if_neg c6] at H
    exact absurd H (by simp)
  ·rw [if_neg c5] at H
   exact absurd H (by simp)
 ·rw [if_neg c4] at H
  exact absurd H (by simp)
def spec_l06Spot.f (a0 : Int) : Option (Int × Int) := some (IntKind.i8.wrap (Int.tmod a0 10), IntKind.i8.wrap (wrap64 (Int.tdiv a0 10)))
set_option maxHeartbeats 8000000 in
set_option maxRecDepth 100000 in
theorem spec_l06Spot.calls (a0 : Int) (r1 : Int) (r2 : Int) (w : World) (h : spec_l06Spot.f a0 = some (r1, r2)) :
  Calls Tryd.prog 54 #[.int .i64 a0] w fun e w' => e = .returned (.agg #[.int .i8 r1, .int .i8 r2]) ∧ Below w.heap.size w w' := by
 have hu41 := Tryd.underlying41
 have HB := Aside0.mk (Below.refl w.heap.size w)
 have H : (some (IntKind.i8.wrap (Int.tmod a0 10), IntKind.i8.wrap (wrap64 (Int.tdiv a0 10)))) = some (r1, r2) := h
 clear h
 simp only [Option.some.injEq, Prod.mk.injEq] at H
 obtain ⟨rfl, rfl⟩ := H
 go_enter Tryd.func54, Tryd.ntmps54
 go_wp2_with (first | ((with_reducible refine gate_dst (N := 2) rfl ?_); refine box_event ?hg (N := 2) ?hd (cs := #[.int .i8 0, .int .i8 0]) (t := 41) ?hr ?_; (case hd => rfl); (case hg => rfl); (case hr => first | (go_simp; done) | (go_simp; rfl)); intro gb150 hg w2 hbox hb; have n0_ := bst HB hb; have n1_ := Aside0.mk (hbox); have n2_ := gwl HB hg; have n3_ := gwl HB hg; clear HB; have HB := n0_; have BK150 := n1_; have GW150 := n2_; have GE150 := n3_; clear n0_ n1_ n2_ n3_; clear hb hbox hg; have hcz3_0 : w2.cell? ⟨gb150, 0, none⟩ = some (.int .i8 0) := (blk_cell BK150.out 0).trans rfl; have hcz3_1 : w2.cell? ⟨gb150, 1, none⟩ = some (.int .i8 0) := (blk_cell BK150.out 1).trans rfl; have hfz3_0 := blk_frozen BK150.out 0; have hfz3_1 := blk_frozen BK150.out 1))
 refine bodyPost_ret (results_cell_row rfl _ _ gb150 41 #[.int .i8 (IntKind.i8.wrap (Int.tmod a0 10)), .int .i8 (IntKind.i8.wrap (wrap64 (Int.tdiv a0 10)))] (0, 0) _ rfl (by (with_reducible repeat (first | refine blk_drewN ?_ _ | refine blk_drew ?_ | refine blk_alloc ?_ _)); refine blk_put (cs := #[.int .i8 (IntKind.i8.wrap (Int.tmod a0 10)), .int .i8 0]) ?_ 1 _ rfl; (with_reducible repeat (first | refine blk_drewN ?_ _ | refine blk_drew ?_ | refine blk_alloc ?_ _)); refine blk_put (cs := #[.int .i8 0, .int .i8 0]) ?_ 0 _ rfl; (with_reducible repeat (first | refine blk_drewN ?_ _ | refine blk_drew ?_ | refine blk_alloc ?_ _)); exact BK150.out) Tryd.underlying41 rfl (by kernel_rfl)) rfl ?_
 exact ⟨by first | rfl | (simp [errW_none, errW_some] <;> rfl) | (simp [*, errW_none, errW_some] <;> rfl), pbs HB⟩
end Go.Proofs.YtdedijjbdkoekaaDoor.PB
end
section
namespace Go.Proofs.YtdedijjbdkoekaaDoor.PB
open Go.RowKit Go.Proofs.YtdedijjbdkoekaaDoorW.PrintWords Go.Proofs.YtdedijjbdkoekaaDoorW.PrintLast Go.Proofs.YtdedijjbdkoekaaDoorW.PrintMore Go.Proofs.YtdedijjbdkoekaaDoor.La
attribute [local go_sem] max2_int min2_int max_two min_two max_three min_three max_four min_four   -- for this text's walks alone
set_option linter.unusedVariables false
set_option linter.unusedSimpArgs false
mutual
def spec_l06Move.l0 : Nat → Int → Int → Int → Int → LA 10 → LA 40 → LA 40 → Option (LA 40)
 | 0, _, _, _, _, _, _, _ => none
 | k + 1, x2, x8, x1000, x1001, x1002, x2000, x153000 => if x8 < 100 then (spec_l06Move.l1 k x2 x8 0 x1000 x1001 x1002 x2000 x153000) else (some x153000)
def spec_l06Move.l1 : Nat → Int → Int → Int → Int → Int → LA 10 → LA 40 → LA 40 → Option (LA 40)
 | 0, _, _, _, _, _, _, _, _ => none
 | k + 1, x2, x8, x9, x1000, x1001, x1002, x2000, x153000 => if x9 < 4 then ((spec_l06Spot.f x8).bind fun bt153 => ((spec_l06Has.f x2000 bt153.1 bt153.2 x9).bind fun t156 => (if t156 = true then ((spec_l06Can.f x1000 x1001 x1002 bt153.1 bt153.2 x9 x2).bind fun t157 => (spec_l06Move.j2 k x2 x8 x9 t157 x1000 x1001 x1002 x2000 x153000 bt153.1 bt153.2)) else (spec_l06Move.j2 k x2 x8 x9 false x1000 x1001 x1002 x2000 x153000 bt153.1 bt153.2)))) else (spec_l06Move.l0 k x2 (wrap64 (x8 + 1)) x1000 x1001 x1002 x2000 x153000)
def spec_l06Move.j2 : Nat → Int → Int → Int → Bool → Int → Int → LA 10 → LA 40 → LA 40 → Int → Int → Option (LA 40)
 | 0, _, _, _, _, _, _, _, _, _, _, _ => none
 | k + 1, x2, x8, x9, x34, x1000, x1001, x1002, x2000, x153000, x156000, x156001 => if x34 = true then ((spec_l06Made.f x156000 x156001 x9 x2).bind fun bt158 => ((spec_l06Put.f x153000 bt158.1 bt158.2.1 bt158.2.2).bind fun t162 => (spec_l06Move.l1 k x2 x8 (wrap64 (x9 + 1)) x1000 x1001 x1002 x2000 t162))) else (spec_l06Move.l1 k x2 x8 (wrap64 (x9 + 1)) x1000 x1001 x1002 x2000 x153000)
end
def spec_l06Move.f (k : Nat) (s0_0 : Int) (s0_1 : Int) (s0_2 : LA 10) (s1_0 : LA 40) (a2 : Int) : Option (LA 40) := spec_l06Move.l0 k a2 0 s0_0 s0_1 s0_2 s1_0 (LA.zero 40)
theorem spec_l06Move.mono_l : ∀ k, (∀ y0 y1 y2 y3 y4 y5 y6, LeO (spec_l06Move.l0 k y0 y1 y2 y3 y4 y5 y6) (spec_l06Move.l0 (k + 1) y0 y1 y2 y3 y4 y5 y6)) ∧ (∀ y0 y1 y2 y3 y4 y5 y6 y7, LeO (spec_l06Move.l1 k y0 y1 y2 y3 y4 y5 y6 y7) (spec_l06Move.l1 (k + 1) y0 y1 y2 y3 y4 y5 y6 y7)) ∧ (∀ y0 y1 y2 y3 y4 y5 y6 y7 y8 y9 y10, LeO (spec_l06Move.j2 k y0 y1 y2 y3 y4 y5 y6 y7 y8 y9 y10) (spec_l06Move.j2 (k + 1) y0 y1 y2 y3 y4 y5 y6 y7 y8 y9 y10))
 | 0 => ⟨fun _ _ _ _ _ _ _ r h => by simp [spec_l06Move.l0] at h, fun _ _ _ _ _ _ _ _ r h => by simp [spec_l06Move.l1] at h, fun _ _ _ _ _ _ _ _ _ _ _ r h => by simp [spec_l06Move.j2] at h⟩
 | k + 1 => by
  obtain ⟨ih0, ih1, ih2⟩ := spec_l06Move.mono_l k
  refine ⟨?_, ?_, ?_⟩
  ·intro y0 y1 y2 y3 y4 y5 y6
   unfold spec_l06Move.l0
   repeat' first
   | (with_reducible exact ih0 _ _ _ _ _ _ _)
   | (with_reducible exact ih1 _ _ _ _ _ _ _ _)
   | (with_reducible exact ih2 _ _ _ _ _ _ _ _ _ _ _)
   | (with_reducible exact LeO.refl _)
   | (with_reducible exact LeO.none _)
   | (with_reducible refine LeO.ite ?_ ?_)
   | (with_reducible refine LeO.bind ?_ (fun _ => ?_))
   | exact ih0 _ _ _ _ _ _ _
   | exact ih1 _ _ _ _ _ _ _ _
   | exact ih2 _ _ _ _ _ _ _ _ _ _ _
   | exact LeO.none _
   | refine LeO.ite ?_ ?_
   | refine LeO.bind ?_ (fun _ => ?_)
  ·intro y0 y1 y2 y3 y4 y5 y6 y7
   unfold spec_l06Move.l1
   repeat' first
   | (with_reducible exact ih0 _ _ _ _ _ _ _)
   | (with_reducible exact ih1 _ _ _ _ _ _ _ _)
   | (with_reducible exact ih2 _ _ _ _ _ _ _ _ _ _ _)
   | (with_reducible exact LeO.refl _)
   | (with_reducible exact LeO.none _)
   | (with_reducible refine LeO.ite ?_ ?_)
   | (with_reducible refine LeO.bind ?_ (fun _ => ?_))
   | exact ih0 _ _ _ _ _ _ _
   | exact ih1 _ _ _ _ _ _ _ _
   | exact ih2 _ _ _ _ _ _ _ _ _ _ _
   | exact LeO.none _
   | refine LeO.ite ?_ ?_
   | refine LeO.bind ?_ (fun _ => ?_)
  ·intro y0 y1 y2 y3 y4 y5 y6 y7 y8 y9 y10
   unfold spec_l06Move.j2
   repeat' first
   | (with_reducible exact ih0 _ _ _ _ _ _ _)
   | (with_reducible exact ih1 _ _ _ _ _ _ _ _)
   | (with_reducible exact ih2 _ _ _ _ _ _ _ _ _ _ _)
   | (with_reducible exact LeO.refl _)
   | (with_reducible exact LeO.none _)
   | (with_reducible refine LeO.ite ?_ ?_)
   | (with_reducible refine LeO.bind ?_ (fun _ => ?_))
   | exact ih0 _ _ _ _ _ _ _
   | exact ih1 _ _ _ _ _ _ _ _
   | exact ih2 _ _ _ _ _ _ _ _ _ _ _
   | exact LeO.none _
   | refine LeO.ite ?_ ?_
   | refine LeO.bind ?_ (fun _ => ?_)
theorem spec_l06Move.mono : ∀ a0 a1 a2 a3 a4 k, LeO (spec_l06Move.f k a0 a1 a2 a3 a4) (spec_l06Move.f (k + 1) a0 a1 a2 a3 a4) := by
 intro a0 a1 a2 a3 a4 k
 obtain ⟨ih0, ih1, ih2⟩ := spec_l06Move.mono_l k
 unfold spec_l06Move.f
 repeat' first
   | (with_reducible exact ih0 _ _ _ _ _ _ _)
   | (with_reducible exact ih1 _ _ _ _ _ _ _ _)
   | (with_reducible exact ih2 _ _ _ _ _ _ _ _ _ _ _)
   | (with_reducible exact LeO.refl _)
   | (with_reducible exact LeO.none _)
   | (with_reducible refine LeO.ite ?_ ?_)
   | (with_reducible refine LeO.bind ?_ (fun _ => ?_))
   | exact ih0 _ _ _ _ _ _ _
   | exact ih1 _ _ _ _ _ _ _ _
   | exact ih2 _ _ _ _ _ _ _ _ _ _ _
   | exact LeO.none _
   | refine LeO.ite ?_ ?_
   | refine LeO.bind ?_ (fun _ => ?_)
set_option maxHeartbeats 8000000 in
set_option maxRecDepth 100000 in
theorem spec_l06Move.calls (k : Nat) (g0 : Nat) (s0_0 : Int) (s0_1 : Int) (s0_2 : LA 10) (g1 : Nat) (s1_0 : LA 40) (a2 : Int) (r : LA 40) (w : World) (hb0 : w.heap[g0]? = some (.cells (mixA (Value.int .u16) [.int .i8 s0_0, .int .i8 s0_1] s0_2) 31 (0, 0))) (hb1 : w.heap[g1]? = some (.cells (mixA (Value.int .u16) [] s1_0) 28 (0, 0))) (h : spec_l06Move.f k s0_0 s0_1 s0_2 s1_0 a2 = some r) :
  Calls Tryd.prog 35 #[.pointer (some ⟨g0, 0, none⟩), .pointer (some ⟨g1, 0, none⟩), .int .u8 a2] w fun e w' => e = .returned (.agg (mixA (Value.int .u16) [] r)) ∧ Below w.heap.size w w' := by
 have hu41 := Tryd.underlying41
 have NB0_1 := Aside0.mk (show g0 ≠ g1 from fun e_ => by rw [e_, hb1] at hb0; injection hb0 with h_; injection h_ with _ ht_; exact absurd ht_ (by decide))
 have NB1_0 := Aside0.mk (show g1 ≠ g0 from fun e_ => by rw [e_, hb0] at hb1; injection hb1 with h_; injection h_ with _ ht_; exact absurd ht_ (by decide))
 have BK0 := Aside0.mk hb0
 clear hb0
 have BK1 := Aside0.mk hb1
 clear hb1
 have HB := Aside0.mk (Below.refl w.heap.size w)
 have H : (spec_l06Move.l0 k a2 0 s0_0 s0_1 s0_2 s1_0 (LA.zero 40)) = some r := h
 clear h
 have H' := Aside0.mk H
 clear H
 go_enter Tryd.func35, Tryd.ntmps35
 go_wp2_with (first | ((with_reducible refine gate_dst (N := 6) rfl ?_); refine box_event ?hg (N := 6) ?hd (cs := (mixA (Value.int .u16) [] (LA.zero 40))) (t := 28) ?hr ?_; (case hd => rfl); (case hg => rfl); (case hr => first | (go_simp; done) | (go_simp; rfl)); intro gb151 hg w4 hbox hb; have n0_ := bkb BK0 hb; have n1_ := bkb BK1 hb; have n2_ := bst HB hb; have n3_ := Aside0.mk (hbox); have n4_ := gwl HB hg; have n5_ := gwl HB hg; have n6_ := nbl BK0 hg; have n7_ := nbg BK0 hg; have n8_ := nbl BK1 hg; have n9_ := nbg BK1 hg; clear BK0; clear BK1; clear HB; have BK0 := n0_; have BK1 := n1_; have HB := n2_; have BK151 := n3_; have GW151 := n4_; have GE151 := n5_; have NB0_151 := n6_; have NB151_0 := n7_; have NB1_151 := n8_; have NB151_1 := n9_; clear n0_ n1_ n2_ n3_ n4_ n5_ n6_ n7_ n8_ n9_; clear hb hbox hg) | ((with_reducible refine gate_dst (N := 7) rfl ?_); refine box_event ?hg (N := 7) ?hd (cs := (mixA (Value.int .u16) [] (LA.zero 40))) (t := 28) ?hr ?_; (case hd => rfl); (case hg => rfl); (case hr => first | (go_simp; done) | (go_simp; rfl)); intro gb152 hg w5 hbox hb; have n0_ := bkb BK0 hb; have n1_ := bkb BK1 hb; have n2_ := bkb BK151 hb; have n3_ := bst HB hb; have n4_ := Aside0.mk (hbox); have n5_ := gwl HB hg; have n6_ := gwl HB hg; have n7_ := nbl BK0 hg; have n8_ := nbg BK0 hg; have n9_ := nbl BK1 hg; have n10_ := nbg BK1 hg; have n11_ := nbl BK151 hg; have n12_ := nbg BK151 hg; clear BK0; clear BK1; clear BK151; clear HB; have BK0 := n0_; have BK1 := n1_; have BK151 := n2_; have HB := n3_; have BK152 := n4_; have GW152 := n5_; have GE152 := n6_; have NB0_152 := n7_; have NB152_0 := n8_; have NB1_152 := n9_; have NB152_1 := n10_; have NB151_152 := n11_; have NB152_151 := n12_; clear n0_ n1_ n2_ n3_ n4_ n5_ n6_ n7_ n8_ n9_ n10_ n11_ n12_; clear hb hbox hg) | ((with_reducible refine gate_store (p := 7) rfl ?_); refine wpList_store_lmix rfl 28 _ _ rfl gb152 (e := (Value.int .u16)) (cs' := []) (W' := (LA.zero 40)) (cs := []) (W := (LA.zero 40)) (T := 28) rfl rfl (pk BK152) rfl (by kernel_rfl) rfl (fun _ => rfl) rfl ?_; intro w6 hi hk hbl; have n0_ := Aside0.mk (KeepBut.blk hk (g' := g0) (o := .cells (mixA (Value.int .u16) [.int .i8 s0_0, .int .i8 s0_1] s0_2) 31 (0, 0)) (pk BK0) NB0_152.out (by simp)); have n1_ := Aside0.mk (KeepBut.blk hk (g' := g1) (o := .cells (mixA (Value.int .u16) [] s1_0) 28 (0, 0)) (pk BK1) NB1_152.out (by simp)); have n2_ := Aside0.mk (KeepBut.blk hk (g' := gb151) (o := .cells (mixA (Value.int .u16) [] (LA.zero 40)) 28 (0, 0)) (pk BK151) NB151_152.out (by simp)); have n3_ := Aside0.mk (hbl _ _ (pbs HB) GE152.out); have n4_ := Aside0.mk (hi); clear BK0; clear BK1; clear BK151; clear HB; clear BK152; have BK0 := n0_; have BK1 := n1_; have BK151 := n2_; have HB := n3_; have BK152 := n4_; clear n0_ n1_ n2_ n3_ n4_; clear hi hk hbl))
 go_loopg [8] k (fun kq v8 w' => ∃ (x8_1 : Int) (x153000_1 : LA 40), v8 = .int .i64 x8_1 ∧ Aside0 (spec_l06Move.l0 kq a2 x8_1 s0_0 s0_1 s0_2 s1_0 x153000_1 = some r) ∧ Aside0 (kq ≤ k) ∧ Aside0 (w'.heap[g0]? = some (.cells (mixA (Value.int .u16) [.int .i8 s0_0, .int .i8 s0_1] s0_2) 31 (0, 0))) ∧ Aside0 (w'.heap[g1]? = some (.cells (mixA (Value.int .u16) [] s1_0) 28 (0, 0))) ∧ Aside0 (w'.heap[gb151]? = some (.cells (mixA (Value.int .u16) [] (LA.zero 40)) 28 (0, 0))) ∧ Aside0 (w'.heap[gb152]? = some (.cells (mixA (Value.int .u16) [] x153000_1) 28 (0, 0))) ∧ Aside0 (Below w.heap.size w w'))
 case atStart => exact ⟨(0), ((LA.zero 40)), (by first | rfl | (simp; done) | (simp [*]; done)), H', ⟨Nat.le_refl _⟩, ⟨pk BK0⟩, ⟨pk BK1⟩, ⟨pk BK151⟩, ⟨pk BK152⟩, ⟨pbs HB⟩⟩
 case round =>
  clear H'
  try clear p2
  try clear c3
  obtain ⟨x8_1, x153000_1, rfl, HA, HK1, BK0, BK1, BK151, BK152, HB⟩ := hrel
  cases gk with
  | zero => exact absurd HA.out (by simp [spec_l06Move.l0])
  | succ k1 =>
   have H := HA.out
   clear HA
   simp only [spec_l06Move.l0] at H
   by_cases c7 : x8_1 < 100
   ·rw [if_pos c7] at H
    have c7b0 : decide (x8_1 < 100) = true := decide_eq_true c7
    clear c7
    have H' := Aside0.mk H
    clear H
    go_wp2
    go_loopg [9] k1 (fun kq v9 w' => ∃ (x9_2 : Int) (x153000_2 : LA 40), v9 = .int .i64 x9_2 ∧ Aside0 (spec_l06Move.l1 kq a2 x8_1 x9_2 s0_0 s0_1 s0_2 s1_0 x153000_2 = some r) ∧ Aside0 (kq ≤ k1) ∧ Aside0 (w'.heap[g0]? = some (.cells (mixA (Value.int .u16) [.int .i8 s0_0, .int .i8 s0_1] s0_2) 31 (0, 0))) ∧ Aside0 (w'.heap[g1]? = some (.cells (mixA (Value.int .u16) [] s1_0) 28 (0, 0))) ∧ Aside0 (w'.heap[gb151]? = some (.cells (mixA (Value.int .u16) [] (LA.zero 40)) 28 (0, 0))) ∧ Aside0 (w'.heap[gb152]? = some (.cells (mixA (Value.int .u16) [] x153000_2) 28 (0, 0))) ∧ Aside0 (Below w.heap.size w w'))
    case atStart => exact ⟨(0), (x153000_1), (by first | rfl | (simp; done) | (simp [*]; done)), H', ⟨Nat.le_refl _⟩, ⟨pk BK0⟩, ⟨pk BK1⟩, ⟨pk BK151⟩, ⟨pk BK152⟩, ⟨pbs HB⟩⟩
    case round =>
     clear H'
     try clear p2
     try clear c3
     try clear c7
     try clear c7b0
     try clear p2
     obtain ⟨x9_2, x153000_2, rfl, HA, HK2, BK0, BK1, BK151, BK152, HB⟩ := hrel
     cases gk with
     | zero => exact absurd HA.out (by simp [spec_l06Move.l1])
     | succ k2 =>
      have H := HA.out
      clear HA
      simp only [spec_l06Move.l1] at H
      by_cases c8 : x9_2 < 4
      ·rw [if_pos c8] at H
       have c8b0 : decide (x9_2 < 4) = true := decide_eq_true c8
       clear c8
       replace H := Option.bind_eq_some_iff.mp H
       obtain ⟨⟨t153, t154⟩, A90, H⟩ := H
       replace H : ((spec_l06Has.f s1_0 t153 t154 x9_2).bind fun t156 => (if t156 = true then ((spec_l06Can.f s0_0 s0_1 s0_2 t153 t154 x9_2 a2).bind fun t157 => (spec_l06Move.j2 k2 a2 x8_1 x9_2 t157 s0_0 s0_1 s0_2 s1_0 x153000_2 t153 t154)) else (spec_l06Move.j2 k2 a2 x8_1 x9_2 false s0_0 s0_1 s0_2 s1_0 x153000_2 t153 t154))) = some r := H
       have A9 := Aside0.mk A90
       clear A90
       have HC10 := Aside0.mk H
       clear H
       go_upto_region 9 with (first | ((with_reducible refine gate_callee (f := 54) rfl ?_); refine goesL_ (some 23) rfl rfl Tryd.func54 (by kernel_rfl) rfl #[.int .i64 x8_1] rfl (by (try simp only [List.map_toArray, List.map_cons, List.map_nil]); first | done | rfl | (simp only [List.length_drop, List.length_take]; rfl)) ?_; (with_reducible refine (spec_l06Spot.calls x8_1 t153 t154 _ A9.out).mono ?_); rintro e w11 ⟨rfl, hb⟩; refine ⟨_, rfl, ?_⟩; have n0_ := bkb BK0 hb; have n1_ := bkb BK1 hb; have n2_ := bkb BK151 hb; have n3_ := bkb BK152 hb; have n4_ := bst HB hb; clear BK0; clear BK1; clear BK151; clear BK152; clear HB; have BK0 := n0_; have BK1 := n1_; have BK151 := n2_; have BK152 := n3_; have HB := n4_; clear n0_ n1_ n2_ n3_ n4_; (try clear hb); (try clear hb2); (try clear hk); (try clear hi)) | ((with_reducible refine gate_dst (N := 10) rfl ?_); refine box_event ?hg (N := 10) ?hd (cs := #[.int .i8 0, .int .i8 0]) (t := 41) ?hr ?_; (case hd => rfl); (case hg => rfl); (case hr => first | (go_simp; done) | (go_simp; rfl)); intro gb155 hg w12 hbox hb; have n0_ := bkb BK0 hb; have n1_ := bkb BK1 hb; have n2_ := bkb BK151 hb; have n3_ := bkb BK152 hb; have n4_ := bst HB hb; have n5_ := Aside0.mk (hbox); have n6_ := gwl HB hg; have n7_ := gwl HB hg; have n8_ := nbl BK0 hg; have n9_ := nbg BK0 hg; have n10_ := nbl BK1 hg; have n11_ := nbg BK1 hg; have n12_ := nbl BK151 hg; have n13_ := nbg BK151 hg; have n14_ := nbl BK152 hg; have n15_ := nbg BK152 hg; clear BK0; clear BK1; clear BK151; clear BK152; clear HB; have BK0 := n0_; have BK1 := n1_; have BK151 := n2_; have BK152 := n3_; have HB := n4_; have BK155 := n5_; have GW155 := n6_; have GE155 := n7_; have NB0_155 := n8_; have NB155_0 := n9_; have NB1_155 := n10_; have NB155_1 := n11_; have NB151_155 := n12_; have NB155_151 := n13_; have NB152_155 := n14_; have NB155_152 := n15_; clear n0_ n1_ n2_ n3_ n4_ n5_ n6_ n7_ n8_ n9_ n10_ n11_ n12_ n13_ n14_ n15_; clear hb hbox hg; have hnb13 := NB155_0.out; have hnc13 := NB0_155.out; have hnb14 := NB155_1.out; have hnc14 := NB1_155.out; have hnb15 := NB155_151.out; have hnc15 := NB151_155.out; have hnb16 := NB155_152.out; have hnc16 := NB152_155.out; have hcz17_0 : w12.cell? ⟨gb155, 0, none⟩ = some (.int .i8 0) := (blk_cell BK155.out 0).trans rfl; have hcz17_1 : w12.cell? ⟨gb155, 1, none⟩ = some (.int .i8 0) := (blk_cell BK155.out 1).trans rfl; have hfz17_0 := blk_frozen BK155.out 0; have hfz17_1 := blk_frozen BK155.out 1))
       (try simp only [Act.put, List.setIfInBounds_toArray, List.set_cons_zero, List.set_cons_succ])
       go_cut [34] (fun v34 wc => ∃ (kq : Nat) (x34_9 : Bool), v34 = .bool x34_9 ∧ Aside0 (spec_l06Move.j2 kq a2 x8_1 x9_2 x34_9 s0_0 s0_1 s0_2 s1_0 x153000_2 t153 t154 = some r) ∧ Aside0 (kq ≤ k2) ∧ Aside0 (wc.heap[g0]? = some (.cells (mixA (Value.int .u16) [.int .i8 s0_0, .int .i8 s0_1] s0_2) 31 (0, 0))) ∧ Aside0 (wc.heap[g1]? = some (.cells (mixA (Value.int .u16) [] s1_0) 28 (0, 0))) ∧ Aside0 (wc.heap[gb151]? = some (.cells (mixA (Value.int .u16) [] (LA.zero 40)) 28 (0, 0))) ∧ Aside0 (wc.heap[gb152]? = some (.cells (mixA (Value.int .u16) [] x153000_2) 28 (0, 0))) ∧ Aside0 (wc.heap[gb155]? = some (.cells #[.int .i8 t153, .int .i8 t154] 41 (0, 0))) ∧ Aside0 (Below w.heap.size w wc))
       case first =>
        have H := HC10.out
        clear HC10
        replace H := Option.bind_eq_some_iff.mp H
        obtain ⟨t156, A180, H⟩ := H
        replace H : (if t156 = true then ((spec_l06Can.f s0_0 s0_1 s0_2 t153 t154 x9_2 a2).bind fun t157 => (spec_l06Move.j2 k2 a2 x8_1 x9_2 t157 s0_0 s0_1 s0_2 s1_0 x153000_2 t153 t154)) else (spec_l06Move.j2 k2 a2 x8_1 x9_2 false s0_0 s0_1 s0_2 s1_0 x153000_2 t153 t154)) = some r := H
        have A18 := Aside0.mk A180
        clear A180
        by_cases c19 : t156 = true
        ·subst c19
         have H1 : ((spec_l06Can.f s0_0 s0_1 s0_2 t153 t154 x9_2 a2).bind fun t157 => (spec_l06Move.j2 k2 a2 x8_1 x9_2 t157 s0_0 s0_1 s0_2 s1_0 x153000_2 t153 t154)) = some r := by rw [if_pos rfl] at H; exact H
         clear H
         have H := H1
         clear H1
         replace H := Option.bind_eq_some_iff.mp H
         obtain ⟨t157, A200, H⟩ := H
         replace H : (spec_l06Move.j2 k2 a2 x8_1 x9_2 t157 s0_0 s0_1 s0_2 s1_0 x153000_2 t153 t154) = some r := H
         have A20 := Aside0.mk A200
         clear A200
         have H' := Aside0.mk H
         clear H
         have hnb21 := NB155_0.out
         have hnc21 := NB0_155.out
         have hnb22 := NB155_1.out
         have hnc22 := NB1_155.out
         have hnb23 := NB155_151.out
         have hnc23 := NB151_155.out
         have hnb24 := NB155_152.out
         have hnc24 := NB152_155.out
         have hcz25_0 : w12.cell? ⟨gb155, 0, none⟩ = some (.int .i8 0) := bc_ BK155.out 0
         have hcz25_1 : w12.cell? ⟨gb155, 1, none⟩ = some (.int .i8 0) := bc_ BK155.out 1
         have hfz25_0 := blk_frozen BK155.out 0
         have hfz25_1 := blk_frozen BK155.out 1
         go_wp2_with (first | ((with_reducible refine gate_callee (f := 40) rfl ?_); refine goesL_ (some 27) rfl rfl Tryd.func40 (by kernel_rfl) rfl #[.pointer (some ⟨g1, 0, none⟩), .agg #[.int .i8 t153, .int .i8 t154], .int .i64 x9_2] rfl (by (try simp only [List.map_toArray, List.map_cons, List.map_nil]); first | done | rfl | (simp only [List.length_drop, List.length_take]; rfl)) ?_; (with_reducible refine (spec_l06Has.calls g1 s1_0 t153 t154 x9_2 true _ ?side1 A18.out).mono ?_); (case side1 => exact (by (with_reducible repeat (first | refine blk_drewN ?_ _ | refine blk_drew ?_ | refine blk_alloc ?_ _)); refine blk_far ?_ NB1_155.out _; (with_reducible repeat (first | refine blk_drewN ?_ _ | refine blk_drew ?_ | refine blk_alloc ?_ _)); refine blk_far ?_ NB1_155.out _; (with_reducible repeat (first | refine blk_drewN ?_ _ | refine blk_drew ?_ | refine blk_alloc ?_ _)); exact BK1.out)); rintro e w26 ⟨rfl, hb⟩; refine ⟨_, rfl, ?_⟩; have n0_ := Aside0.mk (blk_below (g := g0) (o := .cells (mixA (Value.int .u16) [.int .i8 s0_0, .int .i8 s0_1] s0_2) 31 (0, 0)) (by (with_reducible repeat (first | refine blk_drewN ?_ _ | refine blk_drew ?_ | refine blk_alloc ?_ _)); refine blk_far ?_ NB0_155.out _; (with_reducible repeat (first | refine blk_drewN ?_ _ | refine blk_drew ?_ | refine blk_alloc ?_ _)); refine blk_far ?_ NB0_155.out _; (with_reducible repeat (first | refine blk_drewN ?_ _ | refine blk_drew ?_ | refine blk_alloc ?_ _)); exact BK0.out) hb); have n1_ := Aside0.mk (blk_below (g := g1) (o := .cells (mixA (Value.int .u16) [] s1_0) 28 (0, 0)) (by (with_reducible repeat (first | refine blk_drewN ?_ _ | refine blk_drew ?_ | refine blk_alloc ?_ _)); refine blk_far ?_ NB1_155.out _; (with_reducible repeat (first | refine blk_drewN ?_ _ | refine blk_drew ?_ | refine blk_alloc ?_ _)); refine blk_far ?_ NB1_155.out _; (with_reducible repeat (first | refine blk_drewN ?_ _ | refine blk_drew ?_ | refine blk_alloc ?_ _)); exact BK1.out) hb); have n2_ := Aside0.mk (blk_below (g := gb151) (o := .cells (mixA (Value.int .u16) [] (LA.zero 40)) 28 (0, 0)) (by (with_reducible repeat (first | refine blk_drewN ?_ _ | refine blk_drew ?_ | refine blk_alloc ?_ _)); refine blk_far ?_ NB151_155.out _; (with_reducible repeat (first | refine blk_drewN ?_ _ | refine blk_drew ?_ | refine blk_alloc ?_ _)); refine blk_far ?_ NB151_155.out _; (with_reducible repeat (first | refine blk_drewN ?_ _ | refine blk_drew ?_ | refine blk_alloc ?_ _)); exact BK151.out) hb); have n3_ := Aside0.mk (blk_below (g := gb152) (o := .cells (mixA (Value.int .u16) [] x153000_2) 28 (0, 0)) (by (with_reducible repeat (first | refine blk_drewN ?_ _ | refine blk_drew ?_ | refine blk_alloc ?_ _)); refine blk_far ?_ NB152_155.out _; (with_reducible repeat (first | refine blk_drewN ?_ _ | refine blk_drew ?_ | refine blk_alloc ?_ _)); refine blk_far ?_ NB152_155.out _; (with_reducible repeat (first | refine blk_drewN ?_ _ | refine blk_drew ?_ | refine blk_alloc ?_ _)); exact BK152.out) hb); have n4_ := Aside0.mk (blk_below (g := gb155) (o := .cells #[.int .i8 t153, .int .i8 t154] 41 (0, 0)) (by (with_reducible repeat (first | refine blk_drewN ?_ _ | refine blk_drew ?_ | refine blk_alloc ?_ _)); refine blk_put (cs := #[.int .i8 t153, .int .i8 0]) ?_ 1 _ rfl; (with_reducible repeat (first | refine blk_drewN ?_ _ | refine blk_drew ?_ | refine blk_alloc ?_ _)); refine blk_put (cs := #[.int .i8 0, .int .i8 0]) ?_ 0 _ rfl; (with_reducible repeat (first | refine blk_drewN ?_ _ | refine blk_drew ?_ | refine blk_alloc ?_ _)); exact BK155.out) hb); have n5_ := bst HB hb; clear BK0; clear BK1; clear BK151; clear BK152; clear BK155; clear HB; have BK0 := n0_; have BK1 := n1_; have BK151 := n2_; have BK152 := n3_; have BK155 := n4_; have HB := n5_; clear n0_ n1_ n2_ n3_ n4_ n5_; (try clear hb); (try clear hb2); (try clear hk); (try clear hi); have hcz27_0 : w26.cell? ⟨gb155, 0, none⟩ = some (.int .i8 t153) := (blk_cell BK155.out 0).trans rfl; have hcz27_1 : w26.cell? ⟨gb155, 1, none⟩ = some (.int .i8 t154) := (blk_cell BK155.out 1).trans rfl; have hfz27_0 := blk_frozen BK155.out 0; have hfz27_1 := blk_frozen BK155.out 1) | (go_at_call 22; (with_reducible refine (spec_l06Can.calls g0 s0_0 s0_1 s0_2 t153 t154 x9_2 a2 t157 _ ?side1 A20.out).mono ?_); (case side1 => exact (pk BK0)); rintro e w28 ⟨rfl, hb⟩; have n0_ := bkb BK0 hb; have n1_ := bkb BK1 hb; have n2_ := bkb BK151 hb; have n3_ := bkb BK152 hb; have n4_ := bkb BK155 hb; have n5_ := bst HB hb; clear BK0; clear BK1; clear BK151; clear BK152; clear BK155; clear HB; have BK0 := n0_; have BK1 := n1_; have BK151 := n2_; have BK152 := n3_; have BK155 := n4_; have HB := n5_; clear n0_ n1_ n2_ n3_ n4_ n5_; (try clear hb); (try clear hb2); (try clear hk); (try clear hi)))
         go_meet
         case rel => exact ⟨_, (t157), (by first | rfl | (simp; done) | (simp [*]; done)), H', ⟨by have := HK1.out; have := HK2.out; first | omega | exact Nat.le_refl _⟩, ⟨pk BK0⟩, ⟨pk BK1⟩, ⟨pk BK151⟩, ⟨pk BK152⟩, ⟨pk BK155⟩, ⟨pbs HB⟩⟩
        ·replace c19 := Bool.eq_false_iff.mpr c19
         subst c19
         have H1 : (spec_l06Move.j2 k2 a2 x8_1 x9_2 false s0_0 s0_1 s0_2 s1_0 x153000_2 t153 t154) = some r := by rw [if_neg (show ¬ (false = true) by decide)] at H; exact H
         clear H
         have H := H1
         clear H1
         have H' := Aside0.mk H
         clear H
         have hnb29 := NB155_0.out
         have hnc29 := NB0_155.out
         have hnb30 := NB155_1.out
         have hnc30 := NB1_155.out
         have hnb31 := NB155_151.out
         have hnc31 := NB151_155.out
         have hnb32 := NB155_152.out
         have hnc32 := NB152_155.out
         have hcz33_0 : w12.cell? ⟨gb155, 0, none⟩ = some (.int .i8 0) := bc_ BK155.out 0
         have hcz33_1 : w12.cell? ⟨gb155, 1, none⟩ = some (.int .i8 0) := bc_ BK155.out 1
         have hfz33_0 := blk_frozen BK155.out 0
         have hfz33_1 := blk_frozen BK155.out 1
         go_wp2_with (first | ((with_reducible refine gate_callee (f := 40) rfl ?_); refine goesL_ (some 27) rfl rfl Tryd.func40 (by kernel_rfl) rfl #[.pointer (some ⟨g1, 0, none⟩), .agg #[.int .i8 t153, .int .i8 t154], .int .i64 x9_2] rfl (by (try simp only [List.map_toArray, List.map_cons, List.map_nil]); first | done | rfl | (simp only [List.length_drop, List.length_take]; rfl)) ?_; (with_reducible refine (spec_l06Has.calls g1 s1_0 t153 t154 x9_2 false _ ?side1 A18.out).mono ?_); (case side1 => exact (by (with_reducible repeat (first | refine blk_drewN ?_ _ | refine blk_drew ?_ | refine blk_alloc ?_ _)); refine blk_far ?_ NB1_155.out _; (with_reducible repeat (first | refine blk_drewN ?_ _ | refine blk_drew ?_ | refine blk_alloc ?_ _)); refine blk_far ?_ NB1_155.out _; (with_reducible repeat (first | refine blk_drewN ?_ _ | refine blk_drew ?_ | refine blk_alloc ?_ _)); exact BK1.out)); rintro e w34 ⟨rfl, hb⟩; refine ⟨_, rfl, ?_⟩; have n0_ := Aside0.mk (blk_below (g := g0) (o := .cells (mixA (Value.int .u16) [.int .i8 s0_0, .int .i8 s0_1] s0_2) 31 (0, 0)) (by (with_reducible repeat (first | refine blk_drewN ?_ _ | refine blk_drew ?_ | refine blk_alloc ?_ _)); refine blk_far ?_ NB0_155.out _; (with_reducible repeat (first | refine blk_drewN ?_ _ | refine blk_drew ?_ | refine blk_alloc ?_ _)); refine blk_far ?_ NB0_155.out _; (with_reducible repeat (first | refine blk_drewN ?_ _ | refine blk_drew ?_ | refine blk_alloc ?_ _)); exact BK0.out) hb); have n1_ := Aside0.mk (blk_below (g := g1) (o := .cells (mixA (Value.int .u16) [] s1_0) 28 (0, 0)) (by (with_reducible repeat (first | refine blk_drewN ?_ _ | refine blk_drew ?_ | refine blk_alloc ?_ _)); refine blk_far ?_ NB1_155.out _; (with_reducible repeat (first | refine blk_drewN ?_ _ | refine blk_drew ?_ | refine blk_alloc ?_ _)); refine blk_far ?_ NB1_155.out _; (with_reducible repeat (first | refine blk_drewN ?_ _ | refine blk_drew ?_ | refine blk_alloc ?_ _)); exact BK1.out) hb); have n2_ := Aside0.mk (blk_below (g := gb151) (o := .cells (mixA (Value.int .u16) [] (LA.zero 40)) 28 (0, 0)) (by (with_reducible repeat (first | refine blk_drewN ?_ _ | refine blk_drew ?_ | refine blk_alloc ?_ _)); refine blk_far ?_ NB151_155.out _; (with_reducible repeat (first | refine blk_drewN ?_ _ | refine blk_drew ?_ | refine blk_alloc ?_ _)); refine blk_far ?_ NB151_155.out _; (with_reducible repeat (first | refine blk_drewN ?_ _ | refine blk_drew ?_ | refine blk_alloc ?_ _)); exact BK151.out) hb); have n3_ := Aside0.mk (blk_below (g := gb152) (o := .cells (mixA (Value.int .u16) [] x153000_2) 28 (0, 0)) (by (with_reducible repeat (first | refine blk_drewN ?_ _ | refine blk_drew ?_ | refine blk_alloc ?_ _)); refine blk_far ?_ NB152_155.out _; (with_reducible repeat (first | refine blk_drewN ?_ _ | refine blk_drew ?_ | refine blk_alloc ?_ _)); refine blk_far ?_ NB152_155.out _; (with_reducible repeat (first | refine blk_drewN ?_ _ | refine blk_drew ?_ | refine blk_alloc ?_ _)); exact BK152.out) hb); have n4_ := Aside0.mk (blk_below (g := gb155) (o := .cells #[.int .i8 t153, .int .i8 t154] 41 (0, 0)) (by (with_reducible repeat (first | refine blk_drewN ?_ _ | refine blk_drew ?_ | refine blk_alloc ?_ _)); refine blk_put (cs := #[.int .i8 t153, .int .i8 0]) ?_ 1 _ rfl; (with_reducible repeat (first | refine blk_drewN ?_ _ | refine blk_drew ?_ | refine blk_alloc ?_ _)); refine blk_put (cs := #[.int .i8 0, .int .i8 0]) ?_ 0 _ rfl; (with_reducible repeat (first | refine blk_drewN ?_ _ | refine blk_drew ?_ | refine blk_alloc ?_ _)); exact BK155.out) hb); have n5_ := bst HB hb; clear BK0; clear BK1; clear BK151; clear BK152; clear BK155; clear HB; have BK0 := n0_; have BK1 := n1_; have BK151 := n2_; have BK152 := n3_; have BK155 := n4_; have HB := n5_; clear n0_ n1_ n2_ n3_ n4_ n5_; (try clear hb); (try clear hb2); (try clear hk); (try clear hi)))
         go_meet
         case rel => exact ⟨_, (false), (by first | rfl | (simp; done) | (simp [*]; done)), H', ⟨by have := HK1.out; have := HK2.out; first | omega | exact Nat.le_refl _⟩, ⟨pk BK0⟩, ⟨pk BK1⟩, ⟨pk BK151⟩, ⟨pk BK152⟩, ⟨pk BK155⟩, ⟨pbs HB⟩⟩
       case rest =>
        clear HC10
        try clear c1
        try clear c2
        try clear p2
        try clear c3
        try clear c4
        try clear c5
        try clear c7
        try clear c7b0
        try clear c8
        try clear c8b0
        try clear c13
        try clear c14
        try clear c15
        try clear c16
        try clear c19
        try clear c21
        try clear c22
        try clear c23
        try clear c24
        try clear c29
        try clear c30
        try clear c31
        try clear c32
        try clear hcz17_0
        try clear hcz17_1
        try clear hcz25_0
        try clear hcz25_1
        try clear hcz27_0
        try clear hcz27_1
        try clear hcz33_0
        try clear hcz33_1
        try clear hfz17_0
        try clear hfz17_1
        try clear hfz25_0
        try clear hfz25_1
        try clear hfz27_0
        try clear hfz27_1
        try clear hfz33_0
        try clear hfz33_1
        try clear p2
        obtain ⟨kq, x34_9, rfl, HA, HJ9, BK0, BK1, BK151, BK152, BK155, HB⟩ := hcut
        cases kq with
        | zero => exact absurd HA.out (by simp [spec_l06Move.j2])
        | succ kj9 =>
         have H := HA.out
         clear HA
         simp only [spec_l06Move.j2] at H
         by_cases c35 : x34_9 = true
         ·subst c35
          have H1 : ((spec_l06Made.f t153 t154 x9_2 a2).bind fun bt158 => ((spec_l06Put.f x153000_2 bt158.1 bt158.2.1 bt158.2.2).bind fun t162 => (spec_l06Move.l1 kj9 a2 x8_1 (wrap64 (x9_2 + 1)) s0_0 s0_1 s0_2 s1_0 t162))) = some r := by rw [if_pos rfl] at H; exact H
          clear H
          have H := H1
          clear H1
          replace H := Option.bind_eq_some_iff.mp H
          obtain ⟨⟨t158, t159, t160⟩, A360, H⟩ := H
          replace H : ((spec_l06Put.f x153000_2 t158 t159 t160).bind fun t162 => (spec_l06Move.l1 kj9 a2 x8_1 (wrap64 (x9_2 + 1)) s0_0 s0_1 s0_2 s1_0 t162)) = some r := H
          have A36 := Aside0.mk A360
          clear A360
          replace H := Option.bind_eq_some_iff.mp H
          obtain ⟨t162, A370, H⟩ := H
          replace H : (spec_l06Move.l1 kj9 a2 x8_1 (wrap64 (x9_2 + 1)) s0_0 s0_1 s0_2 s1_0 t162) = some r := H
          have A37 := Aside0.mk A370
          clear A370
          have H' := Aside0.mk H
          clear H
          have hnb38 := NB155_0.out
          have hnc38 := NB0_155.out
          have hnb39 := NB155_1.out
          have hnc39 := NB1_155.out
          have hnb40 := NB155_151.out
          have hnc40 := NB151_155.out
          have hnb41 := NB155_152.out
          have hnc41 := NB152_155.out
          have hcz42_0 : wc.cell? ⟨gb155, 0, none⟩ = some (.int .i8 t153) := bc_ BK155.out 0
          have hcz42_1 : wc.cell? ⟨gb155, 1, none⟩ = some (.int .i8 t154) := bc_ BK155.out 1
          have hfz42_0 := blk_frozen BK155.out 0
          have hfz42_1 := blk_frozen BK155.out 1
          go_wp2_with (first | ((with_reducible refine gate_callee (f := 23) rfl ?_); refine goesL_ (some 39) rfl rfl Tryd.func23 (by kernel_rfl) rfl #[.agg #[.int .i8 t153, .int .i8 t154], .int .i64 x9_2, .int .u8 a2] rfl (by (try simp only [List.map_toArray, List.map_cons, List.map_nil]); first | done | rfl | (simp only [List.length_drop, List.length_take]; rfl)) ?_; (with_reducible refine (spec_l06Made.calls t153 t154 x9_2 a2 t158 t159 t160 _ A36.out).mono ?_); rintro e w43 ⟨rfl, hb⟩; refine ⟨_, rfl, ?_⟩; have n0_ := bkb BK0 hb; have n1_ := bkb BK1 hb; have n2_ := bkb BK151 hb; have n3_ := bkb BK152 hb; have n4_ := bkb BK155 hb; have n5_ := bst HB hb; clear BK0; clear BK1; clear BK151; clear BK152; clear BK155; clear HB; have BK0 := n0_; have BK1 := n1_; have BK151 := n2_; have BK152 := n3_; have BK155 := n4_; have HB := n5_; clear n0_ n1_ n2_ n3_ n4_ n5_; (try clear hb); (try clear hb2); (try clear hk); (try clear hi)) | ((with_reducible refine gate_dst (N := 11) rfl ?_); refine box_event ?hg (N := 11) ?hd (cs := #[.int .i8 0, .int .i8 0]) (t := 41) ?hr ?_; (case hd => rfl); (case hg => rfl); (case hr => first | (go_simp; done) | (go_simp; rfl)); intro gb161 hg w44 hbox hb; have n0_ := bkb BK0 hb; have n1_ := bkb BK1 hb; have n2_ := bkb BK151 hb; have n3_ := bkb BK152 hb; have n4_ := bkb BK155 hb; have n5_ := bst HB hb; have n6_ := Aside0.mk (hbox); have n7_ := gwl HB hg; have n8_ := gwl HB hg; have n9_ := nbl BK0 hg; have n10_ := nbg BK0 hg; have n11_ := nbl BK1 hg; have n12_ := nbg BK1 hg; have n13_ := nbl BK151 hg; have n14_ := nbg BK151 hg; have n15_ := nbl BK152 hg; have n16_ := nbg BK152 hg; have n17_ := nbl BK155 hg; have n18_ := nbg BK155 hg; clear BK0; clear BK1; clear BK151; clear BK152; clear BK155; clear HB; have BK0 := n0_; have BK1 := n1_; have BK151 := n2_; have BK152 := n3_; have BK155 := n4_; have HB := n5_; have BK161 := n6_; have GW161 := n7_; have GE161 := n8_; have NB0_161 := n9_; have NB161_0 := n10_; have NB1_161 := n11_; have NB161_1 := n12_; have NB151_161 := n13_; have NB161_151 := n14_; have NB152_161 := n15_; have NB161_152 := n16_; have NB155_161 := n17_; have NB161_155 := n18_; clear n0_ n1_ n2_ n3_ n4_ n5_ n6_ n7_ n8_ n9_ n10_ n11_ n12_ n13_ n14_ n15_ n16_ n17_ n18_; clear hb hbox hg; have hnb45 := NB161_0.out; have hnc45 := NB0_161.out; have hnb46 := NB161_1.out; have hnc46 := NB1_161.out; have hnb47 := NB161_151.out; have hnc47 := NB151_161.out; have hnb48 := NB161_152.out; have hnc48 := NB152_161.out; have hnb49 := NB161_155.out; have hnc49 := NB155_161.out; have hcz50_0 : w44.cell? ⟨gb161, 0, none⟩ = some (.int .i8 0) := (blk_cell BK161.out 0).trans rfl; have hcz50_1 : w44.cell? ⟨gb161, 1, none⟩ = some (.int .i8 0) := (blk_cell BK161.out 1).trans rfl; have hfz50_0 := blk_frozen BK161.out 0; have hfz50_1 := blk_frozen BK161.out 1) | ((with_reducible refine gate_callee (f := 24) rfl ?_); refine goesL_ (some 44) rfl rfl Tryd.func24 (by kernel_rfl) rfl #[.pointer (some ⟨gb152, 0, none⟩), .agg #[.int .i8 t158, .int .i8 t159], .int .i64 t160] rfl (by (try simp only [List.map_toArray, List.map_cons, List.map_nil]); first | done | rfl | (simp only [List.length_drop, List.length_take]; rfl)) ?_; (with_reducible refine (spec_l06Put.calls gb152 x153000_2 t158 t159 t160 t162 w _ ?side1 ?side2 A37.out).mono ?_); (case side1 => exact ⟨(by (with_reducible repeat (first | refine blk_drewN ?_ _ | refine blk_drew ?_ | refine blk_alloc ?_ _)); refine blk_far ?_ NB152_161.out _; (with_reducible repeat (first | refine blk_drewN ?_ _ | refine blk_drew ?_ | refine blk_alloc ?_ _)); refine blk_far ?_ NB152_161.out _; (with_reducible repeat (first | refine blk_drewN ?_ _ | refine blk_drew ?_ | refine blk_alloc ?_ _)); exact BK152.out), GE152.out⟩); (case side2 => repeat (first | (with_reducible first | exact HB.out | apply below_alloc | apply pw_below_drewN | apply below_drew1 | refine below_set ?_ GE0.out | refine below_set ?_ GE1.out | refine below_set ?_ GE151.out | refine below_set ?_ GE152.out | refine below_set ?_ GE155.out | refine below_set ?_ GE161.out) | exact HB.out)); rintro e w51 ⟨rfl, hi, hb, hk⟩; refine ⟨_, rfl, ?_⟩; have n0_ := Aside0.mk (KeepBut.blk hk (g' := g0) (o := .cells (mixA (Value.int .u16) [.int .i8 s0_0, .int .i8 s0_1] s0_2) 31 (0, 0)) (by (with_reducible repeat (first | refine blk_drewN ?_ _ | refine blk_drew ?_ | refine blk_alloc ?_ _)); refine blk_far ?_ NB0_161.out _; (with_reducible repeat (first | refine blk_drewN ?_ _ | refine blk_drew ?_ | refine blk_alloc ?_ _)); refine blk_far ?_ NB0_161.out _; (with_reducible repeat (first | refine blk_drewN ?_ _ | refine blk_drew ?_ | refine blk_alloc ?_ _)); exact BK0.out) NB0_152.out (by simp)); have n1_ := Aside0.mk (KeepBut.blk hk (g' := g1) (o := .cells (mixA (Value.int .u16) [] s1_0) 28 (0, 0)) (by (with_reducible repeat (first | refine blk_drewN ?_ _ | refine blk_drew ?_ | refine blk_alloc ?_ _)); refine blk_far ?_ NB1_161.out _; (with_reducible repeat (first | refine blk_drewN ?_ _ | refine blk_drew ?_ | refine blk_alloc ?_ _)); refine blk_far ?_ NB1_161.out _; (with_reducible repeat (first | refine blk_drewN ?_ _ | refine blk_drew ?_ | refine blk_alloc ?_ _)); exact BK1.out) NB1_152.out (by simp)); have n2_ := Aside0.mk (KeepBut.blk hk (g' := gb151) (o := .cells (mixA (Value.int .u16) [] (LA.zero 40)) 28 (0, 0)) (by (with_reducible repeat (first | refine blk_drewN ?_ _ | refine blk_drew ?_ | refine blk_alloc ?_ _)); refine blk_far ?_ NB151_161.out _; (with_reducible repeat (first | refine blk_drewN ?_ _ | refine blk_drew ?_ | refine blk_alloc ?_ _)); refine blk_far ?_ NB151_161.out _; (with_reducible repeat (first | refine blk_drewN ?_ _ | refine blk_drew ?_ | refine blk_alloc ?_ _)); exact BK151.out) NB151_152.out (by simp)); have n3_ := Aside0.mk (KeepBut.blk hk (g' := gb155) (o := .cells #[.int .i8 t153, .int .i8 t154] 41 (0, 0)) (by (with_reducible repeat (first | refine blk_drewN ?_ _ | refine blk_drew ?_ | refine blk_alloc ?_ _)); refine blk_far ?_ NB155_161.out _; (with_reducible repeat (first | refine blk_drewN ?_ _ | refine blk_drew ?_ | refine blk_alloc ?_ _)); refine blk_far ?_ NB155_161.out _; (with_reducible repeat (first | refine blk_drewN ?_ _ | refine blk_drew ?_ | refine blk_alloc ?_ _)); exact BK155.out) NB155_152.out (by simp)); have n4_ := Aside0.mk (KeepBut.blk hk (g' := gb161) (o := .cells #[.int .i8 t158, .int .i8 t159] 41 (0, 0)) (by (with_reducible repeat (first | refine blk_drewN ?_ _ | refine blk_drew ?_ | refine blk_alloc ?_ _)); refine blk_put (cs := #[.int .i8 t158, .int .i8 0]) ?_ 1 _ rfl; (with_reducible repeat (first | refine blk_drewN ?_ _ | refine blk_drew ?_ | refine blk_alloc ?_ _)); refine blk_put (cs := #[.int .i8 0, .int .i8 0]) ?_ 0 _ rfl; (with_reducible repeat (first | refine blk_drewN ?_ _ | refine blk_drew ?_ | refine blk_alloc ?_ _)); exact BK161.out) NB161_152.out (by simp)); have n5_ := Aside0.mk (hb); have n6_ := Aside0.mk (hi.1); clear BK0; clear BK1; clear BK151; clear BK155; clear BK161; clear HB; clear BK152; have BK0 := n0_; have BK1 := n1_; have BK151 := n2_; have BK155 := n3_; have BK161 := n4_; have HB := n5_; have BK152 := n6_; clear n0_ n1_ n2_ n3_ n4_ n5_ n6_; (try clear hb); (try clear hb2); (try clear hk); (try clear hi)))
          go_roundg kj9
          case measure => have := HK1.out; have := HK2.out; have := HJ9.out; omega
          case rel => exact ⟨(wrap64 (x9_2 + 1)), (t162), (by first | rfl | (simp; done) | (simp [*]; done)), H', ⟨by have := HK1.out; have := HK2.out; have := HJ9.out; omega⟩, ⟨pk BK0⟩, ⟨pk BK1⟩, ⟨pk BK151⟩, ⟨pk BK152⟩, ⟨pbs HB⟩⟩
         ·replace c35 := Bool.eq_false_iff.mpr c35
          subst c35
          have H1 : (spec_l06Move.l1 kj9 a2 x8_1 (wrap64 (x9_2 + 1)) s0_0 s0_1 s0_2 s1_0 x153000_2) = some r := by rw [if_neg (show ¬ (false = true) by decide)] at H; exact H
          clear H
          have H := H1
          clear H1
          have H' := Aside0.mk H
          clear H
          go_wp2
          go_roundg kj9
          case measure => have := HK1.out; have := HK2.out; have := HJ9.out; omega
          case rel => exact ⟨(wrap64 (x9_2 + 1)), (x153000_2), (by first | rfl | (simp; done) | (simp [*]; done)), H', ⟨by have := HK1.out; have := HK2.out; have := HJ9.out; omega⟩, ⟨pk BK0⟩, ⟨pk BK1⟩, ⟨pk BK151⟩, ⟨pk BK152⟩, ⟨pbs HB⟩⟩
      ·rw [if_neg c8] at H
       have c8b0 : decide (x9_2 < 4) = false := decide_eq_false c8
       clear c8
       have H' := Aside0.mk H
       clear H
       go_wp2
       go_roundg k2
       case measure => have := HK1.out; have := HK2.out; omega
       case rel => exact ⟨(wrap64 (x8_1 + 1)), (x153000_2), (by first | rfl | (simp; done) | (simp [*]; done)), H', ⟨by have := HK1.out; have := HK2.out; omega⟩, ⟨pk BK0⟩, ⟨pk BK1⟩, ⟨pk BK151⟩, ⟨pk BK152⟩, ⟨pbs HB⟩⟩
   ·rw [if_neg c7] at H
    have c7b0 : decide (x8_1 < 100) = false := decide_eq_false c7
    clear c7
    obtain rfl := Option.some.inj H
    go_wp2_with (first | ((with_reducible refine gate_dst (N := 45) rfl ?_); refine wpList_run0 (v := .agg (mixA (Value.int .u16) [] x153000_1)) rfl (load_mix_run (P := Tryd.prog) 28 (.tmp 7) rfl gb152 rfl (show World.rangeAt _ gb152 0 ([] ++ x153000_1.l.map (Value.int .u16)) from mix_range (show (World.heap _)[gb152]? = some (.cells (mixA (Value.int .u16) [] x153000_1) 28 (0, 0)) from by (with_reducible repeat (first | refine blk_drewN ?_ _ | refine blk_drew ?_ | refine blk_alloc ?_ _)); exact BK152.out)) Tryd.underlying28 rfl (by kernel_rfl) rfl) ?_) | ((with_reducible refine gate_store (p := 6) rfl ?_); refine wpList_store_lmix rfl 28 _ _ rfl gb151 (e := (Value.int .u16)) (cs' := []) (W' := x153000_1) (cs := []) (W := (LA.zero 40)) (T := 28) rfl rfl (pk BK151) rfl (by kernel_rfl) rfl (fun _ => rfl) rfl ?_; intro w53 hi hk hbl; have n0_ := Aside0.mk (KeepBut.blk hk (g' := g0) (o := .cells (mixA (Value.int .u16) [.int .i8 s0_0, .int .i8 s0_1] s0_2) 31 (0, 0)) (pk BK0) NB0_151.out (by simp)); have n1_ := Aside0.mk (KeepBut.blk hk (g' := g1) (o := .cells (mixA (Value.int .u16) [] s1_0) 28 (0, 0)) (pk BK1) NB1_151.out (by simp)); have n2_ := Aside0.mk (KeepBut.blk hk (g' := gb152) (o := .cells (mixA (Value.int .u16) [] x153000_1) 28 (0, 0)) (pk BK152) NB152_151.out (by simp)); have n3_ := Aside0.mk (hbl _ _ (pbs HB) GE151.out); have n4_ := Aside0.mk (hi); clear BK0; clear BK1; clear BK152; clear HB; clear BK151; have BK0 := n0_; have BK1 := n1_; have BK152 := n2_; have HB := n3_; have BK151 := n4_; clear n0_ n1_ n2_ n3_ n4_; clear hi hk hbl))
    refine bodyPost_ret (results_cell_row rfl _ _ gb151 28 (mixA (Value.int .u16) [] x153000_1) (0, 0) _ rfl (pk BK151) Tryd.underlying28 rfl (by rw [mix_size]; kernel_rfl)) rfl ?_
    exact ⟨by first | rfl | (simp [errW_none, errW_some] <;> rfl) | (simp [*, errW_none, errW_some] <;> rfl), pbs HB⟩
mutual
def impl_Crowd_isIn.l0 : Nat → LA 40 → Int → Int → Int → LA 10 → Option (Bool)
 | 0, _, _, _, _, _ => none
 | k + 1, x10, x11, x232000, x232001, x232002 => if x11 < 4 then (if 0 ≤ x11 then (impl_Crowd_isIn.l1 k x10 x11 (LA.row x10 10 x11) 0 x232000 x232001 x232002) else (none)) else (some true)
def impl_Crowd_isIn.l1 : Nat → LA 40 → Int → LA 10 → Int → Int → Int → LA 10 → Option (Bool)
 | 0, _, _, _, _, _, _, _ => none
 | k + 1, x10, x11, x14, x15, x232000, x232001, x232002 => if x15 < 10 then (if 0 ≤ x15 then (impl_Crowd_isIn.l2 k x15 (rd x14.l x15) x10 x11 x14 x15 0 x232000 x232001 x232002) else (none)) else (impl_Crowd_isIn.l0 k x10 (wrap64 (x11 + 1)) x232000 x232001 x232002)
def impl_Crowd_isIn.l2 : Nat → Int → Int → LA 40 → Int → LA 10 → Int → Int → Int → Int → LA 10 → Option (Bool)
 | 0, _, _, _, _, _, _, _, _, _, _ => none
 | k + 1, x7, x8, x10, x11, x14, x15, x19, x232000, x232001, x232002 => if x19 < 16 then (if 0 ≤ x19 then (if (Go.bits .and .u16 (shr .u16 x8 x19) 1) = 1 then ((impl_Room_isFree.f x232000 x232001 x232002 x19 (IntKind.i8.wrap (x7))).bind fun t233 => (if t233 = true then (impl_Crowd_isIn.l2 k x7 x8 x10 x11 x14 x15 (IntKind.i8.wrap (x19 + 1)) x232000 x232001 x232002) else (some false))) else (impl_Crowd_isIn.l2 k x7 x8 x10 x11 x14 x15 (IntKind.i8.wrap (x19 + 1)) x232000 x232001 x232002)) else (none)) else (impl_Crowd_isIn.l1 k x10 x11 x14 (wrap64 (x15 + 1)) x232000 x232001 x232002)
end
def impl_Crowd_isIn.f (k : Nat) (a0 : LA 40) (a1_0 : Int) (a1_1 : Int) (a1_2 : LA 10) : Option (Bool) := impl_Crowd_isIn.l0 k a0 0 a1_0 a1_1 a1_2
theorem impl_Crowd_isIn.mono_l : ∀ k, (∀ y0 y1 y2 y3 y4, LeO (impl_Crowd_isIn.l0 k y0 y1 y2 y3 y4) (impl_Crowd_isIn.l0 (k + 1) y0 y1 y2 y3 y4)) ∧ (∀ y0 y1 y2 y3 y4 y5 y6, LeO (impl_Crowd_isIn.l1 k y0 y1 y2 y3 y4 y5 y6) (impl_Crowd_isIn.l1 (k + 1) y0 y1 y2 y3 y4 y5 y6)) ∧ (∀ y0 y1 y2 y3 y4 y5 y6 y7 y8 y9, LeO (impl_Crowd_isIn.l2 k y0 y1 y2 y3 y4 y5 y6 y7 y8 y9) (impl_Crowd_isIn.l2 (k + 1) y0 y1 y2 y3 y4 y5 y6 y7 y8 y9))
 | 0 => ⟨fun _ _ _ _ _ r h => by simp [impl_Crowd_isIn.l0] at h, fun _ _ _ _ _ _ _ r h => by simp [impl_Crowd_isIn.l1] at h, fun _ _ _ _ _ _ _ _ _ _ r h => by simp [impl_Crowd_isIn.l2] at h⟩
 | k + 1 => by
  obtain ⟨ih0, ih1, ih2⟩ := impl_Crowd_isIn.mono_l k
  refine ⟨?_, ?_, ?_⟩
  ·intro y0 y1 y2 y3 y4
   unfold impl_Crowd_isIn.l0
   repeat' first
   | (with_reducible exact ih0 _ _ _ _ _)
   | (with_reducible exact ih1 _ _ _ _ _ _ _)
   | (with_reducible exact ih2 _ _ _ _ _ _ _ _ _ _)
   | (with_reducible exact LeO.refl _)
   | (with_reducible exact LeO.none _)
   | (with_reducible refine LeO.ite ?_ ?_)
   | (with_reducible refine LeO.bind ?_ (fun _ => ?_))
   | exact ih0 _ _ _ _ _
   | exact ih1 _ _ _ _ _ _ _
   | exact ih2 _ _ _ _ _ _ _ _ _ _
   | exact LeO.none _
   | refine LeO.ite ?_ ?_
   | refine LeO.bind ?_ (fun _ => ?_)
  ·intro y0 y1 y2 y3 y4 y5 y6
   unfold impl_Crowd_isIn.l1
   repeat' first
   | (with_reducible exact ih0 _ _ _ _ _)
   | (with_reducible exact ih1 _ _ _ _ _ _ _)
   | (with_reducible exact ih2 _ _ _ _ _ _ _ _ _ _)
   | (with_reducible exact LeO.refl _)
   | (with_reducible exact LeO.none _)
   | (with_reducible refine LeO.ite ?_ ?_)
   | (with_reducible refine LeO.bind ?_ (fun _ => ?_))
   | exact ih0 _ _ _ _ _
   | exact ih1 _ _ _ _ _ _ _
   | exact ih2 _ _ _ _ _ _ _ _ _ _
   | exact LeO.none _
   | refine LeO.ite ?_ ?_
   | refine LeO.bind ?_ (fun _ => ?_)
  ·intro y0 y1 y2 y3 y4 y5 y6 y7 y8 y9
   unfold impl_Crowd_isIn.l2
   repeat' first
   | (with_reducible exact ih0 _ _ _ _ _)
   | (with_reducible exact ih1 _ _ _ _ _ _ _)
   | (with_reducible exact ih2 _ _ _ _ _ _ _ _ _ _)
   | (with_reducible exact LeO.refl _)
   | (with_reducible exact LeO.none _)
   | (with_reducible refine LeO.ite ?_ ?_)
   | (with_reducible refine LeO.bind ?_ (fun _ => ?_))
   | exact ih0 _ _ _ _ _
   | exact ih1 _ _ _ _ _ _ _
   | exact ih2 _ _ _ _ _ _ _ _ _ _
   | exact LeO.none _
   | refine LeO.ite ?_ ?_
   | refine LeO.bind ?_ (fun _ => ?_)
theorem impl_Crowd_isIn.mono : ∀ a0 a1 a2 a3 k, LeO (impl_Crowd_isIn.f k a0 a1 a2 a3) (impl_Crowd_isIn.f (k + 1) a0 a1 a2 a3) := by
 intro a0 a1 a2 a3 k
 obtain ⟨ih0, ih1, ih2⟩ := impl_Crowd_isIn.mono_l k
 unfold impl_Crowd_isIn.f
 repeat' first
   | (with_reducible exact ih0 _ _ _ _ _)
   | (with_reducible exact ih1 _ _ _ _ _ _ _)
   | (with_reducible exact ih2 _ _ _ _ _ _ _ _ _ _)
   | (with_reducible exact LeO.refl _)
   | (with_reducible exact LeO.none _)
   | (with_reducible refine LeO.ite ?_ ?_)
   | (with_reducible refine LeO.bind ?_ (fun _ => ?_))
   | exact ih0 _ _ _ _ _
   | exact ih1 _ _ _ _ _ _ _
   | exact ih2 _ _ _ _ _ _ _ _ _ _
   | exact LeO.none _
   | refine LeO.ite ?_ ?_
   | refine LeO.bind ?_ (fun _ => ?_)
set_option maxHeartbeats 8000000 in
set_option maxRecDepth 100000 in
theorem impl_Crowd_isIn.calls (k : Nat) (a0 : LA 40) (a1_0 : Int) (a1_1 : Int) (a1_2 : LA 10) (r : Bool) (w : World) (h : impl_Crowd_isIn.f k a0 a1_0 a1_1 a1_2 = some r) :
  Calls Tryd.prog 55 #[.agg (mixA (Value.int .u16) [] a0), .agg (mixA (Value.int .u16) [.int .i8 a1_0, .int .i8 a1_1] a1_2)] w fun e w' => e = .returned (.bool r) ∧ Below w.heap.size w w' := by
 have hu31 := Tryd.underlying31
 have hu41 := Tryd.underlying41
 have HB := Aside0.mk (Below.refl w.heap.size w)
 have H : (impl_Crowd_isIn.l0 k a0 0 a1_0 a1_1 a1_2) = some r := h
 clear h
 have H' := Aside0.mk H
 clear H
 go_enter Tryd.func55, Tryd.ntmps55
 go_wp2_with (first | ((with_reducible refine gate_dst (N := 2) rfl ?_); refine box_event ?hg (N := 2) ?hd (cs := (mixA (Value.int .u16) [] a0)) (t := 28) ?hr ?_; (case hd => rfl); (case hg => rfl); (case hr => first | (go_simp; done) | (go_simp; rfl)); intro gb230 hg w3 hbox hb; have n0_ := bst HB hb; have n1_ := Aside0.mk (hbox); have n2_ := gwl HB hg; have n3_ := gwl HB hg; clear HB; have HB := n0_; have BK230 := n1_; have GW230 := n2_; have GE230 := n3_; clear n0_ n1_ n2_ n3_; clear hb hbox hg) | ((with_reducible refine gate_dst (N := 3) rfl ?_); refine box_event ?hg (N := 3) ?hd (cs := (mixA (Value.int .u16) [.int .i8 a1_0, .int .i8 a1_1] a1_2)) (t := 31) ?hr ?_; (case hd => rfl); (case hg => rfl); (case hr => first | (go_simp; done) | (go_simp; rfl)); intro gb231 hg w4 hbox hb; have n0_ := bkb BK230 hb; have n1_ := bst HB hb; have n2_ := Aside0.mk (hbox); have n3_ := gwl HB hg; have n4_ := gwl HB hg; have n5_ := nbl BK230 hg; have n6_ := nbg BK230 hg; clear BK230; clear HB; have BK230 := n0_; have HB := n1_; have BK231 := n2_; have GW231 := n3_; have GE231 := n4_; have NB230_231 := n5_; have NB231_230 := n6_; clear n0_ n1_ n2_ n3_ n4_ n5_ n6_; clear hb hbox hg) | ((with_reducible refine gate_dst (N := 10) rfl ?_); refine wpList_run0 (v := .agg (mixA (Value.int .u16) [] a0)) rfl (load_mix_run (P := Tryd.prog) 28 (.tmp 2) rfl gb230 rfl (show World.rangeAt _ gb230 0 ([] ++ a0.l.map (Value.int .u16)) from mix_range (show (World.heap _)[gb230]? = some (.cells (mixA (Value.int .u16) [] a0) 28 (0, 0)) from by (with_reducible repeat (first | refine blk_drewN ?_ _ | refine blk_drew ?_ | refine blk_alloc ?_ _)); exact BK230.out)) Tryd.underlying28 rfl (by kernel_rfl) rfl) ?_))
 go_loopg [11] k (fun kq v11 w' => ∃ (x11_1 : Int), v11 = .int .i64 x11_1 ∧ Aside0 (impl_Crowd_isIn.l0 kq a0 x11_1 a1_0 a1_1 a1_2 = some r) ∧ Aside0 (kq ≤ k) ∧ Aside0 (w'.heap[gb230]? = some (.cells (mixA (Value.int .u16) [] a0) 28 (0, 0))) ∧ Aside0 (w'.heap[gb231]? = some (.cells (mixA (Value.int .u16) [.int .i8 a1_0, .int .i8 a1_1] a1_2) 31 (0, 0))) ∧ Aside0 (Below w.heap.size w w'))
 case atStart => exact ⟨(0), (by first | rfl | (simp; done) | (simp [*]; done)), H', ⟨Nat.le_refl _⟩, ⟨pk BK230⟩, ⟨pk BK231⟩, ⟨pbs HB⟩⟩
 case round =>
  clear H'
  try clear p2
  try clear c5
  obtain ⟨x11_1, rfl, HA, HK1, BK230, BK231, HB⟩ := hrel
  cases gk with
  | zero => exact absurd HA.out (by simp [impl_Crowd_isIn.l0])
  | succ k1 =>
   have H := HA.out
   clear HA
   simp only [impl_Crowd_isIn.l0] at H
   by_cases c6 : x11_1 < 4
   ·rw [if_pos c6] at H
    have c6b0 : decide (x11_1 < 4) = true := decide_eq_true c6
    clear c6
    by_cases c7 : 0 ≤ x11_1
    ·rw [if_pos c7] at H
     have c7b0 : decide (0 ≤ x11_1) = true := decide_eq_true c7
     clear c7
     have H' := Aside0.mk H
     clear H
     have hixd8 : ∀ W_ : World, (Instr.index 28 (.agg (mixA (Value.int .u16) [] a0)) (.int .i64 x11_1)).run Tryd.prog W_ = .ok (.agg (mixA (Value.int .u16) [] (LA.row a0 10 x11_1))) W_ := fun W_ => idx_lar (c := 4) (m := 10) (e := (Value.int .u16)) Tryd.underlying28 (fun _ => by kernel_rfl) (fun _ => by kernel_rfl) rfl x11_1 (by first | omega | exact of_decide_eq_true (by first | (with_reducible assumption) | assumption)) (by first | omega | exact of_decide_eq_true (by first | (with_reducible assumption) | assumption)) W_
     go_wp2_with (first | ((with_reducible refine gate_dst (N := 6) rfl ?_); refine box_event ?hg (N := 6) ?hd (cs := (mixA (Value.int .u16) [] (LA.zero 10))) (t := 24) ?hr ?_; (case hd => rfl); (case hg => rfl); (case hr => first | (go_simp; done) | (go_simp; rfl)); intro gb232 hg w9 hbox hb; have n0_ := bkb BK230 hb; have n1_ := bkb BK231 hb; have n2_ := bst HB hb; have n3_ := Aside0.mk (hbox); have n4_ := gwl HB hg; have n5_ := gwl HB hg; have n6_ := nbl BK230 hg; have n7_ := nbg BK230 hg; have n8_ := nbl BK231 hg; have n9_ := nbg BK231 hg; clear BK230; clear BK231; clear HB; have BK230 := n0_; have BK231 := n1_; have HB := n2_; have BK232 := n3_; have GW232 := n4_; have GE232 := n5_; have NB230_232 := n6_; have NB232_230 := n7_; have NB231_232 := n8_; have NB232_231 := n9_; clear n0_ n1_ n2_ n3_ n4_ n5_ n6_ n7_ n8_ n9_; clear hb hbox hg) | ((with_reducible refine gate_store (p := 6) rfl ?_); refine wpList_store_lmix rfl 24 _ _ rfl gb232 (e := (Value.int .u16)) (cs' := []) (W' := (LA.row a0 10 x11_1)) (cs := []) (W := (LA.zero 10)) (T := 24) rfl rfl (pk BK232) rfl (by kernel_rfl) rfl (fun _ => rfl) rfl ?_; intro w10 hi hk hbl; have n0_ := Aside0.mk (KeepBut.blk hk (g' := gb230) (o := .cells (mixA (Value.int .u16) [] a0) 28 (0, 0)) (pk BK230) NB230_232.out (by simp)); have n1_ := Aside0.mk (KeepBut.blk hk (g' := gb231) (o := .cells (mixA (Value.int .u16) [.int .i8 a1_0, .int .i8 a1_1] a1_2) 31 (0, 0)) (pk BK231) NB231_232.out (by simp)); have n2_ := Aside0.mk (hbl _ _ (pbs HB) GE232.out); have n3_ := Aside0.mk (hi); clear BK230; clear BK231; clear HB; clear BK232; have BK230 := n0_; have BK231 := n1_; have HB := n2_; have BK232 := n3_; clear n0_ n1_ n2_ n3_; clear hi hk hbl) | ((with_reducible refine gate_dst (N := 14) rfl ?_); refine wpList_run0 (v := .agg (mixA (Value.int .u16) [] (LA.row a0 10 x11_1))) rfl (load_mix_run (P := Tryd.prog) 24 (.tmp 6) rfl gb232 rfl (show World.rangeAt _ gb232 0 ([] ++ (LA.row a0 10 x11_1).l.map (Value.int .u16)) from mix_range (show (World.heap _)[gb232]? = some (.cells (mixA (Value.int .u16) [] (LA.row a0 10 x11_1)) 24 (0, 0)) from by (with_reducible repeat (first | refine blk_drewN ?_ _ | refine blk_drew ?_ | refine blk_alloc ?_ _)); exact BK232.out)) Tryd.underlying24 rfl (by kernel_rfl) rfl) ?_))
     go_loopg [15] k1 (fun kq v15 w' => ∃ (x15_2 : Int), v15 = .int .i64 x15_2 ∧ Aside0 (impl_Crowd_isIn.l1 kq a0 x11_1 (LA.row a0 10 x11_1) x15_2 a1_0 a1_1 a1_2 = some r) ∧ Aside0 (kq ≤ k1) ∧ Aside0 (w'.heap[gb230]? = some (.cells (mixA (Value.int .u16) [] a0) 28 (0, 0))) ∧ Aside0 (w'.heap[gb231]? = some (.cells (mixA (Value.int .u16) [.int .i8 a1_0, .int .i8 a1_1] a1_2) 31 (0, 0))) ∧ Aside0 (w'.heap[gb232]? = some (.cells (mixA (Value.int .u16) [] (LA.row a0 10 x11_1)) 24 (0, 0))) ∧ Aside0 (Below w.heap.size w w'))
     case atStart => exact ⟨(0), (by first | rfl | (simp; done) | (simp [*]; done)), H', ⟨Nat.le_refl _⟩, ⟨pk BK230⟩, ⟨pk BK231⟩, ⟨pk BK232⟩, ⟨pbs HB⟩⟩
     case round =>
      clear H'
      try clear p2
      try clear c5
      try clear c6
      try clear c6b0
      try clear c7
      try clear c7b0
      try clear p2
      obtain ⟨x15_2, rfl, HA, HK2, BK230, BK231, BK232, HB⟩ := hrel
      cases gk with
      | zero => exact absurd HA.out (by simp [impl_Crowd_isIn.l1])
      | succ k2 =>
       have H := HA.out
       clear HA
       simp only [impl_Crowd_isIn.l1] at H
       by_cases c12 : x15_2 < 10
       ·rw [if_pos c12] at H
        have c12b0 : decide (x15_2 < 10) = true := decide_eq_true c12
        clear c12
        by_cases c13 : 0 ≤ x15_2
        ·rw [if_pos c13] at H
         have c13b0 : decide (0 ≤ x15_2) = true := decide_eq_true c13
         clear c13
         have H' := Aside0.mk H
         clear H
         have hixd14 : ∀ W_ : World, (Instr.index 24 (.agg (mixA (Value.int .u16) [] (LA.row a0 10 x11_1))) (.int .i64 x15_2)).run Tryd.prog W_ = .ok (.int .u16 (rd (LA.row a0 10 x11_1).l x15_2)) W_ := fun W_ => idx_la (e := (Value.int .u16)) Tryd.underlying24 (fun _ => by kernel_rfl) (fun _ => by kernel_rfl) x15_2 (by first | omega | exact of_decide_eq_true (by first | (with_reducible assumption) | assumption)) (by first | omega | exact of_decide_eq_true (by first | (with_reducible assumption) | assumption)) W_
         go_wp2
         go_loopg [19] k2 (fun kq v19 w' => ∃ (x19_3 : Int), v19 = .int .i8 x19_3 ∧ Aside0 (impl_Crowd_isIn.l2 kq x15_2 (rd (LA.row a0 10 x11_1).l x15_2) a0 x11_1 (LA.row a0 10 x11_1) x15_2 x19_3 a1_0 a1_1 a1_2 = some r) ∧ Aside0 (kq ≤ k2) ∧ Aside0 (w'.heap[gb230]? = some (.cells (mixA (Value.int .u16) [] a0) 28 (0, 0))) ∧ Aside0 (w'.heap[gb231]? = some (.cells (mixA (Value.int .u16) [.int .i8 a1_0, .int .i8 a1_1] a1_2) 31 (0, 0))) ∧ Aside0 (w'.heap[gb232]? = some (.cells (mixA (Value.int .u16) [] (LA.row a0 10 x11_1)) 24 (0, 0))) ∧ Aside0 (Below w.heap.size w w'))
         case atStart => exact ⟨(0), (by first | rfl | (simp; done) | (simp [*]; done)), H', ⟨Nat.le_refl _⟩, ⟨pk BK230⟩, ⟨pk BK231⟩, ⟨pk BK232⟩, ⟨pbs HB⟩⟩
         case round =>
          clear H'
          try clear c1
          try clear p2
          try clear c5
          try clear c6
          try clear c6b0
          try clear c7
          try clear c7b0
          try clear c12
          try clear c12b0
          try clear c13
          try clear c13b0
          try clear p2
          obtain ⟨x19_3, rfl, HA, HK3, BK230, BK231, BK232, HB⟩ := hrel
          cases gk with
          | zero => exact absurd HA.out (by simp [impl_Crowd_isIn.l2])
          | succ k3 =>
           have H := HA.out
           clear HA
           simp only [impl_Crowd_isIn.l2] at H
           by_cases c15 : x19_3 < 16
           ·rw [if_pos c15] at H
            have c15b0 : decide (x19_3 < 16) = true := decide_eq_true c15
            clear c15
            by_cases c16 : 0 ≤ x19_3
            ·rw [if_pos c16] at H
             have c16b0 := eq_true c16
             have c16b1 : decide (0 ≤ x19_3) = true := decide_eq_true c16
             clear c16
             obtain ⟨ji17, hji17⟩ : ∃ j_ : Int, (shr .u16 (rd (LA.row a0 10 x11_1).l x15_2) x19_3) = j_ := ⟨_, rfl⟩
             replace H : (if (Go.bits .and .u16 (ji17) 1) = 1 then ((impl_Room_isFree.f a1_0 a1_1 a1_2 x19_3 (IntKind.i8.wrap (x15_2))).bind fun t233 => (if t233 = true then (impl_Crowd_isIn.l2 k3 x15_2 (rd (LA.row a0 10 x11_1).l x15_2) a0 x11_1 (LA.row a0 10 x11_1) x15_2 (IntKind.i8.wrap (x19_3 + 1)) a1_0 a1_1 a1_2) else (some false))) else (impl_Crowd_isIn.l2 k3 x15_2 (rd (LA.row a0 10 x11_1).l x15_2) a0 x11_1 (LA.row a0 10 x11_1) x15_2 (IntKind.i8.wrap (x19_3 + 1)) a1_0 a1_1 a1_2)) = some r := by first | (rw [hji17] at H; exact H) | (simp only [hji17] at H ⊢; exact H)
             have hji17_ : ((rd (LA.row a0 10 x11_1).l x15_2) / 2 ^ min x19_3.toNat 16) = ji17 := hji17
             have hji17z : x19_3 ≤ 16 → ((rd (LA.row a0 10 x11_1).l x15_2) / 2 ^ x19_3.toNat) = ji17 := shr_small hji17
             by_cases c18 : (Go.bits .and .u16 (ji17) 1) = 1
             ·rw [if_pos c18] at H
              have c18b0 : ((Go.bits .and .u16 (ji17) 1) == 1) = true := beq_iff_eq.mpr c18
              have c18b1 : ((Go.bits .and .u16 (ji17) 1) != 1) = false := bne_eq_false_iff_eq.mpr c18
              clear c18
              replace H := Option.bind_eq_some_iff.mp H
              obtain ⟨t233, A190, H⟩ := H
              replace H : (if t233 = true then (impl_Crowd_isIn.l2 k3 x15_2 (rd (LA.row a0 10 x11_1).l x15_2) a0 x11_1 (LA.row a0 10 x11_1) x15_2 (IntKind.i8.wrap (x19_3 + 1)) a1_0 a1_1 a1_2) else (some false)) = some r := H
              have A19 := Aside0.mk A190
              clear A190
              by_cases c20 : t233 = true
              ·subst c20
               have H1 : (impl_Crowd_isIn.l2 k3 x15_2 (rd (LA.row a0 10 x11_1).l x15_2) a0 x11_1 (LA.row a0 10 x11_1) x15_2 (IntKind.i8.wrap (x19_3 + 1)) a1_0 a1_1 a1_2) = some r := by rw [if_pos rfl] at H; exact H
               clear H
               have H := H1
               clear H1
               have H' := Aside0.mk H
               clear H
               go_wp2_with (first | ((with_reducible refine gate_dst (N := 28) rfl ?_); refine wpList_run1 (v := .agg (mixA (Value.int .u16) [.int .i8 a1_0, .int .i8 a1_1] a1_2)) (by rfl) (load_mix_run (P := Tryd.prog) 31 (.tmp 3) rfl gb231 rfl (show World.rangeAt _ gb231 0 ([.int .i8 a1_0, .int .i8 a1_1] ++ a1_2.l.map (Value.int .u16)) from mix_range (show (World.heap _)[gb231]? = some (.cells (mixA (Value.int .u16) [.int .i8 a1_0, .int .i8 a1_1] a1_2) 31 (0, 0)) from by (with_reducible repeat (first | refine blk_drewN ?_ _ | refine blk_drew ?_ | refine blk_alloc ?_ _)); exact BK231.out)) Tryd.underlying31 rfl (by kernel_rfl) rfl) ?_) | (go_at_call 51; (with_reducible refine (impl_Room_isFree.calls a1_0 a1_1 a1_2 x19_3 (IntKind.i8.wrap (x15_2)) true _ A19.out).mono ?_); rintro e w22 ⟨rfl, hb⟩; have n0_ := bkb BK230 hb; have n1_ := bkb BK231 hb; have n2_ := bkb BK232 hb; have n3_ := bst HB hb; clear BK230; clear BK231; clear BK232; clear HB; have BK230 := n0_; have BK231 := n1_; have BK232 := n2_; have HB := n3_; clear n0_ n1_ n2_ n3_; (try clear hb); (try clear hb2); (try clear hk); (try clear hi)))
               go_roundg k3
               case measure => have := HK1.out; have := HK2.out; have := HK3.out; omega
               case rel => exact ⟨(IntKind.i8.wrap (x19_3 + 1)), (by first | rfl | (simp; done) | (simp [*]; done)), H', ⟨by have := HK1.out; have := HK2.out; have := HK3.out; omega⟩, ⟨pk BK230⟩, ⟨pk BK231⟩, ⟨pk BK232⟩, ⟨pbs HB⟩⟩
              ·replace c20 := Bool.eq_false_iff.mpr c20
               subst c20
               have H1 : (some false) = some r := by rw [if_neg (show ¬ (false = true) by decide)] at H; exact H
               clear H
               have H := H1
               clear H1
               obtain rfl := Option.some.inj H
               go_wp2_with (first | ((with_reducible refine gate_dst (N := 28) rfl ?_); refine wpList_run1 (v := .agg (mixA (Value.int .u16) [.int .i8 a1_0, .int .i8 a1_1] a1_2)) (by rfl) (load_mix_run (P := Tryd.prog) 31 (.tmp 3) rfl gb231 rfl (show World.rangeAt _ gb231 0 ([.int .i8 a1_0, .int .i8 a1_1] ++ a1_2.l.map (Value.int .u16)) from mix_range (show (World.heap _)[gb231]? = some (.cells (mixA (Value.int .u16) [.int .i8 a1_0, .int .i8 a1_1] a1_2) 31 (0, 0)) from by (with_reducible repeat (first | refine blk_drewN ?_ _ | refine blk_drew ?_ | refine blk_alloc ?_ _)); exact BK231.out)) Tryd.underlying31 rfl (by kernel_rfl) rfl) ?_) | (go_at_call 51; (with_reducible refine (impl_Room_isFree.calls a1_0 a1_1 a1_2 x19_3 (IntKind.i8.wrap (x15_2)) false _ A19.out).mono ?_); rintro e w24 ⟨rfl, hb⟩; have n0_ := bkb BK230 hb; have n1_ := bkb BK231 hb; have n2_ := bkb BK232 hb; have n3_ := bst HB hb; clear BK230; clear BK231; clear BK232; clear HB; have BK230 := n0_; have BK231 := n1_; have BK232 := n2_; have HB := n3_; clear n0_ n1_ n2_ n3_; (try clear hb); (try clear hb2); (try clear hk); (try clear hi)))
               go_ret
               exact ⟨by first | rfl | (simp [errW_none, errW_some] <;> rfl) | (simp only [← hji17]; first | rfl | (simp [errW_none, errW_some] <;> rfl)) | (simp [*, errW_none, errW_some] <;> rfl), pbs HB⟩
             ·rw [if_neg c18] at H
              have c18b0 : ((Go.bits .and .u16 (ji17) 1) == 1) = false := beq_eq_false_iff_ne.mpr c18
              have c18b1 : ((Go.bits .and .u16 (ji17) 1) != 1) = true := bne_iff_ne.mpr c18
              have H' := Aside0.mk H
              clear H
              go_wp2
              go_roundg k3
              case measure => have := HK1.out; have := HK2.out; have := HK3.out; omega
              case rel => exact ⟨(IntKind.i8.wrap (x19_3 + 1)), (by first | rfl | (simp; done) | (simp [*]; done)), H', ⟨by have := HK1.out; have := HK2.out; have := HK3.out; omega⟩, ⟨pk BK230⟩, ⟨pk BK231⟩, ⟨pk BK232⟩, ⟨pbs HB⟩⟩
            ·rw [if_neg c16] at H
             exact absurd H (by simp)
           ·rw [if_neg c15] at H
            have c15b0 : decide (x19_3 < 16) = false := decide_eq_false c15
            clear c15
            have H' := Aside0.mk H
            clear H
            go_wp2
            go_roundg k3
            case measure => have := HK1.out; have := HK2.out; have := HK3.out; omega
            case rel => exact ⟨(wrap64 (x15_2 + 1)), (by first | rfl | (simp; done) | (simp [*]; done)), H', ⟨by have := HK1.out; have := HK2.out; have := HK3.out; omega⟩, ⟨pk BK230⟩, ⟨pk BK231⟩, ⟨pk BK232⟩, ⟨pbs HB⟩⟩
        ·rw [if_neg c13] at H
         exact absurd H (by simp)
       ·rw [if_neg c12] at H
        have c12b0 : decide (x15_2 < 10) = false := decide_eq_false c12
        clear c12
        have H' := Aside0.mk H
        clear H
        go_wp2
        go_roundg k2
        case measure => have := HK1.out; have := HK2.out; omega
        case rel => exact ⟨(wrap64 (x11_1 + 1)), (by first | rfl | (simp; done) | (simp [*]; done)), H', ⟨by have := HK1.out; have := HK2.out; omega⟩, ⟨pk BK230⟩, ⟨pk BK231⟩, ⟨pbs HB⟩⟩
    ·rw [if_neg c7] at H
     exact absurd H (by simp)
   ·rw [if_neg c6] at H
    have c6b0 : decide (x11_1 < 4) = false := decide_eq_false c6
    clear c6
    obtain rfl := Option.some.inj H
    go_wp2
    go_ret
    exact ⟨by first | rfl | (simp [errW_none, errW_some] <;> rfl) | (simp [*, errW_none, errW_some] <;> rfl), pbs HB⟩
def impl_ValidCrowd.f (k : Nat) (a0_0 : Int) (a0_1 : Int) (a0_2 : LA 10) (a1 : LA 40) : Option (Bool) := (impl_ValidRoom.f k a0_0 a0_1 a0_2).bind fun t236 => (if t236 = true then ((impl_Crowd_isIn.f k a1 a0_0 a0_1 a0_2).bind fun t237 => (some t237)) else (some false))
theorem impl_ValidCrowd.mono : ∀ a0 a1 a2 a3 k, LeO (impl_ValidCrowd.f k a0 a1 a2 a3) (impl_ValidCrowd.f (k + 1) a0 a1 a2 a3) := by
 intro a0 a1 a2 a3 k
 unfold impl_ValidCrowd.f
 repeat' first
   | (with_reducible exact impl_Crowd_isIn.mono _ _ _ _ _)
   | (with_reducible exact impl_ValidRoom.mono _ _ _ _)
   | (with_reducible exact LeO.refl _)
   | (with_reducible exact LeO.none _)
   | (with_reducible refine LeO.ite ?_ ?_)
   | (with_reducible refine LeO.bind ?_ (fun _ => ?_))
   | exact impl_Crowd_isIn.mono _ _ _ _ _
   | exact impl_ValidRoom.mono _ _ _ _
   | exact LeO.none _
   | refine LeO.ite ?_ ?_
   | refine LeO.bind ?_ (fun _ => ?_)
set_option maxHeartbeats 8000000 in
set_option maxRecDepth 100000 in
theorem impl_ValidCrowd.calls (k : Nat) (a0_0 : Int) (a0_1 : Int) (a0_2 : LA 10) (a1 : LA 40) (r : Bool) (w : World) (h : impl_ValidCrowd.f k a0_0 a0_1 a0_2 a1 = some r) :
  Calls Tryd.prog 36 #[.agg (mixA (Value.int .u16) [.int .i8 a0_0, .int .i8 a0_1] a0_2), .agg (mixA (Value.int .u16) [] a1)] w fun e w' => e = .returned (.bool r) ∧ Below w.heap.size w w' := by
 have hu31 := Tryd.underlying31
 have HB := Aside0.mk (Below.refl w.heap.size w)
 have H : ((impl_ValidRoom.f k a0_0 a0_1 a0_2).bind fun t236 => (if t236 = true then ((impl_Crowd_isIn.f k a1 a0_0 a0_1 a0_2).bind fun t237 => (some t237)) else (some false))) = some r := h
 clear h
 replace H := Option.bind_eq_some_iff.mp H
 obtain ⟨t236, A30, H⟩ := H
 replace H : (if t236 = true then ((impl_Crowd_isIn.f k a1 a0_0 a0_1 a0_2).bind fun t237 => (some t237)) else (some false)) = some r := H
 have A3 := Aside0.mk A30
 clear A30
 by_cases c4 : t236 = true
 ·subst c4
  have H1 : ((impl_Crowd_isIn.f k a1 a0_0 a0_1 a0_2).bind fun t237 => (some t237)) = some r := by rw [if_pos rfl] at H; exact H
  clear H
  have H := H1
  clear H1
  replace H := Option.bind_eq_some_iff.mp H
  obtain ⟨t237, A50, H⟩ := H
  replace H : (some t237) = some r := H
  have A5 := Aside0.mk A50
  clear A50
  obtain rfl := Option.some.inj H
  go_enter Tryd.func36, Tryd.ntmps36
  go_wp2_with (first | ((with_reducible refine gate_dst (N := 2) rfl ?_); refine box_event ?hg (N := 2) ?hd (cs := (mixA (Value.int .u16) [.int .i8 a0_0, .int .i8 a0_1] a0_2)) (t := 31) ?hr ?_; (case hd => rfl); (case hg => rfl); (case hr => first | (go_simp; done) | (go_simp; rfl)); intro gb234 hg w6 hbox hb; have n0_ := bst HB hb; have n1_ := Aside0.mk (hbox); have n2_ := gwl HB hg; have n3_ := gwl HB hg; clear HB; have HB := n0_; have BK234 := n1_; have GW234 := n2_; have GE234 := n3_; clear n0_ n1_ n2_ n3_; clear hb hbox hg) | ((with_reducible refine gate_dst (N := 3) rfl ?_); refine box_event ?hg (N := 3) ?hd (cs := (mixA (Value.int .u16) [] a1)) (t := 28) ?hr ?_; (case hd => rfl); (case hg => rfl); (case hr => first | (go_simp; done) | (go_simp; rfl)); intro gb235 hg w7 hbox hb; have n0_ := bkb BK234 hb; have n1_ := bst HB hb; have n2_ := Aside0.mk (hbox); have n3_ := gwl HB hg; have n4_ := gwl HB hg; have n5_ := nbl BK234 hg; have n6_ := nbg BK234 hg; clear BK234; clear HB; have BK234 := n0_; have HB := n1_; have BK235 := n2_; have GW235 := n3_; have GE235 := n4_; have NB234_235 := n5_; have NB235_234 := n6_; clear n0_ n1_ n2_ n3_ n4_ n5_ n6_; clear hb hbox hg) | ((with_reducible refine gate_dst (N := 5) rfl ?_); refine wpList_run0 (v := .agg (mixA (Value.int .u16) [.int .i8 a0_0, .int .i8 a0_1] a0_2)) rfl (load_mix_run (P := Tryd.prog) 31 (.tmp 2) rfl gb234 rfl (show World.rangeAt _ gb234 0 ([.int .i8 a0_0, .int .i8 a0_1] ++ a0_2.l.map (Value.int .u16)) from mix_range (show (World.heap _)[gb234]? = some (.cells (mixA (Value.int .u16) [.int .i8 a0_0, .int .i8 a0_1] a0_2) 31 (0, 0)) from by (with_reducible repeat (first | refine blk_drewN ?_ _ | refine blk_drew ?_ | refine blk_alloc ?_ _)); exact BK234.out)) Tryd.underlying31 rfl (by kernel_rfl) rfl) ?_) | ((with_reducible refine gate_callee (f := 26) rfl ?_); refine goesL_ (some 6) rfl rfl Tryd.func26 (by kernel_rfl) rfl #[.agg (mixA (Value.int .u16) [.int .i8 a0_0, .int .i8 a0_1] a0_2)] rfl (by (try simp only [List.map_toArray, List.map_cons, List.map_nil]); first | done | rfl | (simp only [List.length_drop, List.length_take]; rfl)) ?_; (with_reducible refine (impl_ValidRoom.calls k a0_0 a0_1 a0_2 true _ A3.out).mono ?_); rintro e w9 ⟨rfl, hb⟩; refine ⟨_, rfl, ?_⟩; have n0_ := bkb BK234 hb; have n1_ := bkb BK235 hb; have n2_ := bst HB hb; clear BK234; clear BK235; clear HB; have BK234 := n0_; have BK235 := n1_; have HB := n2_; clear n0_ n1_ n2_; (try clear hb); (try clear hb2); (try clear hk); (try clear hi)) | ((with_reducible refine gate_dst (N := 8) rfl ?_); refine wpList_run1 (v := .agg (mixA (Value.int .u16) [] a1)) (by rfl) (load_mix_run (P := Tryd.prog) 28 (.tmp 3) rfl gb235 rfl (show World.rangeAt _ gb235 0 ([] ++ a1.l.map (Value.int .u16)) from mix_range (show (World.heap _)[gb235]? = some (.cells (mixA (Value.int .u16) [] a1) 28 (0, 0)) from by (with_reducible repeat (first | refine blk_drewN ?_ _ | refine blk_drew ?_ | refine blk_alloc ?_ _)); exact BK235.out)) Tryd.underlying28 rfl (by kernel_rfl) rfl) ?_) | ((with_reducible refine gate_dst (N := 9) rfl ?_); refine wpList_run1 (v := .agg (mixA (Value.int .u16) [.int .i8 a0_0, .int .i8 a0_1] a0_2)) (by rfl) (load_mix_run (P := Tryd.prog) 31 (.tmp 2) rfl gb234 rfl (show World.rangeAt _ gb234 0 ([.int .i8 a0_0, .int .i8 a0_1] ++ a0_2.l.map (Value.int .u16)) from mix_range (show (World.heap _)[gb234]? = some (.cells (mixA (Value.int .u16) [.int .i8 a0_0, .int .i8 a0_1] a0_2) 31 (0, 0)) from by (with_reducible repeat (first | refine blk_drewN ?_ _ | refine blk_drew ?_ | refine blk_alloc ?_ _)); exact BK234.out)) Tryd.underlying31 rfl (by kernel_rfl) rfl) ?_) | (go_at_call 55; (with_reducible refine (impl_Crowd_isIn.calls k a1 a0_0 a0_1 a0_2 t237 _ A5.out).mono ?_); rintro e w12 ⟨rfl, hb⟩; have n0_ := bkb BK234 hb; have n1_ := bkb BK235 hb; have n2_ := bst HB hb; clear BK234; clear BK235; clear HB; have BK234 := n0_; have BK235 := n1_; have HB := n2_; clear n0_ n1_ n2_; (try clear hb); (try clear hb2); (try clear hk); (try clear hi)))
  go_ret
  exact ⟨by first | rfl | (simp [errW_none, errW_some] <;> rfl) | (simp [*, errW_none, errW_some] <;> rfl), pbs HB⟩
 ·replace c4 := Bool.eq_false_iff.mpr c4
  subst c4
  have H1 : (some false) = some r := by rw [if_neg (show ¬ (false = true) by decide)] at H; exact H
  clear H
  have H := H1
  clear H1
  obtain rfl := Option.some.inj H
  go_enter Tryd.func36, Tryd.ntmps36
  go_wp2_with (first | ((with_reducible refine gate_dst (N := 2) rfl ?_); refine box_event ?hg (N := 2) ?hd (cs := (mixA (Value.int .u16) [.int .i8 a0_0, .int .i8 a0_1] a0_2)) (t := 31) ?hr ?_; (case hd => rfl); (case hg => rfl); (case hr => first | (go_simp; done) | (go_simp; rfl)); intro gb234 hg w13 hbox hb; have n0_ := bst HB hb; have n1_ := Aside0.mk (hbox); have n2_ := gwl HB hg; have n3_ := gwl HB hg; clear HB; have HB := n0_; have BK234 := n1_; have GW234 := n2_; have GE234 := n3_; clear n0_ n1_ n2_ n3_; clear hb hbox hg) | ((with_reducible refine gate_dst (N := 3) rfl ?_); refine box_event ?hg (N := 3) ?hd (cs := (mixA (Value.int .u16) [] a1)) (t := 28) ?hr ?_; (case hd => rfl); (case hg => rfl); (case hr => first | (go_simp; done) | (go_simp; rfl)); intro gb235 hg w14 hbox hb; have n0_ := bkb BK234 hb; have n1_ := bst HB hb; have n2_ := Aside0.mk (hbox); have n3_ := gwl HB hg; have n4_ := gwl HB hg; have n5_ := nbl BK234 hg; have n6_ := nbg BK234 hg; clear BK234; clear HB; have BK234 := n0_; have HB := n1_; have BK235 := n2_; have GW235 := n3_; have GE235 := n4_; have NB234_235 := n5_; have NB235_234 := n6_; clear n0_ n1_ n2_ n3_ n4_ n5_ n6_; clear hb hbox hg) | ((with_reducible refine gate_dst (N := 5) rfl ?_); refine wpList_run0 (v := .agg (mixA (Value.int .u16) [.int .i8 a0_0, .int .i8 a0_1] a0_2)) rfl (load_mix_run (P := Tryd.prog) 31 (.tmp 2) rfl gb234 rfl (show World.rangeAt _ gb234 0 ([.int .i8 a0_0, .int .i8 a0_1] ++ a0_2.l.map (Value.int .u16)) from mix_range (show (World.heap _)[gb234]? = some (.cells (mixA (Value.int .u16) [.int .i8 a0_0, .int .i8 a0_1] a0_2) 31 (0, 0)) from by (with_reducible repeat (first | refine blk_drewN ?_ _ | refine blk_drew ?_ | refine blk_alloc ?_ _)); exact BK234.out)) Tryd.underlying31 rfl (by kernel_rfl) rfl) ?_) | ((with_reducible refine gate_callee (f := 26) rfl ?_); refine goesL_ (some 6) rfl rfl Tryd.func26 (by kernel_rfl) rfl #[.agg (mixA (Value.int .u16) [.int .i8 a0_0, .int .i8 a0_1] a0_2)] rfl (by (try simp only [List.map_toArray, List.map_cons, List.map_nil]); first | done | rfl | (simp only [List.length_drop, List.length_take]; rfl)) ?_; (with_reducible refine (impl_ValidRoom.calls k a0_0 a0_1 a0_2 false _ A3.out).mono ?_); rintro e w16 ⟨rfl, hb⟩; refine ⟨_, rfl, ?_⟩; have n0_ := bkb BK234 hb; have n1_ := bkb BK235 hb; have n2_ := bst HB hb; clear BK234; clear BK235; clear HB; have BK234 := n0_; have BK235 := n1_; have HB := n2_; clear n0_ n1_ n2_; (try clear hb); (try clear hb2); (try clear hk); (try clear hi)))
  go_ret
  exact ⟨by first | rfl | (simp [errW_none, errW_some] <;> rfl) | (simp [*, errW_none, errW_some] <;> rfl), pbs HB⟩
end Go.Proofs.YtdedijjbdkoekaaDoor.PB
end
section
namespace Go.Proofs.YtdedijjbdkoekaaDoor.PB
open Go.RowKit Go.Proofs.YtdedijjbdkoekaaDoorW.PrintWords Go.Proofs.YtdedijjbdkoekaaDoorW.PrintLast Go.Proofs.YtdedijjbdkoekaaDoorW.PrintMore Go.Proofs.YtdedijjbdkoekaaDoor.La
attribute [local go_sem] max2_int min2_int max_two min_two max_three min_three max_four min_four   -- for this text's walks alone
set_option linter.unusedVariables false
set_option linter.unusedSimpArgs false
def impl_MovesCrowd.f (k : Nat) (a0_0 : Int) (a0_1 : Int) (a0_2 : LA 10) (a1 : LA 40) (a2 : ByteArray) : Option (LA 40 × Int) := (impl_ValidCrowd.f k a0_0 a0_1 a0_2 a1).bind fun t241 => (if t241 = true then ((impl_movesCode.f a2).bind fun t242 => (if t242 = 0 then ((impl_Crowd_movedBy.f k a1 a0_0 a0_1 a0_2 a2).bind fun t243 => (some (t243, 0))) else (some ((LA.zero 40), t242)))) else (some ((LA.zero 40), 1)))
theorem impl_MovesCrowd.mono : ∀ a0 a1 a2 a3 a4 k, LeO (impl_MovesCrowd.f k a0 a1 a2 a3 a4) (impl_MovesCrowd.f (k + 1) a0 a1 a2 a3 a4) := by
 intro a0 a1 a2 a3 a4 k
 unfold impl_MovesCrowd.f
 repeat' first
   | (with_reducible exact impl_Crowd_movedBy.mono _ _ _ _ _ _)
   | (with_reducible exact impl_ValidCrowd.mono _ _ _ _ _)
   | (with_reducible exact LeO.refl _)
   | (with_reducible exact LeO.none _)
   | (with_reducible refine LeO.ite ?_ ?_)
   | (with_reducible refine LeO.bind ?_ (fun _ => ?_))
   | exact impl_Crowd_movedBy.mono _ _ _ _ _ _
   | exact impl_ValidCrowd.mono _ _ _ _ _
   | exact LeO.none _
   | refine LeO.ite ?_ ?_
   | refine LeO.bind ?_ (fun _ => ?_)
set_option maxHeartbeats 8000000 in
set_option maxRecDepth 100000 in
theorem impl_MovesCrowd.calls (k : Nat) (a0_0 : Int) (a0_1 : Int) (a0_2 : LA 10) (a1 : LA 40) (a2 : ByteArray) (r1 : LA 40) (r2 : Int) (w : World) (h : impl_MovesCrowd.f k a0_0 a0_1 a0_2 a1 a2 = some (r1, r2)) :
  Calls Tryd.prog 15 #[.agg (mixA (Value.int .u16) [.int .i8 a0_0, .int .i8 a0_1] a0_2), .agg (mixA (Value.int .u16) [] a1), .string a2] w fun e w' => e = .returned (.tuple #[.agg (mixA (Value.int .u16) [] r1), .int .i64 r2]) ∧ Below w.heap.size w w' := by
 have hu31 := Tryd.underlying31
 have HB := Aside0.mk (Below.refl w.heap.size w)
 have H : ((impl_ValidCrowd.f k a0_0 a0_1 a0_2 a1).bind fun t241 => (if t241 = true then ((impl_movesCode.f a2).bind fun t242 => (if t242 = 0 then ((impl_Crowd_movedBy.f k a1 a0_0 a0_1 a0_2 a2).bind fun t243 => (some (t243, 0))) else (some ((LA.zero 40), t242)))) else (some ((LA.zero 40), 1)))) = some (r1, r2) := h
 clear h
 replace H := Option.bind_eq_some_iff.mp H
 obtain ⟨t241, A40, H⟩ := H
 replace H : (if t241 = true then ((impl_movesCode.f a2).bind fun t242 => (if t242 = 0 then ((impl_Crowd_movedBy.f k a1 a0_0 a0_1 a0_2 a2).bind fun t243 => (some (t243, 0))) else (some ((LA.zero 40), t242)))) else (some ((LA.zero 40), 1))) = some (r1, r2) := H
 have A4 := Aside0.mk A40
 clear A40
 by_cases c5 : t241 = true
 ·subst c5
  have H1 : ((impl_movesCode.f a2).bind fun t242 => (if t242 = 0 then ((impl_Crowd_movedBy.f k a1 a0_0 a0_1 a0_2 a2).bind fun t243 => (some (t243, 0))) else (some ((LA.zero 40), t242)))) = some (r1, r2) := by rw [if_pos rfl] at H; exact H
  clear H
  have H := H1
  clear H1
  replace H := Option.bind_eq_some_iff.mp H
  obtain ⟨t242, A60, H⟩ := H
  replace H : (if t242 = 0 then ((impl_Crowd_movedBy.f k a1 a0_0 a0_1 a0_2 a2).bind fun t243 => (some (t243, 0))) else (some ((LA.zero 40), t242))) = some (r1, r2) := H
  have A6 := Aside0.mk A60
  clear A60
  by_cases c7 : t242 = 0
  ·rw [if_pos c7] at H
   have c7b0 : (t242 == 0) = true := beq_iff_eq.mpr c7
   have c7b1 : (t242 != 0) = false := bne_eq_false_iff_eq.mpr c7
   clear c7
   replace H := Option.bind_eq_some_iff.mp H
   obtain ⟨t243, A80, H⟩ := H
   replace H : (some (t243, 0)) = some (r1, r2) := H
   have A8 := Aside0.mk A80
   clear A80
   simp only [Option.some.injEq, Prod.mk.injEq] at H
   obtain ⟨rfl, rfl⟩ := H
   go_enter Tryd.func15, Tryd.ntmps15
   go_wp2_with (first | ((with_reducible refine gate_dst (N := 3) rfl ?_); refine box_event ?hg (N := 3) ?hd (cs := (mixA (Value.int .u16) [.int .i8 a0_0, .int .i8 a0_1] a0_2)) (t := 31) ?hr ?_; (case hd => rfl); (case hg => rfl); (case hr => first | (go_simp; done) | (go_simp; rfl)); intro gb238 hg w9 hbox hb; have n0_ := bst HB hb; have n1_ := Aside0.mk (hbox); have n2_ := gwl HB hg; have n3_ := gwl HB hg; clear HB; have HB := n0_; have BK238 := n1_; have GW238 := n2_; have GE238 := n3_; clear n0_ n1_ n2_ n3_; clear hb hbox hg) | ((with_reducible refine gate_dst (N := 4) rfl ?_); refine box_event ?hg (N := 4) ?hd (cs := (mixA (Value.int .u16) [] a1)) (t := 28) ?hr ?_; (case hd => rfl); (case hg => rfl); (case hr => first | (go_simp; done) | (go_simp; rfl)); intro gb239 hg w10 hbox hb; have n0_ := bkb BK238 hb; have n1_ := bst HB hb; have n2_ := Aside0.mk (hbox); have n3_ := gwl HB hg; have n4_ := gwl HB hg; have n5_ := nbl BK238 hg; have n6_ := nbg BK238 hg; clear BK238; clear HB; have BK238 := n0_; have HB := n1_; have BK239 := n2_; have GW239 := n3_; have GE239 := n4_; have NB238_239 := n5_; have NB239_238 := n6_; clear n0_ n1_ n2_ n3_ n4_ n5_ n6_; clear hb hbox hg) | ((with_reducible refine gate_dst (N := 6) rfl ?_); refine box_event ?hg (N := 6) ?hd (cs := (mixA (Value.int .u16) [] (LA.zero 40))) (t := 28) ?hr ?_; (case hd => rfl); (case hg => rfl); (case hr => first | (go_simp; done) | (go_simp; rfl)); intro gb240 hg w11 hbox hb; have n0_ := bkb BK238 hb; have n1_ := bkb BK239 hb; have n2_ := bst HB hb; have n3_ := Aside0.mk (hbox); have n4_ := gwl HB hg; have n5_ := gwl HB hg; have n6_ := nbl BK238 hg; have n7_ := nbg BK238 hg; have n8_ := nbl BK239 hg; have n9_ := nbg BK239 hg; clear BK238; clear BK239; clear HB; have BK238 := n0_; have BK239 := n1_; have HB := n2_; have BK240 := n3_; have GW240 := n4_; have GE240 := n5_; have NB238_240 := n6_; have NB240_238 := n7_; have NB239_240 := n8_; have NB240_239 := n9_; clear n0_ n1_ n2_ n3_ n4_ n5_ n6_ n7_ n8_ n9_; clear hb hbox hg) | ((with_reducible refine gate_dst (N := 9) rfl ?_); refine wpList_run0 (v := .agg (mixA (Value.int .u16) [.int .i8 a0_0, .int .i8 a0_1] a0_2)) rfl (load_mix_run (P := Tryd.prog) 31 (.tmp 3) rfl gb238 rfl (show World.rangeAt _ gb238 0 ([.int .i8 a0_0, .int .i8 a0_1] ++ a0_2.l.map (Value.int .u16)) from mix_range (show (World.heap _)[gb238]? = some (.cells (mixA (Value.int .u16) [.int .i8 a0_0, .int .i8 a0_1] a0_2) 31 (0, 0)) from by (with_reducible repeat (first | refine blk_drewN ?_ _ | refine blk_drew ?_ | refine blk_alloc ?_ _)); exact BK238.out)) Tryd.underlying31 rfl (by kernel_rfl) rfl) ?_) | ((with_reducible refine gate_dst (N := 10) rfl ?_); refine wpList_run0 (v := .agg (mixA (Value.int .u16) [] a1)) rfl (load_mix_run (P := Tryd.prog) 28 (.tmp 4) rfl gb239 rfl (show World.rangeAt _ gb239 0 ([] ++ a1.l.map (Value.int .u16)) from mix_range (show (World.heap _)[gb239]? = some (.cells (mixA (Value.int .u16) [] a1) 28 (0, 0)) from by (with_reducible repeat (first | refine blk_drewN ?_ _ | refine blk_drew ?_ | refine blk_alloc ?_ _)); exact BK239.out)) Tryd.underlying28 rfl (by kernel_rfl) rfl) ?_) | ((with_reducible refine gate_callee (f := 36) rfl ?_); refine goesL_ (some 11) rfl rfl Tryd.func36 (by kernel_rfl) rfl #[.agg (mixA (Value.int .u16) [.int .i8 a0_0, .int .i8 a0_1] a0_2), .agg (mixA (Value.int .u16) [] a1)] rfl (by (try simp only [List.map_toArray, List.map_cons, List.map_nil]); first | done | rfl | (simp only [List.length_drop, List.length_take]; rfl)) ?_; (with_reducible refine (impl_ValidCrowd.calls k a0_0 a0_1 a0_2 a1 true _ A4.out).mono ?_); rintro e w14 ⟨rfl, hb⟩; refine ⟨_, rfl, ?_⟩; have n0_ := bkb BK238 hb; have n1_ := bkb BK239 hb; have n2_ := bkb BK240 hb; have n3_ := bst HB hb; clear BK238; clear BK239; clear BK240; clear HB; have BK238 := n0_; have BK239 := n1_; have BK240 := n2_; have HB := n3_; clear n0_ n1_ n2_ n3_; (try clear hb); (try clear hb2); (try clear hk); (try clear hi)) | ((with_reducible refine gate_callee (f := 27) rfl ?_); refine goesL_ (some 15) rfl rfl Tryd.func27 (by kernel_rfl) rfl #[.string a2] rfl (by (try simp only [List.map_toArray, List.map_cons, List.map_nil]); first | done | rfl | (simp only [List.length_drop, List.length_take]; rfl)) ?_; (with_reducible refine (impl_movesCode.calls a2 t242 _ A6.out).mono ?_); rintro e w15 ⟨rfl, hb⟩; refine ⟨_, rfl, ?_⟩; have n0_ := bkb BK238 hb; have n1_ := bkb BK239 hb; have n2_ := bkb BK240 hb; have n3_ := bst HB hb; clear BK238; clear BK239; clear BK240; clear HB; have BK238 := n0_; have BK239 := n1_; have BK240 := n2_; have HB := n3_; clear n0_ n1_ n2_ n3_; (try clear hb); (try clear hb2); (try clear hk); (try clear hi)) | ((with_reducible refine gate_dst (N := 20) rfl ?_); refine wpList_run0 (v := .agg (mixA (Value.int .u16) [] a1)) rfl (load_mix_run (P := Tryd.prog) 28 (.tmp 4) rfl gb239 rfl (show World.rangeAt _ gb239 0 ([] ++ a1.l.map (Value.int .u16)) from mix_range (show (World.heap _)[gb239]? = some (.cells (mixA (Value.int .u16) [] a1) 28 (0, 0)) from by (with_reducible repeat (first | refine blk_drewN ?_ _ | refine blk_drew ?_ | refine blk_alloc ?_ _)); exact BK239.out)) Tryd.underlying28 rfl (by kernel_rfl) rfl) ?_) | ((with_reducible refine gate_dst (N := 21) rfl ?_); refine wpList_run0 (v := .agg (mixA (Value.int .u16) [.int .i8 a0_0, .int .i8 a0_1] a0_2)) rfl (load_mix_run (P := Tryd.prog) 31 (.tmp 3) rfl gb238 rfl (show World.rangeAt _ gb238 0 ([.int .i8 a0_0, .int .i8 a0_1] ++ a0_2.l.map (Value.int .u16)) from mix_range (show (World.heap _)[gb238]? = some (.cells (mixA (Value.int .u16) [.int .i8 a0_0, .int .i8 a0_1] a0_2) 31 (0, 0)) from by (with_reducible repeat (first | refine blk_drewN ?_ _ | refine blk_drew ?_ | refine blk_alloc ?_ _)); exact BK238.out)) Tryd.underlying31 rfl (by kernel_rfl) rfl) ?_) | ((with_reducible refine gate_callee (f := 31) rfl ?_); refine goesL_ (some 23) rfl rfl Tryd.func31 (by kernel_rfl) rfl #[.agg (mixA (Value.int .u16) [] a1), .agg (mixA (Value.int .u16) [.int .i8 a0_0, .int .i8 a0_1] a0_2), .string a2] rfl (by (try simp only [List.map_toArray, List.map_cons, List.map_nil]); first | done | rfl | (simp only [List.length_drop, List.length_take]; rfl)) ?_; (with_reducible refine (impl_Crowd_movedBy.calls k a1 a0_0 a0_1 a0_2 a2 t243 _ A8.out).mono ?_); rintro e w18 ⟨rfl, hb⟩; refine ⟨_, rfl, ?_⟩; have n0_ := bkb BK238 hb; have n1_ := bkb BK239 hb; have n2_ := bkb BK240 hb; have n3_ := bst HB hb; clear BK238; clear BK239; clear BK240; clear HB; have BK238 := n0_; have BK239 := n1_; have BK240 := n2_; have HB := n3_; clear n0_ n1_ n2_ n3_; (try clear hb); (try clear hb2); (try clear hk); (try clear hi)) | ((with_reducible refine gate_store (p := 6) rfl ?_); refine wpList_store_lmix rfl 28 _ _ rfl gb240 (e := (Value.int .u16)) (cs' := []) (W' := t243) (cs := []) (W := (LA.zero 40)) (T := 28) rfl rfl (pk BK240) rfl (by kernel_rfl) rfl (fun _ => rfl) rfl ?_; intro w19 hi hk hbl; have n0_ := Aside0.mk (KeepBut.blk hk (g' := gb238) (o := .cells (mixA (Value.int .u16) [.int .i8 a0_0, .int .i8 a0_1] a0_2) 31 (0, 0)) (pk BK238) NB238_240.out (by simp)); have n1_ := Aside0.mk (KeepBut.blk hk (g' := gb239) (o := .cells (mixA (Value.int .u16) [] a1) 28 (0, 0)) (pk BK239) NB239_240.out (by simp)); have n2_ := Aside0.mk (hbl _ _ (pbs HB) GE240.out); have n3_ := Aside0.mk (hi); clear BK238; clear BK239; clear HB; clear BK240; have BK238 := n0_; have BK239 := n1_; have HB := n2_; have BK240 := n3_; clear n0_ n1_ n2_ n3_; clear hi hk hbl))
   refine bodyPost_ret (results_ct rfl _ _ gb240 28 (mixA (Value.int .u16) [] t243) (0, 0) _ rfl (pk BK240) Tryd.underlying28 rfl (by rw [mix_size]; kernel_rfl)) rfl ?_
   exact ⟨by first | rfl | (simp [errW_none, errW_some] <;> rfl) | (simp [*, errW_none, errW_some] <;> rfl), pbs HB⟩
  ·rw [if_neg c7] at H
   have c7b0 : (t242 == 0) = false := beq_eq_false_iff_ne.mpr c7
   have c7b1 : (t242 != 0) = true := bne_iff_ne.mpr c7
   simp only [Option.some.injEq, Prod.mk.injEq] at H
   obtain ⟨rfl, rfl⟩ := H
   go_enter Tryd.func15, Tryd.ntmps15
   go_wp2_with (first | ((with_reducible refine gate_dst (N := 3) rfl ?_); refine box_event ?hg (N := 3) ?hd (cs := (mixA (Value.int .u16) [.int .i8 a0_0, .int .i8 a0_1] a0_2)) (t := 31) ?hr ?_; (case hd => rfl); (case hg => rfl); (case hr => first | (go_simp; done) | (go_simp; rfl)); intro gb238 hg w20 hbox hb; have n0_ := bst HB hb; have n1_ := Aside0.mk (hbox); have n2_ := gwl HB hg; have n3_ := gwl HB hg; clear HB; have HB := n0_; have BK238 := n1_; have GW238 := n2_; have GE238 := n3_; clear n0_ n1_ n2_ n3_; clear hb hbox hg) | ((with_reducible refine gate_dst (N := 4) rfl ?_); refine box_event ?hg (N := 4) ?hd (cs := (mixA (Value.int .u16) [] a1)) (t := 28) ?hr ?_; (case hd => rfl); (case hg => rfl); (case hr => first | (go_simp; done) | (go_simp; rfl)); intro gb239 hg w21 hbox hb; have n0_ := bkb BK238 hb; have n1_ := bst HB hb; have n2_ := Aside0.mk (hbox); have n3_ := gwl HB hg; have n4_ := gwl HB hg; have n5_ := nbl BK238 hg; have n6_ := nbg BK238 hg; clear BK238; clear HB; have BK238 := n0_; have HB := n1_; have BK239 := n2_; have GW239 := n3_; have GE239 := n4_; have NB238_239 := n5_; have NB239_238 := n6_; clear n0_ n1_ n2_ n3_ n4_ n5_ n6_; clear hb hbox hg) | ((with_reducible refine gate_dst (N := 6) rfl ?_); refine box_event ?hg (N := 6) ?hd (cs := (mixA (Value.int .u16) [] (LA.zero 40))) (t := 28) ?hr ?_; (case hd => rfl); (case hg => rfl); (case hr => first | (go_simp; done) | (go_simp; rfl)); intro gb240 hg w22 hbox hb; have n0_ := bkb BK238 hb; have n1_ := bkb BK239 hb; have n2_ := bst HB hb; have n3_ := Aside0.mk (hbox); have n4_ := gwl HB hg; have n5_ := gwl HB hg; have n6_ := nbl BK238 hg; have n7_ := nbg BK238 hg; have n8_ := nbl BK239 hg; have n9_ := nbg BK239 hg; clear BK238; clear BK239; clear HB; have BK238 := n0_; have BK239 := n1_; have HB := n2_; have BK240 := n3_; have GW240 := n4_; have GE240 := n5_; have NB238_240 := n6_; have NB240_238 := n7_; have NB239_240 := n8_; have NB240_239 := n9_; clear n0_ n1_ n2_ n3_ n4_ n5_ n6_ n7_ n8_ n9_; clear hb hbox hg) | ((with_reducible refine gate_dst (N := 9) rfl ?_); refine wpList_run0 (v := .agg (mixA (Value.int .u16) [.int .i8 a0_0, .int .i8 a0_1] a0_2)) rfl (load_mix_run (P := Tryd.prog) 31 (.tmp 3) rfl gb238 rfl (show World.rangeAt _ gb238 0 ([.int .i8 a0_0, .int .i8 a0_1] ++ a0_2.l.map (Value.int .u16)) from mix_range (show (World.heap _)[gb238]? = some (.cells (mixA (Value.int .u16) [.int .i8 a0_0, .int .i8 a0_1] a0_2) 31 (0, 0)) from by (with_reducible repeat (first | refine blk_drewN ?_ _ | refine blk_drew ?_ | refine blk_alloc ?_ _)); exact BK238.out)) Tryd.underlying31 rfl (by kernel_rfl) rfl) ?_) | ((with_reducible refine gate_dst (N := 10) rfl ?_); refine wpList_run0 (v := .agg (mixA (Value.int .u16) [] a1)) rfl (load_mix_run (P := Tryd.prog) 28 (.tmp 4) rfl gb239 rfl (show World.rangeAt _ gb239 0 ([] ++ a1.l.map (Value.int .u16)) from mix_range (show (World.heap _)[gb239]? = some (.cells (mixA (Value.int .u16) [] a1) 28 (0, 0)) from by (with_reducible repeat (first | refine blk_drewN ?_ _ | refine blk_drew ?_ | refine blk_alloc ?_ _)); exact BK239.out)) Tryd.underlying28 rfl (by kernel_rfl) rfl) ?_) | ((with_reducible refine gate_callee (f := 36) rfl ?_); refine goesL_ (some 11) rfl rfl Tryd.func36 (by kernel_rfl) rfl #[.agg (mixA (Value.int .u16) [.int .i8 a0_0, .int .i8 a0_1] a0_2), .agg (mixA (Value.int .u16) [] a1)] rfl (by (try simp only [List.map_toArray, List.map_cons, List.map_nil]); first | done | rfl | (simp only [List.length_drop, List.length_take]; rfl)) ?_; (with_reducible refine (impl_ValidCrowd.calls k a0_0 a0_1 a0_2 a1 true _ A4.out).mono ?_); rintro e w25 ⟨rfl, hb⟩; refine ⟨_, rfl, ?_⟩; have n0_ := bkb BK238 hb; have n1_ := bkb BK239 hb; have n2_ := bkb BK240 hb; have n3_ := bst HB hb; clear BK238; clear BK239; clear BK240; clear HB; have BK238 := n0_; have BK239 := n1_; have BK240 := n2_; have HB := n3_; clear n0_ n1_ n2_ n3_; (try clear hb); (try clear hb2); (try clear hk); (try clear hi)) | ((with_reducible refine gate_callee (f := 27) rfl ?_); refine goesL_ (some 15) rfl rfl Tryd.func27 (by kernel_rfl) rfl #[.string a2] rfl (by (try simp only [List.map_toArray, List.map_cons, List.map_nil]); first | done | rfl | (simp only [List.length_drop, List.length_take]; rfl)) ?_; (with_reducible refine (impl_movesCode.calls a2 t242 _ A6.out).mono ?_); rintro e w26 ⟨rfl, hb⟩; refine ⟨_, rfl, ?_⟩; have n0_ := bkb BK238 hb; have n1_ := bkb BK239 hb; have n2_ := bkb BK240 hb; have n3_ := bst HB hb; clear BK238; clear BK239; clear BK240; clear HB; have BK238 := n0_; have BK239 := n1_; have BK240 := n2_; have HB := n3_; clear n0_ n1_ n2_ n3_; (try clear hb); (try clear hb2); (try clear hk); (try clear hi)) | ((with_reducible refine gate_store (p := 6) rfl ?_); refine wpList_store_lmix rfl 28 _ _ rfl gb240 (e := (Value.int .u16)) (cs' := []) (W' := (LA.zero 40)) (cs := []) (W := (LA.zero 40)) (T := 28) rfl rfl (pk BK240) rfl (by kernel_rfl) rfl (fun _ => rfl) rfl ?_; intro w27 hi hk hbl; have n0_ := Aside0.mk (KeepBut.blk hk (g' := gb238) (o := .cells (mixA (Value.int .u16) [.int .i8 a0_0, .int .i8 a0_1] a0_2) 31 (0, 0)) (pk BK238) NB238_240.out (by simp)); have n1_ := Aside0.mk (KeepBut.blk hk (g' := gb239) (o := .cells (mixA (Value.int .u16) [] a1) 28 (0, 0)) (pk BK239) NB239_240.out (by simp)); have n2_ := Aside0.mk (hbl _ _ (pbs HB) GE240.out); have n3_ := Aside0.mk (hi); clear BK238; clear BK239; clear HB; clear BK240; have BK238 := n0_; have BK239 := n1_; have HB := n2_; have BK240 := n3_; clear n0_ n1_ n2_ n3_; clear hi hk hbl))
   refine bodyPost_ret (results_ct rfl _ _ gb240 28 (mixA (Value.int .u16) [] (LA.zero 40)) (0, 0) _ rfl (pk BK240) Tryd.underlying28 rfl (by rw [mix_size]; kernel_rfl)) rfl ?_
   exact ⟨by first | rfl | (simp [errW_none, errW_some] <;> rfl) | (simp [*, errW_none, errW_some] <;> rfl), pbs HB⟩
 ·replace c5 := Bool.eq_false_iff.mpr c5
  subst c5
  have H1 : (some ((LA.zero 40), 1)) = some (r1, r2) := by rw [if_neg (show ¬ (false = true) by decide)] at H; exact H
  clear H
  have H := H1
  clear H1
  simp only [Option.some.injEq, Prod.mk.injEq] at H
  obtain ⟨rfl, rfl⟩ := H
  go_enter Tryd.func15, Tryd.ntmps15
  go_wp2_with (first | ((with_reducible refine gate_dst (N := 3) rfl ?_); refine box_event ?hg (N := 3) ?hd (cs := (mixA (Value.int .u16) [.int .i8 a0_0, .int .i8 a0_1] a0_2)) (t := 31) ?hr ?_; (case hd => rfl); (case hg => rfl); (case hr => first | (go_simp; done) | (go_simp; rfl)); intro gb238 hg w28 hbox hb; have n0_ := bst HB hb; have n1_ := Aside0.mk (hbox); have n2_ := gwl HB hg; have n3_ := gwl HB hg; clear HB; have HB := n0_; have BK238 := n1_; have GW238 := n2_; have GE238 := n3_; clear n0_ n1_ n2_ n3_; clear hb hbox hg) | ((with_reducible refine gate_dst (N := 4) rfl ?_); refine box_event ?hg (N := 4) ?hd (cs := (mixA (Value.int .u16) [] a1)) (t := 28) ?hr ?_; (case hd => rfl); (case hg => rfl); (case hr => first | (go_simp; done) | (go_simp; rfl)); intro gb239 hg w29 hbox hb; have n0_ := bkb BK238 hb; have n1_ := bst HB hb; have n2_ := Aside0.mk (hbox); have n3_ := gwl HB hg; have n4_ := gwl HB hg; have n5_ := nbl BK238 hg; have n6_ := nbg BK238 hg; clear BK238; clear HB; have BK238 := n0_; have HB := n1_; have BK239 := n2_; have GW239 := n3_; have GE239 := n4_; have NB238_239 := n5_; have NB239_238 := n6_; clear n0_ n1_ n2_ n3_ n4_ n5_ n6_; clear hb hbox hg) | ((with_reducible refine gate_dst (N := 6) rfl ?_); refine box_event ?hg (N := 6) ?hd (cs := (mixA (Value.int .u16) [] (LA.zero 40))) (t := 28) ?hr ?_; (case hd => rfl); (case hg => rfl); (case hr => first | (go_simp; done) | (go_simp; rfl)); intro gb240 hg w30 hbox hb; have n0_ := bkb BK238 hb; have n1_ := bkb BK239 hb; have n2_ := bst HB hb; have n3_ := Aside0.mk (hbox); have n4_ := gwl HB hg; have n5_ := gwl HB hg; have n6_ := nbl BK238 hg; have n7_ := nbg BK238 hg; have n8_ := nbl BK239 hg; have n9_ := nbg BK239 hg; clear BK238; clear BK239; clear HB; have BK238 := n0_; have BK239 := n1_; have HB := n2_; have BK240 := n3_; have GW240 := n4_; have GE240 := n5_; have NB238_240 := n6_; have NB240_238 := n7_; have NB239_240 := n8_; have NB240_239 := n9_; clear n0_ n1_ n2_ n3_ n4_ n5_ n6_ n7_ n8_ n9_; clear hb hbox hg) | ((with_reducible refine gate_dst (N := 9) rfl ?_); refine wpList_run0 (v := .agg (mixA (Value.int .u16) [.int .i8 a0_0, .int .i8 a0_1] a0_2)) rfl (load_mix_run (P := Tryd.prog) 31 (.tmp 3) rfl gb238 rfl (show World.rangeAt _ gb238 0 ([.int .i8 a0_0, .int .i8 a0_1] ++ a0_2.l.map (Value.int .u16)) from mix_range (show (World.heap _)[gb238]? = some (.cells (mixA (Value.int .u16) [.int .i8 a0_0, .int .i8 a0_1] a0_2) 31 (0, 0)) from by (with_reducible repeat (first | refine blk_drewN ?_ _ | refine blk_drew ?_ | refine blk_alloc ?_ _)); exact BK238.out)) Tryd.underlying31 rfl (by kernel_rfl) rfl) ?_) | ((with_reducible refine gate_dst (N := 10) rfl ?_); refine wpList_run0 (v := .agg (mixA (Value.int .u16) [] a1)) rfl (load_mix_run (P := Tryd.prog) 28 (.tmp 4) rfl gb239 rfl (show World.rangeAt _ gb239 0 ([] ++ a1.l.map (Value.int .u16)) from mix_range (show (World.heap _)[gb239]? = some (.cells (mixA (Value.int .u16) [] a1) 28 (0, 0)) from by (with_reducible repeat (first | refine blk_drewN ?_ _ | refine blk_drew ?_ | refine blk_alloc ?_ _)); exact BK239.out)) Tryd.underlying28 rfl (by kernel_rfl) rfl) ?_) | ((with_reducible refine gate_callee (f := 36) rfl ?_); refine goesL_ (some 11) rfl rfl Tryd.func36 (by kernel_rfl) rfl #[.agg (mixA (Value.int .u16) [.int .i8 a0_0, .int .i8 a0_1] a0_2), .agg (mixA (Value.int .u16) [] a1)] rfl (by (try simp only [List.map_toArray, List.map_cons, List.map_nil]); first | done | rfl | (simp only [List.length_drop, List.length_take]; rfl)) ?_; (with_reducible refine (impl_ValidCrowd.calls k a0_0 a0_1 a0_2 a1 false _ A4.out).mono ?_); rintro e w33 ⟨rfl, hb⟩; refine ⟨_, rfl, ?_⟩; have n0_ := bkb BK238 hb; have n1_ := bkb BK239 hb; have n2_ := bkb BK240 hb; have n3_ := bst HB hb; clear BK238; clear BK239; clear BK240; clear HB; have BK238 := n0_; have BK239 := n1_; have BK240 := n2_; have HB := n3_; clear n0_ n1_ n2_ n3_; (try clear hb); (try clear hb2); (try clear hk); (try clear hi)) | ((with_reducible refine gate_store (p := 6) rfl ?_); refine wpList_store_lmix rfl 28 _ _ rfl gb240 (e := (Value.int .u16)) (cs' := []) (W' := (LA.zero 40)) (cs := []) (W := (LA.zero 40)) (T := 28) rfl rfl (pk BK240) rfl (by kernel_rfl) rfl (fun _ => rfl) rfl ?_; intro w34 hi hk hbl; have n0_ := Aside0.mk (KeepBut.blk hk (g' := gb238) (o := .cells (mixA (Value.int .u16) [.int .i8 a0_0, .int .i8 a0_1] a0_2) 31 (0, 0)) (pk BK238) NB238_240.out (by simp)); have n1_ := Aside0.mk (KeepBut.blk hk (g' := gb239) (o := .cells (mixA (Value.int .u16) [] a1) 28 (0, 0)) (pk BK239) NB239_240.out (by simp)); have n2_ := Aside0.mk (hbl _ _ (pbs HB) GE240.out); have n3_ := Aside0.mk (hi); clear BK238; clear BK239; clear HB; clear BK240; have BK238 := n0_; have BK239 := n1_; have HB := n2_; have BK240 := n3_; clear n0_ n1_ n2_ n3_; clear hi hk hbl))
  refine bodyPost_ret (results_ct rfl _ _ gb240 28 (mixA (Value.int .u16) [] (LA.zero 40)) (0, 0) _ rfl (pk BK240) Tryd.underlying28 rfl (by rw [mix_size]; kernel_rfl)) rfl ?_
  exact ⟨by first | rfl | (simp [errW_none, errW_some] <;> rfl) | (simp [*, errW_none, errW_some] <;> rfl), pbs HB⟩
end Go.Proofs.YtdedijjbdkoekaaDoor.PB
end
section
namespace Go.Proofs.YtdedijjbdkoekaaDoor.PB
open Go.RowKit Go.Proofs.YtdedijjbdkoekaaDoorW.PrintWords Go.Proofs.YtdedijjbdkoekaaDoorW.PrintLast Go.Proofs.YtdedijjbdkoekaaDoorW.PrintMore Go.Proofs.YtdedijjbdkoekaaDoor.La
attribute [local go_sem] max2_int min2_int max_two min_two max_three min_three max_four min_four   -- for this text's walks alone
set_option linter.unusedVariables false
set_option linter.unusedSimpArgs false
def bits_OnesCount16.f (a0 : Int) : Option (Int) := if 0 ≤ (a0 / 256) then (if (a0 / 256) < 256 then (if 0 ≤ (Go.bits .and .u16 a0 255) then (if (Go.bits .and .u16 a0 255) < 256 then (some (((bt (⟨#[0, 1, 1, 2, 1, 2, 2, 3, 1, 2, 2, 3, 2, 3, 3, 4, 1, 2, 2, 3, 2, 3, 3, 4, 2, 3, 3, 4, 3, 4, 4, 5, 1, 2, 2, 3, 2, 3, 3, 4, 2, 3, 3, 4, 3, 4, 4, 5, 2, 3, 3, 4, 3, 4, 4, 5, 3, 4, 4, 5, 4, 5, 5, 6, 1, 2, 2, 3, 2, 3, 3, 4, 2, 3, 3, 4, 3, 4, 4, 5, 2, 3, 3, 4, 3, 4, 4, 5, 3, 4, 4, 5, 4, 5, 5, 6, 2, 3, 3, 4, 3, 4, 4, 5, 3, 4, 4, 5, 4, 5, 5, 6, 3, 4, 4, 5, 4, 5, 5, 6, 4, 5, 5, 6, 5, 6, 6, 7, 1, 2, 2, 3, 2, 3, 3, 4, 2, 3, 3, 4, 3, 4, 4, 5, 2, 3, 3, 4, 3, 4, 4, 5, 3, 4, 4, 5, 4, 5, 5, 6, 2, 3, 3, 4, 3, 4, 4, 5, 3, 4, 4, 5, 4, 5, 5, 6, 3, 4, 4, 5, 4, 5, 5, 6, 4, 5, 5, 6, 5, 6, 6, 7, 2, 3, 3, 4, 3, 4, 4, 5, 3, 4, 4, 5, 4, 5, 5, 6, 3, 4, 4, 5, 4, 5, 5, 6, 4, 5, 5, 6, 5, 6, 6, 7, 3, 4, 4, 5, 4, 5, 5, 6, 4, 5, 5, 6, 5, 6, 6, 7, 4, 5, 5, 6, 5, 6, 6, 7, 5, 6, 6, 7, 6, 7, 7, 8]⟩ : ByteArray) (a0 / 256)) + (bt (⟨#[0, 1, 1, 2, 1, 2, 2, 3, 1, 2, 2, 3, 2, 3, 3, 4, 1, 2, 2, 3, 2, 3, 3, 4, 2, 3, 3, 4, 3, 4, 4, 5, 1, 2, 2, 3, 2, 3, 3, 4, 2, 3, 3, 4, 3, 4, 4, 5, 2, 3, 3, 4, 3, 4, 4, 5, 3, 4, 4, 5, 4, 5, 5, 6, 1, 2, 2, 3, 2, 3, 3, 4, 2, 3, 3, 4, 3, 4, 4, 5, 2, 3, 3, 4, 3, 4, 4, 5, 3, 4, 4, 5, 4, 5, 5, 6, 2, 3, 3, 4, 3, 4, 4, 5, 3, 4, 4, 5, 4, 5, 5, 6, 3, 4, 4, 5, 4, 5, 5, 6, 4, 5, 5, 6, 5, 6, 6, 7, 1, 2, 2, 3, 2, 3, 3, 4, 2, 3, 3, 4, 3, 4, 4, 5, 2, 3, 3, 4, 3, 4, 4, 5, 3, 4, 4, 5, 4, 5, 5, 6, 2, 3, 3, 4, 3, 4, 4, 5, 3, 4, 4, 5, 4, 5, 5, 6, 3, 4, 4, 5, 4, 5, 5, 6, 4, 5, 5, 6, 5, 6, 6, 7, 2, 3, 3, 4, 3, 4, 4, 5, 3, 4, 4, 5, 4, 5, 5, 6, 3, 4, 4, 5, 4, 5, 5, 6, 4, 5, 5, 6, 5, 6, 6, 7, 3, 4, 4, 5, 4, 5, 5, 6, 4, 5, 5, 6, 5, 6, 6, 7, 4, 5, 5, 6, 5, 6, 6, 7, 5, 6, 6, 7, 6, 7, 7, 8]⟩ : ByteArray) (Go.bits .and .u16 a0 255))) % 256)) else (none)) else (none)) else (none)) else (none)
set_option maxHeartbeats 8000000 in
set_option maxRecDepth 100000 in
theorem bits_OnesCount16.calls (a0 : Int) (r : Int) (w : World) (h : bits_OnesCount16.f a0 = some r) :
  Calls Tryd.prog 52 #[.int .u16 a0] w fun e w' => e = .returned (.int .i64 r) ∧ Drawn0 w w' := by
 have H : (if 0 ≤ (a0 / 256) then (if (a0 / 256) < 256 then (if 0 ≤ (Go.bits .and .u16 a0 255) then (if (Go.bits .and .u16 a0 255) < 256 then (some (((bt (⟨#[0, 1, 1, 2, 1, 2, 2, 3, 1, 2, 2, 3, 2, 3, 3, 4, 1, 2, 2, 3, 2, 3, 3, 4, 2, 3, 3, 4, 3, 4, 4, 5, 1, 2, 2, 3, 2, 3, 3, 4, 2, 3, 3, 4, 3, 4, 4, 5, 2, 3, 3, 4, 3, 4, 4, 5, 3, 4, 4, 5, 4, 5, 5, 6, 1, 2, 2, 3, 2, 3, 3, 4, 2, 3, 3, 4, 3, 4, 4, 5, 2, 3, 3, 4, 3, 4, 4, 5, 3, 4, 4, 5, 4, 5, 5, 6, 2, 3, 3, 4, 3, 4, 4, 5, 3, 4, 4, 5, 4, 5, 5, 6, 3, 4, 4, 5, 4, 5, 5, 6, 4, 5, 5, 6, 5, 6, 6, 7, 1, 2, 2, 3, 2, 3, 3, 4, 2, 3, 3, 4, 3, 4, 4, 5, 2, 3, 3, 4, 3, 4, 4, 5, 3, 4, 4, 5, 4, 5, 5, 6, 2, 3, 3, 4, 3, 4, 4, 5, 3, 4, 4, 5, 4, 5, 5, 6, 3, 4, 4, 5, 4, 5, 5, 6, 4, 5, 5, 6, 5, 6, 6, 7, 2, 3, 3, 4, 3, 4, 4, 5, 3, 4, 4, 5, 4, 5, 5, 6, 3, 4, 4, 5, 4, 5, 5, 6, 4, 5, 5, 6, 5, 6, 6, 7, 3, 4, 4, 5, 4, 5, 5, 6, 4, 5, 5, 6, 5, 6, 6, 7, 4, 5, 5, 6, 5, 6, 6, 7, 5, 6, 6, 7, 6, 7, 7, 8]⟩ : ByteArray) (a0 / 256)) + (bt (⟨#[0, 1, 1, 2, 1, 2, 2, 3, 1, 2, 2, 3, 2, 3, 3, 4, 1, 2, 2, 3, 2, 3, 3, 4, 2, 3, 3, 4, 3, 4, 4, 5, 1, 2, 2, 3, 2, 3, 3, 4, 2, 3, 3, 4, 3, 4, 4, 5, 2, 3, 3, 4, 3, 4, 4, 5, 3, 4, 4, 5, 4, 5, 5, 6, 1, 2, 2, 3, 2, 3, 3, 4, 2, 3, 3, 4, 3, 4, 4, 5, 2, 3, 3, 4, 3, 4, 4, 5, 3, 4, 4, 5, 4, 5, 5, 6, 2, 3, 3, 4, 3, 4, 4, 5, 3, 4, 4, 5, 4, 5, 5, 6, 3, 4, 4, 5, 4, 5, 5, 6, 4, 5, 5, 6, 5, 6, 6, 7, 1, 2, 2, 3, 2, 3, 3, 4, 2, 3, 3, 4, 3, 4, 4, 5, 2, 3, 3, 4, 3, 4, 4, 5, 3, 4, 4, 5, 4, 5, 5, 6, 2, 3, 3, 4, 3, 4, 4, 5, 3, 4, 4, 5, 4, 5, 5, 6, 3, 4, 4, 5, 4, 5, 5, 6, 4, 5, 5, 6, 5, 6, 6, 7, 2, 3, 3, 4, 3, 4, 4, 5, 3, 4, 4, 5, 4, 5, 5, 6, 3, 4, 4, 5, 4, 5, 5, 6, 4, 5, 5, 6, 5, 6, 6, 7, 3, 4, 4, 5, 4, 5, 5, 6, 4, 5, 5, 6, 5, 6, 6, 7, 4, 5, 5, 6, 5, 6, 6, 7, 5, 6, 6, 7, 6, 7, 7, 8]⟩ : ByteArray) (Go.bits .and .u16 a0 255))) % 256)) else (none)) else (none)) else (none)) else (none)) = some r := h
 clear h
 obtain ⟨ji2, hji2⟩ : ∃ j_ : Int, (a0 / 256) = j_ := ⟨_, rfl⟩
 replace H : (if 0 ≤ (ji2) then (if (ji2) < 256 then (if 0 ≤ (Go.bits .and .u16 a0 255) then (if (Go.bits .and .u16 a0 255) < 256 then (some (((bt (⟨#[0, 1, 1, 2, 1, 2, 2, 3, 1, 2, 2, 3, 2, 3, 3, 4, 1, 2, 2, 3, 2, 3, 3, 4, 2, 3, 3, 4, 3, 4, 4, 5, 1, 2, 2, 3, 2, 3, 3, 4, 2, 3, 3, 4, 3, 4, 4, 5, 2, 3, 3, 4, 3, 4, 4, 5, 3, 4, 4, 5, 4, 5, 5, 6, 1, 2, 2, 3, 2, 3, 3, 4, 2, 3, 3, 4, 3, 4, 4, 5, 2, 3, 3, 4, 3, 4, 4, 5, 3, 4, 4, 5, 4, 5, 5, 6, 2, 3, 3, 4, 3, 4, 4, 5, 3, 4, 4, 5, 4, 5, 5, 6, 3, 4, 4, 5, 4, 5, 5, 6, 4, 5, 5, 6, 5, 6, 6, 7, 1, 2, 2, 3, 2, 3, 3, 4, 2, 3, 3, 4, 3, 4, 4, 5, 2, 3, 3, 4, 3, 4, 4, 5, 3, 4, 4, 5, 4, 5, 5, 6, 2, 3, 3, 4, 3, 4, 4, 5, 3, 4, 4, 5, 4, 5, 5, 6, 3, 4, 4, 5, 4, 5, 5, 6, 4, 5, 5, 6, 5, 6, 6, 7, 2, 3, 3, 4, 3, 4, 4, 5, 3, 4, 4, 5, 4, 5, 5, 6, 3, 4, 4, 5, 4, 5, 5, 6, 4, 5, 5, 6, 5, 6, 6, 7, 3, 4, 4, 5, 4, 5, 5, 6, 4, 5, 5, 6, 5, 6, 6, 7, 4, 5, 5, 6, 5, 6, 6, 7, 5, 6, 6, 7, 6, 7, 7, 8]⟩ : ByteArray) (ji2)) + (bt (⟨#[0, 1, 1, 2, 1, 2, 2, 3, 1, 2, 2, 3, 2, 3, 3, 4, 1, 2, 2, 3, 2, 3, 3, 4, 2, 3, 3, 4, 3, 4, 4, 5, 1, 2, 2, 3, 2, 3, 3, 4, 2, 3, 3, 4, 3, 4, 4, 5, 2, 3, 3, 4, 3, 4, 4, 5, 3, 4, 4, 5, 4, 5, 5, 6, 1, 2, 2, 3, 2, 3, 3, 4, 2, 3, 3, 4, 3, 4, 4, 5, 2, 3, 3, 4, 3, 4, 4, 5, 3, 4, 4, 5, 4, 5, 5, 6, 2, 3, 3, 4, 3, 4, 4, 5, 3, 4, 4, 5, 4, 5, 5, 6, 3, 4, 4, 5, 4, 5, 5, 6, 4, 5, 5, 6, 5, 6, 6, 7, 1, 2, 2, 3, 2, 3, 3, 4, 2, 3, 3, 4, 3, 4, 4, 5, 2, 3, 3, 4, 3, 4, 4, 5, 3, 4, 4, 5, 4, 5, 5, 6, 2, 3, 3, 4, 3, 4, 4, 5, 3, 4, 4, 5, 4, 5, 5, 6, 3, 4, 4, 5, 4, 5, 5, 6, 4, 5, 5, 6, 5, 6, 6, 7, 2, 3, 3, 4, 3, 4, 4, 5, 3, 4, 4, 5, 4, 5, 5, 6, 3, 4, 4, 5, 4, 5, 5, 6, 4, 5, 5, 6, 5, 6, 6, 7, 3, 4, 4, 5, 4, 5, 5, 6, 4, 5, 5, 6, 5, 6, 6, 7, 4, 5, 5, 6, 5, 6, 6, 7, 5, 6, 6, 7, 6, 7, 7, 8]⟩ : ByteArray) (Go.bits .and .u16 a0 255))) % 256)) else (none)) else (none)) else (none)) else (none)) = some r := by first | (rw [hji2] at H; exact H) | (simp only [hji2] at H ⊢; exact H)
 by_cases c3 : 0 ≤ (ji2)
 ·rw [if_pos c3] at H
  have c3b0 : decide (0 ≤ (ji2)) = true := decide_eq_true c3
  clear c3
  by_cases c4 : (ji2) < 256
  ·rw [if_pos c4] at H
   have c4b0 : decide ((ji2) < 256) = true := decide_eq_true c4
   clear c4
   by_cases c6 : 0 ≤ (Go.bits .and .u16 a0 255)
   ·rw [if_pos c6] at H
    have c6b0 : decide (0 ≤ (Go.bits .and .u16 a0 255)) = true := decide_eq_true c6
    clear c6
    by_cases c7 : (Go.bits .and .u16 a0 255) < 256
    ·rw [if_pos c7] at H
     have c7b0 : decide ((Go.bits .and .u16 a0 255) < 256) = true := decide_eq_true c7
     clear c7
     obtain rfl := Option.some.inj H
     have p5 : 0 ≤ ((ji2) : Int) := of_decide_eq_true (by first | (with_reducible assumption) | assumption)
     have q5 : (ji2) < (256 : Int) := of_decide_eq_true (by first | (with_reducible assumption) | assumption)
     have hx5 := bt_at (⟨#[0, 1, 1, 2, 1, 2, 2, 3, 1, 2, 2, 3, 2, 3, 3, 4, 1, 2, 2, 3, 2, 3, 3, 4, 2, 3, 3, 4, 3, 4, 4, 5, 1, 2, 2, 3, 2, 3, 3, 4, 2, 3, 3, 4, 3, 4, 4, 5, 2, 3, 3, 4, 3, 4, 4, 5, 3, 4, 4, 5, 4, 5, 5, 6, 1, 2, 2, 3, 2, 3, 3, 4, 2, 3, 3, 4, 3, 4, 4, 5, 2, 3, 3, 4, 3, 4, 4, 5, 3, 4, 4, 5, 4, 5, 5, 6, 2, 3, 3, 4, 3, 4, 4, 5, 3, 4, 4, 5, 4, 5, 5, 6, 3, 4, 4, 5, 4, 5, 5, 6, 4, 5, 5, 6, 5, 6, 6, 7, 1, 2, 2, 3, 2, 3, 3, 4, 2, 3, 3, 4, 3, 4, 4, 5, 2, 3, 3, 4, 3, 4, 4, 5, 3, 4, 4, 5, 4, 5, 5, 6, 2, 3, 3, 4, 3, 4, 4, 5, 3, 4, 4, 5, 4, 5, 5, 6, 3, 4, 4, 5, 4, 5, 5, 6, 4, 5, 5, 6, 5, 6, 6, 7, 2, 3, 3, 4, 3, 4, 4, 5, 3, 4, 4, 5, 4, 5, 5, 6, 3, 4, 4, 5, 4, 5, 5, 6, 4, 5, 5, 6, 5, 6, 6, 7, 3, 4, 4, 5, 4, 5, 5, 6, 4, 5, 5, 6, 5, 6, 6, 7, 4, 5, 5, 6, 5, 6, 6, 7, 5, 6, 6, 7, 6, 7, 7, 8]⟩ : ByteArray) (ji2)
     replace p5 := eq_true p5
     replace q5 := eq_true q5
     have p8 : 0 ≤ ((Go.bits .and .u16 a0 255) : Int) := of_decide_eq_true (by first | (with_reducible assumption) | assumption)
     have q8 : (Go.bits .and .u16 a0 255) < (256 : Int) := of_decide_eq_true (by first | (with_reducible assumption) | assumption)
     have hx8 := bt_at (⟨#[0, 1, 1, 2, 1, 2, 2, 3, 1, 2, 2, 3, 2, 3, 3, 4, 1, 2, 2, 3, 2, 3, 3, 4, 2, 3, 3, 4, 3, 4, 4, 5, 1, 2, 2, 3, 2, 3, 3, 4, 2, 3, 3, 4, 3, 4, 4, 5, 2, 3, 3, 4, 3, 4, 4, 5, 3, 4, 4, 5, 4, 5, 5, 6, 1, 2, 2, 3, 2, 3, 3, 4, 2, 3, 3, 4, 3, 4, 4, 5, 2, 3, 3, 4, 3, 4, 4, 5, 3, 4, 4, 5, 4, 5, 5, 6, 2, 3, 3, 4, 3, 4, 4, 5, 3, 4, 4, 5, 4, 5, 5, 6, 3, 4, 4, 5, 4, 5, 5, 6, 4, 5, 5, 6, 5, 6, 6, 7, 1, 2, 2, 3, 2, 3, 3, 4, 2, 3, 3, 4, 3, 4, 4, 5, 2, 3, 3, 4, 3, 4, 4, 5, 3, 4, 4, 5, 4, 5, 5, 6, 2, 3, 3, 4, 3, 4, 4, 5, 3, 4, 4, 5, 4, 5, 5, 6, 3, 4, 4, 5, 4, 5, 5, 6, 4, 5, 5, 6, 5, 6, 6, 7, 2, 3, 3, 4, 3, 4, 4, 5, 3, 4, 4, 5, 4, 5, 5, 6, 3, 4, 4, 5, 4, 5, 5, 6, 4, 5, 5, 6, 5, 6, 6, 7, 3, 4, 4, 5, 4, 5, 5, 6, 4, 5, 5, 6, 5, 6, 6, 7, 4, 5, 5, 6, 5, 6, 6, 7, 5, 6, 6, 7, 6, 7, 7, 8]⟩ : ByteArray) (Go.bits .and .u16 a0 255)
     replace p8 := eq_true p8
     replace q8 := eq_true q8
     go_enter Tryd.func52, Tryd.ntmps52
     go_wp2
     repeat (go_quiet (fail); try go_wp2)
     go_ret
     exact ⟨by first | rfl | (simp; done) | (simp only [← hji2] <;> (first | rfl | simp)) | (simp [*]; done), by repeat (first | exact Drawn0.refl _ | apply Drawn0.step)⟩
    ·rw [if_neg c7] at H
     exact absurd H (by simp)
   ·rw [if_neg c6] at H
    exact absurd H (by simp)
  ·rw [if_neg c4] at H
   exact absurd H (by simp)
 ·rw [if_neg c3] at H
  exact absurd H (by simp)
mutual
def impl_CountCrowd.l0 : Nat → Int → LA 40 → Int → Option (Int)
 | 0, _, _, _ => none
 | k + 1, x3, x8, x9 => if x9 < 4 then (if 0 ≤ x9 then (impl_CountCrowd.l1 k x3 x8 x9 (LA.row x8 10 x9) 0) else (none)) else (some x3)
def impl_CountCrowd.l1 : Nat → Int → LA 40 → Int → LA 10 → Int → Option (Int)
 | 0, _, _, _, _, _ => none
 | k + 1, x3, x8, x9, x12, x13 => if x13 < 10 then (if 0 ≤ x13 then ((bits_OnesCount16.f (Go.bits .and .u16 (rd x12.l x13) 1023)).bind fun t312 => (impl_CountCrowd.l1 k (wrap64 (x3 + t312)) x8 x9 x12 (wrap64 (x13 + 1)))) else (none)) else (impl_CountCrowd.l0 k x3 x8 (wrap64 (x9 + 1)))
end
def impl_CountCrowd.f (k : Nat) (a0 : LA 40) : Option (Int) := impl_CountCrowd.l0 k 0 a0 0
theorem impl_CountCrowd.mono_l : ∀ k, (∀ y0 y1 y2, LeO (impl_CountCrowd.l0 k y0 y1 y2) (impl_CountCrowd.l0 (k + 1) y0 y1 y2)) ∧ (∀ y0 y1 y2 y3 y4, LeO (impl_CountCrowd.l1 k y0 y1 y2 y3 y4) (impl_CountCrowd.l1 (k + 1) y0 y1 y2 y3 y4))
 | 0 => ⟨fun _ _ _ r h => by simp [impl_CountCrowd.l0] at h, fun _ _ _ _ _ r h => by simp [impl_CountCrowd.l1] at h⟩
 | k + 1 => by
  obtain ⟨ih0, ih1⟩ := impl_CountCrowd.mono_l k
  refine ⟨?_, ?_⟩
  ·intro y0 y1 y2
   unfold impl_CountCrowd.l0
   repeat' first
   | (with_reducible exact ih0 _ _ _)
   | (with_reducible exact ih1 _ _ _ _ _)
   | (with_reducible exact LeO.refl _)
   | (with_reducible exact LeO.none _)
   | (with_reducible refine LeO.ite ?_ ?_)
   | (with_reducible refine LeO.bind ?_ (fun _ => ?_))
   | exact ih0 _ _ _
   | exact ih1 _ _ _ _ _
   | exact LeO.none _
   | refine LeO.ite ?_ ?_
   | refine LeO.bind ?_ (fun _ => ?_)
  ·intro y0 y1 y2 y3 y4
   unfold impl_CountCrowd.l1
   repeat' first
   | (with_reducible exact ih0 _ _ _)
   | (with_reducible exact ih1 _ _ _ _ _)
   | (with_reducible exact LeO.refl _)
   | (with_reducible exact LeO.none _)
   | (with_reducible refine LeO.ite ?_ ?_)
   | (with_reducible refine LeO.bind ?_ (fun _ => ?_))
   | exact ih0 _ _ _
   | exact ih1 _ _ _ _ _
   | exact LeO.none _
   | refine LeO.ite ?_ ?_
   | refine LeO.bind ?_ (fun _ => ?_)
theorem impl_CountCrowd.mono : ∀ a0 k, LeO (impl_CountCrowd.f k a0) (impl_CountCrowd.f (k + 1) a0) := by
 intro a0 k
 obtain ⟨ih0, ih1⟩ := impl_CountCrowd.mono_l k
 unfold impl_CountCrowd.f
 repeat' first
   | (with_reducible exact ih0 _ _ _)
   | (with_reducible exact ih1 _ _ _ _ _)
   | (with_reducible exact LeO.refl _)
   | (with_reducible exact LeO.none _)
   | (with_reducible refine LeO.ite ?_ ?_)
   | (with_reducible refine LeO.bind ?_ (fun _ => ?_))
   | exact ih0 _ _ _
   | exact ih1 _ _ _ _ _
   | exact LeO.none _
   | refine LeO.ite ?_ ?_
   | refine LeO.bind ?_ (fun _ => ?_)
set_option maxHeartbeats 8000000 in
set_option maxRecDepth 100000 in
theorem impl_CountCrowd.calls (k : Nat) (a0 : LA 40) (r : Int) (w : World) (h : impl_CountCrowd.f k a0 = some r) :
  Calls Tryd.prog 30 #[.agg (mixA (Value.int .u16) [] a0)] w fun e w' => e = .returned (.int .i64 r) ∧ Below w.heap.size w w' := by
 have HB := Aside0.mk (Below.refl w.heap.size w)
 have H : (impl_CountCrowd.l0 k 0 a0 0) = some r := h
 clear h
 have H' := Aside0.mk H
 clear H
 go_enter Tryd.func30, Tryd.ntmps30
 go_wp2_with (first | ((with_reducible refine gate_dst (N := 1) rfl ?_); refine box_event ?hg (N := 1) ?hd (cs := (mixA (Value.int .u16) [] a0)) (t := 28) ?hr ?_; (case hd => rfl); (case hg => rfl); (case hr => first | (go_simp; done) | (go_simp; rfl)); intro gb310 hg w2 hbox hb; have n0_ := bst HB hb; have n1_ := Aside0.mk (hbox); have n2_ := gwl HB hg; have n3_ := gwl HB hg; clear HB; have HB := n0_; have BK310 := n1_; have GW310 := n2_; have GE310 := n3_; clear n0_ n1_ n2_ n3_; clear hb hbox hg) | ((with_reducible refine gate_dst (N := 8) rfl ?_); refine wpList_run0 (v := .agg (mixA (Value.int .u16) [] a0)) rfl (load_mix_run (P := Tryd.prog) 28 (.tmp 1) rfl gb310 rfl (show World.rangeAt _ gb310 0 ([] ++ a0.l.map (Value.int .u16)) from mix_range (show (World.heap _)[gb310]? = some (.cells (mixA (Value.int .u16) [] a0) 28 (0, 0)) from by (with_reducible repeat (first | refine blk_drewN ?_ _ | refine blk_drew ?_ | refine blk_alloc ?_ _)); exact BK310.out)) Tryd.underlying28 rfl (by kernel_rfl) rfl) ?_))
 go_loopg [3, 9] k (fun kq v3 v9 w' => ∃ (x3_1 : Int) (x9_1 : Int), v3 = .int .i64 x3_1 ∧ v9 = .int .i64 x9_1 ∧ Aside0 (impl_CountCrowd.l0 kq x3_1 a0 x9_1 = some r) ∧ Aside0 (kq ≤ k) ∧ Aside0 (w'.heap[gb310]? = some (.cells (mixA (Value.int .u16) [] a0) 28 (0, 0))) ∧ Aside0 (Below w.heap.size w w'))
 case atStart => exact ⟨(0), (0), (by first | rfl | (simp; done) | (simp [*]; done)), (by first | rfl | (simp; done) | (simp [*]; done)), H', ⟨Nat.le_refl _⟩, ⟨pk BK310⟩, ⟨pbs HB⟩⟩
 case round =>
  clear H'
  try clear p2
  try clear c3
  obtain ⟨x3_1, x9_1, rfl, rfl, HA, HK1, BK310, HB⟩ := hrel
  cases gk with
  | zero => exact absurd HA.out (by simp [impl_CountCrowd.l0])
  | succ k1 =>
   have H := HA.out
   clear HA
   simp only [impl_CountCrowd.l0] at H
   by_cases c4 : x9_1 < 4
   ·rw [if_pos c4] at H
    have c4b0 : decide (x9_1 < 4) = true := decide_eq_true c4
    clear c4
    by_cases c5 : 0 ≤ x9_1
    ·rw [if_pos c5] at H
     have c5b0 : decide (0 ≤ x9_1) = true := decide_eq_true c5
     clear c5
     have H' := Aside0.mk H
     clear H
     have hixd6 : ∀ W_ : World, (Instr.index 28 (.agg (mixA (Value.int .u16) [] a0)) (.int .i64 x9_1)).run Tryd.prog W_ = .ok (.agg (mixA (Value.int .u16) [] (LA.row a0 10 x9_1))) W_ := fun W_ => idx_lar (c := 4) (m := 10) (e := (Value.int .u16)) Tryd.underlying28 (fun _ => by kernel_rfl) (fun _ => by kernel_rfl) rfl x9_1 (by first | omega | exact of_decide_eq_true (by first | (with_reducible assumption) | assumption)) (by first | omega | exact of_decide_eq_true (by first | (with_reducible assumption) | assumption)) W_
     go_wp2_with (first | ((with_reducible refine gate_dst (N := 5) rfl ?_); refine box_event ?hg (N := 5) ?hd (cs := (mixA (Value.int .u16) [] (LA.zero 10))) (t := 24) ?hr ?_; (case hd => rfl); (case hg => rfl); (case hr => first | (go_simp; done) | (go_simp; rfl)); intro gb311 hg w7 hbox hb; have n0_ := bkb BK310 hb; have n1_ := bst HB hb; have n2_ := Aside0.mk (hbox); have n3_ := gwl HB hg; have n4_ := gwl HB hg; have n5_ := nbl BK310 hg; have n6_ := nbg BK310 hg; clear BK310; clear HB; have BK310 := n0_; have HB := n1_; have BK311 := n2_; have GW311 := n3_; have GE311 := n4_; have NB310_311 := n5_; have NB311_310 := n6_; clear n0_ n1_ n2_ n3_ n4_ n5_ n6_; clear hb hbox hg) | ((with_reducible refine gate_store (p := 5) rfl ?_); refine wpList_store_lmix rfl 24 _ _ rfl gb311 (e := (Value.int .u16)) (cs' := []) (W' := (LA.row a0 10 x9_1)) (cs := []) (W := (LA.zero 10)) (T := 24) rfl rfl (pk BK311) rfl (by kernel_rfl) rfl (fun _ => rfl) rfl ?_; intro w8 hi hk hbl; have n0_ := Aside0.mk (KeepBut.blk hk (g' := gb310) (o := .cells (mixA (Value.int .u16) [] a0) 28 (0, 0)) (pk BK310) NB310_311.out (by simp)); have n1_ := Aside0.mk (hbl _ _ (pbs HB) GE311.out); have n2_ := Aside0.mk (hi); clear BK310; clear HB; clear BK311; have BK310 := n0_; have HB := n1_; have BK311 := n2_; clear n0_ n1_ n2_; clear hi hk hbl) | ((with_reducible refine gate_dst (N := 12) rfl ?_); refine wpList_run0 (v := .agg (mixA (Value.int .u16) [] (LA.row a0 10 x9_1))) rfl (load_mix_run (P := Tryd.prog) 24 (.tmp 5) rfl gb311 rfl (show World.rangeAt _ gb311 0 ([] ++ (LA.row a0 10 x9_1).l.map (Value.int .u16)) from mix_range (show (World.heap _)[gb311]? = some (.cells (mixA (Value.int .u16) [] (LA.row a0 10 x9_1)) 24 (0, 0)) from by (with_reducible repeat (first | refine blk_drewN ?_ _ | refine blk_drew ?_ | refine blk_alloc ?_ _)); exact BK311.out)) Tryd.underlying24 rfl (by kernel_rfl) rfl) ?_))
     go_loopg [3, 13] k1 (fun kq v3 v13 w' => ∃ (x3_2 : Int) (x13_2 : Int), v3 = .int .i64 x3_2 ∧ v13 = .int .i64 x13_2 ∧ Aside0 (impl_CountCrowd.l1 kq x3_2 a0 x9_1 (LA.row a0 10 x9_1) x13_2 = some r) ∧ Aside0 (kq ≤ k1) ∧ Aside0 (w'.heap[gb310]? = some (.cells (mixA (Value.int .u16) [] a0) 28 (0, 0))) ∧ Aside0 (w'.heap[gb311]? = some (.cells (mixA (Value.int .u16) [] (LA.row a0 10 x9_1)) 24 (0, 0))) ∧ Aside0 (Below w.heap.size w w'))
     case atStart => exact ⟨(x3_1), (0), (by first | rfl | (simp; done) | (simp [*]; done)), (by first | rfl | (simp; done) | (simp [*]; done)), H', ⟨Nat.le_refl _⟩, ⟨pk BK310⟩, ⟨pk BK311⟩, ⟨pbs HB⟩⟩
     case round =>
      clear H'
      try clear p2
      try clear c3
      try clear c4
      try clear c4b0
      try clear c5
      try clear c5b0
      try clear p2
      obtain ⟨x3_2, x13_2, rfl, rfl, HA, HK2, BK310, BK311, HB⟩ := hrel
      cases gk with
      | zero => exact absurd HA.out (by simp [impl_CountCrowd.l1])
      | succ k2 =>
       have H := HA.out
       clear HA
       simp only [impl_CountCrowd.l1] at H
       by_cases c10 : x13_2 < 10
       ·rw [if_pos c10] at H
        have c10b0 : decide (x13_2 < 10) = true := decide_eq_true c10
        clear c10
        by_cases c11 : 0 ≤ x13_2
        ·rw [if_pos c11] at H
         have c11b0 : decide (0 ≤ x13_2) = true := decide_eq_true c11
         clear c11
         replace H := Option.bind_eq_some_iff.mp H
         obtain ⟨t312, A120, H⟩ := H
         replace H : (impl_CountCrowd.l1 k2 (wrap64 (x3_2 + t312)) a0 x9_1 (LA.row a0 10 x9_1) (wrap64 (x13_2 + 1))) = some r := H
         have A12 := Aside0.mk A120
         clear A120
         have H' := Aside0.mk H
         clear H
         have hixd13 : ∀ W_ : World, (Instr.index 24 (.agg (mixA (Value.int .u16) [] (LA.row a0 10 x9_1))) (.int .i64 x13_2)).run Tryd.prog W_ = .ok (.int .u16 (rd (LA.row a0 10 x9_1).l x13_2)) W_ := fun W_ => idx_la (e := (Value.int .u16)) Tryd.underlying24 (fun _ => by kernel_rfl) (fun _ => by kernel_rfl) x13_2 (by first | omega | exact of_decide_eq_true (by first | (with_reducible assumption) | assumption)) (by first | omega | exact of_decide_eq_true (by first | (with_reducible assumption) | assumption)) W_
         go_wp2_with (first | ((with_reducible refine gate_callee (f := 52) rfl ?_); refine goesL_ (some 19) rfl rfl Tryd.func52 (by kernel_rfl) rfl #[.int .u16 (Go.bits .and .u16 (rd (LA.row a0 10 x9_1).l x13_2) 1023)] rfl (by (try simp only [List.map_toArray, List.map_cons, List.map_nil]); first | done | rfl | (simp only [List.length_drop, List.length_take]; rfl)) ?_; (with_reducible refine (bits_OnesCount16.calls (Go.bits .and .u16 (rd (LA.row a0 10 x9_1).l x13_2) 1023) t312 _ A12.out).mono ?_); rintro e w' ⟨rfl, ⟨nd, rfl⟩⟩; refine ⟨_, rfl, ?_⟩))
         go_roundg k2
         case measure => have := HK1.out; have := HK2.out; omega
         case rel => exact ⟨(wrap64 (x3_2 + t312)), (wrap64 (x13_2 + 1)), (by first | rfl | (simp; done) | (simp [*]; done)), (by first | rfl | (simp; done) | (simp [*]; done)), H', ⟨by have := HK1.out; have := HK2.out; omega⟩, ⟨pk BK310⟩, ⟨pk BK311⟩, ⟨pbs HB⟩⟩
        ·rw [if_neg c11] at H
         exact absurd H (by simp)
       ·rw [if_neg c10] at H
        have c10b0 : decide (x13_2 < 10) = false := decide_eq_false c10
        clear c10
        have H' := Aside0.mk H
        clear H
        go_wp2
        go_roundg k2
        case measure => have := HK1.out; have := HK2.out; omega
        case rel => exact ⟨(x3_2), (wrap64 (x9_1 + 1)), (by first | rfl | (simp; done) | (simp [*]; done)), (by first | rfl | (simp; done) | (simp [*]; done)), H', ⟨by have := HK1.out; have := HK2.out; omega⟩, ⟨pk BK310⟩, ⟨pbs HB⟩⟩
    ·rw [if_neg c5] at H
     exact absurd H (by simp)
   ·rw [if_neg c4] at H
    have c4b0 : decide (x9_1 < 4) = false := decide_eq_false c4
    clear c4
    obtain rfl := Option.some.inj H
    go_wp2
    go_ret
    exact ⟨by first | rfl | (simp [errW_none, errW_some] <;> rfl) | (simp [*, errW_none, errW_some] <;> rfl), pbs HB⟩
end Go.Proofs.YtdedijjbdkoekaaDoor.PB
end
