/- Lean functions for Go functions, and proofs that Go comes to just their answers; written by a program of this session. -/
import Derived.Test.YthfinhdmdfekcaaPAx0
import Derived.Test.YthfinhdmdfekcaaPAx1
import Derived.Test.YthfinhdmdfekcaaPAx3
import Derived.Test.YthfinhdmdfekcaaPAx12
import Derived.Test.YthfinhdmdfekcaaPAx15
import Derived.Test.YthfinhdmdfekcaaPAx16
import Derived.Test.YthfinhdmdfekcaaPAx19
namespace Go.Proofs.Ythfinhdmdfekcaa.PA
open Go.RowKit Go.Proofs.YthfinhdmdfekcaaW.PrintWords Go.Proofs.YthfinhdmdfekcaaW.PrintLast Go.Proofs.YthfinhdmdfekcaaW.PrintMore
attribute [local go_sem] max2_int min2_int max_two min_two max_three min_three max_four min_four   -- for this text's walks alone
set_option linter.unusedVariables false
set_option linter.unusedSimpArgs false

/-! ### spec_l07Plans: function 70 -/
mutual
def spec_l07Plans.l0 : Nat → List (S75) → List Int → List Int → List (List Int) → Int → Option ((List (List Int)))
  | 0, _, _, _, _, _ => none
  | k + 1, x0, x1, x2, x7, x8 => if x8 < (x0.length : Int) then ((spec_l07May.f k x0 x1 x2 x8).bind fun t272 => (if t272 = true then ((spec_l00Own.f x2).bind fun t273 => (if t273.length < 17592186044416 then ((spec_l07Plans.f k x0 x1 (t273 ++ [x8])).bind fun t279 => (if x7.length + t279.length < 5864062014805 then (spec_l07Plans.l0 k x0 x1 x2 (x7 ++ t279) (wrap64 (x8 + 1))) else (none))) else (none))) else (spec_l07Plans.l0 k x0 x1 x2 x7 (wrap64 (x8 + 1))))) else (some x7)
def spec_l07Plans.f : Nat → List (S75) → List Int → List Int → Option ((List (List Int)))
  | 0, _, _, _ => none
  | k + 1, l0, l1, l2 => if (l2.length : Int) = (l1.length : Int) then ((spec_l00Own.f l2).bind fun t263 => (some (([t263] : List (List Int))))) else (spec_l07Plans.l0 k l0 l1 l2 (([] : List (List Int))) 0)
end
theorem spec_l07Plans.mono_l : ∀ k, (∀ y0 y1 y2, LeO (spec_l07Plans.f k y0 y1 y2) (spec_l07Plans.f (k + 1) y0 y1 y2)) ∧ (∀ y0 y1 y2 y3 y4, LeO (spec_l07Plans.l0 k y0 y1 y2 y3 y4) (spec_l07Plans.l0 (k + 1) y0 y1 y2 y3 y4))
  | 0 => ⟨fun _ _ _ r h => by simp [spec_l07Plans.f] at h, fun _ _ _ _ _ r h => by simp [spec_l07Plans.l0] at h⟩
  | k + 1 => by
    obtain ⟨ih0, ih1⟩ := spec_l07Plans.mono_l k
    refine ⟨?_, ?_⟩
    · intro y0 y1 y2
      unfold spec_l07Plans.f
      repeat' first
      | (with_reducible exact ih0 _ _ _)
      | (with_reducible exact ih1 _ _ _ _ _)
      | (with_reducible exact spec_l07May.mono _ _ _ _ _)
      | (with_reducible exact LeO.refl _)
      | (with_reducible exact LeO.none _)
      | (with_reducible refine LeO.ite ?_ ?_)
      | (with_reducible refine LeO.bind ?_ (fun _ => ?_))
      | exact ih0 _ _ _
      | exact ih1 _ _ _ _ _
      | exact spec_l07May.mono _ _ _ _ _
      | exact LeO.none _
      | refine LeO.ite ?_ ?_
      | refine LeO.bind ?_ (fun _ => ?_)
    · intro y0 y1 y2 y3 y4
      unfold spec_l07Plans.l0
      repeat' first
      | (with_reducible exact ih0 _ _ _)
      | (with_reducible exact ih1 _ _ _ _ _)
      | (with_reducible exact spec_l07May.mono _ _ _ _ _)
      | (with_reducible exact LeO.refl _)
      | (with_reducible exact LeO.none _)
      | (with_reducible refine LeO.ite ?_ ?_)
      | (with_reducible refine LeO.bind ?_ (fun _ => ?_))
      | exact ih0 _ _ _
      | exact ih1 _ _ _ _ _
      | exact spec_l07May.mono _ _ _ _ _
      | exact LeO.none _
      | refine LeO.ite ?_ ?_
      | refine LeO.bind ?_ (fun _ => ?_)
theorem spec_l07Plans.mono : ∀ a0 a1 a2 k, LeO (spec_l07Plans.f k a0 a1 a2) (spec_l07Plans.f (k + 1) a0 a1 a2) := by
  intro a0 a1 a2 k
  obtain ⟨ih0, ih1⟩ := spec_l07Plans.mono_l k
  exact ih0 a0 a1 a2
set_option maxHeartbeats 8000000 in
set_option maxRecDepth 100000 in
theorem spec_l07Plans.calls (k : Nat) : ∀ (A0 : Option Addr) (c0 : Nat) (l0 : List (S75)) (A1 : Option Addr) (c1 : Nat) (l1 : List Int) (A2 : Option Addr) (c2 : Nat) (l2 : List Int) (r : List (List Int)) (w : World) (hr0 : Kd.C k75 w A0 l0.length l0) (hc0 : l0.length ≤ c0) (hr1 : Kd.C (Kd.int .i64) w A1 l1.length l1) (hc1 : l1.length ≤ c1) (hr2 : Kd.C (Kd.int .i64) w A2 l2.length l2) (hc2 : l2.length ≤ c2) (h : spec_l07Plans.f k l0 l1 l2 = some r),
    Calls Try.prog 70 #[.slice A0 l0.length c0, .slice A1 l1.length c1, .slice A2 l2.length c2] w fun e w' => ∃ v0_ : Value, e = .returned (v0_) ∧ Kd.N (Kd.slice 2 (Kd.int .i64)) 22 w' w.heap.size (fun k_ => (w.heap.size ≤ k_)) v0_ r ∧ Below w.heap.size w w' := by
  induction k using Nat.strongRecOn with
  | _ k ih =>
  intro A0 c0 l0 A1 c1 l1 A2 c2 l2 r w hr0 hc0 hr1 hc1 hr2 hc2 h
  cases k with
  | zero => exact absurd h (by simp [spec_l07Plans.f])
  | succ k =>
  simp only [spec_l07Plans.f] at h
  have HR0 := Aside0.mk hr0
  have HC0 := Aside0.mk hc0
  clear hr0 hc0
  have HR1 := Aside0.mk hr1
  have HC1 := Aside0.mk hc1
  clear hr1 hc1
  have HR2 := Aside0.mk hr2
  have HC2 := Aside0.mk hc2
  clear hr2 hc2
  have HB := Aside0.mk (Below.refl w.heap.size w)
  have H : (if (l2.length : Int) = (l1.length : Int) then ((spec_l00Own.f l2).bind fun t263 => (some (([t263] : List (List Int))))) else (spec_l07Plans.l0 k l0 l1 l2 (([] : List (List Int))) 0)) = some r := h
  clear h
  by_cases c4 : (l2.length : Int) = (l1.length : Int)
  · rw [if_pos c4] at H
    have c4b0 : ((l2.length : Int) == (l1.length : Int)) = true := beq_iff_eq.mpr c4
    have c4b1 : ((l2.length : Int) != (l1.length : Int)) = false := bne_eq_false_iff_eq.mpr c4
    have c4b2 : (l2.length == l1.length) = true := by first | simpa using c4 | (simp at c4 ⊢; omega)
    clear c4
    replace H := Option.bind_eq_some_iff.mp H
    obtain ⟨t263, A50, H⟩ := H
    replace H : (some (([t263] : List (List Int)))) = some r := H
    have A5 := Aside0.mk A50
    clear A50
    obtain ⟨y266, hy266⟩ : ∃ y_ : List (List Int), y_ = (([t263] : List (List Int))) := ⟨_, rfl⟩
    replace H : (some y266) = some r := by first | (rw [hy266]; with_reducible exact H) | (have H2_ := (Option.bind_some _ _).symm.trans H; rw [hy266]; with_reducible exact H2_) | (have H2_ := (Option.bind_some _ _).symm.trans H; with_reducible exact H2_) | with_reducible exact H | (rw [hy266]; exact H) | exact H
    have Ny266 := Aside0.mk hy266
    clear hy266
    obtain rfl := Option.some.inj H
    go_enter Try.func70, Try.ntmps70
    go_wp2_with (first | ((with_reducible refine gate_callee (f := 93) rfl ?_); refine goesL_ (some 15) rfl rfl Try.func93 (by kernel_rfl) rfl #[.slice A2 l2.length c2] rfl (by (try simp only [List.map_toArray, List.map_cons, List.map_nil]); first | done | rfl | (simp only [List.length_drop, List.length_take]; rfl)) ?_; (with_reducible refine (spec_l00Own.calls _ _ l2 t263 _ ?side1 ?side2 A5.out).mono ?_); (case side1 => repeat (first | exact HR2.out | (with_reducible refine Kd.C_alloc ?_ _) | (with_reducible refine Kd.C_drewN ?_ _) | (with_reducible refine Kd.C_drew ?_))); (case side2 => exact HC2.out); rintro e w6 ⟨v264, rfl, ho0, hb⟩; refine ⟨_, rfl, ?_⟩; have n0_ := Aside0.mk (Kd.R_lower (Kd.R_newM (M := fun k_ => (w.heap.size ≤ k_)) ho0 (below_size (by repeat (first | (with_reducible first | exact HB.out | apply below_alloc | apply pw_below_drewN | apply below_drew1) | exact HB.out))) (fun k_ h_ => h_)) (below_size (by repeat (first | (with_reducible first | exact HB.out | apply below_alloc | apply pw_below_drewN | apply below_drew1) | exact HB.out)))); have n1_ := Aside0.mk (below_step (by repeat (first | (with_reducible first | exact HB.out | apply below_alloc | apply pw_below_drewN | apply below_drew1) | exact HB.out)) hb); clear HB; have HO265 := n0_; have HB := n1_; clear n0_ n1_; (try clear hb); (try clear hb2); (try clear hk); (try clear hi); (try clear ho0); obtain ⟨Ao7, co7, eo7⟩ := Kd.R_slice HO265.out; subst eo7) | ((with_reducible refine gate_dst (N := 16) rfl ?_); refine Kd.N_lit (Kd.slice 2 (Kd.int .i64)) _ 22 ?hg (N' := 16) ?hd (xs := ([t263] : List (List Int))) (inner := [.slice Ao7 t263.length co7]) (ok := (fun k_ => (w.heap.size ≤ k_))) (okp := (fun k_ => (w.heap.size ≤ k_))) ?hr ?hp (fun _ hk => hk) ((show ∀ k_, w6.heap.size ≤ k_ → (fun k_ => (w.heap.size ≤ k_)) k_ from fun k_ hk => (Nat.le_trans (below_size (by repeat (first | (with_reducible first | exact HB.out | apply below_alloc | apply pw_below_drewN | apply below_drew1) | exact HB.out))) hk)) _ (Nat.le_refl _)) (Below.refl _ _) (Nat.le_refl _) (by simp) ?_; (case hd => rfl); (case hg => rfl); (case hr => first | (go_simp; done) | (go_simp; rfl)); (case hp => exact (Reps.one (show Kd.FK (Kd.slice 2 (Kd.int .i64)) _ _ t263 [.slice Ao7 t263.length co7] from (Kd.FK_slice_mk (Kd.R_reads' (Kd.R_mono (ok' := (fun k_ => (w.heap.size ≤ k_))) (HO265.out) (fun k_ hk => hk.1))).2.1 (Kd.R_F (Kd.R_mono (ok' := (fun k_ => (w.heap.size ≤ k_))) (HO265.out) (fun k_ hk => hk.1))))) (Reps.none _ _))); intro v267 w8 ho9 hb hg_ hnew_; clear hg_ hnew_; (first | rw [← Ny266.out] at ho9 | (simp only [Int.reduceToNat] at ho9; rw [← Ny266.out] at ho9)); have n0_ := Aside0.mk (Kd.N_lower ho9 (below_size (by repeat (first | (with_reducible first | exact HB.out | apply below_alloc | apply pw_below_drewN | apply below_drew1) | exact HB.out)))); have n1_ := Aside0.mk (below_step (by repeat (first | (with_reducible first | exact HB.out | apply below_alloc | apply pw_below_drewN | apply below_drew1) | exact HB.out)) hb); clear HB; clear HO265; have HO268 := n0_; have HB := n1_; clear n0_ n1_; clear hb ho9))
    go_ret
    exact ⟨_, by first | rfl | (simp [errW_none, errW_some] <;> rfl) | (simp [*, errW_none, errW_some] <;> rfl), by (with_reducible repeat (first | apply Kd.N_alloc | apply Kd.N_drewN | apply Kd.N_drew)); exact HO268.out, by repeat (first | (with_reducible first | exact HB.out | apply below_alloc | apply pw_below_drewN | apply below_drew1) | exact HB.out)⟩
  · rw [if_neg c4] at H
    have c4b0 : ((l2.length : Int) == (l1.length : Int)) = false := beq_eq_false_iff_ne.mpr c4
    have c4b1 : ((l2.length : Int) != (l1.length : Int)) = true := bne_iff_ne.mpr c4
    have c4b2 : (l2.length == l1.length) = false := by first | simpa using c4 | (simp at c4 ⊢; omega)
    obtain ⟨y269, hy269⟩ : ∃ y_ : List (List Int), y_ = (([] : List (List Int))) := ⟨_, rfl⟩
    replace H : (spec_l07Plans.l0 k l0 l1 l2 y269 0) = some r := by first | (rw [hy269]; with_reducible exact H) | (have H2_ := (Option.bind_some _ _).symm.trans H; rw [hy269]; with_reducible exact H2_) | (have H2_ := (Option.bind_some _ _).symm.trans H; with_reducible exact H2_) | with_reducible exact H | (rw [hy269]; exact H) | exact H
    have Ny269 := Aside0.mk hy269
    clear hy269
    have H' := Aside0.mk H
    clear H
    go_enter Try.func70, Try.ntmps70
    go_wp2_with (first | ((with_reducible refine gate_dst (N := 17) rfl ?_); refine Kd.N_lit (Kd.slice 2 (Kd.int .i64)) _ 22 ?hg (N' := 17) ?hd (xs := ([] : List (List Int))) (inner := []) (ok := (fun k_ => (w.heap.size ≤ k_))) (okp := (fun k_ => (w.heap.size ≤ k_))) ?hr ?hp (fun _ hk => hk) ((show ∀ k_, w.heap.size ≤ k_ → (fun k_ => (w.heap.size ≤ k_)) k_ from fun k_ hk => (Nat.le_trans (below_size (by repeat (first | (with_reducible first | exact HB.out | apply below_alloc | apply pw_below_drewN | apply below_drew1) | exact HB.out))) hk)) _ (Nat.le_refl _)) (Below.refl _ _) (Nat.le_refl _) (by simp) ?_; (case hd => rfl); (case hg => rfl); (case hr => first | (go_simp; done) | (go_simp; rfl)); (case hp => exact (Reps.none _ _)); intro v270 w10 ho11 hb hg_ hnew_; clear hg_ hnew_; (first | rw [← Ny269.out] at ho11 | (simp only [Int.reduceToNat] at ho11; rw [← Ny269.out] at ho11)); have n0_ := Aside0.mk (Kd.N_lower ho11 (below_size (by repeat (first | (with_reducible first | exact HB.out | apply below_alloc | apply pw_below_drewN | apply below_drew1) | exact HB.out)))); have n1_ := Aside0.mk (below_step (by repeat (first | (with_reducible first | exact HB.out | apply below_alloc | apply pw_below_drewN | apply below_drew1) | exact HB.out)) hb); clear HB; have HO271 := n0_; have HB := n1_; clear n0_ n1_; clear hb ho11))
    go_loopg [7, 8] k (fun kq v7 v8 w' => ∃ (x7_1 : List (List Int)) (x8_1 : Int), v8 = .int .i64 x8_1 ∧ Aside0 (spec_l07Plans.l0 kq l0 l1 l2 x7_1 x8_1 = some r) ∧ Aside0 (kq ≤ k) ∧ Aside0 (Kd.N (Kd.slice 2 (Kd.int .i64)) 22 w' w.heap.size (fun k_ => (w.heap.size ≤ k_)) v7 x7_1) ∧ Aside0 (Below w.heap.size w w'))
    case atStart => exact ⟨(y269), (0), (by first | rfl | (simp; done) | (simp [*]; done)), H', ⟨Nat.le_refl _⟩, ⟨by (with_reducible repeat (first | apply Kd.N_alloc | apply Kd.N_drewN | apply Kd.N_drew)); exact HO271.out⟩, ⟨by repeat (first | (with_reducible first | exact HB.out | apply below_alloc | apply pw_below_drewN | apply below_drew1) | exact HB.out)⟩⟩
    case round =>
      clear H'
      try clear c1
      try clear c2
      try clear p2
      try clear c4
      try clear c4b0
      try clear c4b1
      try clear c4b2
      try clear c7
      try clear c9
      obtain ⟨x7_1, x8_1, rfl, HA, HK1, HO_7, HB⟩ := hrel
      cases gk with
      | zero => exact absurd HA.out (by simp [spec_l07Plans.l0])
      | succ k1 =>
        have H := HA.out
        clear HA
        simp only [spec_l07Plans.l0] at H
        by_cases c12 : x8_1 < (l0.length : Int)
        · rw [if_pos c12] at H
          have c12b0 : decide (x8_1 < (l0.length : Int)) = true := decide_eq_true c12
          clear c12
          replace H := Option.bind_eq_some_iff.mp H
          obtain ⟨t272, A130, H⟩ := H
          replace H : (if t272 = true then ((spec_l00Own.f l2).bind fun t273 => (if t273.length < 17592186044416 then ((spec_l07Plans.f k1 l0 l1 (t273 ++ [x8_1])).bind fun t279 => (if x7_1.length + t279.length < 5864062014805 then (spec_l07Plans.l0 k1 l0 l1 l2 (x7_1 ++ t279) (wrap64 (x8_1 + 1))) else (none))) else (none))) else (spec_l07Plans.l0 k1 l0 l1 l2 x7_1 (wrap64 (x8_1 + 1)))) = some r := H
          have A13 := Aside0.mk A130
          clear A130
          by_cases c14 : t272 = true
          · subst c14
            have H1 : ((spec_l00Own.f l2).bind fun t273 => (if t273.length < 17592186044416 then ((spec_l07Plans.f k1 l0 l1 (t273 ++ [x8_1])).bind fun t279 => (if x7_1.length + t279.length < 5864062014805 then (spec_l07Plans.l0 k1 l0 l1 l2 (x7_1 ++ t279) (wrap64 (x8_1 + 1))) else (none))) else (none))) = some r := by rw [if_pos rfl] at H; exact H
            clear H
            have H := H1
            clear H1
            replace H := Option.bind_eq_some_iff.mp H
            obtain ⟨t273, A150, H⟩ := H
            replace H : (if t273.length < 17592186044416 then ((spec_l07Plans.f k1 l0 l1 (t273 ++ [x8_1])).bind fun t279 => (if x7_1.length + t279.length < 5864062014805 then (spec_l07Plans.l0 k1 l0 l1 l2 (x7_1 ++ t279) (wrap64 (x8_1 + 1))) else (none))) else (none)) = some r := H
            have A15 := Aside0.mk A150
            clear A150
            by_cases c16 : t273.length < 17592186044416
            · rw [if_pos c16] at H
              have LMc16 := Aside0.mk c16
              clear c16
              obtain ⟨y276, hy276⟩ : ∃ y_ : List Int, y_ = (t273 ++ [x8_1]) := ⟨_, rfl⟩
              replace H : ((spec_l07Plans.f k1 l0 l1 y276).bind fun t279 => (if x7_1.length + t279.length < 5864062014805 then (spec_l07Plans.l0 k1 l0 l1 l2 (x7_1 ++ t279) (wrap64 (x8_1 + 1))) else (none))) = some r := by first | (rw [hy276]; with_reducible exact H) | (have H2_ := (Option.bind_some _ _).symm.trans H; rw [hy276]; with_reducible exact H2_) | (have H2_ := (Option.bind_some _ _).symm.trans H; with_reducible exact H2_) | with_reducible exact H | (rw [hy276]; exact H) | exact H
              have Ny276 := Aside0.mk hy276
              clear hy276
              replace H := Option.bind_eq_some_iff.mp H
              obtain ⟨t279, A170, H⟩ := H
              replace H : (if x7_1.length + t279.length < 5864062014805 then (spec_l07Plans.l0 k1 l0 l1 l2 (x7_1 ++ t279) (wrap64 (x8_1 + 1))) else (none)) = some r := H
              have A17 := Aside0.mk A170
              clear A170
              by_cases c18 : x7_1.length + t279.length < 5864062014805
              · rw [if_pos c18] at H
                have LMc18 := Aside0.mk c18
                clear c18
                obtain ⟨y282, hy282⟩ : ∃ y_ : List (List Int), y_ = (x7_1 ++ t279) := ⟨_, rfl⟩
                replace H : (spec_l07Plans.l0 k1 l0 l1 l2 y282 (wrap64 (x8_1 + 1))) = some r := by first | (rw [hy282]; with_reducible exact H) | (have H2_ := (Option.bind_some _ _).symm.trans H; rw [hy282]; with_reducible exact H2_) | (have H2_ := (Option.bind_some _ _).symm.trans H; with_reducible exact H2_) | with_reducible exact H | (rw [hy282]; exact H) | exact H
                have Ny282 := Aside0.mk hy282
                clear hy282
                have H' := Aside0.mk H
                clear H
                go_wp2_with (first | ((with_reducible refine gate_callee (f := 91) rfl ?_); refine goesL_ (some 28) rfl rfl Try.func91 (by kernel_rfl) rfl #[.slice A0 l0.length c0, .slice A1 l1.length c1, .slice A2 l2.length c2, .int .i64 x8_1] rfl (by (try simp only [List.map_toArray, List.map_cons, List.map_nil]); first | done | rfl | (simp only [List.length_drop, List.length_take]; rfl)) ?_; (with_reducible refine (spec_l07May.calls k1 _ _ l0 _ _ l1 _ _ l2 x8_1 true _ ?side1 ?side2 ?side3 ?side4 ?side5 ?side6 A13.out).mono ?_); (case side1 => repeat (first | exact (Kd.C_below HR0.out HB.out) | (with_reducible refine Kd.C_alloc ?_ _) | (with_reducible refine Kd.C_drewN ?_ _) | (with_reducible refine Kd.C_drew ?_))); (case side2 => exact HC0.out); (case side3 => repeat (first | exact (Kd.C_below HR1.out HB.out) | (with_reducible refine Kd.C_alloc ?_ _) | (with_reducible refine Kd.C_drewN ?_ _) | (with_reducible refine Kd.C_drew ?_))); (case side4 => exact HC1.out); (case side5 => repeat (first | exact (Kd.C_below HR2.out HB.out) | (with_reducible refine Kd.C_alloc ?_ _) | (with_reducible refine Kd.C_drewN ?_ _) | (with_reducible refine Kd.C_drew ?_))); (case side6 => exact HC2.out); rintro e w' ⟨rfl, ⟨nd, rfl⟩⟩; refine ⟨_, rfl, ?_⟩) | ((with_reducible refine gate_callee (f := 93) rfl ?_); refine goesL_ (some 33) rfl rfl Try.func93 (by kernel_rfl) rfl #[.slice A2 l2.length c2] rfl (by (try simp only [List.map_toArray, List.map_cons, List.map_nil]); first | done | rfl | (simp only [List.length_drop, List.length_take]; rfl)) ?_; (with_reducible refine (spec_l00Own.calls _ _ l2 t273 _ ?side1 ?side2 A15.out).mono ?_); (case side1 => repeat (first | exact (Kd.C_below HR2.out (by repeat (first | (with_reducible first | exact HB.out | apply below_alloc | apply pw_below_drewN | apply below_drew1) | exact HB.out))) | (with_reducible refine Kd.C_alloc ?_ _) | (with_reducible refine Kd.C_drewN ?_ _) | (with_reducible refine Kd.C_drew ?_))); (case side2 => exact HC2.out); rintro e w19 ⟨v274, rfl, ho0, hb⟩; refine ⟨_, rfl, ?_⟩; have n0_ := Aside0.mk (Kd.N_elder' (by (with_reducible repeat (first | apply Kd.N_alloc | apply Kd.N_drewN | apply Kd.N_drew)); exact HO_7.out) (Kd.R_base ho0) hb); have n1_ := Aside0.mk (Kd.R_lower (Kd.R_newM (M := fun k_ => (w.heap.size ≤ k_)) ho0 (below_size (by repeat (first | (with_reducible first | exact HB.out | apply below_alloc | apply pw_below_drewN | apply below_drew1) | exact HB.out))) (fun k_ h_ => h_)) (below_size (by repeat (first | (with_reducible first | exact HB.out | apply below_alloc | apply pw_below_drewN | apply below_drew1) | exact HB.out)))); have n2_ := Aside0.mk (below_step (by repeat (first | (with_reducible first | exact HB.out | apply below_alloc | apply pw_below_drewN | apply below_drew1) | exact HB.out)) hb); clear HO_7; clear HB; have HO_7 := n0_; have HO275 := n1_; have HB := n2_; clear n0_ n1_ n2_; (try clear hb); (try clear hb2); (try clear hk); (try clear hi); (try clear ho0)) | ((with_reducible refine gate_builtin (b := .append) (xs := #[.tmp 33, .tmp 35]) rfl ?_); at_builtin; refine Kd.R_append (Kd.int .i64) (w0 := w) w.heap.size rfl (.tmp 33) (.tmp 35) 22 2 (.int .i64 0) 8 rfl Try.underlying22 info2 rfl (by decide) (by omega) v274 t273 x8_1 [.int .i64 x8_1] (fun k_ => (w.heap.size ≤ k_)) (fun _ => False) rfl rfl ?aP (fun _ hk => hk.elim) ?aF ?aO ?aB ?aS ?aL ?_; (case aP => exact rfl); (case aB => exact (by repeat (first | (with_reducible first | exact HB.out | apply below_alloc | apply pw_below_drewN | apply below_drew1) | exact HB.out))); (case aF => exact (fun k_ hk => (Nat.le_trans (below_size (by repeat (first | (with_reducible first | exact HB.out | apply below_alloc | apply pw_below_drewN | apply below_drew1) | exact HB.out))) hk))); (case aO => exact (by (with_reducible repeat (first | apply Kd.R_alloc | apply Kd.R_drewN | apply Kd.R_drew)); exact Kd.R_mono HO275.out (fun _ hk => hk.1))); (case aS => exact (below_size (by repeat (first | (with_reducible first | exact HB.out | apply below_alloc | apply pw_below_drewN | apply below_drew1) | exact HB.out)))); (case aL => have := LMc16.out; omega); intro v277 w20 ho hb hg hat; rw [← Ny276.out] at ho; have n0_ := Aside0.mk (Kd.N_afterv (ok := (fun k_ => (w.heap.size ≤ k_))) (by (with_reducible repeat (first | apply Kd.N_alloc | apply Kd.N_drewN | apply Kd.N_drew)); exact HO_7.out) hg hat); have n1_ := Aside0.mk (hb); have n2_ := Aside0.mk (ho); clear HO_7; clear HB; clear HO275; have HO_7 := n0_; have HB := n1_; have HO278 := n2_; clear n0_ n1_ n2_; clear ho hb hg hat; obtain ⟨Ao21, co21, eo21⟩ := Kd.R_slice HO278.out; subst eo21) | ((with_reducible refine gate_callee (f := 70) rfl ?_); refine goesL_ (some 37) rfl rfl Try.func70 (by kernel_rfl) rfl #[.slice A0 l0.length c0, .slice A1 l1.length c1, .slice Ao21 y276.length co21] rfl (by (try simp only [List.map_toArray, List.map_cons, List.map_nil]); first | done | rfl | (simp only [List.length_drop, List.length_take]; rfl)) ?_; (with_reducible refine (ih k1 (by have := HK1.out; omega) _ _ l0 _ _ l1 _ _ y276 t279 _ ?side1 ?side2 ?side3 ?side4 ?side5 ?side6 A17.out).mono ?_); (case side1 => repeat (first | exact (Kd.C_below HR0.out HB.out) | (with_reducible refine Kd.C_alloc ?_ _) | (with_reducible refine Kd.C_drewN ?_ _) | (with_reducible refine Kd.C_drew ?_))); (case side2 => exact HC0.out); (case side3 => repeat (first | exact (Kd.C_below HR1.out HB.out) | (with_reducible refine Kd.C_alloc ?_ _) | (with_reducible refine Kd.C_drewN ?_ _) | (with_reducible refine Kd.C_drew ?_))); (case side4 => exact HC1.out); (case side5 => repeat (first | exact (Kd.R_reads' HO278.out).2.2 | (with_reducible refine Kd.C_alloc ?_ _) | (with_reducible refine Kd.C_drewN ?_ _) | (with_reducible refine Kd.C_drew ?_))); (case side6 => exact (Kd.R_reads' HO278.out).2.1); rintro e w22 ⟨v280, rfl, ho0, hb⟩; refine ⟨_, rfl, ?_⟩; have n0_ := Aside0.mk (Kd.N_elder' (by (with_reducible repeat (first | apply Kd.N_alloc | apply Kd.N_drewN | apply Kd.N_drew)); exact HO_7.out) (Kd.N_base ho0) hb); have n1_ := Aside0.mk (Kd.R_below (by (with_reducible repeat (first | apply Kd.R_alloc | apply Kd.R_drewN | apply Kd.R_drew)); exact HO278.out) hb); have n2_ := Aside0.mk (Kd.N_lower (Kd.N_mono (ok' := fun k_ => (w.heap.size ≤ k_) ∧ some k_ ≠ (u7 : Value).ownBlock ∧ some k_ ≠ (.slice Ao21 y276.length co21 : Value).ownBlock) ho0 (fun k_ hk_ => ⟨(Nat.le_trans (below_size (by repeat (first | (with_reducible first | exact HB.out | apply below_alloc | apply pw_below_drewN | apply below_drew1) | exact HB.out))) hk_), (Kd.fresh' (Kd.N_lt (by (with_reducible repeat (first | apply Kd.N_alloc | apply Kd.N_drewN | apply Kd.N_drew)); exact HO_7.out)) k_ hk_), (Kd.fresh' (Kd.R_lt (by (with_reducible repeat (first | apply Kd.R_alloc | apply Kd.R_drewN | apply Kd.R_drew)); exact HO278.out)) k_ hk_)⟩)) (below_size (by repeat (first | (with_reducible first | exact HB.out | apply below_alloc | apply pw_below_drewN | apply below_drew1) | exact HB.out)))); have n3_ := Aside0.mk (below_step (by repeat (first | (with_reducible first | exact HB.out | apply below_alloc | apply pw_below_drewN | apply below_drew1) | exact HB.out)) hb); clear HO_7; clear HO278; clear HB; have HO_7 := n0_; have HO278 := n1_; have HO281 := n2_; have HB := n3_; clear n0_ n1_ n2_ n3_; (try clear hb); (try clear hb2); (try clear hk); (try clear hi); (try clear ho0); obtain ⟨Ao24, co24, eo24⟩ := Kd.N_slice HO281.out; subst eo24) | ((with_reducible refine gate_builtin (b := .append) (xs := #[.tmp 29, .tmp 37]) rfl ?_); at_builtin; refine Kd.N_append_rows (Kd.slice 2 (Kd.int .i64)) (w0 := w) w.heap.size rfl (.tmp 29) (.tmp 37) 84 22 (.slice none 0 0) 24 rfl Try.underlying84 info22 rfl (by decide) (by omega) u7 x7_1 t279 _ _ _ (fun k_ => (w.heap.size ≤ k_) ∧ some k_ ≠ (.slice Ao21 y276.length co21 : Value).ownBlock) (fun k_ => ((fun k_ => (w.heap.size ≤ k_) ∧ some k_ ≠ (.slice Ao21 y276.length co21 : Value).ownBlock)) k_ ∧ some k_ ≠ (u7 : Value).ownBlock) rfl rfl ?aO ?aR (fun _ hk => hk) ?aF ?aB ?aS ?aL ?_; (case aR => exact (by skip; exact Kd.N_F (Kd.N_mono (ok' := (fun k_ => ((fun k_ => (w.heap.size ≤ k_) ∧ some k_ ≠ (.slice Ao21 y276.length co21 : Value).ownBlock)) k_ ∧ some k_ ≠ (u7 : Value).ownBlock)) (HO281.out) (fun k_ hk => ⟨⟨hk.1, hk.2.2⟩, hk.2.1⟩)))); (case aB => exact (by repeat (first | (with_reducible first | exact HB.out | apply below_alloc | apply pw_below_drewN | apply below_drew1) | exact HB.out))); (case aF => exact (fun k_ hk => ⟨(Nat.le_trans (below_size (by repeat (first | (with_reducible first | exact HB.out | apply below_alloc | apply pw_below_drewN | apply below_drew1) | exact HB.out))) hk), Kd.fresh' (Kd.R_lt (by (with_reducible repeat (first | apply Kd.R_alloc | apply Kd.R_drewN | apply Kd.R_drew)); exact HO278.out)) k_ hk⟩)); (case aO => exact (by (with_reducible repeat (first | apply Kd.N_alloc | apply Kd.N_drewN | apply Kd.N_drew)); exact Kd.N_mono HO_7.out (fun _ hk => ⟨hk.1.1, hk.1.2⟩))); (case aS => exact (below_size (by repeat (first | (with_reducible first | exact HB.out | apply below_alloc | apply pw_below_drewN | apply below_drew1) | exact HB.out)))); (case aL => have := LMc18.out; omega); intro v283 w23 ho hb hg hat; rw [← Ny282.out] at ho; have n0_ := Aside0.mk (Kd.R_over' (by (with_reducible repeat (first | apply Kd.R_alloc | apply Kd.R_drewN | apply Kd.R_drew)); exact HO278.out) (Kd.N_typed (by (with_reducible repeat (first | apply Kd.N_alloc | apply Kd.N_drewN | apply Kd.N_drew)); exact HO_7.out)) (by decide) hg); have n1_ := Aside0.mk (Kd.N_afterv (ok := (fun k_ => (w.heap.size ≤ k_) ∧ some k_ ≠ (.slice Ao21 y276.length co21 : Value).ownBlock)) (by (with_reducible repeat (first | apply Kd.N_alloc | apply Kd.N_drewN | apply Kd.N_drew)); exact Kd.N_mono HO281.out (fun _ hk => ⟨⟨hk.1, hk.2.2⟩, hk.2.1⟩)) hg hat); have n2_ := Aside0.mk (hb); have n3_ := Aside0.mk (ho); clear HO278; clear HO281; clear HB; clear HO_7; have HO278 := n0_; have HO281 := n1_; have HB := n2_; have HO284 := n3_; clear n0_ n1_ n2_ n3_; clear ho hb hg hat))
                go_roundg k1
                case measure => have := HK1.out; omega
                case rel => exact ⟨(y282), (wrap64 (x8_1 + 1)), (by first | rfl | (simp; done) | (simp [*]; done)), H', ⟨by have := HK1.out; omega⟩, ⟨by (with_reducible repeat (first | apply Kd.N_alloc | apply Kd.N_drewN | apply Kd.N_drew)); exact Kd.N_mono HO284.out (fun _ hk => hk.1)⟩, ⟨by repeat (first | (with_reducible first | exact HB.out | apply below_alloc | apply pw_below_drewN | apply below_drew1) | exact HB.out)⟩⟩
              · rw [if_neg c18] at H
                exact absurd H (by simp)
            · rw [if_neg c16] at H
              exact absurd H (by simp)
          · replace c14 := Bool.eq_false_iff.mpr c14
            subst c14
            have H1 : (spec_l07Plans.l0 k1 l0 l1 l2 x7_1 (wrap64 (x8_1 + 1))) = some r := by rw [if_neg (show ¬ (false = true) by decide)] at H; exact H
            clear H
            have H := H1
            clear H1
            have H' := Aside0.mk H
            clear H
            go_wp2_with (first | ((with_reducible refine gate_callee (f := 91) rfl ?_); refine goesL_ (some 28) rfl rfl Try.func91 (by kernel_rfl) rfl #[.slice A0 l0.length c0, .slice A1 l1.length c1, .slice A2 l2.length c2, .int .i64 x8_1] rfl (by (try simp only [List.map_toArray, List.map_cons, List.map_nil]); first | done | rfl | (simp only [List.length_drop, List.length_take]; rfl)) ?_; (with_reducible refine (spec_l07May.calls k1 _ _ l0 _ _ l1 _ _ l2 x8_1 false _ ?side1 ?side2 ?side3 ?side4 ?side5 ?side6 A13.out).mono ?_); (case side1 => repeat (first | exact (Kd.C_below HR0.out HB.out) | (with_reducible refine Kd.C_alloc ?_ _) | (with_reducible refine Kd.C_drewN ?_ _) | (with_reducible refine Kd.C_drew ?_))); (case side2 => exact HC0.out); (case side3 => repeat (first | exact (Kd.C_below HR1.out HB.out) | (with_reducible refine Kd.C_alloc ?_ _) | (with_reducible refine Kd.C_drewN ?_ _) | (with_reducible refine Kd.C_drew ?_))); (case side4 => exact HC1.out); (case side5 => repeat (first | exact (Kd.C_below HR2.out HB.out) | (with_reducible refine Kd.C_alloc ?_ _) | (with_reducible refine Kd.C_drewN ?_ _) | (with_reducible refine Kd.C_drew ?_))); (case side6 => exact HC2.out); rintro e w' ⟨rfl, ⟨nd, rfl⟩⟩; refine ⟨_, rfl, ?_⟩))
            go_roundg k1
            case measure => have := HK1.out; omega
            case rel => exact ⟨(x7_1), (wrap64 (x8_1 + 1)), (by first | rfl | (simp; done) | (simp [*]; done)), H', ⟨by have := HK1.out; omega⟩, ⟨by (with_reducible repeat (first | apply Kd.N_alloc | apply Kd.N_drewN | apply Kd.N_drew)); exact HO_7.out⟩, ⟨by repeat (first | (with_reducible first | exact HB.out | apply below_alloc | apply pw_below_drewN | apply below_drew1) | exact HB.out)⟩⟩
        · rw [if_neg c12] at H
          have c12b0 : decide (x8_1 < (l0.length : Int)) = false := decide_eq_false c12
          clear c12
          obtain rfl := Option.some.inj H
          go_wp2
          go_ret
          exact ⟨_, by first | rfl | (simp [errW_none, errW_some] <;> rfl) | (simp [*, errW_none, errW_some] <;> rfl), by (with_reducible repeat (first | apply Kd.N_alloc | apply Kd.N_drewN | apply Kd.N_drew)); exact HO_7.out, by repeat (first | (with_reducible first | exact HB.out | apply below_alloc | apply pw_below_drewN | apply below_drew1) | exact HB.out)⟩

/-! ### ext impl_plans: function 71 -/

def plansM {σ : Type} (k : Nat) (l0 : List S75) (l1 : List Int) (step : σ → List Int → Option σ) : Nat → List Int → σ → Option σ
  | 0, _, _ => none
  | fuel + 1, l, s => if l.length = l1.length then step s l else (List.range l0.length).foldlM (fun s (i : Nat) => (impl_goesOn.f k l0 l1 l (i : Int)).bind fun b => if b = true then plansM k l0 l1 step fuel (l ++ [(i : Int)]) s else some s) s
theorem isfn_plans : ∀ (args : Array Value) (W : World), Sem.run Try.prog (callFunc 94 args) W = .ok (.enter 94 args) W := fun _ _ => by kernel_rfl
section
variable {σ : Type} (Inv : σ → World → Prop) (step : σ → List Int → Option σ) (F : Nat) (caps : Array Value) (S : Nat → Prop) (B : Nat)
/-- What 'plans' asks of the function that it calls: it answers true. -/
structure EachPlan : Prop where
  fn : IsFn F
  stable : ∀ s W W', Inv s W → Below W.heap.size W W' → Inv s W'
  each : ∀ s s' W v l, Inv s W → Kd.R (Kd.int .i64) 2 W B (fun k => ¬ S k) v l → step s l = some s' →
    Calls Try.prog F (#[v] ++ caps) W fun e w' => e = .returned (.bool true) ∧ Inv s' w' ∧ Kept W w' S ∧ Below B W w'

set_option maxHeartbeats 16000000 in
set_option maxRecDepth 100000 in
theorem pchoose_any (hE : EachPlan Inv step F caps S B) (gk : Nat) (l0 : List S75) (l1 : List Int) (A0 A1 : Option Addr) (c0 c1 : Nat) (w0 : World) (hc0 : l0.length ≤ c0) (hc1 : l1.length ≤ c1) (hr0 : ∀ W : World, Below B w0 W → Kd.C k75 W A0 l0.length l0) (hr1 : ∀ W : World, Below B w0 W → Kd.C (Kd.int .i64) W A1 l1.length l1)
    (hn0 : l0.length ≤ 1000) (hn1 : l1.length ≤ 1000) (bl be bg bc : Nat) (hsl : ¬ S bl) (hse : ¬ S be) (hsg : ¬ S bg) (hsc : ¬ S bc) :
    ∀ (fuel : Nat) (W : World) (v : Value) (l : List Int) (s s1 : σ), Inv s W → Below B w0 W → W.heap[bl]? = some (.cells #[.slice A1 l1.length c1] 22 (0, 0)) → W.heap[be]? = some (.cells #[.func (.func F) #[] caps] 23 (0, 0)) → W.heap[bg]? = some (.cells #[.slice A0 l0.length c0] 36 (0, 0)) →
      W.heap[bc]? = some (.cells #[.func (.func 94) #[] #[.pointer (some ⟨bl, 0, none⟩), .pointer (some ⟨be, 0, none⟩), .pointer (some ⟨bg, 0, none⟩), .pointer (some ⟨bc, 0, none⟩)]] 23 (0, 0)) →
      B ≤ W.heap.size → (∀ k, S k → k < W.heap.size) → l.length ≤ l1.length → Kd.R (Kd.int .i64) 2 W B (fun k => ¬ S k) v l → plansM gk l0 l1 step fuel l s = some s1 →
      Calls Try.prog 94 #[v, .pointer (some ⟨bl, 0, none⟩), .pointer (some ⟨be, 0, none⟩), .pointer (some ⟨bg, 0, none⟩), .pointer (some ⟨bc, 0, none⟩)] W fun e w' => e = .returned (.bool true) ∧ Inv s1 w' ∧ Kept W w' S ∧ Below B W w' := by
  intro fuel
  induction fuel with
  | zero => intro W v l s s1 _ _ _ _ _ _ _ _ _ _ h; simp [plansM] at h
  | succ fuel ih =>
    intro W v l s s1 hi hw0 hbl hbe hbg hbc hbw hB hl hr h
    have HBW := Aside0.mk hbw
    clear hbw
    obtain ⟨A, c, rfl, hlc, hc⟩ := Kd.R_reads hr
    have IH := Aside0.mk ih
    have HE := Aside0.mk hE
    have HI := Aside0.mk hi
    have HW0 := Aside0.mk hw0
    have HR0 := Aside0.mk hr0
    have HR1 := Aside0.mk hr1
    have HN := Aside0.mk hbl
    have HBE := Aside0.mk hbe
    have HBG := Aside0.mk hbg
    have HBC := Aside0.mk hbc
    have HR := Aside0.mk hr
    have HC := Aside0.mk hc
    have HB := Aside0.mk hB
    have hcn := blk_cell hbl 0
    have hce := blk_cell hbe 0
    have hcg := blk_cell hbg 0
    have hcc := blk_cell hbc 0
    have hcf := hE.fn
    unfold IsFn at hcf
    have HF := Aside0.mk isfn_plans
    clear ih hE hi hw0 hbl hbe hbg hbc hr hc hB hr0 hr1
    by_cases hln : l.length = l1.length
    · simp only [plansM, if_pos hln] at h
      have H := Aside0.mk h
      have heq : ((l.length : Int) == (l1.length : Int)) = true := by simp [hln]
      clear h hln
      go_enter Try.func94, Try.ntmps94
      go_wp2_with fail
      with_reducible refine (HE.out.each s s1 _ _ l HI.out HR.out H.out).mono ?_
      rintro e w' ⟨rfl, hpost⟩
      have HP := Aside0.mk hpost
      clear hpost
      go_wp2
      go_ret
      exact ⟨rfl, HP.out⟩
    · simp only [plansM, if_neg hln] at h
      have H := Aside0.mk h
      have heq : ((l.length : Int) == (l1.length : Int)) = false := by simp; omega
      have hlt : l.length < l1.length := by omega
      clear h hln
      go_enter Try.func94, Try.ntmps94
      go_wp2_with fail
      with_reducible refine (impl_Guide_63.calls A0 c0 l0 _ _ (HR0.out _ HW0.out) hc0 rfl).mono ?_
      rintro e wq ⟨rfl, hq⟩
      have HQ := Aside0.mk hq.below
      clear hq
      go_wp2_with fail
      go_loopw [18] (fun i wr => ∃ (k : Nat) (sk : σ), k ≤ l0.length ∧ i = .int .i64 k ∧ Aside0 (Inv sk wr) ∧ Aside0 (Kept W wr S) ∧ Aside0 (Below B W wr) ∧ Aside0 ((List.range' k (l0.length - k)).foldlM (fun s (i : Nat) => (impl_goesOn.f gk l0 l1 l (i : Int)).bind fun b => if b = true then plansM gk l0 l1 step fuel (l ++ [(i : Int)]) s else some s) sk = some s1)) (fun i _ => l0.length - (intOf i).toNat)
      case atStart => exact ⟨0, s, by omega, rfl, ⟨HE.out.stable _ _ _ HI.out HQ.out⟩, ⟨Kept.of_below HQ.out _⟩, ⟨HQ.out.mono HBW.out⟩, ⟨by rw [← List.range_eq_range']; exact H.out⟩⟩
      case round =>
        obtain ⟨k, sk, hk, rfl, HI2, HK, HB2, HM⟩ := hrel
        have hbl2 := blk_kept HN.out HK.out hsl
        have hbe2 := blk_kept HBE.out HK.out hse
        have hbg2 := blk_kept HBG.out HK.out hsg
        have hbc2 := blk_kept HBC.out HK.out hsc
        have HN2 := Aside0.mk hbl2
        have HBE2 := Aside0.mk hbe2
        have HBG2 := Aside0.mk hbg2
        have HBC2 := Aside0.mk hbc2
        have hcn2 : wr.cell? ⟨bl, 0, none⟩ = some (.slice A1 l1.length c1) := blk_cell hbl2 0
        have hcg2 : wr.cell? ⟨bg, 0, none⟩ = some (.slice A0 l0.length c0) := blk_cell hbg2 0
        have hcc2 : wr.cell? ⟨bc, 0, none⟩ = some (.func (.func 94) #[] #[.pointer (some ⟨bl, 0, none⟩), .pointer (some ⟨be, 0, none⟩), .pointer (some ⟨bg, 0, none⟩), .pointer (some ⟨bc, 0, none⟩)]) := blk_cell hbc2 0
        have ltn : bl < wr.heap.size := blk_lt hbl2
        have ltg : bg < wr.heap.size := blk_lt hbg2
        have ltc : bc < wr.heap.size := blk_lt hbc2
        have HR2 := Aside0.mk (Kd.R_kept HR.out HK.out (fun k h => h))
        have HC2 := Aside0.mk ((Kd.R_reads' HR2.out).2.2)
        have HW2 := Aside0.mk (HW0.out.trans HB2.out)
        have HSZ := Aside0.mk HK.out.1
        clear hbl2 hbe2 hbg2 hbc2 hcn hce hcg hcc
        by_cases hlt2 : k < l0.length
        · have hM := HM.out
          rw [show l0.length - k = (l0.length - (k + 1)) + 1 by omega, List.range'_succ] at hM
          obtain ⟨s2, hs2, hM2⟩ := foldlM_cons_some hM
          obtain ⟨b, hgo, hs2⟩ := Option.bind_eq_some_iff.1 hs2
          have HM2 := Aside0.mk hM2
          have HGO := Aside0.mk hgo
          have HG1 := Aside0.mk (HR0.out wr HW2.out)
          have HG2 := Aside0.mk (HR1.out wr HW2.out)
          have HG3 := Aside0.mk HC2.out
          have HG4 := Aside0.mk hlc
          have HG1D := Aside0.mk (Kd.C_drew HG1.out)
          have HG2D := Aside0.mk (Kd.C_drew HG2.out)
          have HG3D := Aside0.mk (Kd.C_drew HG3.out)
          have HS2 := Aside0.mk hs2
          clear hM hs2 hM2 hgo
          have hfar : ∀ w2 : World, Below wr.heap.size wr w2 → w2.cell? ⟨bl, 0, none⟩ = some (.slice A1 l1.length c1) ∧ w2.cell? ⟨bg, 0, none⟩ = some (.slice A0 l0.length c0) ∧ w2.cell? ⟨bc, 0, none⟩ = some (.func (.func 94) #[] #[.pointer (some ⟨bl, 0, none⟩), .pointer (some ⟨be, 0, none⟩), .pointer (some ⟨bg, 0, none⟩), .pointer (some ⟨bc, 0, none⟩)]) := fun w2 hb => ⟨(hb.cell (p := ⟨bl, 0, none⟩) ltn).trans hcn2, (hb.cell (p := ⟨bg, 0, none⟩) ltg).trans hcg2, (hb.cell (p := ⟨bc, 0, none⟩) ltc).trans hcc2⟩
          have HFAR := Aside0.mk hfar
          clear hfar
          cases b with
          | false =>
            have e2 : sk = s2 := by
              have := HS2.out
              rw [if_neg (by simp)] at this
              exact Option.some.inj this
            subst e2
            go_wp2_with fail
            go_quiet ((go_at_call 92; (refine Calls.mono (impl_goesOn.calls gk A0 c0 l0 A1 c1 l1 A c l (k : Int) false _ (Kd.C_drewN HG1.out _) hc0 (Kd.C_drewN HG2.out _) hc1 (Kd.C_drewN HG3.out _) HG4.out HGO.out) ?_); rintro e w' ⟨rfl, ⟨nd, rfl⟩⟩; exact ⟨rfl, _, World.drewN_drewN _ _ _⟩))
            go_wp2
            go_roundw
            case rel => exact ⟨k + 1, sk, by omega, by go_num, ⟨HE.out.stable _ _ _ HI2.out (pw_below_drewN (Below.refl _ _) _)⟩, ⟨HK.out.drewN _⟩, ⟨pw_below_drewN HB2.out _⟩, HM2⟩
            case measure => simp [intOf]; omega
          | true =>
            have hS3 := HS2.out
            rw [if_pos rfl] at hS3
            have HS3 := Aside0.mk hS3
            clear hS3
            go_wp2_with fail
            go_region_held3 (fun w2 => w2.cell? ⟨bl, 0, none⟩ = some (.slice A1 l1.length c1) ∧ w2.cell? ⟨bg, 0, none⟩ = some (.slice A0 l0.length c0) ∧ w2.cell? ⟨bc, 0, none⟩ = some (.func (.func 94) #[] #[.pointer (some ⟨bl, 0, none⟩), .pointer (some ⟨be, 0, none⟩), .pointer (some ⟨bg, 0, none⟩), .pointer (some ⟨bc, 0, none⟩)]))
              (first | assumption | exact ⟨hcn2, hcg2, hcc2⟩ | exact HFAR.out _ HQ1.out | exact HFAR.out _ (below_alloc HQ1.out _) | exact HFAR.out _ HX1.out | exact HFAR.out _ (below_alloc HX1.out _) | exact HFAR.out _ HXF.out | exact HFAR.out _ HX4.out)
              (first
                | (go_at_call 92; (with_reducible refine (impl_goesOn.calls gk A0 c0 l0 A1 c1 l1 A c l (k : Int) true _ HG1D.out hc0 HG2D.out hc1 HG3D.out HG4.out HGO.out).mono ?_); rintro e w1 ⟨rfl, hd⟩; have HQ1 : Aside0 (Below wr.heap.size wr w1) := ⟨below_then (w := wr) (w1 := wr.drew) (below_drew (Below.refl _ wr)) (Nat.le_refl _) hd.below⟩; clear hd; have HC4 := Aside0.mk (Kd.C_below HC2.out HQ1.out); have HC5 := Aside0.mk (Kd.C_alloc HC4.out (.cells #[.int .i64 (k : Int)] 2)))
                | (go_at_call 95; (with_reducible refine (clone64 A c l w1 (by omega) HC4.out).mono ?_); rintro e w3 ⟨v1, rfl, ho1, hb1⟩; have HO1 : Aside0 (Kd.R (Kd.int .i64) 2 w3 wr.heap.size (fun _ => True) v1 l) := ⟨Kd.R_lower ho1 HQ1.out.size⟩; have HX1 : Aside0 (Below wr.heap.size wr w3) := ⟨below_then HQ1.out HQ1.out.size hb1⟩; clear ho1 hb1)
                | (go_at_call 95; (with_reducible refine (clone64 A c l (w1.alloc (.cells #[.int .i64 (k : Int)] 2)) (by omega) HC5.out).mono ?_); rintro e w3 ⟨v1, rfl, ho1, hb1⟩; have HXF : Aside0 (Below wr.heap.size wr w3) := ⟨below_then (below_alloc HQ1.out _) (Nat.le_trans HQ1.out.size (by simp)) hb1⟩; have HOF : Aside0 (Kd.R (Kd.int .i64) 2 w3 wr.heap.size (fun _ => True) v1 l) := ⟨Kd.R_lower ho1 (Nat.le_trans HQ1.out.size (by simp))⟩; have HRF : Aside0 (Kd.C (Kd.int .i64) w3 (some ⟨w1.heap.size, 0, none⟩) 1 [(k : Int)]) := ⟨one_read ((hb1.block w1.heap.size (by simp)).trans (heap_alloc_new w1 _))⟩; clear ho1 hb1)
                | (refine Kd.R_append_step (Kd.int .i64) (w0 := wr) wr.heap.size (by rfl) _ _ 22 2 (.int .i64 0) 8 (by rfl) Try.underlying22 info2 rfl (by decide) (by omega) v1 l (k : Int) [.int .i64 (k : Int)] (fun _ => True) (fun _ => False) (by rfl) (by rfl) (by exact rfl) (fun _ h => h.elim) (fun _ _ => trivial) HO1.out HX1.out HX1.out.size (by omega) ?_; intro v4 w4 ho4 hb4 hg4 hat4; have HO4 : Aside0 (Kd.R (Kd.int .i64) 2 w4 wr.heap.size (fun _ => True) v4 (l ++ [(k : Int)])) := ⟨ho4⟩; have HX4 : Aside0 (Below wr.heap.size wr w4) := ⟨hb4⟩; clear ho4 hb4 hg4 hat4; have HI4 := Aside0.mk (HE.out.stable _ _ _ HI2.out HX4.out); have HN4 := Aside0.mk (blk_kept HN2.out (Kept.of_below HX4.out S) hsl); have HBE4 := Aside0.mk (blk_kept HBE2.out (Kept.of_below HX4.out S) hse); have HBG4 := Aside0.mk (blk_kept HBG2.out (Kept.of_below HX4.out S) hsg); have HBC4 := Aside0.mk (blk_kept HBC2.out (Kept.of_below HX4.out S) hsc); have HS4 := Aside0.mk (fun q (hq : S q) => Nat.lt_of_lt_of_le (HB.out q hq) (Nat.le_trans HSZ.out HX4.out.size)); have HL4 := Aside0.mk (show (l ++ [(k : Int)]).length ≤ l1.length by simp; omega); have HBW4 := Aside0.mk (Nat.le_trans (Nat.le_trans HBW.out HSZ.out) HX4.out.size); have HW4 := Aside0.mk (below_then HW2.out (Nat.le_trans HBW.out HSZ.out) HX4.out); have HO5 := Aside0.mk (Kd.R_lower (base' := B) (Kd.R_mono (ok' := fun q => ¬ S q) (Kd.R_bound HO4.out) (fun q hq hs => by have h1 := HB.out q hs; have h2 := HSZ.out; have h3 := hq.2.1; omega)) (Nat.le_trans HBW.out HSZ.out)))
                | (refine Kd.R_append_rows_step (Kd.int .i64) (w0 := wr) wr.heap.size (by rfl) _ _ 22 2 (.int .i64 0) 8 (by rfl) Try.underlying22 info2 rfl (by decide) (by omega) v1 l [(k : Int)] _ _ _ (fun _ => True) (fun _ => False) (by rfl) (by rfl) HOF.out HRF.out (fun _ _ h => h) (fun _ h => h.elim) (fun _ _ => trivial) HXF.out HXF.out.size (by omega) ?_; intro v4 w4 ho4 hb4 hg4 hat4; have HO4 : Aside0 (Kd.R (Kd.int .i64) 2 w4 wr.heap.size (fun _ => True) v4 (l ++ [(k : Int)])) := ⟨ho4⟩; have HX4 : Aside0 (Below wr.heap.size wr w4) := ⟨hb4⟩; clear ho4 hb4 hg4 hat4; have HI4 := Aside0.mk (HE.out.stable _ _ _ HI2.out HX4.out); have HN4 := Aside0.mk (blk_kept HN2.out (Kept.of_below HX4.out S) hsl); have HBE4 := Aside0.mk (blk_kept HBE2.out (Kept.of_below HX4.out S) hse); have HBG4 := Aside0.mk (blk_kept HBG2.out (Kept.of_below HX4.out S) hsg); have HBC4 := Aside0.mk (blk_kept HBC2.out (Kept.of_below HX4.out S) hsc); have HS4 := Aside0.mk (fun q (hq : S q) => Nat.lt_of_lt_of_le (HB.out q hq) (Nat.le_trans HSZ.out HX4.out.size)); have HL4 := Aside0.mk (show (l ++ [(k : Int)]).length ≤ l1.length by simp; omega); have HBW4 := Aside0.mk (Nat.le_trans (Nat.le_trans HBW.out HSZ.out) HX4.out.size); have HW4 := Aside0.mk (below_then HW2.out (Nat.le_trans HBW.out HSZ.out) HX4.out); have HO5 := Aside0.mk (Kd.R_lower (base' := B) (Kd.R_mono (ok' := fun q => ¬ S q) (Kd.R_bound HO4.out) (fun q hq hs => by have h1 := HB.out q hs; have h2 := HSZ.out; have h3 := hq.2.1; omega)) (Nat.le_trans HBW.out HSZ.out)))
                | (go_at_call 94; (with_reducible refine (IH.out _ v4 (l ++ [(k : Int)]) sk s2 HI4.out HW4.out HN4.out HBE4.out HBG4.out HBC4.out HBW4.out HS4.out HL4.out HO5.out HS3.out).mono ?_); rintro e w5 ⟨rfl, hi5, hk5, hb5⟩; have HI5 := Aside0.mk hi5; have HK5 := Aside0.mk hk5; have HB5 := Aside0.mk hb5; have hcc5 : w5.cell? ⟨bl, 0, none⟩ = some (.slice A1 l1.length c1) ∧ w5.cell? ⟨bg, 0, none⟩ = some (.slice A0 l0.length c0) ∧ w5.cell? ⟨bc, 0, none⟩ = some (.func (.func 94) #[] #[.pointer (some ⟨bl, 0, none⟩), .pointer (some ⟨be, 0, none⟩), .pointer (some ⟨bg, 0, none⟩), .pointer (some ⟨bc, 0, none⟩)]) := ⟨blk_cell (blk_kept HN4.out hk5 hsl) 0, blk_cell (blk_kept HBG4.out hk5 hsg) 0, blk_cell (blk_kept HBC4.out hk5 hsc) 0⟩; clear hi5 hk5 hb5))
            all_goals
              go_wp2
              go_roundw
              case rel => exact ⟨k + 1, s2, by omega, by go_num, HI5, ⟨(HK.out.below HX4.out).then_ HK5.out (fun _ h => .inl h)⟩, ⟨(below_then HB2.out (Nat.le_trans HBW.out HSZ.out) HX4.out).trans HB5.out⟩, HM2⟩
              case measure => simp [intOf]; omega
        · have hge : ¬ (k : Int) < l0.length := by omega
          have hM := HM.out
          rw [show l0.length - k = 0 by omega, List.range'_zero, List.foldlM_nil] at hM
          obtain rfl := Option.some.inj hM
          clear hM
          go_wp2
          go_ret
          exact ⟨rfl, HI2.out, HK.out, HB2.out⟩
end

section
variable {σ : Type} (Inv : σ → World → Prop) (step : σ → List Int → Option σ) (F : Nat) (caps : Array Value) (S : Nat → Prop) (B : Nat)
set_option maxHeartbeats 8000000 in
set_option maxRecDepth 100000 in
theorem plans_any (hE : EachPlan Inv step F caps S B) (gk : Nat) (l0 : List S75) (l1 : List Int) (A0 A1 : Option Addr) (c0 c1 : Nat) (w0 : World) (hc0 : l0.length ≤ c0) (hc1 : l1.length ≤ c1) (hr0 : ∀ W : World, Below B w0 W → Kd.C k75 W A0 l0.length l0) (hr1 : ∀ W : World, Below B w0 W → Kd.C (Kd.int .i64) W A1 l1.length l1)
    (hn0 : l0.length ≤ 1000) (hn1 : l1.length ≤ 1000) (fuel : Nat) (W : World) (s s1 : σ) (hi : Inv s W) (hw0 : Below B w0 W) (hB : B ≤ W.heap.size) (hlt : ∀ k, S k → k < W.heap.size) (h : plansM gk l0 l1 step fuel [] s = some s1) :
    Calls Try.prog 71 #[.slice A0 l0.length c0, .slice A1 l1.length c1, .func (.func F) #[] caps] W fun e w' => e = .returned (.tuple #[]) ∧ Inv s1 w' ∧ Kept W w' S ∧ Below B W w' := by
  have HE := Aside0.mk hE
  have HI := Aside0.mk hi
  have HW0 := Aside0.mk hw0
  have HR0 := Aside0.mk hr0
  have HR1 := Aside0.mk hr1
  have HB := Aside0.mk hB
  have HLT := Aside0.mk hlt
  have H := Aside0.mk h
  have hmf : ∀ (fn : Fn) (first cap : Array Value) (w : World), (Instr.makeFunc fn first cap).run Try.prog w = .ok (.func fn first cap) w := fun _ _ _ _ => rfl
  clear hE hi hw0 hr0 hr1 hB hlt h
  go_enter Try.func71, Try.ntmps71
  go_wp2_with fail
  have b1 := blk_new W (.cells #[.slice A0 l0.length c0] 36)
  have b2 := blk_new2 (W.alloc (.cells #[.slice A0 l0.length c0] 36)) (.cells #[.slice A1 l1.length c1] 22) (g := W.heap.size + 1) (by simp)
  have b3 := blk_new2 ((W.alloc (.cells #[.slice A0 l0.length c0] 36)).alloc (.cells #[.slice A1 l1.length c1] 22)) (.cells #[.func (.func F) #[] caps] 23) (g := W.heap.size + 1 + 1) (by simp)
  have hbel := below_alloc (below_alloc (below_alloc (below_alloc (Below.refl W.heap.size W) (.cells #[.slice A0 l0.length c0] 36)) (.cells #[.slice A1 l1.length c1] 22)) (.cells #[.func (.func F) #[] caps] 23)) (.cells #[.func (.func 94) #[] #[.pointer (some ⟨W.heap.size + 1, 0, none⟩), .pointer (some ⟨W.heap.size + 1 + 1, 0, none⟩), .pointer (some ⟨W.heap.size, 0, none⟩), .pointer (some ⟨W.heap.size + 1 + 1 + 1, 0, none⟩)]] 23)
  with_reducible refine (pchoose_any Inv step F caps S B HE.out gk l0 l1 A0 A1 c0 c1 w0 hc0 hc1 HR0.out HR1.out hn0 hn1 (W.heap.size + 1) (W.heap.size + 1 + 1) W.heap.size (W.heap.size + 1 + 1 + 1) (fun h => by have := HLT.out _ h; omega) (fun h => by have := HLT.out _ h; omega) (fun h => by have := HLT.out _ h; omega) (fun h => by have := HLT.out _ h; omega) fuel _ _ [] s s1 (HE.out.stable _ _ _ HI.out hbel) (below_then HW0.out HB.out hbel) (blk_alloc (blk_alloc b2 _) _) (blk_alloc b3 _) (blk_alloc (blk_alloc (blk_alloc b1 _) _) _) (blk_new2 _ _ (by simp)) (Nat.le_trans HB.out hbel.size) (fun q hq => Nat.lt_of_lt_of_le (HLT.out q hq) hbel.size) (by simp) (Kd.R_nil _ _ _ _ _) H.out).mono ?_
  rintro e w' ⟨rfl, hi', hk', hb'⟩
  have HP := Aside0.mk (And.intro hi' (And.intro ((Kept.of_below hbel S).then_ hk' (fun _ h => .inl h)) ((hbel.mono HB.out).trans hb')))
  clear hi' hk' hb' hbel b1 b2 b3
  go_wp2
  go_end0
  exact ⟨rfl, HP.out⟩
end
theorem plansM_le {σ : Type} (k : Nat) (l0 : List S75) (l1 : List Int) {f g : σ → List Int → Option σ} (h : ∀ s a, LeO (f s a) (g s a)) : ∀ (fuel : Nat) (l : List Int) (s : σ), LeO (plansM k l0 l1 f fuel l s) (plansM (k + 1) l0 l1 g fuel l s)
  | 0, _, _ => LeO.none _
  | fuel + 1, l, s => by
    simp only [plansM]
    refine LeO.ite (h s l) (foldlM_le (fun s a => LeO.bind (impl_goesOn.mono _ _ _ _ k) (fun _ => LeO.ite (plansM_le k l0 l1 h fuel _ s) (LeO.refl _))) _ s)

end Go.Proofs.Ythfinhdmdfekcaa.PA
