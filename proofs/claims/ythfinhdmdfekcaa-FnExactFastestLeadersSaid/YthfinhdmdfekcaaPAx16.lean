/- Lean functions for Go functions, and proofs that Go comes to just their answers; written by a program of this session. -/
import Derived.Test.YthfinhdmdfekcaaPAx0
import Derived.Test.YthfinhdmdfekcaaPAx15
namespace Go.Proofs.Ythfinhdmdfekcaa.PA
open Go.RowKit Go.Proofs.YthfinhdmdfekcaaW.PrintWords Go.Proofs.YthfinhdmdfekcaaW.PrintLast Go.Proofs.YthfinhdmdfekcaaW.PrintMore
attribute [local go_sem] max2_int min2_int max_two min_two max_three min_three max_four min_four   -- for this text's walks alone
set_option linter.unusedVariables false
set_option linter.unusedSimpArgs false

/-! ### impl_goesOn: function 92 -/
def impl_goesOn.l0 : Nat → List (S75) → List Int → List Int → Int → Int → Int → List Int → Int → Int → Option (Bool)
  | 0, _, _, _, _, _, _, _, _, _ => none
  | k + 1, x0, x1, x2, x3, x9, x10, x15, x16, x17 => if x17 < x16 then (if 0 ≤ x17 then (if x17 < (x15.length : Int) then ((impl_bit.f ((rd x15 x17) == x3)).bind fun t208 => (impl_goesOn.l0 k x0 x1 x2 x3 x9 (wrap64 (x10 + t208)) x15 x16 (wrap64 (x17 + 1)))) else (none)) else (none)) else (if 0 ≤ x9 then (if x9 < (x1.length : Int) then (if 0 ≤ x3 then (if x3 < (x0.length : Int) then (if (rd x1 x9) ≤ (wrap64 ((rd_T75 x0 x3).f0)) then (if x9 = 0 then (some (decide (x10 ≤ (wrap64 ((rd_T75 x0 x3).f1))))) else (if 0 ≤ (wrap64 (x9 - 1)) then (if (wrap64 (x9 - 1)) < (x2.length : Int) then (if (rd x2 (wrap64 (x9 - 1))) = x3 then (some false) else (some (decide (x10 ≤ (wrap64 ((rd_T75 x0 x3).f1)))))) else (none)) else (none))) else (some false)) else (none)) else (none)) else (none)) else (none))
def impl_goesOn.f (k : Nat) (l0 : List (S75)) (l1 : List Int) (l2 : List Int) (a3 : Int) : Option (Bool) := impl_goesOn.l0 k l0 l1 l2 a3 (l2.length : Int) 1 l2 (l2.length : Int) 0
theorem impl_goesOn.mono_l : ∀ k, (∀ y0 y1 y2 y3 y4 y5 y6 y7 y8, LeO (impl_goesOn.l0 k y0 y1 y2 y3 y4 y5 y6 y7 y8) (impl_goesOn.l0 (k + 1) y0 y1 y2 y3 y4 y5 y6 y7 y8))
  | 0 => fun _ _ _ _ _ _ _ _ _ r h => by simp [impl_goesOn.l0] at h
  | k + 1 => by
    have ih0 := impl_goesOn.mono_l k
    · intro y0 y1 y2 y3 y4 y5 y6 y7 y8
      unfold impl_goesOn.l0
      repeat' first
      | (with_reducible exact ih0 _ _ _ _ _ _ _ _ _)
      | (with_reducible exact LeO.refl _)
      | (with_reducible exact LeO.none _)
      | (with_reducible refine LeO.ite ?_ ?_)
      | (with_reducible refine LeO.bind ?_ (fun _ => ?_))
      | exact ih0 _ _ _ _ _ _ _ _ _
      | exact LeO.none _
      | refine LeO.ite ?_ ?_
      | refine LeO.bind ?_ (fun _ => ?_)
theorem impl_goesOn.mono : ∀ a0 a1 a2 a3 k, LeO (impl_goesOn.f k a0 a1 a2 a3) (impl_goesOn.f (k + 1) a0 a1 a2 a3) := by
  intro a0 a1 a2 a3 k
  have ih0 := impl_goesOn.mono_l k
  unfold impl_goesOn.f
  repeat' first
      | (with_reducible exact ih0 _ _ _ _ _ _ _ _ _)
      | (with_reducible exact LeO.refl _)
      | (with_reducible exact LeO.none _)
      | (with_reducible refine LeO.ite ?_ ?_)
      | (with_reducible refine LeO.bind ?_ (fun _ => ?_))
      | exact ih0 _ _ _ _ _ _ _ _ _
      | exact LeO.none _
      | refine LeO.ite ?_ ?_
      | refine LeO.bind ?_ (fun _ => ?_)
set_option maxHeartbeats 8000000 in
set_option maxRecDepth 100000 in
theorem impl_goesOn.calls (k : Nat) (A0 : Option Addr) (c0 : Nat) (l0 : List (S75)) (A1 : Option Addr) (c1 : Nat) (l1 : List Int) (A2 : Option Addr) (c2 : Nat) (l2 : List Int) (a3 : Int) (r : Bool) (w : World) (hr0 : Kd.C k75 w A0 l0.length l0) (hc0 : l0.length ≤ c0) (hr1 : Kd.C (Kd.int .i64) w A1 l1.length l1) (hc1 : l1.length ≤ c1) (hr2 : Kd.C (Kd.int .i64) w A2 l2.length l2) (hc2 : l2.length ≤ c2) (h : impl_goesOn.f k l0 l1 l2 a3 = some r) :
    Calls Try.prog 92 #[.slice A0 l0.length c0, .slice A1 l1.length c1, .slice A2 l2.length c2, .int .i64 a3] w fun e w' => e = .returned (.bool r) ∧ Drawn0 w w' := by
  have HR0 := Aside0.mk hr0
  have HC0 := Aside0.mk hc0
  clear hr0 hc0
  have HR1 := Aside0.mk hr1
  have HC1 := Aside0.mk hc1
  clear hr1 hc1
  have HR2 := Aside0.mk hr2
  have HC2 := Aside0.mk hc2
  clear hr2 hc2
  have H : (impl_goesOn.l0 k l0 l1 l2 a3 (l2.length : Int) 1 l2 (l2.length : Int) 0) = some r := h
  clear h
  have H' := Aside0.mk H
  clear H
  go_enter Try.func92, Try.ntmps92
  go_wp2
  repeat (go_quiet (fail); try go_wp2)
  go_loopg [10, 17] k (fun kq v10 v17 w' => ∃ (x10_1 : Int) (x17_1 : Int), v10 = .int .i64 x10_1 ∧ v17 = .int .i64 x17_1 ∧ Aside0 (impl_goesOn.l0 kq l0 l1 l2 a3 (l2.length : Int) x10_1 l2 (l2.length : Int) x17_1 = some r) ∧ Aside0 (kq ≤ k) ∧ Drawn0 w w')
  case atStart => exact ⟨(1), (0), (by first | rfl | (simp; done) | (simp [*]; done)), (by first | rfl | (simp; done) | (simp [*]; done)), H', ⟨Nat.le_refl _⟩, by repeat (first | exact Drawn0.refl _ | apply Drawn0.step)⟩
  case round =>
    clear H'
    try clear c1
    try clear c2
    try clear p2
    obtain ⟨x10_1, x17_1, rfl, rfl, HA, HK1, ⟨m1, rfl⟩⟩ := hrel
    cases gk with
    | zero => exact absurd HA.out (by simp [impl_goesOn.l0])
    | succ k1 =>
      have H := HA.out
      clear HA
      simp only [impl_goesOn.l0] at H
      by_cases c5 : x17_1 < (l2.length : Int)
      · rw [if_pos c5] at H
        have c5b0 : decide (x17_1 < (l2.length : Int)) = true := decide_eq_true c5
        clear c5
        by_cases c6 : 0 ≤ x17_1
        · rw [if_pos c6] at H
          have c6b0 : decide (0 ≤ x17_1) = true := decide_eq_true c6
          clear c6
          by_cases c7 : x17_1 < (l2.length : Int)
          · rw [if_pos c7] at H
            have c7b0 : decide (x17_1 < (l2.length : Int)) = true := decide_eq_true c7
            clear c7
            replace H := Option.bind_eq_some_iff.mp H
            obtain ⟨t208, A80, H⟩ := H
            replace H : (impl_goesOn.l0 k1 l0 l1 l2 a3 (l2.length : Int) (wrap64 (x10_1 + t208)) l2 (l2.length : Int) (wrap64 (x17_1 + 1))) = some r := H
            have A8 := Aside0.mk A80
            clear A80
            have H' := Aside0.mk H
            clear H
            have p207 : 0 ≤ (x17_1 : Int) := of_decide_eq_true (by first | (with_reducible assumption) | assumption)
            have q207 : x17_1 < (l2.length : Int) := of_decide_eq_true (by first | (with_reducible assumption) | assumption)
            obtain ⟨ad207, e207, hx207_0⟩ := Kd.at_int HR2.out x17_1 p207 q207
            cases e207
            replace p207 := eq_true p207
            replace q207 := eq_true q207
            have hwr_ : ∀ z_ : Int, IntKind.i64.wrap z_ = wrap64 z_ := IntWalk.i64_left
            go_wp2_with (first | (go_at_call 104; (with_reducible refine (impl_bit.calls ((rd l2 x17_1) == a3) t208 _ A8.out).mono ?_); rintro e w' ⟨rfl, ⟨nd, rfl⟩⟩; (try first | exact ⟨rfl, _, World.drewN_drewN _ _ _⟩ | exact ⟨rfl, _, Eq.trans (World.drewN_drewN _ _ _) (congrArg (World.drewN _) (Nat.add_assoc _ _ _))⟩)))
            repeat (go_quiet (first | (go_at_call 104; (with_reducible refine (impl_bit.calls ((rd l2 x17_1) == a3) t208 _ A8.out).mono ?_); rintro e w' ⟨rfl, ⟨nd, rfl⟩⟩; (try first | exact ⟨rfl, _, World.drewN_drewN _ _ _⟩ | exact ⟨rfl, _, Eq.trans (World.drewN_drewN _ _ _) (congrArg (World.drewN _) (Nat.add_assoc _ _ _))⟩))); try go_wp2_with (first | (go_at_call 104; (with_reducible refine (impl_bit.calls ((rd l2 x17_1) == a3) t208 _ A8.out).mono ?_); rintro e w' ⟨rfl, ⟨nd, rfl⟩⟩; (try first | exact ⟨rfl, _, World.drewN_drewN _ _ _⟩ | exact ⟨rfl, _, Eq.trans (World.drewN_drewN _ _ _) (congrArg (World.drewN _) (Nat.add_assoc _ _ _))⟩))))
            go_roundg k1
            case measure => have := HK1.out; omega
            case rel => exact ⟨(wrap64 (x10_1 + t208)), (wrap64 (x17_1 + 1)), (by first | rfl | (simp; done) | (simp [*]; done)), (by first | rfl | (simp; done) | (simp [*]; done)), H', ⟨by have := HK1.out; omega⟩, by repeat (first | exact Drawn0.refl _ | apply Drawn0.step)⟩
          · rw [if_neg c7] at H
            exact absurd H (by simp)
        · rw [if_neg c6] at H
          exact absurd H (by simp)
      · rw [if_neg c5] at H
        have c5b0 : decide (x17_1 < (l2.length : Int)) = false := decide_eq_false c5
        clear c5
        by_cases c9 : 0 ≤ (l2.length : Int)
        · rw [if_pos c9] at H
          have c9b0 : decide (0 ≤ (l2.length : Int)) = true := decide_eq_true c9
          have c9b1 : decide (0 ≤ l2.length) = true := decide_eq_true (by omega)
          clear c9
          by_cases c10 : (l2.length : Int) < (l1.length : Int)
          · rw [if_pos c10] at H
            have c10b0 : decide ((l2.length : Int) < (l1.length : Int)) = true := decide_eq_true c10
            have c10b1 : decide (l2.length < l1.length) = true := decide_eq_true (Int.ofNat_lt.mp c10)
            clear c10
            by_cases c11 : 0 ≤ a3
            · rw [if_pos c11] at H
              have c11b0 : decide (0 ≤ a3) = true := decide_eq_true c11
              clear c11
              by_cases c12 : a3 < (l0.length : Int)
              · rw [if_pos c12] at H
                have c12b0 : decide (a3 < (l0.length : Int)) = true := decide_eq_true c12
                clear c12
                by_cases c13 : (rd l1 (l2.length : Int)) ≤ (wrap64 ((rd_T75 l0 a3).f0))
                · rw [if_pos c13] at H
                  have c13b0 : decide ((rd l1 (l2.length : Int)) ≤ (wrap64 ((rd_T75 l0 a3).f0))) = true := decide_eq_true c13
                  clear c13
                  by_cases c14 : (l2.length : Int) = 0
                  · rw [if_pos c14] at H
                    have c14b0 : ((l2.length : Int) == 0) = true := beq_iff_eq.mpr c14
                    have c14b1 : ((l2.length : Int) != 0) = false := bne_eq_false_iff_eq.mpr c14
                    clear c14
                    obtain rfl := Option.some.inj H
                    have p209 : 0 ≤ ((l2.length : Int) : Int) := of_decide_eq_true (by first | (with_reducible assumption) | assumption)
                    have q209 : (l2.length : Int) < (l1.length : Int) := of_decide_eq_true (by first | (with_reducible assumption) | assumption)
                    obtain ⟨ad209, e209, hx209_0⟩ := Kd.at_int HR1.out (l2.length : Int) p209 q209
                    cases e209
                    (try simp only [Go.IntWalk.toNatUp] at hx209_0)
                    replace p209 := eq_true p209
                    replace q209 := eq_true q209
                    have p210 : 0 ≤ (a3 : Int) := of_decide_eq_true (by first | (with_reducible assumption) | assumption)
                    have q210 : a3 < (l0.length : Int) := of_decide_eq_true (by first | (with_reducible assumption) | assumption)
                    obtain ⟨ad210, e210, hx210_0, hx210_1, hx210_2⟩ := at_T75 HR0.out a3 p210 q210
                    cases e210
                    replace p210 := eq_true p210
                    replace q210 := eq_true q210
                    have p211 : 0 ≤ (a3 : Int) := of_decide_eq_true (by first | (with_reducible assumption) | assumption)
                    have q211 : a3 < (l0.length : Int) := of_decide_eq_true (by first | (with_reducible assumption) | assumption)
                    obtain ⟨ad211, e211, hx211_0, hx211_1, hx211_2⟩ := at_T75 HR0.out a3 p211 q211
                    obtain rfl : ad210 = ad211 := (by injection e211)
                    replace p211 := eq_true p211
                    replace q211 := eq_true q211
                    go_wp2
                    repeat (go_quiet (fail); try go_wp2)
                    go_ret
                    exact ⟨by first | rfl | (simp; done) | (simp [*]; done), by repeat (first | exact Drawn0.refl _ | apply Drawn0.step)⟩
                  · rw [if_neg c14] at H
                    have c14b0 : ((l2.length : Int) == 0) = false := beq_eq_false_iff_ne.mpr c14
                    have c14b1 : ((l2.length : Int) != 0) = true := bne_iff_ne.mpr c14
                    have c14b2 : ¬ (l2 = []) := fun h_ => c14 (by rw [h_]; rfl)
                    obtain ⟨ji15, hji15⟩ : ∃ j_ : Int, (wrap64 ((l2.length : Int) - 1)) = j_ := ⟨_, rfl⟩
                    replace H : (if 0 ≤ (ji15) then (if (ji15) < (l2.length : Int) then (if (rd l2 (ji15)) = a3 then (some false) else (some (decide (x10_1 ≤ (wrap64 ((rd_T75 l0 a3).f1)))))) else (none)) else (none)) = some r := by first | (rw [hji15] at H; exact H) | (simp only [hji15] at H ⊢; exact H)
                    have hji15w : (IntKind.i64.wrap ((l2.length : Int) - 1)) = ji15 := (i64_w _).trans hji15
                    by_cases c16 : 0 ≤ (ji15)
                    · rw [if_pos c16] at H
                      have c16b0 : decide (0 ≤ (ji15)) = true := decide_eq_true c16
                      clear c16
                      by_cases c17 : (ji15) < (l2.length : Int)
                      · rw [if_pos c17] at H
                        have c17b0 : decide ((ji15) < (l2.length : Int)) = true := decide_eq_true c17
                        clear c17
                        by_cases c18 : (rd l2 (ji15)) = a3
                        · rw [if_pos c18] at H
                          have c18b0 : ((rd l2 (ji15)) == a3) = true := beq_iff_eq.mpr c18
                          have c18b1 : ((rd l2 (ji15)) != a3) = false := bne_eq_false_iff_eq.mpr c18
                          clear c18
                          obtain rfl := Option.some.inj H
                          have p209 : 0 ≤ ((l2.length : Int) : Int) := of_decide_eq_true (by first | (with_reducible assumption) | assumption)
                          have q209 : (l2.length : Int) < (l1.length : Int) := of_decide_eq_true (by first | (with_reducible assumption) | assumption)
                          obtain ⟨ad209, e209, hx209_0⟩ := Kd.at_int HR1.out (l2.length : Int) p209 q209
                          cases e209
                          (try simp only [Go.IntWalk.toNatUp] at hx209_0)
                          replace p209 := eq_true p209
                          replace q209 := eq_true q209
                          have p210 : 0 ≤ (a3 : Int) := of_decide_eq_true (by first | (with_reducible assumption) | assumption)
                          have q210 : a3 < (l0.length : Int) := of_decide_eq_true (by first | (with_reducible assumption) | assumption)
                          obtain ⟨ad210, e210, hx210_0, hx210_1, hx210_2⟩ := at_T75 HR0.out a3 p210 q210
                          cases e210
                          replace p210 := eq_true p210
                          replace q210 := eq_true q210
                          have p212 : 0 ≤ ((ji15) : Int) := of_decide_eq_true (by first | (with_reducible assumption) | assumption)
                          have q212 : (ji15) < (l2.length : Int) := of_decide_eq_true (by first | (with_reducible assumption) | assumption)
                          obtain ⟨ad212, e212, hx212_0⟩ := Kd.at_int HR2.out (ji15) p212 q212
                          cases e212
                          replace p212 := eq_true p212
                          replace q212 := eq_true q212
                          go_wp2
                          repeat (go_quiet (fail); try go_wp2)
                          go_ret
                          exact ⟨by first | rfl | (simp; done) | (simp only [← hji15] <;> (first | rfl | simp)) | (simp [*]; done), by repeat (first | exact Drawn0.refl _ | apply Drawn0.step)⟩
                        · rw [if_neg c18] at H
                          have c18b0 : ((rd l2 (ji15)) == a3) = false := beq_eq_false_iff_ne.mpr c18
                          have c18b1 : ((rd l2 (ji15)) != a3) = true := bne_iff_ne.mpr c18
                          obtain rfl := Option.some.inj H
                          have p209 : 0 ≤ ((l2.length : Int) : Int) := of_decide_eq_true (by first | (with_reducible assumption) | assumption)
                          have q209 : (l2.length : Int) < (l1.length : Int) := of_decide_eq_true (by first | (with_reducible assumption) | assumption)
                          obtain ⟨ad209, e209, hx209_0⟩ := Kd.at_int HR1.out (l2.length : Int) p209 q209
                          cases e209
                          (try simp only [Go.IntWalk.toNatUp] at hx209_0)
                          replace p209 := eq_true p209
                          replace q209 := eq_true q209
                          have p210 : 0 ≤ (a3 : Int) := of_decide_eq_true (by first | (with_reducible assumption) | assumption)
                          have q210 : a3 < (l0.length : Int) := of_decide_eq_true (by first | (with_reducible assumption) | assumption)
                          obtain ⟨ad210, e210, hx210_0, hx210_1, hx210_2⟩ := at_T75 HR0.out a3 p210 q210
                          cases e210
                          replace p210 := eq_true p210
                          replace q210 := eq_true q210
                          have p212 : 0 ≤ ((ji15) : Int) := of_decide_eq_true (by first | (with_reducible assumption) | assumption)
                          have q212 : (ji15) < (l2.length : Int) := of_decide_eq_true (by first | (with_reducible assumption) | assumption)
                          obtain ⟨ad212, e212, hx212_0⟩ := Kd.at_int HR2.out (ji15) p212 q212
                          cases e212
                          replace p212 := eq_true p212
                          replace q212 := eq_true q212
                          have p213 : 0 ≤ (a3 : Int) := of_decide_eq_true (by first | (with_reducible assumption) | assumption)
                          have q213 : a3 < (l0.length : Int) := of_decide_eq_true (by first | (with_reducible assumption) | assumption)
                          obtain ⟨ad213, e213, hx213_0, hx213_1, hx213_2⟩ := at_T75 HR0.out a3 p213 q213
                          obtain rfl : ad210 = ad213 := (by injection e213)
                          replace p213 := eq_true p213
                          replace q213 := eq_true q213
                          go_wp2
                          repeat (go_quiet (fail); try go_wp2)
                          go_ret
                          exact ⟨by first | rfl | (simp; done) | (simp only [← hji15] <;> (first | rfl | simp)) | (simp [*]; done), by repeat (first | exact Drawn0.refl _ | apply Drawn0.step)⟩
                      · rw [if_neg c17] at H
                        exact absurd H (by simp)
                    · rw [if_neg c16] at H
                      exact absurd H (by simp)
                · rw [if_neg c13] at H
                  have c13b0 : decide ((rd l1 (l2.length : Int)) ≤ (wrap64 ((rd_T75 l0 a3).f0))) = false := decide_eq_false c13
                  clear c13
                  obtain rfl := Option.some.inj H
                  have p209 : 0 ≤ ((l2.length : Int) : Int) := of_decide_eq_true (by first | (with_reducible assumption) | assumption)
                  have q209 : (l2.length : Int) < (l1.length : Int) := of_decide_eq_true (by first | (with_reducible assumption) | assumption)
                  obtain ⟨ad209, e209, hx209_0⟩ := Kd.at_int HR1.out (l2.length : Int) p209 q209
                  cases e209
                  (try simp only [Go.IntWalk.toNatUp] at hx209_0)
                  replace p209 := eq_true p209
                  replace q209 := eq_true q209
                  have p210 : 0 ≤ (a3 : Int) := of_decide_eq_true (by first | (with_reducible assumption) | assumption)
                  have q210 : a3 < (l0.length : Int) := of_decide_eq_true (by first | (with_reducible assumption) | assumption)
                  obtain ⟨ad210, e210, hx210_0, hx210_1, hx210_2⟩ := at_T75 HR0.out a3 p210 q210
                  cases e210
                  replace p210 := eq_true p210
                  replace q210 := eq_true q210
                  go_wp2
                  repeat (go_quiet (fail); try go_wp2)
                  go_ret
                  exact ⟨by first | rfl | (simp; done) | (simp [*]; done), by repeat (first | exact Drawn0.refl _ | apply Drawn0.step)⟩
              · rw [if_neg c12] at H
                exact absurd H (by simp)
            · rw [if_neg c11] at H
              exact absurd H (by simp)
          · rw [if_neg c10] at H
            exact absurd H (by simp)
        · rw [if_neg c9] at H
          exact absurd H (by simp)

end Go.Proofs.Ythfinhdmdfekcaa.PA
