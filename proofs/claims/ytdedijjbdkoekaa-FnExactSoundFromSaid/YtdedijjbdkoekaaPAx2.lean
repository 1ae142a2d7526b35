/- Lean functions for Go functions, and proofs that Go comes to just their answers; written by a program of this session. -/
import Derived.Test.YtdedijjbdkoekaaPAx0
namespace Go.Proofs.Ytdedijjbdkoekaa.PA
open Go.RowKit Go.Proofs.YtdedijjbdkoekaaW.PrintWords Go.Proofs.YtdedijjbdkoekaaW.PrintLast Go.Proofs.YtdedijjbdkoekaaW.PrintMore
attribute [local go_sem] max2_int min2_int max_two min_two max_three min_three max_four min_four   -- for this text's walks alone
set_option linter.unusedVariables false
set_option linter.unusedSimpArgs false

/-! ### ext impl_SoundFrom: function 16 -/

/-- The nine sounds, by the signs of the two distances. -/
def soundTab (r c : Int) : Int := [7, 0, 1, 6, 8, 2, 5, 4, 3].getD ((r + 1) * 3 + (c + 1)).toNat 0
def soundSg (n : Int) : Int := mx (mn n 1) (-1)
def impl_SoundFrom.f (a0_0 a0_1 a1_0 a1_1 : Int) : Option Int :=
  some (soundTab (soundSg (if wrap64 (2 * mx (wrap64 (wrap64 a1_0 - wrap64 a0_0)) (wrap64 (-wrap64 (wrap64 a1_0 - wrap64 a0_0)))) > wrap64 (5 * mx (wrap64 (wrap64 a1_1 - wrap64 a0_1)) (wrap64 (-wrap64 (wrap64 a1_1 - wrap64 a0_1)))) then 0 else wrap64 (wrap64 a1_1 - wrap64 a0_1)))
    (soundSg (if wrap64 (2 * mx (wrap64 (wrap64 a1_1 - wrap64 a0_1)) (wrap64 (-wrap64 (wrap64 a1_1 - wrap64 a0_1)))) > wrap64 (5 * mx (wrap64 (wrap64 a1_0 - wrap64 a0_0)) (wrap64 (-wrap64 (wrap64 a1_0 - wrap64 a0_0)))) then 0 else wrap64 (wrap64 a1_0 - wrap64 a0_0))))
theorem soundSg_three (n : Int) : soundSg n = -1 ∨ soundSg n = 0 ∨ soundSg n = 1 := by
  unfold soundSg mx mn
  (repeat' split) <;> omega
theorem soundSg_0 : soundSg 0 = 0 := by decide
set_option maxHeartbeats 8000000 in
set_option maxRecDepth 100000 in
theorem sign_b (n : Int) (W : World) : Calls Try.prog 39 #[.int .i64 n] W fun e w' => e = .returned (.int .i64 (soundSg n)) ∧ Drawn0 W w' := by
  obtain ⟨a, ha⟩ : ∃ j : Int, mn n 1 = j := ⟨_, rfl⟩
  obtain ⟨b, hb⟩ : ∃ j : Int, mx a (-1) = j := ⟨_, rfl⟩
  have ha_ : (if 1 < n then 1 else n) = a := ha
  have hb_ : (if a < -1 then -1 else a) = b := hb
  have hs : soundSg n = b := by rw [soundSg, ha, hb]
  rw [hs]
  clear hs ha hb
  go_enter Try.func39, Try.ntmps39
  go_wp2
  go_ret
  exact ⟨rfl, ⟨0, rfl⟩⟩
theorem sign_c (n s : Int) (hs : soundSg n = s) (W : World) : Calls Try.prog 39 #[.int .i64 n] W fun e w' => e = .returned (.int .i64 s) ∧ Drawn0 W w' := by subst hs; exact sign_b n W
set_option maxHeartbeats 8000000 in
set_option maxRecDepth 100000 in
theorem impl_SoundFrom.calls (a0_0 a0_1 a1_0 a1_1 r : Int) (w : World) (h : impl_SoundFrom.f a0_0 a0_1 a1_0 a1_1 = some r) :
    Calls Try.prog 16 #[.agg #[.int .i8 a0_0, .int .i8 a0_1], .agg #[.int .i8 a1_0, .int .i8 a1_1]] w fun e w' => e = .returned (.int .i64 r) ∧ Below w.heap.size w w' := by
  have hu33 := Try.underlying33
  have hu62 := Try.underlying62
  have hu63 := Try.underlying63
  have HB := Aside0.mk (Below.refl w.heap.size w)
  obtain rfl := Option.some.inj h
  clear h
  obtain ⟨h, hh⟩ : ∃ j : Int, mx (wrap64 (wrap64 a1_0 - wrap64 a0_0)) (wrap64 (-wrap64 (wrap64 a1_0 - wrap64 a0_0))) = j := ⟨_, rfl⟩
  obtain ⟨v, hv⟩ : ∃ j : Int, mx (wrap64 (wrap64 a1_1 - wrap64 a0_1)) (wrap64 (-wrap64 (wrap64 a1_1 - wrap64 a0_1))) = j := ⟨_, rfl⟩
  rw [hh, hv]
  obtain ⟨dx, hdx⟩ : ∃ j : Int, wrap64 (wrap64 a1_0 - wrap64 a0_0) = j := ⟨_, rfl⟩
  obtain ⟨dy, hdy⟩ : ∃ j : Int, wrap64 (wrap64 a1_1 - wrap64 a0_1) = j := ⟨_, rfl⟩
  rw [hdx] at hh ⊢
  rw [hdy] at hv ⊢
  have hh_ : (if dx < wrap64 (-dx) then wrap64 (-dx) else dx) = h := hh
  have hv_ : (if dy < wrap64 (-dy) then wrap64 (-dy) else dy) = v := hv
  clear hh hv
  have HX := Aside0.mk soundSg_0
  have HY := Aside0.mk soundSg_0
  have HX2 := Aside0.mk soundSg_0
  have HY2 := Aside0.mk soundSg_0
  by_cases c1 : wrap64 (2 * v) > wrap64 (5 * h)
  · by_cases c2 : wrap64 (2 * h) > wrap64 (5 * v)
    · rw [if_pos c1, if_pos c2, soundSg_0]
      go_enter Try.func16, Try.ntmps16
      go_wp2_with fail
      go_quiet (fail)
      go_wp2_with fail
      go_quiet ((go_at_call 39; (refine Calls.mono (sign_c _ _ (by first | exact HX.out | exact HY.out | exact HX2.out | exact HY2.out | exact soundSg_0) _) ?_); rintro e w' ⟨rfl, ⟨nd, rfl⟩⟩; exact ⟨rfl, _, World.drewN_drewN _ _ _⟩))
      go_wp2
      go_ret
      exact ⟨rfl, by repeat (first | exact HB.out | apply pw_below_drewN | (refine below_alloc ?_ _) | apply below_drew1)⟩
    · rw [if_pos c1, if_neg c2, soundSg_0]
      rcases soundSg_three dy with hy | hy | hy
      ·
        have HY := Aside0.mk hy
        have HY2 : Aside0 (soundSg (wrap64 (wrap64 a1_1 - wrap64 a0_1)) = _) := ⟨(congrArg soundSg hdy).trans hy⟩
        rw [hy]
        clear hy
        go_enter Try.func16, Try.ntmps16
        go_wp2_with fail
        go_quiet (fail)
        go_wp2_with fail
        go_quiet ((go_at_call 39; (refine Calls.mono (sign_c _ _ (by first | exact HX.out | exact HY.out | exact HX2.out | exact HY2.out | exact soundSg_0) _) ?_); rintro e w' ⟨rfl, ⟨nd, rfl⟩⟩; exact ⟨rfl, _, World.drewN_drewN _ _ _⟩))
        go_wp2
        go_ret
        exact ⟨rfl, by repeat (first | exact HB.out | apply pw_below_drewN | (refine below_alloc ?_ _) | apply below_drew1)⟩
      ·
        have HY := Aside0.mk hy
        have HY2 : Aside0 (soundSg (wrap64 (wrap64 a1_1 - wrap64 a0_1)) = _) := ⟨(congrArg soundSg hdy).trans hy⟩
        rw [hy]
        clear hy
        go_enter Try.func16, Try.ntmps16
        go_wp2_with fail
        go_quiet (fail)
        go_wp2_with fail
        go_quiet ((go_at_call 39; (refine Calls.mono (sign_c _ _ (by first | exact HX.out | exact HY.out | exact HX2.out | exact HY2.out | exact soundSg_0) _) ?_); rintro e w' ⟨rfl, ⟨nd, rfl⟩⟩; exact ⟨rfl, _, World.drewN_drewN _ _ _⟩))
        go_wp2
        go_ret
        exact ⟨rfl, by repeat (first | exact HB.out | apply pw_below_drewN | (refine below_alloc ?_ _) | apply below_drew1)⟩
      ·
        have HY := Aside0.mk hy
        have HY2 : Aside0 (soundSg (wrap64 (wrap64 a1_1 - wrap64 a0_1)) = _) := ⟨(congrArg soundSg hdy).trans hy⟩
        rw [hy]
        clear hy
        go_enter Try.func16, Try.ntmps16
        go_wp2_with fail
        go_quiet (fail)
        go_wp2_with fail
        go_quiet ((go_at_call 39; (refine Calls.mono (sign_c _ _ (by first | exact HX.out | exact HY.out | exact HX2.out | exact HY2.out | exact soundSg_0) _) ?_); rintro e w' ⟨rfl, ⟨nd, rfl⟩⟩; exact ⟨rfl, _, World.drewN_drewN _ _ _⟩))
        go_wp2
        go_ret
        exact ⟨rfl, by repeat (first | exact HB.out | apply pw_below_drewN | (refine below_alloc ?_ _) | apply below_drew1)⟩
  · by_cases c2 : wrap64 (2 * h) > wrap64 (5 * v)
    · rw [if_neg c1, if_pos c2, soundSg_0]
      rcases soundSg_three dx with hx | hx | hx
      ·
        have HX := Aside0.mk hx
        have HX2 : Aside0 (soundSg (wrap64 (wrap64 a1_0 - wrap64 a0_0)) = _) := ⟨(congrArg soundSg hdx).trans hx⟩
        rw [hx]
        clear hx
        go_enter Try.func16, Try.ntmps16
        go_wp2_with fail
        go_quiet (fail)
        go_wp2_with fail
        go_quiet ((go_at_call 39; (refine Calls.mono (sign_c _ _ (by first | exact HX.out | exact HY.out | exact HX2.out | exact HY2.out | exact soundSg_0) _) ?_); rintro e w' ⟨rfl, ⟨nd, rfl⟩⟩; exact ⟨rfl, _, World.drewN_drewN _ _ _⟩))
        go_wp2
        go_ret
        exact ⟨rfl, by repeat (first | exact HB.out | apply pw_below_drewN | (refine below_alloc ?_ _) | apply below_drew1)⟩
      ·
        have HX := Aside0.mk hx
        have HX2 : Aside0 (soundSg (wrap64 (wrap64 a1_0 - wrap64 a0_0)) = _) := ⟨(congrArg soundSg hdx).trans hx⟩
        rw [hx]
        clear hx
        go_enter Try.func16, Try.ntmps16
        go_wp2_with fail
        go_quiet (fail)
        go_wp2_with fail
        go_quiet ((go_at_call 39; (refine Calls.mono (sign_c _ _ (by first | exact HX.out | exact HY.out | exact HX2.out | exact HY2.out | exact soundSg_0) _) ?_); rintro e w' ⟨rfl, ⟨nd, rfl⟩⟩; exact ⟨rfl, _, World.drewN_drewN _ _ _⟩))
        go_wp2
        go_ret
        exact ⟨rfl, by repeat (first | exact HB.out | apply pw_below_drewN | (refine below_alloc ?_ _) | apply below_drew1)⟩
      ·
        have HX := Aside0.mk hx
        have HX2 : Aside0 (soundSg (wrap64 (wrap64 a1_0 - wrap64 a0_0)) = _) := ⟨(congrArg soundSg hdx).trans hx⟩
        rw [hx]
        clear hx
        go_enter Try.func16, Try.ntmps16
        go_wp2_with fail
        go_quiet (fail)
        go_wp2_with fail
        go_quiet ((go_at_call 39; (refine Calls.mono (sign_c _ _ (by first | exact HX.out | exact HY.out | exact HX2.out | exact HY2.out | exact soundSg_0) _) ?_); rintro e w' ⟨rfl, ⟨nd, rfl⟩⟩; exact ⟨rfl, _, World.drewN_drewN _ _ _⟩))
        go_wp2
        go_ret
        exact ⟨rfl, by repeat (first | exact HB.out | apply pw_below_drewN | (refine below_alloc ?_ _) | apply below_drew1)⟩
    · rw [if_neg c1, if_neg c2]
      rcases soundSg_three dx with hx | hx | hx
      ·
        have HX := Aside0.mk hx
        have HX2 : Aside0 (soundSg (wrap64 (wrap64 a1_0 - wrap64 a0_0)) = _) := ⟨(congrArg soundSg hdx).trans hx⟩
        rw [hx]
        clear hx
        rcases soundSg_three dy with hy | hy | hy
        ·
          have HY := Aside0.mk hy
          have HY2 : Aside0 (soundSg (wrap64 (wrap64 a1_1 - wrap64 a0_1)) = _) := ⟨(congrArg soundSg hdy).trans hy⟩
          rw [hy]
          clear hy
          go_enter Try.func16, Try.ntmps16
          go_wp2_with fail
          go_quiet (fail)
          go_wp2_with fail
          go_quiet ((go_at_call 39; (refine Calls.mono (sign_c _ _ (by first | exact HX.out | exact HY.out | exact HX2.out | exact HY2.out | exact soundSg_0) _) ?_); rintro e w' ⟨rfl, ⟨nd, rfl⟩⟩; exact ⟨rfl, _, World.drewN_drewN _ _ _⟩))
          go_wp2
          go_ret
          exact ⟨rfl, by repeat (first | exact HB.out | apply pw_below_drewN | (refine below_alloc ?_ _) | apply below_drew1)⟩
        ·
          have HY := Aside0.mk hy
          have HY2 : Aside0 (soundSg (wrap64 (wrap64 a1_1 - wrap64 a0_1)) = _) := ⟨(congrArg soundSg hdy).trans hy⟩
          rw [hy]
          clear hy
          go_enter Try.func16, Try.ntmps16
          go_wp2_with fail
          go_quiet (fail)
          go_wp2_with fail
          go_quiet ((go_at_call 39; (refine Calls.mono (sign_c _ _ (by first | exact HX.out | exact HY.out | exact HX2.out | exact HY2.out | exact soundSg_0) _) ?_); rintro e w' ⟨rfl, ⟨nd, rfl⟩⟩; exact ⟨rfl, _, World.drewN_drewN _ _ _⟩))
          go_wp2
          go_ret
          exact ⟨rfl, by repeat (first | exact HB.out | apply pw_below_drewN | (refine below_alloc ?_ _) | apply below_drew1)⟩
        ·
          have HY := Aside0.mk hy
          have HY2 : Aside0 (soundSg (wrap64 (wrap64 a1_1 - wrap64 a0_1)) = _) := ⟨(congrArg soundSg hdy).trans hy⟩
          rw [hy]
          clear hy
          go_enter Try.func16, Try.ntmps16
          go_wp2_with fail
          go_quiet (fail)
          go_wp2_with fail
          go_quiet ((go_at_call 39; (refine Calls.mono (sign_c _ _ (by first | exact HX.out | exact HY.out | exact HX2.out | exact HY2.out | exact soundSg_0) _) ?_); rintro e w' ⟨rfl, ⟨nd, rfl⟩⟩; exact ⟨rfl, _, World.drewN_drewN _ _ _⟩))
          go_wp2
          go_ret
          exact ⟨rfl, by repeat (first | exact HB.out | apply pw_below_drewN | (refine below_alloc ?_ _) | apply below_drew1)⟩
      ·
        have HX := Aside0.mk hx
        have HX2 : Aside0 (soundSg (wrap64 (wrap64 a1_0 - wrap64 a0_0)) = _) := ⟨(congrArg soundSg hdx).trans hx⟩
        rw [hx]
        clear hx
        rcases soundSg_three dy with hy | hy | hy
        ·
          have HY := Aside0.mk hy
          have HY2 : Aside0 (soundSg (wrap64 (wrap64 a1_1 - wrap64 a0_1)) = _) := ⟨(congrArg soundSg hdy).trans hy⟩
          rw [hy]
          clear hy
          go_enter Try.func16, Try.ntmps16
          go_wp2_with fail
          go_quiet (fail)
          go_wp2_with fail
          go_quiet ((go_at_call 39; (refine Calls.mono (sign_c _ _ (by first | exact HX.out | exact HY.out | exact HX2.out | exact HY2.out | exact soundSg_0) _) ?_); rintro e w' ⟨rfl, ⟨nd, rfl⟩⟩; exact ⟨rfl, _, World.drewN_drewN _ _ _⟩))
          go_wp2
          go_ret
          exact ⟨rfl, by repeat (first | exact HB.out | apply pw_below_drewN | (refine below_alloc ?_ _) | apply below_drew1)⟩
        ·
          have HY := Aside0.mk hy
          have HY2 : Aside0 (soundSg (wrap64 (wrap64 a1_1 - wrap64 a0_1)) = _) := ⟨(congrArg soundSg hdy).trans hy⟩
          rw [hy]
          clear hy
          go_enter Try.func16, Try.ntmps16
          go_wp2_with fail
          go_quiet (fail)
          go_wp2_with fail
          go_quiet ((go_at_call 39; (refine Calls.mono (sign_c _ _ (by first | exact HX.out | exact HY.out | exact HX2.out | exact HY2.out | exact soundSg_0) _) ?_); rintro e w' ⟨rfl, ⟨nd, rfl⟩⟩; exact ⟨rfl, _, World.drewN_drewN _ _ _⟩))
          go_wp2
          go_ret
          exact ⟨rfl, by repeat (first | exact HB.out | apply pw_below_drewN | (refine below_alloc ?_ _) | apply below_drew1)⟩
        ·
          have HY := Aside0.mk hy
          have HY2 : Aside0 (soundSg (wrap64 (wrap64 a1_1 - wrap64 a0_1)) = _) := ⟨(congrArg soundSg hdy).trans hy⟩
          rw [hy]
          clear hy
          go_enter Try.func16, Try.ntmps16
          go_wp2_with fail
          go_quiet (fail)
          go_wp2_with fail
          go_quiet ((go_at_call 39; (refine Calls.mono (sign_c _ _ (by first | exact HX.out | exact HY.out | exact HX2.out | exact HY2.out | exact soundSg_0) _) ?_); rintro e w' ⟨rfl, ⟨nd, rfl⟩⟩; exact ⟨rfl, _, World.drewN_drewN _ _ _⟩))
          go_wp2
          go_ret
          exact ⟨rfl, by repeat (first | exact HB.out | apply pw_below_drewN | (refine below_alloc ?_ _) | apply below_drew1)⟩
      ·
        have HX := Aside0.mk hx
        have HX2 : Aside0 (soundSg (wrap64 (wrap64 a1_0 - wrap64 a0_0)) = _) := ⟨(congrArg soundSg hdx).trans hx⟩
        rw [hx]
        clear hx
        rcases soundSg_three dy with hy | hy | hy
        ·
          have HY := Aside0.mk hy
          have HY2 : Aside0 (soundSg (wrap64 (wrap64 a1_1 - wrap64 a0_1)) = _) := ⟨(congrArg soundSg hdy).trans hy⟩
          rw [hy]
          clear hy
          go_enter Try.func16, Try.ntmps16
          go_wp2_with fail
          go_quiet (fail)
          go_wp2_with fail
          go_quiet ((go_at_call 39; (refine Calls.mono (sign_c _ _ (by first | exact HX.out | exact HY.out | exact HX2.out | exact HY2.out | exact soundSg_0) _) ?_); rintro e w' ⟨rfl, ⟨nd, rfl⟩⟩; exact ⟨rfl, _, World.drewN_drewN _ _ _⟩))
          go_wp2
          go_ret
          exact ⟨rfl, by repeat (first | exact HB.out | apply pw_below_drewN | (refine below_alloc ?_ _) | apply below_drew1)⟩
        ·
          have HY := Aside0.mk hy
          have HY2 : Aside0 (soundSg (wrap64 (wrap64 a1_1 - wrap64 a0_1)) = _) := ⟨(congrArg soundSg hdy).trans hy⟩
          rw [hy]
          clear hy
          go_enter Try.func16, Try.ntmps16
          go_wp2_with fail
          go_quiet (fail)
          go_wp2_with fail
          go_quiet ((go_at_call 39; (refine Calls.mono (sign_c _ _ (by first | exact HX.out | exact HY.out | exact HX2.out | exact HY2.out | exact soundSg_0) _) ?_); rintro e w' ⟨rfl, ⟨nd, rfl⟩⟩; exact ⟨rfl, _, World.drewN_drewN _ _ _⟩))
          go_wp2
          go_ret
          exact ⟨rfl, by repeat (first | exact HB.out | apply pw_below_drewN | (refine below_alloc ?_ _) | apply below_drew1)⟩
        ·
          have HY := Aside0.mk hy
          have HY2 : Aside0 (soundSg (wrap64 (wrap64 a1_1 - wrap64 a0_1)) = _) := ⟨(congrArg soundSg hdy).trans hy⟩
          rw [hy]
          clear hy
          go_enter Try.func16, Try.ntmps16
          go_wp2_with fail
          go_quiet (fail)
          go_wp2_with fail
          go_quiet ((go_at_call 39; (refine Calls.mono (sign_c _ _ (by first | exact HX.out | exact HY.out | exact HX2.out | exact HY2.out | exact soundSg_0) _) ?_); rintro e w' ⟨rfl, ⟨nd, rfl⟩⟩; exact ⟨rfl, _, World.drewN_drewN _ _ _⟩))
          go_wp2
          go_ret
          exact ⟨rfl, by repeat (first | exact HB.out | apply pw_below_drewN | (refine below_alloc ?_ _) | apply below_drew1)⟩

end Go.Proofs.Ytdedijjbdkoekaa.PA
