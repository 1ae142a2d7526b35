/- Lean functions for Go functions, and proofs that Go comes to just their answers; written by a program of this session. -/
import Derived.Test.YtdedijjbdkoekaaPAx0
namespace Go.Proofs.Ytdedijjbdkoekaa.PA
open Go.RowKit Go.Proofs.YtdedijjbdkoekaaW.PrintWords Go.Proofs.YtdedijjbdkoekaaW.PrintLast Go.Proofs.YtdedijjbdkoekaaW.PrintMore
attribute [local go_sem] max2_int min2_int max_two min_two max_three min_three max_four min_four   -- for this text's walks alone
set_option linter.unusedVariables false
set_option linter.unusedSimpArgs false

/-! ### ext laws_toUint16A10: function 36 -/

def laws_toUint16A10.f (a0 a1 a2 a3 a4 a5 a6 a7 a8 a9 : Int) : Option (Int × Int × Int × Int × Int × Int × Int × Int × Int × Int) := some (a0, a1, a2, a3, a4, a5, a6, a7, a8, a9)
def mixA (a0 a1 a2 a3 a4 a5 a6 a7 a8 a9 : Int) : Nat → Array Value
  | 0 => #[.int .u16 0, .int .u16 0, .int .u16 0, .int .u16 0, .int .u16 0, .int .u16 0, .int .u16 0, .int .u16 0, .int .u16 0, .int .u16 0]
  | 1 => #[.int .u16 a0, .int .u16 0, .int .u16 0, .int .u16 0, .int .u16 0, .int .u16 0, .int .u16 0, .int .u16 0, .int .u16 0, .int .u16 0]
  | 2 => #[.int .u16 a0, .int .u16 a1, .int .u16 0, .int .u16 0, .int .u16 0, .int .u16 0, .int .u16 0, .int .u16 0, .int .u16 0, .int .u16 0]
  | 3 => #[.int .u16 a0, .int .u16 a1, .int .u16 a2, .int .u16 0, .int .u16 0, .int .u16 0, .int .u16 0, .int .u16 0, .int .u16 0, .int .u16 0]
  | 4 => #[.int .u16 a0, .int .u16 a1, .int .u16 a2, .int .u16 a3, .int .u16 0, .int .u16 0, .int .u16 0, .int .u16 0, .int .u16 0, .int .u16 0]
  | 5 => #[.int .u16 a0, .int .u16 a1, .int .u16 a2, .int .u16 a3, .int .u16 a4, .int .u16 0, .int .u16 0, .int .u16 0, .int .u16 0, .int .u16 0]
  | 6 => #[.int .u16 a0, .int .u16 a1, .int .u16 a2, .int .u16 a3, .int .u16 a4, .int .u16 a5, .int .u16 0, .int .u16 0, .int .u16 0, .int .u16 0]
  | 7 => #[.int .u16 a0, .int .u16 a1, .int .u16 a2, .int .u16 a3, .int .u16 a4, .int .u16 a5, .int .u16 a6, .int .u16 0, .int .u16 0, .int .u16 0]
  | 8 => #[.int .u16 a0, .int .u16 a1, .int .u16 a2, .int .u16 a3, .int .u16 a4, .int .u16 a5, .int .u16 a6, .int .u16 a7, .int .u16 0, .int .u16 0]
  | 9 => #[.int .u16 a0, .int .u16 a1, .int .u16 a2, .int .u16 a3, .int .u16 a4, .int .u16 a5, .int .u16 a6, .int .u16 a7, .int .u16 a8, .int .u16 0]
  | _ => #[.int .u16 a0, .int .u16 a1, .int .u16 a2, .int .u16 a3, .int .u16 a4, .int .u16 a5, .int .u16 a6, .int .u16 a7, .int .u16 a8, .int .u16 a9]
set_option maxHeartbeats 8000000 in
set_option maxRecDepth 100000 in
theorem laws_toUint16A10.calls (a0 a1 a2 a3 a4 a5 a6 a7 a8 a9 r1 r2 r3 r4 r5 r6 r7 r8 r9 r10 : Int) (w : World) (h : laws_toUint16A10.f a0 a1 a2 a3 a4 a5 a6 a7 a8 a9 = some (r1, r2, r3, r4, r5, r6, r7, r8, r9, r10)) :
    Calls Try.prog 36 #[.agg #[.int .u16 a0, .int .u16 a1, .int .u16 a2, .int .u16 a3, .int .u16 a4, .int .u16 a5, .int .u16 a6, .int .u16 a7, .int .u16 a8, .int .u16 a9]] w fun e w' => e = .returned (.agg #[.int .u16 r1, .int .u16 r2, .int .u16 r3, .int .u16 r4, .int .u16 r5, .int .u16 r6, .int .u16 r7, .int .u16 r8, .int .u16 r9, .int .u16 r10]) ∧ Below w.heap.size w w' := by
  have hu := Try.underlying23
  simp only [laws_toUint16A10.f, Option.some.injEq, Prod.mk.injEq] at h
  obtain ⟨rfl, rfl, rfl, rfl, rfl, rfl, rfl, rfl, rfl, rfl⟩ := h
  go_enter Try.func36, Try.ntmps36
  go_wp2_with fail
  go_loopw [4] (fun i wr => ∃ k : Nat, k ≤ 10 ∧ i = .int .i64 k ∧ Aside0 (wr.heap[w.heap.size]? = some (.cells #[.int .u16 a0, .int .u16 a1, .int .u16 a2, .int .u16 a3, .int .u16 a4, .int .u16 a5, .int .u16 a6, .int .u16 a7, .int .u16 a8, .int .u16 a9] 23 (0, 0))) ∧ Aside0 (wr.heap[w.heap.size + 1]? = some (.cells #[.int .u16 0, .int .u16 0, .int .u16 0, .int .u16 0, .int .u16 0, .int .u16 0, .int .u16 0, .int .u16 0, .int .u16 0, .int .u16 0] 23 (0, 0))) ∧ Aside0 (wr.heap[w.heap.size + 1 + 1]? = some (.cells (mixA a0 a1 a2 a3 a4 a5 a6 a7 a8 a9 k) 23 (0, 0))) ∧ Aside0 (Below w.heap.size w wr)) (fun i _ => 10 - (intOf i).toNat)
  case atStart =>
    refine ⟨0, by omega, rfl, ⟨?_⟩, ⟨?_⟩, ⟨?_⟩, ⟨?_⟩⟩
    · exact blk_alloc (blk_alloc (blk_new w _) _) _
    · have h := blk_alloc (blk_new (w.alloc (.cells #[.int .u16 a0, .int .u16 a1, .int .u16 a2, .int .u16 a3, .int .u16 a4, .int .u16 a5, .int .u16 a6, .int .u16 a7, .int .u16 a8, .int .u16 a9] 23)) (.cells #[.int .u16 0, .int .u16 0, .int .u16 0, .int .u16 0, .int .u16 0, .int .u16 0, .int .u16 0, .int .u16 0, .int .u16 0, .int .u16 0] 23)) (.cells #[.int .u16 0, .int .u16 0, .int .u16 0, .int .u16 0, .int .u16 0, .int .u16 0, .int .u16 0, .int .u16 0, .int .u16 0, .int .u16 0] 23)
      simp only [World.alloc, Array.size_push] at h ⊢
      exact h
    · have h := blk_new ((w.alloc (.cells #[.int .u16 a0, .int .u16 a1, .int .u16 a2, .int .u16 a3, .int .u16 a4, .int .u16 a5, .int .u16 a6, .int .u16 a7, .int .u16 a8, .int .u16 a9] 23)).alloc (.cells #[.int .u16 0, .int .u16 0, .int .u16 0, .int .u16 0, .int .u16 0, .int .u16 0, .int .u16 0, .int .u16 0, .int .u16 0, .int .u16 0] 23)) (.cells #[.int .u16 0, .int .u16 0, .int .u16 0, .int .u16 0, .int .u16 0, .int .u16 0, .int .u16 0, .int .u16 0, .int .u16 0, .int .u16 0] 23)
      simp only [World.alloc, Array.size_push, mixA] at h ⊢
      exact h
    · exact below_alloc (below_alloc (below_alloc (Below.refl _ _) _) _) _
  case round =>
    obtain ⟨k, hk, rfl, H1, H2, H3, H4⟩ := hrel
    rcases (show k = 0 ∨ k = 1 ∨ k = 2 ∨ k = 3 ∨ k = 4 ∨ k = 5 ∨ k = 6 ∨ k = 7 ∨ k = 8 ∨ k = 9 ∨ k = 10 by omega) with rfl | rfl | rfl | rfl | rfl | rfl | rfl | rfl | rfl | rfl | rfl
    all_goals simp only [mixA] at H3

    · have c1 := blk_cell H1.out 0
      have c3 := blk_cell H3.out 0
      have f3 := blk_frozen H3.out 0
      go_wp2
      go_roundw
      case rel => exact ⟨1, by omega, rfl, ⟨blk_far H1.out (by dsimp only; omega) _⟩, ⟨blk_far H2.out (by dsimp only; omega) _⟩, ⟨by simpa [mixA] using blk_set H3.out 0 (.int .u16 a0)⟩, ⟨H4.out.setCell (p := ⟨w.heap.size + 1 + 1, 0, none⟩) (by dsimp only; omega) _⟩⟩
      case measure => simp [intOf]
    · have c1 := blk_cell H1.out 1
      have c3 := blk_cell H3.out 1
      have f3 := blk_frozen H3.out 1
      go_wp2
      go_roundw
      case rel => exact ⟨2, by omega, rfl, ⟨blk_far H1.out (by dsimp only; omega) _⟩, ⟨blk_far H2.out (by dsimp only; omega) _⟩, ⟨by simpa [mixA] using blk_set H3.out 1 (.int .u16 a1)⟩, ⟨H4.out.setCell (p := ⟨w.heap.size + 1 + 1, 1, none⟩) (by dsimp only; omega) _⟩⟩
      case measure => simp [intOf]
    · have c1 := blk_cell H1.out 2
      have c3 := blk_cell H3.out 2
      have f3 := blk_frozen H3.out 2
      go_wp2
      go_roundw
      case rel => exact ⟨3, by omega, rfl, ⟨blk_far H1.out (by dsimp only; omega) _⟩, ⟨blk_far H2.out (by dsimp only; omega) _⟩, ⟨by simpa [mixA] using blk_set H3.out 2 (.int .u16 a2)⟩, ⟨H4.out.setCell (p := ⟨w.heap.size + 1 + 1, 2, none⟩) (by dsimp only; omega) _⟩⟩
      case measure => simp [intOf]
    · have c1 := blk_cell H1.out 3
      have c3 := blk_cell H3.out 3
      have f3 := blk_frozen H3.out 3
      go_wp2
      go_roundw
      case rel => exact ⟨4, by omega, rfl, ⟨blk_far H1.out (by dsimp only; omega) _⟩, ⟨blk_far H2.out (by dsimp only; omega) _⟩, ⟨by simpa [mixA] using blk_set H3.out 3 (.int .u16 a3)⟩, ⟨H4.out.setCell (p := ⟨w.heap.size + 1 + 1, 3, none⟩) (by dsimp only; omega) _⟩⟩
      case measure => simp [intOf]
    · have c1 := blk_cell H1.out 4
      have c3 := blk_cell H3.out 4
      have f3 := blk_frozen H3.out 4
      go_wp2
      go_roundw
      case rel => exact ⟨5, by omega, rfl, ⟨blk_far H1.out (by dsimp only; omega) _⟩, ⟨blk_far H2.out (by dsimp only; omega) _⟩, ⟨by simpa [mixA] using blk_set H3.out 4 (.int .u16 a4)⟩, ⟨H4.out.setCell (p := ⟨w.heap.size + 1 + 1, 4, none⟩) (by dsimp only; omega) _⟩⟩
      case measure => simp [intOf]
    · have c1 := blk_cell H1.out 5
      have c3 := blk_cell H3.out 5
      have f3 := blk_frozen H3.out 5
      go_wp2
      go_roundw
      case rel => exact ⟨6, by omega, rfl, ⟨blk_far H1.out (by dsimp only; omega) _⟩, ⟨blk_far H2.out (by dsimp only; omega) _⟩, ⟨by simpa [mixA] using blk_set H3.out 5 (.int .u16 a5)⟩, ⟨H4.out.setCell (p := ⟨w.heap.size + 1 + 1, 5, none⟩) (by dsimp only; omega) _⟩⟩
      case measure => simp [intOf]
    · have c1 := blk_cell H1.out 6
      have c3 := blk_cell H3.out 6
      have f3 := blk_frozen H3.out 6
      go_wp2
      go_roundw
      case rel => exact ⟨7, by omega, rfl, ⟨blk_far H1.out (by dsimp only; omega) _⟩, ⟨blk_far H2.out (by dsimp only; omega) _⟩, ⟨by simpa [mixA] using blk_set H3.out 6 (.int .u16 a6)⟩, ⟨H4.out.setCell (p := ⟨w.heap.size + 1 + 1, 6, none⟩) (by dsimp only; omega) _⟩⟩
      case measure => simp [intOf]
    · have c1 := blk_cell H1.out 7
      have c3 := blk_cell H3.out 7
      have f3 := blk_frozen H3.out 7
      go_wp2
      go_roundw
      case rel => exact ⟨8, by omega, rfl, ⟨blk_far H1.out (by dsimp only; omega) _⟩, ⟨blk_far H2.out (by dsimp only; omega) _⟩, ⟨by simpa [mixA] using blk_set H3.out 7 (.int .u16 a7)⟩, ⟨H4.out.setCell (p := ⟨w.heap.size + 1 + 1, 7, none⟩) (by dsimp only; omega) _⟩⟩
      case measure => simp [intOf]
    · have c1 := blk_cell H1.out 8
      have c3 := blk_cell H3.out 8
      have f3 := blk_frozen H3.out 8
      go_wp2
      go_roundw
      case rel => exact ⟨9, by omega, rfl, ⟨blk_far H1.out (by dsimp only; omega) _⟩, ⟨blk_far H2.out (by dsimp only; omega) _⟩, ⟨by simpa [mixA] using blk_set H3.out 8 (.int .u16 a8)⟩, ⟨H4.out.setCell (p := ⟨w.heap.size + 1 + 1, 8, none⟩) (by dsimp only; omega) _⟩⟩
      case measure => simp [intOf]
    · have c1 := blk_cell H1.out 9
      have c3 := blk_cell H3.out 9
      have f3 := blk_frozen H3.out 9
      go_wp2
      go_roundw
      case rel => exact ⟨10, by omega, rfl, ⟨blk_far H1.out (by dsimp only; omega) _⟩, ⟨blk_far H2.out (by dsimp only; omega) _⟩, ⟨by simpa [mixA] using blk_set H3.out 9 (.int .u16 a9)⟩, ⟨H4.out.setCell (p := ⟨w.heap.size + 1 + 1, 9, none⟩) (by dsimp only; omega) _⟩⟩
      case measure => simp [intOf]
    · have p0 := blk_cell H3.out 0
      have p1 := blk_cell H3.out 1
      have p2 := blk_cell H3.out 2
      have p3 := blk_cell H3.out 3
      have p4 := blk_cell H3.out 4
      have p5 := blk_cell H3.out 5
      have p6 := blk_cell H3.out 6
      have p7 := blk_cell H3.out 7
      have p8 := blk_cell H3.out 8
      have p9 := blk_cell H3.out 9
      have q0 := blk_cell H2.out 0
      have q1 := blk_cell H2.out 1
      have q2 := blk_cell H2.out 2
      have q3 := blk_cell H2.out 3
      have q4 := blk_cell H2.out 4
      have q5 := blk_cell H2.out 5
      have q6 := blk_cell H2.out 6
      have q7 := blk_cell H2.out 7
      have q8 := blk_cell H2.out 8
      have q9 := blk_cell H2.out 9
      have f0 := blk_frozen H2.out 0
      have f1 := blk_frozen H2.out 1
      have f2 := blk_frozen H2.out 2
      have f3 := blk_frozen H2.out 3
      have f4 := blk_frozen H2.out 4
      have f5 := blk_frozen H2.out 5
      have f6 := blk_frozen H2.out 6
      have f7 := blk_frozen H2.out 7
      have f8 := blk_frozen H2.out 8
      have f9 := blk_frozen H2.out 9
      go_wp2
      refine bodyPost_ret (results_cell_row rfl _ _ (w.heap.size + 1) 23 #[.int .u16 a0, .int .u16 a1, .int .u16 a2, .int .u16 a3, .int .u16 a4, .int .u16 a5, .int .u16 a6, .int .u16 a7, .int .u16 a8, .int .u16 a9] (0, 0) _ rfl (blk_put (cs := #[.int .u16 a0, .int .u16 a1, .int .u16 a2, .int .u16 a3, .int .u16 a4, .int .u16 a5, .int .u16 a6, .int .u16 a7, .int .u16 a8, .int .u16 0]) (blk_put (cs := #[.int .u16 a0, .int .u16 a1, .int .u16 a2, .int .u16 a3, .int .u16 a4, .int .u16 a5, .int .u16 a6, .int .u16 a7, .int .u16 0, .int .u16 0]) (blk_put (cs := #[.int .u16 a0, .int .u16 a1, .int .u16 a2, .int .u16 a3, .int .u16 a4, .int .u16 a5, .int .u16 a6, .int .u16 0, .int .u16 0, .int .u16 0]) (blk_put (cs := #[.int .u16 a0, .int .u16 a1, .int .u16 a2, .int .u16 a3, .int .u16 a4, .int .u16 a5, .int .u16 0, .int .u16 0, .int .u16 0, .int .u16 0]) (blk_put (cs := #[.int .u16 a0, .int .u16 a1, .int .u16 a2, .int .u16 a3, .int .u16 a4, .int .u16 0, .int .u16 0, .int .u16 0, .int .u16 0, .int .u16 0]) (blk_put (cs := #[.int .u16 a0, .int .u16 a1, .int .u16 a2, .int .u16 a3, .int .u16 0, .int .u16 0, .int .u16 0, .int .u16 0, .int .u16 0, .int .u16 0]) (blk_put (cs := #[.int .u16 a0, .int .u16 a1, .int .u16 a2, .int .u16 0, .int .u16 0, .int .u16 0, .int .u16 0, .int .u16 0, .int .u16 0, .int .u16 0]) (blk_put (cs := #[.int .u16 a0, .int .u16 a1, .int .u16 0, .int .u16 0, .int .u16 0, .int .u16 0, .int .u16 0, .int .u16 0, .int .u16 0, .int .u16 0]) (blk_put (cs := #[.int .u16 a0, .int .u16 0, .int .u16 0, .int .u16 0, .int .u16 0, .int .u16 0, .int .u16 0, .int .u16 0, .int .u16 0, .int .u16 0]) (blk_put (cs := #[.int .u16 0, .int .u16 0, .int .u16 0, .int .u16 0, .int .u16 0, .int .u16 0, .int .u16 0, .int .u16 0, .int .u16 0, .int .u16 0]) (H2.out) 0 _ rfl) 1 _ rfl) 2 _ rfl) 3 _ rfl) 4 _ rfl) 5 _ rfl) 6 _ rfl) 7 _ rfl) 8 _ rfl) 9 _ rfl) hu rfl (by kernel_rfl)) rfl ?_
      refine ⟨rfl, ?_⟩
      exact ((((((((((H4.out).setCell (p := ⟨w.heap.size + 1, 0, none⟩) (by dsimp only; omega) _).setCell (p := ⟨w.heap.size + 1, 1, none⟩) (by dsimp only; omega) _).setCell (p := ⟨w.heap.size + 1, 2, none⟩) (by dsimp only; omega) _).setCell (p := ⟨w.heap.size + 1, 3, none⟩) (by dsimp only; omega) _).setCell (p := ⟨w.heap.size + 1, 4, none⟩) (by dsimp only; omega) _).setCell (p := ⟨w.heap.size + 1, 5, none⟩) (by dsimp only; omega) _).setCell (p := ⟨w.heap.size + 1, 6, none⟩) (by dsimp only; omega) _).setCell (p := ⟨w.heap.size + 1, 7, none⟩) (by dsimp only; omega) _).setCell (p := ⟨w.heap.size + 1, 8, none⟩) (by dsimp only; omega) _).setCell (p := ⟨w.heap.size + 1, 9, none⟩) (by dsimp only; omega) _


end Go.Proofs.Ytdedijjbdkoekaa.PA
