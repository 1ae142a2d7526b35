/- Lean functions for Go functions, and proofs that Go comes to just their answers; written by a program of this session. -/
import Derived.Test.YtdedijjbdkoekaaPAx0
import Derived.Test.YtdedijjbdkoekaaPAx2
import Derived.Test.YtdedijjbdkoekaaPAx3
namespace Go.Proofs.Ytdedijjbdkoekaa.PA
open Go.RowKit Go.Proofs.YtdedijjbdkoekaaW.PrintWords Go.Proofs.YtdedijjbdkoekaaW.PrintLast Go.Proofs.YtdedijjbdkoekaaW.PrintMore
attribute [local go_sem] max2_int min2_int max_two min_two max_three min_three max_four min_four   -- for this text's walks alone
set_option linter.unusedVariables false
set_option linter.unusedSimpArgs false

/-! ### ext laws_toUint16A10: function 36 -/

def laws_toUint16A10.f (a0 a1 a2 a3 a4 a5 a6 a7 a8 a9 : Int) : Option (Int × Int × Int × Int × Int × Int × Int × Int × Int × Int) := some (a0, a1, a2, a3, a4, a5, a6, a7, a8, a9)
def mixA (a0 a1 a2 a3 a4 a5 a6 a7 a8 a9 : Int) : Nat → Array Value
  | 0 => #[.int .u16 0, .int .u16 0, .int .u16 0, .int .u16 0, .int .u16 0, .int .u16 0, .int .u16 0, .int .u16 0, .int .u16 0, .int .u16 0]
  | 1 => #[.int .u16 a0, .int .u16 0, .int .u16 0, .int .u16 0, .int .u16 0, .int .u16 0, .int .u16 0, .int .u16 0, .int .u16 0, .int .u16 0]
  | 2 => #[.int .u16 a0, .int .u16 a1, .int .u16 0, .int .u16 0, .int .u16 0, .int .u16 0, .int .u16 0, .int .u16 0, .int .u16 0, .int .u16 0]
  | 3 => #[.int .u16 a0, .int .u16 a1, .int .u16 a2, .int .u16 0, .int .u16 0, .int .u16 0, .int .u16 0, .int .u16 0, .int .u16 0, .int .u16 0]
  | 4 => #[.int .u16 a0, .int .u16 a1, .int .u16 a2, .int .u16 a3, .int .u16 0, .int .u16 0, .int .u16 0, .int .u16 0, .int .u16 0, .int .u16 0]
  | 5 => #[.int .u16 a0, .int .u16 a1, .int .u16 a2, .int .u16 a3, .int .u16 a4, .int .u16 0, .int .u16 0, .int .u16 0, .int .u16 0, .int .u16 0]
  | 6 => #[.int .u16 a0, .int .u16 a1, .int .u16 a2, .int .u16 a3, .int .u16 a4, .int .u16 a5, .int .u16 0, .int .u16 0, .int .u16 0, .int .u16 0]
  | 7 => #[.int .u16 a0, .int .u16 a1, .int .u16 a2, .int .u16 a3, .int .u16 a4, .int .u16 a5, .int .u16 a6, .int .u16 0, .int .u16 0, .int .u16 0]
  | 8 => #[.int .u16 a0, .int .u16 a1, .int .u16 a2, .int .u16 a3, .int .u16 a4, .int .u16 a5, .int .u16 a6, .int .u16 a7, .int .u16 0, .int .u16 0]
  | 9 => #[.int .u16 a0, .int .u16 a1, .int .u16 a2, .int .u16 a3, .int .u16 a4, .int .u16 a5, .int .u16 a6, .int .u16 a7, .int .u16 a8, .int .u16 0]
  | _ => #[.int .u16 a0, .int .u16 a1, .int .u16 a2, .int .u16 a3, .int .u16 a4, .int .u16 a5, .int .u16 a6, .int .u16 a7, .int .u16 a8, .int .u16 a9]
set_option maxHeartbeats 8000000 in
set_option maxRecDepth 100000 in
theorem laws_toUint16A10.calls (a0 a1 a2 a3 a4 a5 a6 a7 a8 a9 r1 r2 r3 r4 r5 r6 r7 r8 r9 r10 : Int) (w : World) (h : laws_toUint16A10.f a0 a1 a2 a3 a4 a5 a6 a7 a8 a9 = some (r1, r2, r3, r4, r5, r6, r7, r8, r9, r10)) :
    Calls Try.prog 36 #[.agg #[.int .u16 a0, .int .u16 a1, .int .u16 a2, .int .u16 a3, .int .u16 a4, .int .u16 a5, .int .u16 a6, .int .u16 a7, .int .u16 a8, .int .u16 a9]] w fun e w' => e = .returned (.agg #[.int .u16 r1, .int .u16 r2, .int .u16 r3, .int .u16 r4, .int .u16 r5, .int .u16 r6, .int .u16 r7, .int .u16 r8, .int .u16 r9, .int .u16 r10]) ∧ Below w.heap.size w w' := by
  have hu := Try.underlying23
  simp only [laws_toUint16A10.f, Option.some.injEq, Prod.mk.injEq] at h
  obtain ⟨rfl, rfl, rfl, rfl, rfl, rfl, rfl, rfl, rfl, rfl⟩ := h
  go_enter Try.func36, Try.ntmps36
  go_wp2_with fail
  go_loopw [4] (fun i wr => ∃ k : Nat, k ≤ 10 ∧ i = .int .i64 k ∧ Aside0 (wr.heap[w.heap.size]? = some (.cells #[.int .u16 a0, .int .u16 a1, .int .u16 a2, .int .u16 a3, .int .u16 a4, .int .u16 a5, .int .u16 a6, .int .u16 a7, .int .u16 a8, .int .u16 a9] 23 (0, 0))) ∧ Aside0 (wr.heap[w.heap.size + 1]? = some (.cells #[.int .u16 0, .int .u16 0, .int .u16 0, .int .u16 0, .int .u16 0, .int .u16 0, .int .u16 0, .int .u16 0, .int .u16 0, .int .u16 0] 23 (0, 0))) ∧ Aside0 (wr.heap[w.heap.size + 1 + 1]? = some (.cells (mixA a0 a1 a2 a3 a4 a5 a6 a7 a8 a9 k) 23 (0, 0))) ∧ Aside0 (Below w.heap.size w wr)) (fun i _ => 10 - (intOf i).toNat)
  case atStart =>
    refine ⟨0, by omega, rfl, ⟨?_⟩, ⟨?_⟩, ⟨?_⟩, ⟨?_⟩⟩
    · exact blk_alloc (blk_alloc (blk_new w _) _) _
    · have h := blk_alloc (blk_new (w.alloc (.cells #[.int .u16 a0, .int .u16 a1, .int .u16 a2, .int .u16 a3, .int .u16 a4, .int .u16 a5, .int .u16 a6, .int .u16 a7, .int .u16 a8, .int .u16 a9] 23)) (.cells #[.int .u16 0, .int .u16 0, .int .u16 0, .int .u16 0, .int .u16 0, .int .u16 0, .int .u16 0, .int .u16 0, .int .u16 0, .int .u16 0] 23)) (.cells #[.int .u16 0, .int .u16 0, .int .u16 0, .int .u16 0, .int .u16 0, .int .u16 0, .int .u16 0, .int .u16 0, .int .u16 0, .int .u16 0] 23)
      simp only [World.alloc, Array.size_push] at h ⊢
      exact h
    · have h := blk_new ((w.alloc (.cells #[.int .u16 a0, .int .u16 a1, .int .u16 a2, .int .u16 a3, .int .u16 a4, .int .u16 a5, .int .u16 a6, .int .u16 a7, .int .u16 a8, .int .u16 a9] 23)).alloc (.cells #[.int .u16 0, .int .u16 0, .int .u16 0, .int .u16 0, .int .u16 0, .int .u16 0, .int .u16 0, .int .u16 0, .int .u16 0, .int .u16 0] 23)) (.cells #[.int .u16 0, .int .u16 0, .int .u16 0, .int .u16 0, .int .u16 0, .int .u16 0, .int .u16 0, .int .u16 0, .int .u16 0, .int .u16 0] 23)
      simp only [World.alloc, Array.size_push, mixA] at h ⊢
      exact h
    · exact below_alloc (below_alloc (below_alloc (Below.refl _ _) _) _) _
  case round =>
    obtain ⟨k, hk, rfl, H1, H2, H3, H4⟩ := hrel
    rcases (show k = 0 ∨ k = 1 ∨ k = 2 ∨ k = 3 ∨ k = 4 ∨ k = 5 ∨ k = 6 ∨ k = 7 ∨ k = 8 ∨ k = 9 ∨ k = 10 by omega) with rfl | rfl | rfl | rfl | rfl | rfl | rfl | rfl | rfl | rfl | rfl
    all_goals simp only [mixA] at H3

    · have c1 := blk_cell H1.out 0
      have c3 := blk_cell H3.out 0
      have f3 := blk_frozen H3.out 0
      go_wp2
      go_roundw
      case rel => exact ⟨1, by omega, rfl, ⟨blk_far H1.out (by dsimp only; omega) _⟩, ⟨blk_far H2.out (by dsimp only; omega) _⟩, ⟨by simpa [mixA] using blk_set H3.out 0 (.int .u16 a0)⟩, ⟨H4.out.setCell (p := ⟨w.heap.size + 1 + 1, 0, none⟩) (by dsimp only; omega) _⟩⟩
      case measure => simp [intOf]
    · have c1 := blk_cell H1.out 1
      have c3 := blk_cell H3.out 1
      have f3 := blk_frozen H3.out 1
      go_wp2
      go_roundw
      case rel => exact ⟨2, by omega, rfl, ⟨blk_far H1.out (by dsimp only; omega) _⟩, ⟨blk_far H2.out (by dsimp only; omega) _⟩, ⟨by simpa [mixA] using blk_set H3.out 1 (.int .u16 a1)⟩, ⟨H4.out.setCell (p := ⟨w.heap.size + 1 + 1, 1, none⟩) (by dsimp only; omega) _⟩⟩
      case measure => simp [intOf]
    · have c1 := blk_cell H1.out 2
      have c3 := blk_cell H3.out 2
      have f3 := blk_frozen H3.out 2
      go_wp2
      go_roundw
      case rel => exact ⟨3, by omega, rfl, ⟨blk_far H1.out (by dsimp only; omega) _⟩, ⟨blk_far H2.out (by dsimp only; omega) _⟩, ⟨by simpa [mixA] using blk_set H3.out 2 (.int .u16 a2)⟩, ⟨H4.out.setCell (p := ⟨w.heap.size + 1 + 1, 2, none⟩) (by dsimp only; omega) _⟩⟩
      case measure => simp [intOf]
    · have c1 := blk_cell H1.out 3
      have c3 := blk_cell H3.out 3
      have f3 := blk_frozen H3.out 3
      go_wp2
      go_roundw
      case rel => exact ⟨4, by omega, rfl, ⟨blk_far H1.out (by dsimp only; omega) _⟩, ⟨blk_far H2.out (by dsimp only; omega) _⟩, ⟨by simpa [mixA] using blk_set H3.out 3 (.int .u16 a3)⟩, ⟨H4.out.setCell (p := ⟨w.heap.size + 1 + 1, 3, none⟩) (by dsimp only; omega) _⟩⟩
      case measure => simp [intOf]
    · have c1 := blk_cell H1.out 4
      have c3 := blk_cell H3.out 4
      have f3 := blk_frozen H3.out 4
      go_wp2
      go_roundw
      case rel => exact ⟨5, by omega, rfl, ⟨blk_far H1.out (by dsimp only; omega) _⟩, ⟨blk_far H2.out (by dsimp only; omega) _⟩, ⟨by simpa [mixA] using blk_set H3.out 4 (.int .u16 a4)⟩, ⟨H4.out.setCell (p := ⟨w.heap.size + 1 + 1, 4, none⟩) (by dsimp only; omega) _⟩⟩
      case measure => simp [intOf]
    · have c1 := blk_cell H1.out 5
      have c3 := blk_cell H3.out 5
      have f3 := blk_frozen H3.out 5
      go_wp2
      go_roundw
      case rel => exact ⟨6, by omega, rfl, ⟨blk_far H1.out (by dsimp only; omega) _⟩, ⟨blk_far H2.out (by dsimp only; omega) _⟩, ⟨by simpa [mixA] using blk_set H3.out 5 (.int .u16 a5)⟩, ⟨H4.out.setCell (p := ⟨w.heap.size + 1 + 1, 5, none⟩) (by dsimp only; omega) _⟩⟩
      case measure => simp [intOf]
    · have c1 := blk_cell H1.out 6
      have c3 := blk_cell H3.out 6
      have f3 := blk_frozen H3.out 6
      go_wp2
      go_roundw
      case rel => exact ⟨7, by omega, rfl, ⟨blk_far H1.out (by dsimp only; omega) _⟩, ⟨blk_far H2.out (by dsimp only; omega) _⟩, ⟨by simpa [mixA] using blk_set H3.out 6 (.int .u16 a6)⟩, ⟨H4.out.setCell (p := ⟨w.heap.size + 1 + 1, 6, none⟩) (by dsimp only; omega) _⟩⟩
      case measure => simp [intOf]
    · have c1 := blk_cell H1.out 7
      have c3 := blk_cell H3.out 7
      have f3 := blk_frozen H3.out 7
      go_wp2
      go_roundw
      case rel => exact ⟨8, by omega, rfl, ⟨blk_far H1.out (by dsimp only; omega) _⟩, ⟨blk_far H2.out (by dsimp only; omega) _⟩, ⟨by simpa [mixA] using blk_set H3.out 7 (.int .u16 a7)⟩, ⟨H4.out.setCell (p := ⟨w.heap.size + 1 + 1, 7, none⟩) (by dsimp only; omega) _⟩⟩
      case measure => simp [intOf]
    · have c1 := blk_cell H1.out 8
      have c3 := blk_cell H3.out 8
      have f3 := blk_frozen H3.out 8
      go_wp2
      go_roundw
      case rel => exact ⟨9, by omega, rfl, ⟨blk_far H1.out (by dsimp only; omega) _⟩, ⟨blk_far H2.out (by dsimp only; omega) _⟩, ⟨by simpa [mixA] using blk_set H3.out 8 (.int .u16 a8)⟩, ⟨H4.out.setCell (p := ⟨w.heap.size + 1 + 1, 8, none⟩) (by dsimp only; omega) _⟩⟩
      case measure => simp [intOf]
    · have c1 := blk_cell H1.out 9
      have c3 := blk_cell H3.out 9
      have f3 := blk_frozen H3.out 9
      go_wp2
      go_roundw
      case rel => exact ⟨10, by omega, rfl, ⟨blk_far H1.out (by dsimp only; omega) _⟩, ⟨blk_far H2.out (by dsimp only; omega) _⟩, ⟨by simpa [mixA] using blk_set H3.out 9 (.int .u16 a9)⟩, ⟨H4.out.setCell (p := ⟨w.heap.size + 1 + 1, 9, none⟩) (by dsimp only; omega) _⟩⟩
      case measure => simp [intOf]
    · have p0 := blk_cell H3.out 0
      have p1 := blk_cell H3.out 1
      have p2 := blk_cell H3.out 2
      have p3 := blk_cell H3.out 3
      have p4 := blk_cell H3.out 4
      have p5 := blk_cell H3.out 5
      have p6 := blk_cell H3.out 6
      have p7 := blk_cell H3.out 7
      have p8 := blk_cell H3.out 8
      have p9 := blk_cell H3.out 9
      have q0 := blk_cell H2.out 0
      have q1 := blk_cell H2.out 1
      have q2 := blk_cell H2.out 2
      have q3 := blk_cell H2.out 3
      have q4 := blk_cell H2.out 4
      have q5 := blk_cell H2.out 5
      have q6 := blk_cell H2.out 6
      have q7 := blk_cell H2.out 7
      have q8 := blk_cell H2.out 8
      have q9 := blk_cell H2.out 9
      have f0 := blk_frozen H2.out 0
      have f1 := blk_frozen H2.out 1
      have f2 := blk_frozen H2.out 2
      have f3 := blk_frozen H2.out 3
      have f4 := blk_frozen H2.out 4
      have f5 := blk_frozen H2.out 5
      have f6 := blk_frozen H2.out 6
      have f7 := blk_frozen H2.out 7
      have f8 := blk_frozen H2.out 8
      have f9 := blk_frozen H2.out 9
      go_wp2
      refine bodyPost_ret (results_cell_row rfl _ _ (w.heap.size + 1) 23 #[.int .u16 a0, .int .u16 a1, .int .u16 a2, .int .u16 a3, .int .u16 a4, .int .u16 a5, .int .u16 a6, .int .u16 a7, .int .u16 a8, .int .u16 a9] (0, 0) _ rfl (blk_put (cs := #[.int .u16 a0, .int .u16 a1, .int .u16 a2, .int .u16 a3, .int .u16 a4, .int .u16 a5, .int .u16 a6, .int .u16 a7, .int .u16 a8, .int .u16 0]) (blk_put (cs := #[.int .u16 a0, .int .u16 a1, .int .u16 a2, .int .u16 a3, .int .u16 a4, .int .u16 a5, .int .u16 a6, .int .u16 a7, .int .u16 0, .int .u16 0]) (blk_put (cs := #[.int .u16 a0, .int .u16 a1, .int .u16 a2, .int .u16 a3, .int .u16 a4, .int .u16 a5, .int .u16 a6, .int .u16 0, .int .u16 0, .int .u16 0]) (blk_put (cs := #[.int .u16 a0, .int .u16 a1, .int .u16 a2, .int .u16 a3, .int .u16 a4, .int .u16 a5, .int .u16 0, .int .u16 0, .int .u16 0, .int .u16 0]) (blk_put (cs := #[.int .u16 a0, .int .u16 a1, .int .u16 a2, .int .u16 a3, .int .u16 a4, .int .u16 0, .int .u16 0, .int .u16 0, .int .u16 0, .int .u16 0]) (blk_put (cs := #[.int .u16 a0, .int .u16 a1, .int .u16 a2, .int .u16 a3, .int .u16 0, .int .u16 0, .int .u16 0, .int .u16 0, .int .u16 0, .int .u16 0]) (blk_put (cs := #[.int .u16 a0, .int .u16 a1, .int .u16 a2, .int .u16 0, .int .u16 0, .int .u16 0, .int .u16 0, .int .u16 0, .int .u16 0, .int .u16 0]) (blk_put (cs := #[.int .u16 a0, .int .u16 a1, .int .u16 0, .int .u16 0, .int .u16 0, .int .u16 0, .int .u16 0, .int .u16 0, .int .u16 0, .int .u16 0]) (blk_put (cs := #[.int .u16 a0, .int .u16 0, .int .u16 0, .int .u16 0, .int .u16 0, .int .u16 0, .int .u16 0, .int .u16 0, .int .u16 0, .int .u16 0]) (blk_put (cs := #[.int .u16 0, .int .u16 0, .int .u16 0, .int .u16 0, .int .u16 0, .int .u16 0, .int .u16 0, .int .u16 0, .int .u16 0, .int .u16 0]) (H2.out) 0 _ rfl) 1 _ rfl) 2 _ rfl) 3 _ rfl) 4 _ rfl) 5 _ rfl) 6 _ rfl) 7 _ rfl) 8 _ rfl) 9 _ rfl) hu rfl (by kernel_rfl)) rfl ?_
      refine ⟨rfl, ?_⟩
      exact ((((((((((H4.out).setCell (p := ⟨w.heap.size + 1, 0, none⟩) (by dsimp only; omega) _).setCell (p := ⟨w.heap.size + 1, 1, none⟩) (by dsimp only; omega) _).setCell (p := ⟨w.heap.size + 1, 2, none⟩) (by dsimp only; omega) _).setCell (p := ⟨w.heap.size + 1, 3, none⟩) (by dsimp only; omega) _).setCell (p := ⟨w.heap.size + 1, 4, none⟩) (by dsimp only; omega) _).setCell (p := ⟨w.heap.size + 1, 5, none⟩) (by dsimp only; omega) _).setCell (p := ⟨w.heap.size + 1, 6, none⟩) (by dsimp only; omega) _).setCell (p := ⟨w.heap.size + 1, 7, none⟩) (by dsimp only; omega) _).setCell (p := ⟨w.heap.size + 1, 8, none⟩) (by dsimp only; omega) _).setCell (p := ⟨w.heap.size + 1, 9, none⟩) (by dsimp only; omega) _


/-! ### ext laws_toCrowd: function 12 -/

def laws_toCrowd.f (a0 a1 a2 a3 a4 a5 a6 a7 a8 a9 a10 a11 a12 a13 a14 a15 a16 a17 a18 a19 a20 a21 a22 a23 a24 a25 a26 a27 a28 a29 a30 a31 a32 a33 a34 a35 a36 a37 a38 a39 : Int) : Option (Int × Int × Int × Int × Int × Int × Int × Int × Int × Int × Int × Int × Int × Int × Int × Int × Int × Int × Int × Int × Int × Int × Int × Int × Int × Int × Int × Int × Int × Int × Int × Int × Int × Int × Int × Int × Int × Int × Int × Int) := some (a0, a1, a2, a3, a4, a5, a6, a7, a8, a9, a10, a11, a12, a13, a14, a15, a16, a17, a18, a19, a20, a21, a22, a23, a24, a25, a26, a27, a28, a29, a30, a31, a32, a33, a34, a35, a36, a37, a38, a39)
def mixC (a0 a1 a2 a3 a4 a5 a6 a7 a8 a9 a10 a11 a12 a13 a14 a15 a16 a17 a18 a19 a20 a21 a22 a23 a24 a25 a26 a27 a28 a29 a30 a31 a32 a33 a34 a35 a36 a37 a38 a39 : Int) : Nat → Array Value
  | 0 => #[.int .u16 0, .int .u16 0, .int .u16 0, .int .u16 0, .int .u16 0, .int .u16 0, .int .u16 0, .int .u16 0, .int .u16 0, .int .u16 0, .int .u16 0, .int .u16 0, .int .u16 0, .int .u16 0, .int .u16 0, .int .u16 0, .int .u16 0, .int .u16 0, .int .u16 0, .int .u16 0, .int .u16 0, .int .u16 0, .int .u16 0, .int .u16 0, .int .u16 0, .int .u16 0, .int .u16 0, .int .u16 0, .int .u16 0, .int .u16 0, .int .u16 0, .int .u16 0, .int .u16 0, .int .u16 0, .int .u16 0, .int .u16 0, .int .u16 0, .int .u16 0, .int .u16 0, .int .u16 0]
  | 1 => #[.int .u16 a0, .int .u16 a1, .int .u16 a2, .int .u16 a3, .int .u16 a4, .int .u16 a5, .int .u16 a6, .int .u16 a7, .int .u16 a8, .int .u16 a9, .int .u16 0, .int .u16 0, .int .u16 0, .int .u16 0, .int .u16 0, .int .u16 0, .int .u16 0, .int .u16 0, .int .u16 0, .int .u16 0, .int .u16 0, .int .u16 0, .int .u16 0, .int .u16 0, .int .u16 0, .int .u16 0, .int .u16 0, .int .u16 0, .int .u16 0, .int .u16 0, .int .u16 0, .int .u16 0, .int .u16 0, .int .u16 0, .int .u16 0, .int .u16 0, .int .u16 0, .int .u16 0, .int .u16 0, .int .u16 0]
  | 2 => #[.int .u16 a0, .int .u16 a1, .int .u16 a2, .int .u16 a3, .int .u16 a4, .int .u16 a5, .int .u16 a6, .int .u16 a7, .int .u16 a8, .int .u16 a9, .int .u16 a10, .int .u16 a11, .int .u16 a12, .int .u16 a13, .int .u16 a14, .int .u16 a15, .int .u16 a16, .int .u16 a17, .int .u16 a18, .int .u16 a19, .int .u16 0, .int .u16 0, .int .u16 0, .int .u16 0, .int .u16 0, .int .u16 0, .int .u16 0, .int .u16 0, .int .u16 0, .int .u16 0, .int .u16 0, .int .u16 0, .int .u16 0, .int .u16 0, .int .u16 0, .int .u16 0, .int .u16 0, .int .u16 0, .int .u16 0, .int .u16 0]
  | 3 => #[.int .u16 a0, .int .u16 a1, .int .u16 a2, .int .u16 a3, .int .u16 a4, .int .u16 a5, .int .u16 a6, .int .u16 a7, .int .u16 a8, .int .u16 a9, .int .u16 a10, .int .u16 a11, .int .u16 a12, .int .u16 a13, .int .u16 a14, .int .u16 a15, .int .u16 a16, .int .u16 a17, .int .u16 a18, .int .u16 a19, .int .u16 a20, .int .u16 a21, .int .u16 a22, .int .u16 a23, .int .u16 a24, .int .u16 a25, .int .u16 a26, .int .u16 a27, .int .u16 a28, .int .u16 a29, .int .u16 0, .int .u16 0, .int .u16 0, .int .u16 0, .int .u16 0, .int .u16 0, .int .u16 0, .int .u16 0, .int .u16 0, .int .u16 0]
  | _ => #[.int .u16 a0, .int .u16 a1, .int .u16 a2, .int .u16 a3, .int .u16 a4, .int .u16 a5, .int .u16 a6, .int .u16 a7, .int .u16 a8, .int .u16 a9, .int .u16 a10, .int .u16 a11, .int .u16 a12, .int .u16 a13, .int .u16 a14, .int .u16 a15, .int .u16 a16, .int .u16 a17, .int .u16 a18, .int .u16 a19, .int .u16 a20, .int .u16 a21, .int .u16 a22, .int .u16 a23, .int .u16 a24, .int .u16 a25, .int .u16 a26, .int .u16 a27, .int .u16 a28, .int .u16 a29, .int .u16 a30, .int .u16 a31, .int .u16 a32, .int .u16 a33, .int .u16 a34, .int .u16 a35, .int .u16 a36, .int .u16 a37, .int .u16 a38, .int .u16 a39]
set_option maxHeartbeats 8000000 in
set_option maxRecDepth 100000 in
theorem laws_toCrowd.calls (a0 a1 a2 a3 a4 a5 a6 a7 a8 a9 a10 a11 a12 a13 a14 a15 a16 a17 a18 a19 a20 a21 a22 a23 a24 a25 a26 a27 a28 a29 a30 a31 a32 a33 a34 a35 a36 a37 a38 a39 r1 r2 r3 r4 r5 r6 r7 r8 r9 r10 r11 r12 r13 r14 r15 r16 r17 r18 r19 r20 r21 r22 r23 r24 r25 r26 r27 r28 r29 r30 r31 r32 r33 r34 r35 r36 r37 r38 r39 r40 : Int) (w : World) (h : laws_toCrowd.f a0 a1 a2 a3 a4 a5 a6 a7 a8 a9 a10 a11 a12 a13 a14 a15 a16 a17 a18 a19 a20 a21 a22 a23 a24 a25 a26 a27 a28 a29 a30 a31 a32 a33 a34 a35 a36 a37 a38 a39 = some (r1, r2, r3, r4, r5, r6, r7, r8, r9, r10, r11, r12, r13, r14, r15, r16, r17, r18, r19, r20, r21, r22, r23, r24, r25, r26, r27, r28, r29, r30, r31, r32, r33, r34, r35, r36, r37, r38, r39, r40)) :
    Calls Try.prog 12 #[.agg #[.int .u16 a0, .int .u16 a1, .int .u16 a2, .int .u16 a3, .int .u16 a4, .int .u16 a5, .int .u16 a6, .int .u16 a7, .int .u16 a8, .int .u16 a9, .int .u16 a10, .int .u16 a11, .int .u16 a12, .int .u16 a13, .int .u16 a14, .int .u16 a15, .int .u16 a16, .int .u16 a17, .int .u16 a18, .int .u16 a19, .int .u16 a20, .int .u16 a21, .int .u16 a22, .int .u16 a23, .int .u16 a24, .int .u16 a25, .int .u16 a26, .int .u16 a27, .int .u16 a28, .int .u16 a29, .int .u16 a30, .int .u16 a31, .int .u16 a32, .int .u16 a33, .int .u16 a34, .int .u16 a35, .int .u16 a36, .int .u16 a37, .int .u16 a38, .int .u16 a39]] w fun e w' => e = .returned (.agg #[.int .u16 r1, .int .u16 r2, .int .u16 r3, .int .u16 r4, .int .u16 r5, .int .u16 r6, .int .u16 r7, .int .u16 r8, .int .u16 r9, .int .u16 r10, .int .u16 r11, .int .u16 r12, .int .u16 r13, .int .u16 r14, .int .u16 r15, .int .u16 r16, .int .u16 r17, .int .u16 r18, .int .u16 r19, .int .u16 r20, .int .u16 r21, .int .u16 r22, .int .u16 r23, .int .u16 r24, .int .u16 r25, .int .u16 r26, .int .u16 r27, .int .u16 r28, .int .u16 r29, .int .u16 r30, .int .u16 r31, .int .u16 r32, .int .u16 r33, .int .u16 r34, .int .u16 r35, .int .u16 r36, .int .u16 r37, .int .u16 r38, .int .u16 r39, .int .u16 r40]) ∧ Below w.heap.size w w' := by
  simp only [laws_toCrowd.f, Option.some.injEq, Prod.mk.injEq] at h
  obtain ⟨rfl, rfl, rfl, rfl, rfl, rfl, rfl, rfl, rfl, rfl, rfl, rfl, rfl, rfl, rfl, rfl, rfl, rfl, rfl, rfl, rfl, rfl, rfl, rfl, rfl, rfl, rfl, rfl, rfl, rfl, rfl, rfl, rfl, rfl, rfl, rfl, rfl, rfl, rfl, rfl⟩ := h
  go_enter Try.func12, Try.ntmps12
  go_wp2_with fail
  go_loopw [4] (fun i wr => ∃ k : Nat, k ≤ 4 ∧ i = .int .i64 k ∧ Aside0 (wr.heap[w.heap.size]? = some (.cells #[.int .u16 a0, .int .u16 a1, .int .u16 a2, .int .u16 a3, .int .u16 a4, .int .u16 a5, .int .u16 a6, .int .u16 a7, .int .u16 a8, .int .u16 a9, .int .u16 a10, .int .u16 a11, .int .u16 a12, .int .u16 a13, .int .u16 a14, .int .u16 a15, .int .u16 a16, .int .u16 a17, .int .u16 a18, .int .u16 a19, .int .u16 a20, .int .u16 a21, .int .u16 a22, .int .u16 a23, .int .u16 a24, .int .u16 a25, .int .u16 a26, .int .u16 a27, .int .u16 a28, .int .u16 a29, .int .u16 a30, .int .u16 a31, .int .u16 a32, .int .u16 a33, .int .u16 a34, .int .u16 a35, .int .u16 a36, .int .u16 a37, .int .u16 a38, .int .u16 a39] 24 (0, 0))) ∧ Aside0 (wr.heap[w.heap.size + 1]? = some (.cells #[.int .u16 0, .int .u16 0, .int .u16 0, .int .u16 0, .int .u16 0, .int .u16 0, .int .u16 0, .int .u16 0, .int .u16 0, .int .u16 0, .int .u16 0, .int .u16 0, .int .u16 0, .int .u16 0, .int .u16 0, .int .u16 0, .int .u16 0, .int .u16 0, .int .u16 0, .int .u16 0, .int .u16 0, .int .u16 0, .int .u16 0, .int .u16 0, .int .u16 0, .int .u16 0, .int .u16 0, .int .u16 0, .int .u16 0, .int .u16 0, .int .u16 0, .int .u16 0, .int .u16 0, .int .u16 0, .int .u16 0, .int .u16 0, .int .u16 0, .int .u16 0, .int .u16 0, .int .u16 0] 26 (0, 0))) ∧ Aside0 (wr.heap[w.heap.size + 1 + 1]? = some (.cells (mixC a0 a1 a2 a3 a4 a5 a6 a7 a8 a9 a10 a11 a12 a13 a14 a15 a16 a17 a18 a19 a20 a21 a22 a23 a24 a25 a26 a27 a28 a29 a30 a31 a32 a33 a34 a35 a36 a37 a38 a39 k) 26 (0, 0))) ∧ Aside0 (Below w.heap.size w wr)) (fun i _ => 4 - (intOf i).toNat)
  case atStart =>
    refine ⟨0, by omega, rfl, ⟨?_⟩, ⟨?_⟩, ⟨?_⟩, ⟨?_⟩⟩
    · exact blk_alloc (blk_alloc (blk_new w _) _) _
    · have h := blk_alloc (blk_new (w.alloc (.cells #[.int .u16 a0, .int .u16 a1, .int .u16 a2, .int .u16 a3, .int .u16 a4, .int .u16 a5, .int .u16 a6, .int .u16 a7, .int .u16 a8, .int .u16 a9, .int .u16 a10, .int .u16 a11, .int .u16 a12, .int .u16 a13, .int .u16 a14, .int .u16 a15, .int .u16 a16, .int .u16 a17, .int .u16 a18, .int .u16 a19, .int .u16 a20, .int .u16 a21, .int .u16 a22, .int .u16 a23, .int .u16 a24, .int .u16 a25, .int .u16 a26, .int .u16 a27, .int .u16 a28, .int .u16 a29, .int .u16 a30, .int .u16 a31, .int .u16 a32, .int .u16 a33, .int .u16 a34, .int .u16 a35, .int .u16 a36, .int .u16 a37, .int .u16 a38, .int .u16 a39] 24)) (.cells #[.int .u16 0, .int .u16 0, .int .u16 0, .int .u16 0, .int .u16 0, .int .u16 0, .int .u16 0, .int .u16 0, .int .u16 0, .int .u16 0, .int .u16 0, .int .u16 0, .int .u16 0, .int .u16 0, .int .u16 0, .int .u16 0, .int .u16 0, .int .u16 0, .int .u16 0, .int .u16 0, .int .u16 0, .int .u16 0, .int .u16 0, .int .u16 0, .int .u16 0, .int .u16 0, .int .u16 0, .int .u16 0, .int .u16 0, .int .u16 0, .int .u16 0, .int .u16 0, .int .u16 0, .int .u16 0, .int .u16 0, .int .u16 0, .int .u16 0, .int .u16 0, .int .u16 0, .int .u16 0] 26)) (.cells #[.int .u16 0, .int .u16 0, .int .u16 0, .int .u16 0, .int .u16 0, .int .u16 0, .int .u16 0, .int .u16 0, .int .u16 0, .int .u16 0, .int .u16 0, .int .u16 0, .int .u16 0, .int .u16 0, .int .u16 0, .int .u16 0, .int .u16 0, .int .u16 0, .int .u16 0, .int .u16 0, .int .u16 0, .int .u16 0, .int .u16 0, .int .u16 0, .int .u16 0, .int .u16 0, .int .u16 0, .int .u16 0, .int .u16 0, .int .u16 0, .int .u16 0, .int .u16 0, .int .u16 0, .int .u16 0, .int .u16 0, .int .u16 0, .int .u16 0, .int .u16 0, .int .u16 0, .int .u16 0] 26)
      simp only [World.alloc, Array.size_push] at h ⊢
      exact h
    · have h := blk_new ((w.alloc (.cells #[.int .u16 a0, .int .u16 a1, .int .u16 a2, .int .u16 a3, .int .u16 a4, .int .u16 a5, .int .u16 a6, .int .u16 a7, .int .u16 a8, .int .u16 a9, .int .u16 a10, .int .u16 a11, .int .u16 a12, .int .u16 a13, .int .u16 a14, .int .u16 a15, .int .u16 a16, .int .u16 a17, .int .u16 a18, .int .u16 a19, .int .u16 a20, .int .u16 a21, .int .u16 a22, .int .u16 a23, .int .u16 a24, .int .u16 a25, .int .u16 a26, .int .u16 a27, .int .u16 a28, .int .u16 a29, .int .u16 a30, .int .u16 a31, .int .u16 a32, .int .u16 a33, .int .u16 a34, .int .u16 a35, .int .u16 a36, .int .u16 a37, .int .u16 a38, .int .u16 a39] 24)).alloc (.cells #[.int .u16 0, .int .u16 0, .int .u16 0, .int .u16 0, .int .u16 0, .int .u16 0, .int .u16 0, .int .u16 0, .int .u16 0, .int .u16 0, .int .u16 0, .int .u16 0, .int .u16 0, .int .u16 0, .int .u16 0, .int .u16 0, .int .u16 0, .int .u16 0, .int .u16 0, .int .u16 0, .int .u16 0, .int .u16 0, .int .u16 0, .int .u16 0, .int .u16 0, .int .u16 0, .int .u16 0, .int .u16 0, .int .u16 0, .int .u16 0, .int .u16 0, .int .u16 0, .int .u16 0, .int .u16 0, .int .u16 0, .int .u16 0, .int .u16 0, .int .u16 0, .int .u16 0, .int .u16 0] 26)) (.cells #[.int .u16 0, .int .u16 0, .int .u16 0, .int .u16 0, .int .u16 0, .int .u16 0, .int .u16 0, .int .u16 0, .int .u16 0, .int .u16 0, .int .u16 0, .int .u16 0, .int .u16 0, .int .u16 0, .int .u16 0, .int .u16 0, .int .u16 0, .int .u16 0, .int .u16 0, .int .u16 0, .int .u16 0, .int .u16 0, .int .u16 0, .int .u16 0, .int .u16 0, .int .u16 0, .int .u16 0, .int .u16 0, .int .u16 0, .int .u16 0, .int .u16 0, .int .u16 0, .int .u16 0, .int .u16 0, .int .u16 0, .int .u16 0, .int .u16 0, .int .u16 0, .int .u16 0, .int .u16 0] 26)
      simp only [World.alloc, Array.size_push, mixC] at h ⊢
      exact h
    · exact below_alloc (below_alloc (below_alloc (Below.refl _ _) _) _) _
  case round =>
    obtain ⟨k, hk, rfl, H1, H2, H3, H4⟩ := hrel
    rcases (show k = 0 ∨ k = 1 ∨ k = 2 ∨ k = 3 ∨ k = 4 by omega) with rfl | rfl | rfl | rfl | rfl
    all_goals simp only [mixC] at H3

    · go_wp2_with (first | ((with_reducible refine gate_dst (N := 12) rfl ?_); refine wpList_load_mid rfl 23 (.tmp 11) rfl w.heap.size 0 rfl [.int .u16 a0, .int .u16 a1, .int .u16 a2, .int .u16 a3, .int .u16 a4, .int .u16 a5, .int .u16 a6, .int .u16 a7, .int .u16 a8, .int .u16 a9] _ (range_sub H1.out 0 _ rfl) Try.underlying23 rfl (by kernel_rfl) ?_) | (go_at_call 36; (with_reducible refine (laws_toUint16A10.calls a0 a1 a2 a3 a4 a5 a6 a7 a8 a9 a0 a1 a2 a3 a4 a5 a6 a7 a8 a9 _ rfl).mono ?_); rintro e w2 ⟨rfl, hb⟩; have G1 := Aside0.mk (blk_below H1.out hb); have G2 := Aside0.mk (blk_below H2.out hb); have G3 := Aside0.mk (blk_below H3.out hb); have G4 := Aside0.mk (below_step H4.out hb); clear hb) | ((with_reducible refine gate_store (p := 14) rfl ?_); refine wpList_store_mid rfl 23 (.tmp 14) (.tmp 13) rfl (w.heap.size + 1 + 1) 0 #[.int .u16 a0, .int .u16 a1, .int .u16 a2, .int .u16 a3, .int .u16 a4, .int .u16 a5, .int .u16 a6, .int .u16 a7, .int .u16 a8, .int .u16 a9] rfl rfl (there_blk G3.out 0 10 (by simp)) (by kernel_rfl) (allU16 [a0, a1, a2, a3, a4, a5, a6, a7, a8, a9]) ?_; have I1 := Aside0.mk (far_setCells (b := w.heap.size + 1 + 1) (by omega) [.int .u16 a0, .int .u16 a1, .int .u16 a2, .int .u16 a3, .int .u16 a4, .int .u16 a5, .int .u16 a6, .int .u16 a7, .int .u16 a8, .int .u16 a9] 0 w2 G1.out); have I2 := Aside0.mk (far_setCells (b := w.heap.size + 1 + 1) (by omega) [.int .u16 a0, .int .u16 a1, .int .u16 a2, .int .u16 a3, .int .u16 a4, .int .u16 a5, .int .u16 a6, .int .u16 a7, .int .u16 a8, .int .u16 a9] 0 w2 G2.out); have I3 : Aside0 ((w2.setCells (w.heap.size + 1 + 1) 0 [.int .u16 a0, .int .u16 a1, .int .u16 a2, .int .u16 a3, .int .u16 a4, .int .u16 a5, .int .u16 a6, .int .u16 a7, .int .u16 a8, .int .u16 a9]).heap[w.heap.size + 1 + 1]? = some (.cells #[.int .u16 a0, .int .u16 a1, .int .u16 a2, .int .u16 a3, .int .u16 a4, .int .u16 a5, .int .u16 a6, .int .u16 a7, .int .u16 a8, .int .u16 a9, .int .u16 0, .int .u16 0, .int .u16 0, .int .u16 0, .int .u16 0, .int .u16 0, .int .u16 0, .int .u16 0, .int .u16 0, .int .u16 0, .int .u16 0, .int .u16 0, .int .u16 0, .int .u16 0, .int .u16 0, .int .u16 0, .int .u16 0, .int .u16 0, .int .u16 0, .int .u16 0, .int .u16 0, .int .u16 0, .int .u16 0, .int .u16 0, .int .u16 0, .int .u16 0, .int .u16 0, .int .u16 0, .int .u16 0, .int .u16 0] 26 (0, 0))) := ⟨blk_setCells [.int .u16 a0, .int .u16 a1, .int .u16 a2, .int .u16 a3, .int .u16 a4, .int .u16 a5, .int .u16 a6, .int .u16 a7, .int .u16 a8, .int .u16 a9] _ 0 w2 G3.out (by simp)⟩; have I4 := Aside0.mk (below_setCells (B := w.heap.size) (b := w.heap.size + 1 + 1) (by omega) [.int .u16 a0, .int .u16 a1, .int .u16 a2, .int .u16 a3, .int .u16 a4, .int .u16 a5, .int .u16 a6, .int .u16 a7, .int .u16 a8, .int .u16 a9] 0 w2 G4.out)))
      go_roundw
      case rel => exact ⟨1, by omega, rfl, I1, I2, I3, I4⟩
      case measure => simp [intOf]
    · go_wp2_with (first | ((with_reducible refine gate_dst (N := 12) rfl ?_); refine wpList_load_mid rfl 23 (.tmp 11) rfl w.heap.size 10 rfl [.int .u16 a10, .int .u16 a11, .int .u16 a12, .int .u16 a13, .int .u16 a14, .int .u16 a15, .int .u16 a16, .int .u16 a17, .int .u16 a18, .int .u16 a19] _ (range_sub H1.out 10 _ rfl) Try.underlying23 rfl (by kernel_rfl) ?_) | (go_at_call 36; (with_reducible refine (laws_toUint16A10.calls a10 a11 a12 a13 a14 a15 a16 a17 a18 a19 a10 a11 a12 a13 a14 a15 a16 a17 a18 a19 _ rfl).mono ?_); rintro e w2 ⟨rfl, hb⟩; have G1 := Aside0.mk (blk_below H1.out hb); have G2 := Aside0.mk (blk_below H2.out hb); have G3 := Aside0.mk (blk_below H3.out hb); have G4 := Aside0.mk (below_step H4.out hb); clear hb) | ((with_reducible refine gate_store (p := 14) rfl ?_); refine wpList_store_mid rfl 23 (.tmp 14) (.tmp 13) rfl (w.heap.size + 1 + 1) 10 #[.int .u16 a10, .int .u16 a11, .int .u16 a12, .int .u16 a13, .int .u16 a14, .int .u16 a15, .int .u16 a16, .int .u16 a17, .int .u16 a18, .int .u16 a19] rfl rfl (there_blk G3.out 10 10 (by simp)) (by kernel_rfl) (allU16 [a10, a11, a12, a13, a14, a15, a16, a17, a18, a19]) ?_; have I1 := Aside0.mk (far_setCells (b := w.heap.size + 1 + 1) (by omega) [.int .u16 a10, .int .u16 a11, .int .u16 a12, .int .u16 a13, .int .u16 a14, .int .u16 a15, .int .u16 a16, .int .u16 a17, .int .u16 a18, .int .u16 a19] 10 w2 G1.out); have I2 := Aside0.mk (far_setCells (b := w.heap.size + 1 + 1) (by omega) [.int .u16 a10, .int .u16 a11, .int .u16 a12, .int .u16 a13, .int .u16 a14, .int .u16 a15, .int .u16 a16, .int .u16 a17, .int .u16 a18, .int .u16 a19] 10 w2 G2.out); have I3 : Aside0 ((w2.setCells (w.heap.size + 1 + 1) 10 [.int .u16 a10, .int .u16 a11, .int .u16 a12, .int .u16 a13, .int .u16 a14, .int .u16 a15, .int .u16 a16, .int .u16 a17, .int .u16 a18, .int .u16 a19]).heap[w.heap.size + 1 + 1]? = some (.cells #[.int .u16 a0, .int .u16 a1, .int .u16 a2, .int .u16 a3, .int .u16 a4, .int .u16 a5, .int .u16 a6, .int .u16 a7, .int .u16 a8, .int .u16 a9, .int .u16 a10, .int .u16 a11, .int .u16 a12, .int .u16 a13, .int .u16 a14, .int .u16 a15, .int .u16 a16, .int .u16 a17, .int .u16 a18, .int .u16 a19, .int .u16 0, .int .u16 0, .int .u16 0, .int .u16 0, .int .u16 0, .int .u16 0, .int .u16 0, .int .u16 0, .int .u16 0, .int .u16 0, .int .u16 0, .int .u16 0, .int .u16 0, .int .u16 0, .int .u16 0, .int .u16 0, .int .u16 0, .int .u16 0, .int .u16 0, .int .u16 0] 26 (0, 0))) := ⟨blk_setCells [.int .u16 a10, .int .u16 a11, .int .u16 a12, .int .u16 a13, .int .u16 a14, .int .u16 a15, .int .u16 a16, .int .u16 a17, .int .u16 a18, .int .u16 a19] _ 10 w2 G3.out (by simp)⟩; have I4 := Aside0.mk (below_setCells (B := w.heap.size) (b := w.heap.size + 1 + 1) (by omega) [.int .u16 a10, .int .u16 a11, .int .u16 a12, .int .u16 a13, .int .u16 a14, .int .u16 a15, .int .u16 a16, .int .u16 a17, .int .u16 a18, .int .u16 a19] 10 w2 G4.out)))
      go_roundw
      case rel => exact ⟨2, by omega, rfl, I1, I2, I3, I4⟩
      case measure => simp [intOf]
    · go_wp2_with (first | ((with_reducible refine gate_dst (N := 12) rfl ?_); refine wpList_load_mid rfl 23 (.tmp 11) rfl w.heap.size 20 rfl [.int .u16 a20, .int .u16 a21, .int .u16 a22, .int .u16 a23, .int .u16 a24, .int .u16 a25, .int .u16 a26, .int .u16 a27, .int .u16 a28, .int .u16 a29] _ (range_sub H1.out 20 _ rfl) Try.underlying23 rfl (by kernel_rfl) ?_) | (go_at_call 36; (with_reducible refine (laws_toUint16A10.calls a20 a21 a22 a23 a24 a25 a26 a27 a28 a29 a20 a21 a22 a23 a24 a25 a26 a27 a28 a29 _ rfl).mono ?_); rintro e w2 ⟨rfl, hb⟩; have G1 := Aside0.mk (blk_below H1.out hb); have G2 := Aside0.mk (blk_below H2.out hb); have G3 := Aside0.mk (blk_below H3.out hb); have G4 := Aside0.mk (below_step H4.out hb); clear hb) | ((with_reducible refine gate_store (p := 14) rfl ?_); refine wpList_store_mid rfl 23 (.tmp 14) (.tmp 13) rfl (w.heap.size + 1 + 1) 20 #[.int .u16 a20, .int .u16 a21, .int .u16 a22, .int .u16 a23, .int .u16 a24, .int .u16 a25, .int .u16 a26, .int .u16 a27, .int .u16 a28, .int .u16 a29] rfl rfl (there_blk G3.out 20 10 (by simp)) (by kernel_rfl) (allU16 [a20, a21, a22, a23, a24, a25, a26, a27, a28, a29]) ?_; have I1 := Aside0.mk (far_setCells (b := w.heap.size + 1 + 1) (by omega) [.int .u16 a20, .int .u16 a21, .int .u16 a22, .int .u16 a23, .int .u16 a24, .int .u16 a25, .int .u16 a26, .int .u16 a27, .int .u16 a28, .int .u16 a29] 20 w2 G1.out); have I2 := Aside0.mk (far_setCells (b := w.heap.size + 1 + 1) (by omega) [.int .u16 a20, .int .u16 a21, .int .u16 a22, .int .u16 a23, .int .u16 a24, .int .u16 a25, .int .u16 a26, .int .u16 a27, .int .u16 a28, .int .u16 a29] 20 w2 G2.out); have I3 : Aside0 ((w2.setCells (w.heap.size + 1 + 1) 20 [.int .u16 a20, .int .u16 a21, .int .u16 a22, .int .u16 a23, .int .u16 a24, .int .u16 a25, .int .u16 a26, .int .u16 a27, .int .u16 a28, .int .u16 a29]).heap[w.heap.size + 1 + 1]? = some (.cells #[.int .u16 a0, .int .u16 a1, .int .u16 a2, .int .u16 a3, .int .u16 a4, .int .u16 a5, .int .u16 a6, .int .u16 a7, .int .u16 a8, .int .u16 a9, .int .u16 a10, .int .u16 a11, .int .u16 a12, .int .u16 a13, .int .u16 a14, .int .u16 a15, .int .u16 a16, .int .u16 a17, .int .u16 a18, .int .u16 a19, .int .u16 a20, .int .u16 a21, .int .u16 a22, .int .u16 a23, .int .u16 a24, .int .u16 a25, .int .u16 a26, .int .u16 a27, .int .u16 a28, .int .u16 a29, .int .u16 0, .int .u16 0, .int .u16 0, .int .u16 0, .int .u16 0, .int .u16 0, .int .u16 0, .int .u16 0, .int .u16 0, .int .u16 0] 26 (0, 0))) := ⟨blk_setCells [.int .u16 a20, .int .u16 a21, .int .u16 a22, .int .u16 a23, .int .u16 a24, .int .u16 a25, .int .u16 a26, .int .u16 a27, .int .u16 a28, .int .u16 a29] _ 20 w2 G3.out (by simp)⟩; have I4 := Aside0.mk (below_setCells (B := w.heap.size) (b := w.heap.size + 1 + 1) (by omega) [.int .u16 a20, .int .u16 a21, .int .u16 a22, .int .u16 a23, .int .u16 a24, .int .u16 a25, .int .u16 a26, .int .u16 a27, .int .u16 a28, .int .u16 a29] 20 w2 G4.out)))
      go_roundw
      case rel => exact ⟨3, by omega, rfl, I1, I2, I3, I4⟩
      case measure => simp [intOf]
    · go_wp2_with (first | ((with_reducible refine gate_dst (N := 12) rfl ?_); refine wpList_load_mid rfl 23 (.tmp 11) rfl w.heap.size 30 rfl [.int .u16 a30, .int .u16 a31, .int .u16 a32, .int .u16 a33, .int .u16 a34, .int .u16 a35, .int .u16 a36, .int .u16 a37, .int .u16 a38, .int .u16 a39] _ (range_sub H1.out 30 _ rfl) Try.underlying23 rfl (by kernel_rfl) ?_) | (go_at_call 36; (with_reducible refine (laws_toUint16A10.calls a30 a31 a32 a33 a34 a35 a36 a37 a38 a39 a30 a31 a32 a33 a34 a35 a36 a37 a38 a39 _ rfl).mono ?_); rintro e w2 ⟨rfl, hb⟩; have G1 := Aside0.mk (blk_below H1.out hb); have G2 := Aside0.mk (blk_below H2.out hb); have G3 := Aside0.mk (blk_below H3.out hb); have G4 := Aside0.mk (below_step H4.out hb); clear hb) | ((with_reducible refine gate_store (p := 14) rfl ?_); refine wpList_store_mid rfl 23 (.tmp 14) (.tmp 13) rfl (w.heap.size + 1 + 1) 30 #[.int .u16 a30, .int .u16 a31, .int .u16 a32, .int .u16 a33, .int .u16 a34, .int .u16 a35, .int .u16 a36, .int .u16 a37, .int .u16 a38, .int .u16 a39] rfl rfl (there_blk G3.out 30 10 (by simp)) (by kernel_rfl) (allU16 [a30, a31, a32, a33, a34, a35, a36, a37, a38, a39]) ?_; have I1 := Aside0.mk (far_setCells (b := w.heap.size + 1 + 1) (by omega) [.int .u16 a30, .int .u16 a31, .int .u16 a32, .int .u16 a33, .int .u16 a34, .int .u16 a35, .int .u16 a36, .int .u16 a37, .int .u16 a38, .int .u16 a39] 30 w2 G1.out); have I2 := Aside0.mk (far_setCells (b := w.heap.size + 1 + 1) (by omega) [.int .u16 a30, .int .u16 a31, .int .u16 a32, .int .u16 a33, .int .u16 a34, .int .u16 a35, .int .u16 a36, .int .u16 a37, .int .u16 a38, .int .u16 a39] 30 w2 G2.out); have I3 : Aside0 ((w2.setCells (w.heap.size + 1 + 1) 30 [.int .u16 a30, .int .u16 a31, .int .u16 a32, .int .u16 a33, .int .u16 a34, .int .u16 a35, .int .u16 a36, .int .u16 a37, .int .u16 a38, .int .u16 a39]).heap[w.heap.size + 1 + 1]? = some (.cells #[.int .u16 a0, .int .u16 a1, .int .u16 a2, .int .u16 a3, .int .u16 a4, .int .u16 a5, .int .u16 a6, .int .u16 a7, .int .u16 a8, .int .u16 a9, .int .u16 a10, .int .u16 a11, .int .u16 a12, .int .u16 a13, .int .u16 a14, .int .u16 a15, .int .u16 a16, .int .u16 a17, .int .u16 a18, .int .u16 a19, .int .u16 a20, .int .u16 a21, .int .u16 a22, .int .u16 a23, .int .u16 a24, .int .u16 a25, .int .u16 a26, .int .u16 a27, .int .u16 a28, .int .u16 a29, .int .u16 a30, .int .u16 a31, .int .u16 a32, .int .u16 a33, .int .u16 a34, .int .u16 a35, .int .u16 a36, .int .u16 a37, .int .u16 a38, .int .u16 a39] 26 (0, 0))) := ⟨blk_setCells [.int .u16 a30, .int .u16 a31, .int .u16 a32, .int .u16 a33, .int .u16 a34, .int .u16 a35, .int .u16 a36, .int .u16 a37, .int .u16 a38, .int .u16 a39] _ 30 w2 G3.out (by simp)⟩; have I4 := Aside0.mk (below_setCells (B := w.heap.size) (b := w.heap.size + 1 + 1) (by omega) [.int .u16 a30, .int .u16 a31, .int .u16 a32, .int .u16 a33, .int .u16 a34, .int .u16 a35, .int .u16 a36, .int .u16 a37, .int .u16 a38, .int .u16 a39] 30 w2 G4.out)))
      go_roundw
      case rel => exact ⟨4, by omega, rfl, I1, I2, I3, I4⟩
      case measure => simp [intOf]
    · obtain ⟨L, hL⟩ : ∃ L : List Value, L = [.int .u16 a0, .int .u16 a1, .int .u16 a2, .int .u16 a3, .int .u16 a4, .int .u16 a5, .int .u16 a6, .int .u16 a7, .int .u16 a8, .int .u16 a9, .int .u16 a10, .int .u16 a11, .int .u16 a12, .int .u16 a13, .int .u16 a14, .int .u16 a15, .int .u16 a16, .int .u16 a17, .int .u16 a18, .int .u16 a19, .int .u16 a20, .int .u16 a21, .int .u16 a22, .int .u16 a23, .int .u16 a24, .int .u16 a25, .int .u16 a26, .int .u16 a27, .int .u16 a28, .int .u16 a29, .int .u16 a30, .int .u16 a31, .int .u16 a32, .int .u16 a33, .int .u16 a34, .int .u16 a35, .int .u16 a36, .int .u16 a37, .int .u16 a38, .int .u16 a39] := ⟨_, rfl⟩
      have J1 : Aside0 (L.toArray = #[.int .u16 a0, .int .u16 a1, .int .u16 a2, .int .u16 a3, .int .u16 a4, .int .u16 a5, .int .u16 a6, .int .u16 a7, .int .u16 a8, .int .u16 a9, .int .u16 a10, .int .u16 a11, .int .u16 a12, .int .u16 a13, .int .u16 a14, .int .u16 a15, .int .u16 a16, .int .u16 a17, .int .u16 a18, .int .u16 a19, .int .u16 a20, .int .u16 a21, .int .u16 a22, .int .u16 a23, .int .u16 a24, .int .u16 a25, .int .u16 a26, .int .u16 a27, .int .u16 a28, .int .u16 a29, .int .u16 a30, .int .u16 a31, .int .u16 a32, .int .u16 a33, .int .u16 a34, .int .u16 a35, .int .u16 a36, .int .u16 a37, .int .u16 a38, .int .u16 a39]) := ⟨by rw [hL]⟩
      have J2 : Aside0 (L.length = 40) := ⟨by rw [hL]; rfl⟩
      have J5 : Aside0 (∀ v ∈ L, v.oneCell' = true) := ⟨by rw [hL]; simp [Value.oneCell']⟩
      have J3 : Aside0 ((wr.setCells (w.heap.size + 1) 0 L).heap[w.heap.size + 1]? = some (.cells #[.int .u16 a0, .int .u16 a1, .int .u16 a2, .int .u16 a3, .int .u16 a4, .int .u16 a5, .int .u16 a6, .int .u16 a7, .int .u16 a8, .int .u16 a9, .int .u16 a10, .int .u16 a11, .int .u16 a12, .int .u16 a13, .int .u16 a14, .int .u16 a15, .int .u16 a16, .int .u16 a17, .int .u16 a18, .int .u16 a19, .int .u16 a20, .int .u16 a21, .int .u16 a22, .int .u16 a23, .int .u16 a24, .int .u16 a25, .int .u16 a26, .int .u16 a27, .int .u16 a28, .int .u16 a29, .int .u16 a30, .int .u16 a31, .int .u16 a32, .int .u16 a33, .int .u16 a34, .int .u16 a35, .int .u16 a36, .int .u16 a37, .int .u16 a38, .int .u16 a39] 26 (0, 0))) := ⟨by rw [← J1.out]; exact blk_whole H2.out (by rw [J2.out]; rfl)⟩
      have J4 : Aside0 (Below w.heap.size w (wr.setCells (w.heap.size + 1) 0 L)) := ⟨below_setCells (by omega) L 0 wr H4.out⟩
      have J6 : Aside0 (wr.rangeAt (w.heap.size + 1 + 1) 0 L) := ⟨range_blk (by rw [J1.out]; exact H3.out)⟩
      have J7 : Aside0 (wr.there (w.heap.size + 1) 0 L.toArray.size) := ⟨there_blk H2.out 0 _ (by rw [List.size_toArray, J2.out]; simp)⟩
      have J8 : Aside0 ((Try.prog.info? 26).map (·.size) = some L.toArray.size) := ⟨by rw [List.size_toArray, J2.out]; kernel_rfl⟩
      have J9 : Aside0 ((Try.prog.info? 26).map (·.size) = some L.length) := ⟨by rw [J2.out]; kernel_rfl⟩
      clear hL
      go_wp2_with (first | ((with_reducible refine gate_dst (N := 15) rfl ?_); refine wpList_load_mid rfl 26 (.tmp 3) rfl (w.heap.size + 1 + 1) 0 rfl L _ J6.out Try.underlying26 rfl J9.out ?_) | ((with_reducible refine gate_store (p := 2) rfl ?_); refine wpList_store_mid rfl 26 (.tmp 2) (.tmp 15) rfl (w.heap.size + 1) 0 L.toArray rfl rfl J7.out J8.out (all_oneCell_toArray J5.out) ?_))
      refine bodyPost_ret (results_cell_row rfl _ _ (w.heap.size + 1) 26 #[.int .u16 a0, .int .u16 a1, .int .u16 a2, .int .u16 a3, .int .u16 a4, .int .u16 a5, .int .u16 a6, .int .u16 a7, .int .u16 a8, .int .u16 a9, .int .u16 a10, .int .u16 a11, .int .u16 a12, .int .u16 a13, .int .u16 a14, .int .u16 a15, .int .u16 a16, .int .u16 a17, .int .u16 a18, .int .u16 a19, .int .u16 a20, .int .u16 a21, .int .u16 a22, .int .u16 a23, .int .u16 a24, .int .u16 a25, .int .u16 a26, .int .u16 a27, .int .u16 a28, .int .u16 a29, .int .u16 a30, .int .u16 a31, .int .u16 a32, .int .u16 a33, .int .u16 a34, .int .u16 a35, .int .u16 a36, .int .u16 a37, .int .u16 a38, .int .u16 a39] (0, 0) _ rfl J3.out Try.underlying26 rfl (by kernel_rfl)) rfl ?_
      exact ⟨rfl, J4.out⟩

/-! ### spec_l00In: function 66 -/
def spec_l00In.f (a0 : Int) (a1 : Int) (a2 : Int) : Option (Bool) := if a0 ≥ a1 then (some (decide (a0 ≤ a2))) else (some false)
set_option maxHeartbeats 8000000 in
set_option maxRecDepth 100000 in
theorem spec_l00In.calls (a0 : Int) (a1 : Int) (a2 : Int) (r : Bool) (w : World) (h : spec_l00In.f a0 a1 a2 = some r) :
    Calls Try.prog 66 #[.int .i64 a0, .int .i64 a1, .int .i64 a2] w fun e w' => e = .returned (.bool r) ∧ Drawn0 w w' := by
  have H : (if a0 ≥ a1 then (some (decide (a0 ≤ a2))) else (some false)) = some r := h
  clear h
  by_cases c4 : a0 ≥ a1
  · rw [if_pos c4] at H
    have c4b0 : decide (a1 ≤ a0) = true := decide_eq_true c4
    clear c4
    obtain rfl := Option.some.inj H
    go_enter Try.func66, Try.ntmps66
    go_wp2
    go_ret
    exact ⟨by first | rfl | (simp; done) | (simp [*]; done), by repeat (first | exact Drawn0.refl _ | apply Drawn0.step)⟩
  · rw [if_neg c4] at H
    have c4b0 : decide (a1 ≤ a0) = false := decide_eq_false c4
    clear c4
    obtain rfl := Option.some.inj H
    go_enter Try.func66, Try.ntmps66
    go_wp2
    go_ret
    exact ⟨by first | rfl | (simp; done) | (simp [*]; done), by repeat (first | exact Drawn0.refl _ | apply Drawn0.step)⟩

end Go.Proofs.Ytdedijjbdkoekaa.PA
