/- Lean functions for Go functions, and proofs that Go comes to just their answers; written by a program of this session. -/
import Derived.Test.YtdedijjbdkoekaaPAx0
namespace Go.Proofs.Ytdedijjbdkoekaa.PA
open Go.RowKit Go.Proofs.YtdedijjbdkoekaaW.PrintWords Go.Proofs.YtdedijjbdkoekaaW.PrintLast Go.Proofs.YtdedijjbdkoekaaW.PrintMore
attribute [local go_sem] max2_int min2_int max_two min_two max_three min_three max_four min_four   -- for this text's walks alone
set_option linter.unusedVariables false
set_option linter.unusedSimpArgs false

/-! ### index 23 -/
set_option maxRecDepth 100000 in
set_option maxHeartbeats 4000000 in
theorem idx_23 (c0 c1 c2 c3 c4 c5 c6 c7 c8 c9 i : Int) (h0 : 0 ≤ i) (h1 : i < 10) (W : World) : (Instr.index 23 (.agg #[.int .u16 c0, .int .u16 c1, .int .u16 c2, .int .u16 c3, .int .u16 c4, .int .u16 c5, .int .u16 c6, .int .u16 c7, .int .u16 c8, .int .u16 c9]) (.int .i64 i)).run Try.prog W = .ok (.int .u16 (rd [c0, c1, c2, c3, c4, c5, c6, c7, c8, c9] i)) W := by
  rcases (show i = 0 ∨ i = 1 ∨ i = 2 ∨ i = 3 ∨ i = 4 ∨ i = 5 ∨ i = 6 ∨ i = 7 ∨ i = 8 ∨ i = 9 by omega) with rfl | rfl | rfl | rfl | rfl | rfl | rfl | rfl | rfl | rfl <;> kernel_rfl

end Go.Proofs.Ytdedijjbdkoekaa.PA
