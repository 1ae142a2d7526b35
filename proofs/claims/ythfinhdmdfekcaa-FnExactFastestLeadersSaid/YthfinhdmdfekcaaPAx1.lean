/- Lean functions for Go functions, and proofs that Go comes to just their answers; written by a program of this session. -/
import Derived.Test.YthfinhdmdfekcaaPAx0
namespace Go.Proofs.Ythfinhdmdfekcaa.PA
open Go.RowKit Go.Proofs.YthfinhdmdfekcaaW.PrintWords Go.Proofs.YthfinhdmdfekcaaW.PrintLast Go.Proofs.YthfinhdmdfekcaaW.PrintMore
attribute [local go_sem] max2_int min2_int max_two min_two max_three min_three max_four min_four   -- for this text's walks alone
set_option linter.unusedVariables false
set_option linter.unusedSimpArgs false

/-! ### pre 0 -/

/-- A call of function F enters it. -/
def IsFn (F : Nat) : Prop := ∀ (args : Array Value) (W : World), Sem.run Try.prog (callFunc F args) W = .ok (.enter F args) W
def idxF {α : Type} (p : α → Bool) : List α → Nat → Int
  | [], _ => -1
  | x :: xs, i => if p x then (i : Int) else idxF p xs (i + 1)

theorem idxF_skip {α : Type} (p : α → Bool) : ∀ (xs : List α) (k i : Nat), (∀ j, j < k → ∀ x, xs[j]? = some x → p x = false) → idxF p xs i = idxF p (xs.drop k) (i + k)
  | xs, 0, i, _ => by simp
  | [], k + 1, i, _ => by simp [idxF]
  | x :: xs, k + 1, i, h => by
    have h0 : p x = false := h 0 (by omega) x (by simp)
    simp only [idxF, h0, List.drop_succ_cons]
    rw [if_neg (by simp), idxF_skip p xs k (i + 1) (fun j hj y hy => h (j + 1) (by omega) y (by simpa using hy))]
    congr 1
    omega
theorem idxF_any {α : Type} (p : α → Bool) : ∀ (xs : List α) (i : Nat), xs.any p = decide (0 ≤ idxF p xs i)
  | [], i => by simp [idxF]
  | x :: xs, i => by
    by_cases h : p x = true
    · simp [idxF, h]
    · have h' : p x = false := by simpa using h
      simp only [List.any_cons, h', Bool.false_or, idxF]
      rw [if_neg (by simp)]
      exact idxF_any p xs (i + 1)

end Go.Proofs.Ythfinhdmdfekcaa.PA
