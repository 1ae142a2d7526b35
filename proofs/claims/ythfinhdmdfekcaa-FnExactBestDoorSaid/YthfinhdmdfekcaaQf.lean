/- Folds over lists; a copy of a slice. -/
import Derived.Test.YthfinhdmdfekcaaPAx19
import Derived.Test.YthfinhdmdfekcaaQk
namespace Go.Proofs.Ythfinhdmdfekcaa.Q
open Go.RowKit Go.Proofs.YthfinhdmdfekcaaW.PrintWords Go.Proofs.YthfinhdmdfekcaaW.PrintLast Go.Proofs.Ythfinhdmdfekcaa.PA
set_option linter.unusedVariables false
set_option linter.unusedSimpArgs false

theorem Ev.foldlM {σ α : Type} (f : Nat → σ → α → Option σ) (g : σ → α → σ) (xs : List α) (h : ∀ x ∈ xs, ∀ s, Ev (fun k => f k s x) (g s x)) : ∀ s, Ev (fun k => xs.foldlM (f k) s) (xs.foldl g s) := by
  induction xs with
  | nil => intro s; simpa using Ev.now s
  | cons x xs ih =>
    intro s
    simp only [List.foldlM_cons, List.foldl_cons]
    exact Ev.bind (h x (by simp) s) (ih (fun y hy => h y (by simp [hy])) _)
theorem foldl_flat {α β σ : Type} (h : α → List β) (g : σ → β → σ) : ∀ (xs : List α) (s : σ), (xs.flatMap h).foldl g s = xs.foldl (fun s x => (h x).foldl g s) s
  | [], s => rfl
  | x :: xs, s => by
    simp only [List.flatMap_cons, List.foldl_append, List.foldl_cons]
    exact foldl_flat h g xs _
theorem Own_f (l : List Int) (h : l.length ≤ 1048576) : spec_l00Own.f l = some l := by
  unfold spec_l00Own.f
  simp only [Option.bind_some, List.nil_append, List.length_nil]
  rw [if_pos (by omega)]
theorem flat_len {α β : Type} (h : α → List β) (c : Nat) : ∀ (xs : List α), (∀ x ∈ xs, (h x).length ≤ c) → (xs.flatMap h).length ≤ xs.length * c
  | [], _ => by simp
  | x :: xs, hb => by
    have h1 := hb x (by simp)
    have h2 := flat_len h c xs (fun y hy => hb y (by simp [hy]))
    simp only [List.flatMap_cons, List.length_append, List.length_cons, Nat.succ_mul]
    omega

end Go.Proofs.Ythfinhdmdfekcaa.Q
