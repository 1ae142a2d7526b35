/- The waiting of an order. -/
import Derived.Test.YthfinhdmdfekcaaPAx24
import Derived.Test.YthfinhdmdfekcaaQt
namespace Go.Proofs.Ythfinhdmdfekcaa.Q
open Go.RowKit Go.Proofs.YthfinhdmdfekcaaW.PrintWords Go.Proofs.YthfinhdmdfekcaaW.PrintLast Go.Proofs.Ythfinhdmdfekcaa.PA
set_option linter.unusedVariables false
set_option linter.unusedSimpArgs false

theorem waiting_both (l0 : List S67) (l1 : List Int) (hl : l0.length ≤ 1048576) (hl1 : l1.length ≤ 1048576) (hin : ∀ x ∈ l1, 0 ≤ x ∧ x < l0.length) : ∃ r, Ev (fun k => spec_l07Waiting.f k l0 l1) r ∧ Ev (fun k => impl_waiting.f k l0 l1) r := by
  obtain ⟨ts, ht, hs, hi⟩ := times_both l0 l1 hl hl1 hin
  unfold spec_l07Waiting.f impl_waiting.f
  have key : ∀ (m i : Nat) (s : Int), i + m = l0.length → ∃ r, Ev (fun k => spec_l07Waiting.l0 k l0 ts s (i : Int)) r ∧ Ev (fun k => impl_waiting.l0 k l0 s ts (ts.length : Int) (i : Int)) r := by
    intro m
    induction m with
    | zero =>
      intro i s hi
      obtain rfl : i = l0.length := by omega
      refine ⟨s, Ev.round (Ev.now _) fun k => ?_, Ev.round (Ev.now _) fun k => ?_⟩
      · simp only [spec_l07Waiting.l0]; rw [if_neg (by omega)]
      · simp only [impl_waiting.l0]; rw [if_neg (by omega)]
    | succ m ih =>
      intro i s hi
      obtain ⟨r, h1, h2⟩ := ih (i + 1) (wrap64 (s + (wrap64 ((wrap64 ((rd_T67 l0 (i : Int)).f1)) * (wrap64 ((rd ts (i : Int)) - (wrap64 ((rd_T67 l0 (i : Int)).f0)))))))) (by omega)
      refine ⟨r, Ev.round h1 fun k => ?_, Ev.round h2 fun k => ?_⟩
      · simp only [spec_l07Waiting.l0]
        rw [if_pos (by omega), if_pos (by omega), if_pos (by omega), wnat i l0.length (by omega) (by omega)]
      · simp only [impl_waiting.l0]
        rw [if_pos (by omega), if_pos (by omega), if_pos (by omega), if_pos (by omega), wnat i l0.length (by omega) (by omega)]
  obtain ⟨r, h1, h2⟩ := key l0.length 0 0 (by omega)
  exact ⟨r, Ev.bind hs h1, Ev.bind hi h2⟩

end Go.Proofs.Ythfinhdmdfekcaa.Q
