/- CheckLeaders: both come to one. -/
import Derived.Test.YthfinhdmdfekcaaPAx18
import Derived.Test.YthfinhdmdfekcaaQch
namespace Go.Proofs.Ythfinhdmdfekcaa.Q
open Go.RowKit Go.Proofs.YthfinhdmdfekcaaW.PrintWords Go.Proofs.YthfinhdmdfekcaaW.PrintLast Go.Proofs.Ythfinhdmdfekcaa.PA
set_option linter.unusedVariables false
set_option linter.unusedSimpArgs false

theorem CheckLeaders_both (l0 : List S75) (l1 l2 : List Int) (h0 : l0.length ≤ 1048576) (h1 : l1.length ≤ 1048576) (h2 : l2.length ≤ 1048576) : ∃ r, Ev (fun k => spec_CheckLeaders.f k l0 l1 l2) r ∧ Ev (fun k => impl_CheckLeaders.f k l0 l1 l2) r := by
  refine ⟨_, ?_, Check_ev l0 l1 l2 h0 h1⟩
  unfold spec_CheckLeaders.f
  refine Ev.bind (Led_ev l0 l1 h0 h1) ?_
  cases ledB l0 l1 with
  | false => simpa using Ev.now (false, (1 : Int))
  | true =>
    simp only [if_true]
    exact Ev.bind (Right_ev l0 l1 l2 h0 h1) (Ev.now _)

end Go.Proofs.Ythfinhdmdfekcaa.Q
