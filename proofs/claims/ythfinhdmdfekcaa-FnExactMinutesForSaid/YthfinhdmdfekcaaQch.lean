/- What the check of leaders comes to. -/
import Derived.Test.YthfinhdmdfekcaaPAx17
import Derived.Test.YthfinhdmdfekcaaQld
import Derived.Test.YthfinhdmdfekcaaQr
namespace Go.Proofs.Ythfinhdmdfekcaa.Q
open Go.RowKit Go.Proofs.YthfinhdmdfekcaaW.PrintWords Go.Proofs.YthfinhdmdfekcaaW.PrintLast Go.Proofs.Ythfinhdmdfekcaa.PA
set_option linter.unusedVariables false
set_option linter.unusedSimpArgs false

theorem Check_ev (l0 : List S75) (l1 l2 : List Int) (h0 : l0.length ≤ 1048576) (h1 : l1.length ≤ 1048576) : Ev (fun k => impl_CheckLeaders.f k l0 l1 l2) (if ledB l0 l1 = true then (rightV l0 l1 l2, 0) else (false, 1)) := by
  unfold impl_CheckLeaders.f ledB
  refine Ev.bind (Ev.const (ValidGuides_f l0)) ?_
  cases hg : okGuides l0 with
  | false => simpa using Ev.now (false, (1 : Int))
  | true =>
    refine Ev.pos rfl (Ev.bind (Ev.const (ValidLegs_f l1)) ?_)
    cases hl : okLegs l1 with
    | false => simpa using Ev.now (false, (1 : Int))
    | true =>
      simp only [Bool.and_self, if_true]
      exact Ev.bind (isRight_ev l0 l1 l2 h0 h1) (Ev.now _)

end Go.Proofs.Ythfinhdmdfekcaa.Q
