/- ValidParties: both come to one. -/
import Derived.Test.YthfinhdmdfekcaaPAx11
import Derived.Test.YthfinhdmdfekcaaQpv
namespace Go.Proofs.Ythfinhdmdfekcaa.Q
open Go.RowKit Go.Proofs.YthfinhdmdfekcaaW.PrintWords Go.Proofs.YthfinhdmdfekcaaW.PrintLast Go.Proofs.Ythfinhdmdfekcaa.PA
set_option linter.unusedVariables false
set_option linter.unusedSimpArgs false

theorem ValidParties_both (l : List S67) (h : l.length ≤ 1048576) : ∃ r, Ev (fun k => spec_ValidParties.f k l) r ∧ Ev (fun _ => impl_ValidParties.f l) r :=
  ⟨okParties l, by unfold spec_ValidParties.f; exact Ev.bind (l07Parties_ev l (by omega)) (Ev.now _), Ev.const (ValidParties_f l)⟩

end Go.Proofs.Ythfinhdmdfekcaa.Q
