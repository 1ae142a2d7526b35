/- ValidLegs: both come to one. -/
import Derived.Test.YthfinhdmdfekcaaPAx6
import Derived.Test.YthfinhdmdfekcaaQb
namespace Go.Proofs.Ythfinhdmdfekcaa.Q
open Go.RowKit Go.Proofs.YthfinhdmdfekcaaW.PrintWords Go.Proofs.YthfinhdmdfekcaaW.PrintLast Go.Proofs.Ythfinhdmdfekcaa.PA
set_option linter.unusedVariables false
set_option linter.unusedSimpArgs false

theorem ValidLegs_both (l : List Int) (h : l.length ≤ 1048576) : ∃ r, Ev (fun k => spec_ValidLegs.f k l) r ∧ Ev (fun _ => impl_ValidLegs.f l) r :=
  ⟨okLegs l, by unfold spec_ValidLegs.f; exact Ev.bind (l07Legs_ev l (by omega)) (Ev.now _), Ev.const (ValidLegs_f l)⟩

end Go.Proofs.Ythfinhdmdfekcaa.Q
