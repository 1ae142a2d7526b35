/- ValidGuides: both come to one. -/
import Derived.Test.YthfinhdmdfekcaaPAx14
import Derived.Test.YthfinhdmdfekcaaQgv
namespace Go.Proofs.Ythfinhdmdfekcaa.Q
open Go.RowKit Go.Proofs.YthfinhdmdfekcaaW.PrintWords Go.Proofs.YthfinhdmdfekcaaW.PrintLast Go.Proofs.Ythfinhdmdfekcaa.PA
set_option linter.unusedVariables false
set_option linter.unusedSimpArgs false

theorem ValidGuides_both (l : List S75) (h : l.length ≤ 1048576) : ∃ r, Ev (fun k => spec_ValidGuides.f k l) r ∧ Ev (fun _ => impl_ValidGuides.f l) r :=
  ⟨okGuides l, by unfold spec_ValidGuides.f; exact Ev.bind (l07Guides_ev l (by omega)) (Ev.now _), Ev.const (ValidGuides_f l)⟩

end Go.Proofs.Ythfinhdmdfekcaa.Q
