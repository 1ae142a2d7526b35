/- DoorTimes: both come to one. -/
import Derived.Test.YthfinhdmdfekcaaPAx31
import Derived.Test.YthfinhdmdfekcaaQoc
import Derived.Test.YthfinhdmdfekcaaQt
namespace Go.Proofs.Ythfinhdmdfekcaa.Q
open Go.RowKit Go.Proofs.YthfinhdmdfekcaaW.PrintWords Go.Proofs.YthfinhdmdfekcaaW.PrintLast Go.Proofs.Ythfinhdmdfekcaa.PA
set_option linter.unusedVariables false
set_option linter.unusedSimpArgs false

theorem DoorTimes_both (l0 : List S67) (l1 : List Int) (h0 : l0.length ≤ 1048576) (h1 : l1.length ≤ 1048576) : ∃ r : List Int × Int, r.1.length ≤ 1048576 ∧ Ev (fun k => spec_DoorTimes.f k l0 l1) r ∧ Ev (fun k => impl_DoorTimes.f k l0 l1) r := by
  unfold spec_DoorTimes.f impl_DoorTimes.f
  by_cases hc : codeO l0 l1 = 0
  · obtain ⟨ts, ht, hs, hi⟩ := times_both l0 l1 h0 h1 (okOrder_in (codeO_zero hc).2).2
    exact ⟨(ts, 0), by simp only; omega, Ev.bind (Ordered_ev l0 l1 h0 h1) (Ev.pos hc (Ev.bind hs (Ev.now _))), Ev.bind (orderCode_ev l0 l1 h0 h1) (Ev.pos hc (Ev.bind hi (Ev.now _)))⟩
  · exact ⟨([], codeO l0 l1), by simp, Ev.bind (Ordered_ev l0 l1 h0 h1) (Ev.neg hc (Ev.now _)), Ev.bind (orderCode_ev l0 l1 h0 h1) (Ev.neg hc (Ev.now _))⟩

end Go.Proofs.Ythfinhdmdfekcaa.Q
