/- The statement FnExactValidLegs: its plain law. -/
import Derived.Test.YthfinhdmdfekcaaPAx6
import Derived.Test.YthfinhdmdfekcaaQi
import Derived.Test.YthfinhdmdfekcaaQuLegs
namespace Go.Proofs.Ythfinhdmdfekcaa.Q
open Go.RowKit Go.Proofs.YthfinhdmdfekcaaW.PrintWords Go.Proofs.YthfinhdmdfekcaaW.PrintLast Go.Proofs.Ythfinhdmdfekcaa.PA
set_option linter.unusedVariables false
set_option linter.unusedSimpArgs false
theorem FnExactValidLegs
    (l0 : List Int) (hm0 : l0.length ≤ maxLen) (hw0 : ∀ x ∈ l0, (Lit.int .i64 x).wf = true)
    : Ev (fun k => laws_FnExactValidLegs.f k l0) true := by
  unfold laws_FnExactValidLegs.f
  by_cases hi0 : (l0.length : Int) > 1048576
  · exact Ev.pos hi0 (Ev.now _)
  refine Ev.neg hi0 ?_
  have hl0 : l0.length ≤ 1048576 := by omega
  have e0 := toInt64S_ev l0 hl0
  have q0 := eqInt64S_ev l0 hl0
  obtain ⟨r, hs, hi⟩ := ValidLegs_both l0 hl0
  refine Ev.bind e0 ?_
  refine Ev.bind hs ?_
  refine Ev.bind e0 ?_
  refine Ev.bind hi ?_
  refine Ev.neg (by simp) ?_
  refine Ev.bind e0 ?_
  refine Ev.bind q0 ?_
  refine Ev.pos rfl ?_
  exact Ev.now _
end Go.Proofs.Ythfinhdmdfekcaa.Q
