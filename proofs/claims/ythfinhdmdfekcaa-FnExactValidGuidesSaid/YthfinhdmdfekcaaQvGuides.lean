/- The statement FnExactValidGuides: its plain law. -/
import Derived.Test.YthfinhdmdfekcaaPAx14
import Derived.Test.YthfinhdmdfekcaaQg
import Derived.Test.YthfinhdmdfekcaaQuGuides
namespace Go.Proofs.Ythfinhdmdfekcaa.Q
open Go.RowKit Go.Proofs.YthfinhdmdfekcaaW.PrintWords Go.Proofs.YthfinhdmdfekcaaW.PrintLast Go.Proofs.Ythfinhdmdfekcaa.PA
set_option linter.unusedVariables false
set_option linter.unusedSimpArgs false
theorem FnExactValidGuides
    (l0 : List S77) (hm0 : l0.length ≤ maxLen) (hw0 : ∀ x ∈ l0, (Lit.int .i8 x.f0).wf = true ∧ (Lit.int .i8 x.f1).wf = true ∧ (Lit.int .i8 x.f2).wf = true)
    : Ev (fun k => laws_FnExactValidGuides.f k l0) true := by
  unfold laws_FnExactValidGuides.f
  by_cases hs0 : l0.length ≤ 1048576
  rotate_left
  · exact Ev.bind (Ev.const (szGuideS_big l0 (by omega) hm0)) (Ev.pos (by decide) (Ev.now _))
  refine Ev.bind (Ev.const (szGuideS_small l0 hs0)) (Ev.neg (by omega) ?_)
  have e0 := toGuideS_ev l0 hs0
  have q0 := eqGuideS_ev (l0.map cGuide) (by simpa using hs0)
  obtain ⟨r, hs, hi⟩ := ValidGuides_both (l0.map cGuide) (by simpa using hs0)
  refine Ev.bind e0 ?_
  refine Ev.bind hs ?_
  refine Ev.bind e0 ?_
  refine Ev.bind hi ?_
  refine Ev.neg (by simp) ?_
  refine Ev.bind e0 ?_
  refine Ev.bind q0 ?_
  refine Ev.pos rfl ?_
  exact Ev.now _
end Go.Proofs.Ythfinhdmdfekcaa.Q
