/- The statement FnExactCountLeaders: its plain law. -/
import Derived.Test.YthfinhdmdfekcaaPAx21
import Derived.Test.YthfinhdmdfekcaaQi
import Derived.Test.YthfinhdmdfekcaaQg
import Derived.Test.YthfinhdmdfekcaaQuCountLeaders
namespace Go.Proofs.Ythfinhdmdfekcaa.Q
open Go.RowKit Go.Proofs.YthfinhdmdfekcaaW.PrintWords Go.Proofs.YthfinhdmdfekcaaW.PrintLast Go.Proofs.Ythfinhdmdfekcaa.PA
set_option linter.unusedVariables false
set_option linter.unusedSimpArgs false
theorem FnExactCountLeaders
    (l0 : List S77)
    (l1 : List Int)
    (hm0 : l0.length ≤ maxLen) (hw0 : ∀ x ∈ l0, (Lit.int .i8 x.f0).wf = true ∧ (Lit.int .i8 x.f1).wf = true ∧ (Lit.int .i8 x.f2).wf = true)
    (hm1 : l1.length ≤ maxLen) (hw1 : ∀ x ∈ l1, (Lit.int .i64 x).wf = true)
    : Ev (fun k => laws_FnExactCountLeaders.f k l0 l1) true := by
  unfold laws_FnExactCountLeaders.f
  by_cases hi1 : (l1.length : Int) > 1048576
  · exact Ev.pos hi1 (Ev.now _)
  refine Ev.neg hi1 ?_
  have hl1 : l1.length ≤ 1048576 := by omega
  by_cases hs0 : l0.length ≤ 1048576
  rotate_left
  · exact Ev.bind (Ev.const (szGuideS_big l0 (by omega) hm0)) (Ev.pos (by decide) (Ev.now _))
  refine Ev.bind (Ev.const (szGuideS_small l0 hs0)) (Ev.neg (by omega) ?_)
  have e0 := toGuideS_ev l0 hs0
  have q0 := eqGuideS_ev (l0.map cGuide) (by simpa using hs0)
  have e1 := toInt64S_ev l1 hl1
  have q1 := eqInt64S_ev l1 hl1
  obtain ⟨r, hs, hi⟩ := CountLeaders_both (l0.map cGuide) l1 (by simpa using hs0) hl1
  refine Ev.bind e0 ?_
  refine Ev.bind e1 ?_
  refine Ev.bind hs ?_
  refine Ev.bind e0 ?_
  refine Ev.bind e1 ?_
  refine Ev.bind hi ?_
  refine Ev.pos (by first | exact rfl | exact trivial) ?_
  refine Ev.succ ?_
  simp only [laws_FnExactCountLeaders.j0]
  refine Ev.neg (by simp) ?_
  refine Ev.bind e0 ?_
  refine Ev.bind q0 ?_
  refine Ev.pos (by first | exact rfl | exact trivial) ?_
  refine Ev.bind e1 ?_
  refine Ev.bind q1 ?_
  refine Ev.pos (by first | exact rfl | exact trivial) ?_
  exact Ev.now _
end Go.Proofs.Ythfinhdmdfekcaa.Q
