/- The statement FnExactMinutesFor: its plain law. -/
import Derived.Test.YthfinhdmdfekcaaPAx28
import Derived.Test.YthfinhdmdfekcaaQi
import Derived.Test.YthfinhdmdfekcaaQg
import Derived.Test.YthfinhdmdfekcaaQuMinutesFor
namespace Go.Proofs.Ythfinhdmdfekcaa.Q
open Go.RowKit Go.Proofs.YthfinhdmdfekcaaW.PrintWords Go.Proofs.YthfinhdmdfekcaaW.PrintLast Go.Proofs.Ythfinhdmdfekcaa.PA
set_option linter.unusedVariables false
set_option linter.unusedSimpArgs false
theorem FnExactMinutesFor
    (l0 : List S77)
    (l1 : List Int)
    (l2 : List Int)
    (a3 : Int)
    (a4 : Int)
    (hm0 : l0.length ≤ maxLen) (hw0 : ∀ x ∈ l0, (Lit.int .i8 x.f0).wf = true ∧ (Lit.int .i8 x.f1).wf = true ∧ (Lit.int .i8 x.f2).wf = true)
    (hm1 : l1.length ≤ maxLen) (hw1 : ∀ x ∈ l1, (Lit.int .i64 x).wf = true)
    (hm2 : l2.length ≤ maxLen) (hw2 : ∀ x ∈ l2, (Lit.int .i64 x).wf = true)
    (hw3 : (Lit.int .i64 a3).wf = true)
    (hw4 : (Lit.int .i64 a4).wf = true)
    : Ev (fun k => laws_FnExactMinutesFor.f k l0 l1 l2 a3 a4) true := by
  unfold laws_FnExactMinutesFor.f
  by_cases hi1 : (l1.length : Int) > 1048576
  · exact Ev.pos hi1 (Ev.now _)
  refine Ev.neg hi1 ?_
  have hl1 : l1.length ≤ 1048576 := by omega
  by_cases hi2 : (l2.length : Int) > 1048576
  · exact Ev.pos hi2 (Ev.now _)
  refine Ev.neg hi2 ?_
  have hl2 : l2.length ≤ 1048576 := by omega
  by_cases hs0 : l0.length ≤ 1048576
  rotate_left
  · exact Ev.bind (Ev.const (szGuideS_big l0 (by omega) hm0)) (Ev.pos (by decide) (Ev.now _))
  refine Ev.bind (Ev.const (szGuideS_small l0 hs0)) (Ev.neg (by omega) ?_)
  have e0 := toGuideS_ev l0 hs0
  have q0 := eqGuideS_ev (l0.map cGuide) (by simpa using hs0)
  have e1 := toInt64S_ev l1 hl1
  have q1 := eqInt64S_ev l1 hl1
  have e2 := toInt64S_ev l2 hl2
  have q2 := eqInt64S_ev l2 hl2
  obtain ⟨r, hs, hi⟩ := MinutesFor_both (l0.map cGuide) l1 l2 a3 a4 (by simpa using hs0) hl1 hl2
  refine Ev.bind e0 ?_
  first | refine Ev.bind e1 ?_ | refine Ev.bind e2 ?_
  first | refine Ev.bind e1 ?_ | refine Ev.bind e2 ?_
  refine Ev.bind hs ?_
  refine Ev.bind e0 ?_
  first | refine Ev.bind e1 ?_ | refine Ev.bind e2 ?_
  first | refine Ev.bind e1 ?_ | refine Ev.bind e2 ?_
  refine Ev.bind hi ?_
  refine Ev.pos rfl ?_
  refine Ev.succ ?_
  simp only [laws_FnExactMinutesFor.j0]
  refine Ev.neg (by simp) ?_
  refine Ev.bind e0 ?_
  refine Ev.bind q0 ?_
  refine Ev.pos rfl ?_
  first | refine Ev.bind e1 ?_ | refine Ev.bind e2 ?_
  first | refine Ev.bind q1 ?_ | refine Ev.bind q2 ?_
  refine Ev.pos rfl ?_
  first | refine Ev.bind e1 ?_ | refine Ev.bind e2 ?_
  first | refine Ev.bind q1 ?_ | refine Ev.bind q2 ?_
  refine Ev.pos rfl ?_
  exact Ev.now _
end Go.Proofs.Ythfinhdmdfekcaa.Q
