/- Whether guides and legs do. -/
import Derived.Test.YthfinhdmdfekcaaPAx15
import Derived.Test.YthfinhdmdfekcaaQgv
import Derived.Test.YthfinhdmdfekcaaQb
namespace Go.Proofs.Ythfinhdmdfekcaa.Q
open Go.RowKit Go.Proofs.YthfinhdmdfekcaaW.PrintWords Go.Proofs.YthfinhdmdfekcaaW.PrintLast Go.Proofs.Ythfinhdmdfekcaa.PA
set_option linter.unusedVariables false
set_option linter.unusedSimpArgs false

def ledB (l0 : List S75) (l1 : List Int) : Bool := okGuides l0 && okLegs l1
theorem Led_ev (l0 : List S75) (l1 : List Int) (h0 : l0.length ≤ 1048576) (h1 : l1.length ≤ 1048576) : Ev (fun k => spec_l07Led.f k l0 l1) (if ledB l0 l1 = true then 0 else 1) := by
  unfold spec_l07Led.f ledB
  refine Ev.bind (l07Guides_ev l0 (by omega)) ?_
  cases okGuides l0 with
  | false => simpa using Ev.now (1 : Int)
  | true =>
    refine Ev.pos rfl (Ev.bind (l07Legs_ev l1 (by omega)) ?_)
    cases okLegs l1 with
    | false => simpa using Ev.now (1 : Int)
    | true => simpa using Ev.now (0 : Int)
theorem okLegs_len {l : List Int} (h : okLegs l = true) : 1 ≤ l.length ∧ l.length ≤ 8 := by
  simp only [okLegs, inB, Bool.and_eq_true, decide_eq_true_eq] at h
  omega
theorem ledB_len {l0 : List S75} {l1 : List Int} (h : ledB l0 l1 = true) : 1 ≤ l0.length ∧ l0.length ≤ 5 ∧ 1 ≤ l1.length ∧ l1.length ≤ 8 := by
  simp only [ledB, Bool.and_eq_true] at h
  have a := okGuides_len h.1
  have b := okLegs_len h.2
  omega

end Go.Proofs.Ythfinhdmdfekcaa.Q
