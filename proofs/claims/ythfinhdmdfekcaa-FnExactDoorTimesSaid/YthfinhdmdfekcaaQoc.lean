/- Orders of parties: the code of an order. -/
import Derived.Test.YthfinhdmdfekcaaPAx23
import Derived.Test.YthfinhdmdfekcaaQo
import Derived.Test.YthfinhdmdfekcaaQpv
namespace Go.Proofs.Ythfinhdmdfekcaa.Q
open Go.RowKit Go.Proofs.YthfinhdmdfekcaaW.PrintWords Go.Proofs.YthfinhdmdfekcaaW.PrintLast Go.Proofs.Ythfinhdmdfekcaa.PA
set_option linter.unusedVariables false
set_option linter.unusedSimpArgs false

def codeO (l0 : List S67) (l1 : List Int) : Int := if okParties l0 = true then (if okOrder l0.length l1 = true then 0 else 4) else 1
theorem codeO_zero {l0 : List S67} {l1 : List Int} (h : codeO l0 l1 = 0) : l0.length ≤ 6 ∧ okOrder l0.length l1 = true := by
  unfold codeO at h
  split at h
  · rename_i h1
    split at h
    · rename_i h2
      exact ⟨okParties_len h1, h2⟩
    · simp at h
  · simp at h
theorem Ordered_ev (l0 : List S67) (l1 : List Int) (h0 : l0.length ≤ 1048576) (h1 : l1.length ≤ 1048576) : Ev (fun k => spec_l07Ordered.f k l0 l1) (codeO l0 l1) := by
  unfold spec_l07Ordered.f codeO
  refine Ev.bind (l07Parties_ev l0 (by omega)) ?_
  by_cases hp : okParties l0 = true
  · refine Ev.pos hp ?_
    rw [if_pos hp]
    refine Ev.bind (l07Order_ev l0.length l1 (by have := okParties_len hp; omega) (by omega)) ?_
    by_cases ho : okOrder l0.length l1 = true
    · rw [if_pos ho, if_pos ho]; exact Ev.now _
    · rw [if_neg ho, if_neg ho]; exact Ev.now _
  · rw [if_neg hp]
    exact Ev.neg hp (Ev.now _)
theorem orderCode_ev (l0 : List S67) (l1 : List Int) (h0 : l0.length ≤ 1048576) (h1 : l1.length ≤ 1048576) : Ev (fun k => impl_orderCode.f k l0 l1) (codeO l0 l1) := by
  unfold impl_orderCode.f codeO
  refine Ev.bind (Ev.const (ValidParties_f l0)) ?_
  by_cases hp : okParties l0 = true
  · refine Ev.pos hp ?_
    rw [if_pos hp]
    refine Ev.bind (isOrder_ev l0.length l1 (by have := okParties_len hp; omega) (by omega)) ?_
    refine Ev.bind (Ev.const (show impl_unless.f (okOrder l0.length l1) 4 = some (if okOrder l0.length l1 = true then 0 else 4) from ?_)) (Ev.now _)
    unfold impl_unless.f
    split <;> rfl
  · rw [if_neg hp]
    exact Ev.neg hp (Ev.now _)

end Go.Proofs.Ythfinhdmdfekcaa.Q
