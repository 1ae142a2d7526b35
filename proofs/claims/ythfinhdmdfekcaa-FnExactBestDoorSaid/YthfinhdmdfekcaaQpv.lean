/- What the tests of parties come to. -/
import Derived.Test.YthfinhdmdfekcaaPAx2
import Derived.Test.YthfinhdmdfekcaaPAx9
import Derived.Test.YthfinhdmdfekcaaQk
namespace Go.Proofs.Ythfinhdmdfekcaa.Q
open Go.RowKit Go.Proofs.YthfinhdmdfekcaaW.PrintWords Go.Proofs.YthfinhdmdfekcaaW.PrintLast Go.Proofs.Ythfinhdmdfekcaa.PA
set_option linter.unusedVariables false
set_option linter.unusedSimpArgs false

theorem In_p (a lo hi : Int) : spec_l00In.f a lo hi = some (inB a lo hi) := In_c a lo hi
def okParties (l : List S67) : Bool := decide ((l.length : Int) ≤ 6) && l.all impl_ValidParties.ok
theorem rd_P_nat (xs : List S67) (i : Nat) : rd_T67 xs (i : Int) = xs.getD i z67 := by simp [rd_T67]
theorem l07Parties_ev (l : List S67) (h : l.length ≤ 9223372036854775806) : Ev (fun k => spec_l07Parties.f k l) (okParties l) := by
  unfold spec_l07Parties.f okParties
  rw [Bool.and_comm]
  refine Ev.all_or (fun k i => spec_l07Parties.l0 k l i) impl_ValidParties.ok z67 _ l (fun i hi ho r hr => ?_) (fun i hi ho => ?_) ?_
  · simp only [impl_ValidParties.ok, Bool.and_eq_true] at ho
    refine Ev.round hr fun k => ?_
    simp only [spec_l07Parties.l0, In_p, Option.bind_some, rd_P_nat]
    rw [if_pos (by omega), if_pos (by omega), if_pos ho.1, if_pos ho.2, wnat i l.length hi (by omega)]
  · simp only [impl_ValidParties.ok, Bool.and_eq_false_iff] at ho
    refine Ev.round (Ev.now false) fun k => ?_
    simp only [spec_l07Parties.l0, In_p, Option.bind_some, rd_P_nat]
    rw [if_pos (by omega), if_pos (by omega)]
    rcases ho with ho | ho
    · rw [if_neg (by rw [ho]; simp)]
    · rw [if_neg (c := inB (wrap64 (l.getD i z67).f1) 1 100 = true) (by rw [ho]; simp)]
      split <;> rfl
  · refine Ev.round (Ev.now _) fun k => ?_
    simp only [spec_l07Parties.l0]
    rw [if_neg (by omega)]
theorem ValidParties_f (l : List S67) : impl_ValidParties.f l = some (okParties l) := rfl
theorem okParties_len {l : List S67} (h : okParties l = true) : l.length ≤ 6 := by
  simp only [okParties, Bool.and_eq_true, decide_eq_true_eq] at h
  omega

end Go.Proofs.Ythfinhdmdfekcaa.Q
