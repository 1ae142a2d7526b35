/- What the tests of guides come to. -/
import Derived.Test.YthfinhdmdfekcaaPAx12
import Derived.Test.YthfinhdmdfekcaaPAx2
import Derived.Test.YthfinhdmdfekcaaQk
namespace Go.Proofs.Ythfinhdmdfekcaa.Q
open Go.RowKit Go.Proofs.YthfinhdmdfekcaaW.PrintWords Go.Proofs.YthfinhdmdfekcaaW.PrintLast Go.Proofs.Ythfinhdmdfekcaa.PA
set_option linter.unusedVariables false
set_option linter.unusedSimpArgs false

theorem In_g (a lo hi : Int) : spec_l00In.f a lo hi = some (inB a lo hi) := In_c a lo hi
def okGuides (l : List S75) : Bool := inB (l.length : Int) 1 5 && l.all impl_ValidGuides.ok
theorem rd_G_nat (xs : List S75) (i : Nat) : rd_T75 xs (i : Int) = xs.getD i z75 := by simp [rd_T75]
theorem l07Guides_ev (l : List S75) (h : l.length ≤ 9223372036854775806) : Ev (fun k => spec_l07Guides.f k l) (okGuides l) := by
  unfold spec_l07Guides.f okGuides
  rw [Bool.and_comm]
  refine Ev.all_or (fun k i => spec_l07Guides.l0 k l i) impl_ValidGuides.ok z75 _ l (fun i hi ho r hr => ?_) (fun i hi ho => ?_) ?_
  · simp only [impl_ValidGuides.ok, Bool.and_eq_true] at ho
    refine Ev.round hr fun k => ?_
    simp only [spec_l07Guides.l0, In_g, Option.bind_some, rd_G_nat]
    rw [if_pos (by omega), if_pos (by omega), if_pos ho.1.1, if_pos ho.1.2, if_pos ho.2, wnat i l.length hi (by omega)]
  · simp only [impl_ValidGuides.ok, Bool.and_eq_false_iff] at ho
    refine Ev.round (Ev.now false) fun k => ?_
    simp only [spec_l07Guides.l0, In_g, Option.bind_some, rd_G_nat]
    rw [if_pos (by omega), if_pos (by omega)]
    rcases ho with (ho | ho) | ho
    · rw [if_neg (by rw [ho]; simp)]
    · rw [if_neg (c := inB (wrap64 (l.getD i z75).f1) 0 8 = true) (by rw [ho]; simp)]
      split <;> rfl
    · rw [if_neg (c := inB (wrap64 (l.getD i z75).f2) 1 20 = true) (by rw [ho]; simp)]
      split
      · split <;> rfl
      · rfl
  · refine Ev.round (Ev.now _) fun k => ?_
    simp only [spec_l07Guides.l0, In_g, Option.bind_some]
    rw [if_neg (by omega)]
theorem ValidGuides_f (l : List S75) : impl_ValidGuides.f l = some (okGuides l) := rfl
theorem okGuides_len {l : List S75} (h : okGuides l = true) : 1 ≤ l.length ∧ l.length ≤ 5 := by
  simp only [okGuides, inB, Bool.and_eq_true, decide_eq_true_eq] at h
  omega

end Go.Proofs.Ythfinhdmdfekcaa.Q
