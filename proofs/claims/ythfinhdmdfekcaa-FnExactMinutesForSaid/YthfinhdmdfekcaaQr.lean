/- Whether a plan of leaders is right. -/
import Derived.Test.YthfinhdmdfekcaaPAx12
import Derived.Test.YthfinhdmdfekcaaPAx17
import Derived.Test.YthfinhdmdfekcaaPAx4
import Derived.Test.YthfinhdmdfekcaaQm
namespace Go.Proofs.Ythfinhdmdfekcaa.Q
open Go.RowKit Go.Proofs.YthfinhdmdfekcaaW.PrintWords Go.Proofs.YthfinhdmdfekcaaW.PrintLast Go.Proofs.Ythfinhdmdfekcaa.PA
set_option linter.unusedVariables false
set_option linter.unusedSimpArgs false

def rightV (l0 : List S75) (l1 l2 : List Int) : Bool := decide (l2.length = l1.length) && (List.range l2.length).all fun i => inC (l2.getD i 0) 0 ((l0.length : Int) - 1) && mayV l0 l1 (l2.take i) (l2.getD i 0)
theorem within_c (a lo hi : Int) : impl_within.f a lo hi = some (inC a lo hi) := by
  unfold impl_within.f inC
  split
  · rename_i h; simp [h]
  · rename_i h; simp [h]
theorem inC_iff (a lo hi : Int) : inC a lo hi = true ↔ lo ≤ a ∧ a ≤ hi := by simp [inC]
theorem rightV_in {l0 : List S75} {l1 l2 : List Int} (h : rightV l0 l1 l2 = true) : l2.length = l1.length ∧ ∀ x ∈ l2, 0 ≤ x ∧ x < l0.length := by
  simp only [rightV, Bool.and_eq_true, decide_eq_true_eq, List.all_eq_true, List.mem_range, inC_iff] at h
  refine ⟨h.1, fun x hx => ?_⟩
  obtain ⟨i, hi, rfl⟩ := List.mem_iff_getElem.1 hx
  have := (h.2 i hi).1
  rw [List.getD_eq_getElem?_getD, List.getElem?_eq_getElem hi] at this
  simp only [Option.getD_some] at this
  omega
theorem Right_ev (l0 : List S75) (l1 l2 : List Int) (hl0 : l0.length ≤ 1048576) (hl1 : l1.length ≤ 1048576) : Ev (fun k => spec_l07Right.f k l0 l1 l2) (rightV l0 l1 l2) := by
  unfold spec_l07Right.f rightV
  by_cases hl : l2.length = l1.length
  · rw [decide_eq_true hl, Bool.true_and]
    refine Ev.pos (by omega) (Ev.eq (Ev.all_upto (fun k i => spec_l07Right.l0 k l0 l1 l2 i) (fun i => inC (l2.getD i 0) 0 ((l0.length : Int) - 1) && mayV l0 l1 (l2.take i) (l2.getD i 0)) true l2.length (fun i hi ho r hr => ?_) (fun i hi ho => ?_) ?_) (by simp))
    · simp only [Bool.and_eq_true] at ho
      have hin := (inC_iff _ _ _).1 ho.1
      have hm := May_ev l0 l1 (l2.take i) (l2.getD i 0) (by rw [List.length_take]; omega) hl1 hin.1 (by omega)
      rw [ho.2] at hm
      have hx : Ev (fun k => (spec_l07May.f k l0 l1 (l2.take i) (l2.getD i 0)).bind fun t => if t = true then spec_l07Right.l0 k l0 l1 l2 ((i + 1 : Nat) : Int) else some false) r := Ev.bind hm (Ev.pos rfl hr)
      refine Ev.round hx fun k => ?_
      simp only [spec_l07Right.l0, In_c, Option.bind_some, rd_nat]
      rw [wint ((l0.length : Int) - 1) (by omega) (by omega), if_pos (by omega), if_pos (by omega), if_pos ho.1, if_pos (by omega), wnat i l2.length hi (by omega)]
      rfl
    · by_cases hin : inC (l2.getD i 0) 0 ((l0.length : Int) - 1) = true
      · have hin' := (inC_iff _ _ _).1 hin
        have hm := May_ev l0 l1 (l2.take i) (l2.getD i 0) (by rw [List.length_take]; omega) hl1 hin'.1 (by omega)
        rw [hin, Bool.true_and] at ho
        rw [ho] at hm
        have hx : Ev (fun k => (spec_l07May.f k l0 l1 (l2.take i) (l2.getD i 0)).bind fun t => if t = true then spec_l07Right.l0 k l0 l1 l2 ((i + 1 : Nat) : Int) else some false) false := Ev.bind hm (Ev.neg (by simp) (Ev.now _))
        refine Ev.round hx fun k => ?_
        simp only [spec_l07Right.l0, In_c, Option.bind_some, rd_nat]
        rw [wint ((l0.length : Int) - 1) (by omega) (by omega), if_pos (by omega), if_pos (by omega), if_pos hin, if_pos (by omega), wnat i l2.length hi (by omega)]
        rfl
      · refine Ev.round (Ev.now false) fun k => ?_
        simp only [spec_l07Right.l0, In_c, Option.bind_some, rd_nat]
        rw [wint ((l0.length : Int) - 1) (by omega) (by omega), if_pos (by omega), if_pos (by omega), if_neg hin]
    · refine Ev.round (Ev.now _) fun k => ?_
      simp only [spec_l07Right.l0]
      rw [if_neg (by omega)]
  · rw [decide_eq_false hl, Bool.false_and]
    exact Ev.neg (by omega) (Ev.now _)
theorem sizeG_f (l0 : List S75) : impl_Guide_63.f l0 = some (l0.length : Int) := rfl
theorem isRight_ev (l0 : List S75) (l1 l2 : List Int) (hl0 : l0.length ≤ 1048576) (hl1 : l1.length ≤ 1048576) : Ev (fun k => impl_isRight.f k l0 l1 l2) (rightV l0 l1 l2) := by
  unfold impl_isRight.f rightV
  by_cases hl : l2.length = l1.length
  · rw [decide_eq_true hl, Bool.true_and]
    refine Ev.pos (by omega) (Ev.eq (Ev.all_upto (fun k i => impl_isRight.l0 k l0 l1 l2 l2 (l2.length : Int) i) (fun i => inC (l2.getD i 0) 0 ((l0.length : Int) - 1) && mayV l0 l1 (l2.take i) (l2.getD i 0)) true l2.length (fun i hi ho r hr => ?_) (fun i hi ho => ?_) ?_) (by simp))
    · simp only [Bool.and_eq_true] at ho
      have hin := (inC_iff _ _ _).1 ho.1
      have hm := goesOn_ev l0 l1 (l2.take i) (l2.getD i 0) (by rw [List.length_take]; omega) hl1 hin.1 (by omega)
      rw [ho.2] at hm
      have hx : Ev (fun k => (impl_goesOn.f k l0 l1 (l2.take i) (l2.getD i 0)).bind fun t => if t = true then impl_isRight.l0 k l0 l1 l2 l2 (l2.length : Int) ((i + 1 : Nat) : Int) else some false) r := Ev.bind hm (Ev.pos rfl hr)
      refine Ev.round hx fun k => ?_
      simp only [impl_isRight.l0, sizeG_f, within_c, Option.bind_some, rd_nat]
      rw [wint ((l0.length : Int) - 1) (by omega) (by omega), if_pos (by omega), if_pos (by omega), if_pos (by omega), if_pos ho.1, if_pos (by omega), wnat i l2.length hi (by omega)]
      rfl
    · by_cases hin : inC (l2.getD i 0) 0 ((l0.length : Int) - 1) = true
      · have hin' := (inC_iff _ _ _).1 hin
        have hm := goesOn_ev l0 l1 (l2.take i) (l2.getD i 0) (by rw [List.length_take]; omega) hl1 hin'.1 (by omega)
        rw [hin, Bool.true_and] at ho
        rw [ho] at hm
        have hx : Ev (fun k => (impl_goesOn.f k l0 l1 (l2.take i) (l2.getD i 0)).bind fun t => if t = true then impl_isRight.l0 k l0 l1 l2 l2 (l2.length : Int) ((i + 1 : Nat) : Int) else some false) false := Ev.bind hm (Ev.neg (by simp) (Ev.now _))
        refine Ev.round hx fun k => ?_
        simp only [impl_isRight.l0, sizeG_f, within_c, Option.bind_some, rd_nat]
        rw [wint ((l0.length : Int) - 1) (by omega) (by omega), if_pos (by omega), if_pos (by omega), if_pos (by omega), if_pos hin, if_pos (by omega), wnat i l2.length hi (by omega)]
        rfl
      · refine Ev.round (Ev.now false) fun k => ?_
        simp only [impl_isRight.l0, sizeG_f, within_c, Option.bind_some, rd_nat]
        rw [wint ((l0.length : Int) - 1) (by omega) (by omega), if_pos (by omega), if_pos (by omega), if_pos (by omega), if_neg hin]
    · refine Ev.round (Ev.now _) fun k => ?_
      simp only [impl_isRight.l0]
      rw [if_neg (by omega)]
  · rw [decide_eq_false hl, Bool.false_and]
    exact Ev.neg (by omega) (Ev.now _)

end Go.Proofs.Ythfinhdmdfekcaa.Q
