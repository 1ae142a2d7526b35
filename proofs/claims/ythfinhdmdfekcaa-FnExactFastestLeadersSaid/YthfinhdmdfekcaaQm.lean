/- Whether a guide may lead a leg. -/
import Derived.Test.YthfinhdmdfekcaaPAx15
import Derived.Test.YthfinhdmdfekcaaPAx16
import Derived.Test.YthfinhdmdfekcaaQk
namespace Go.Proofs.Ythfinhdmdfekcaa.Q
open Go.RowKit Go.Proofs.YthfinhdmdfekcaaW.PrintWords Go.Proofs.YthfinhdmdfekcaaW.PrintLast Go.Proofs.Ythfinhdmdfekcaa.PA
set_option linter.unusedVariables false
set_option linter.unusedSimpArgs false

def mayG (l0 : List S75) (l1 l2 : List Int) (a : Int) (n : Nat) : Bool :=
  decide (l1.getD l2.length 0 ≤ wrap64 (rd_T75 l0 a).f0) && !(decide (0 < l2.length) && decide (rd l2 ((l2.length : Int) - 1) = a)) && decide ((n : Int) < wrap64 (rd_T75 l0 a).f1)
def mayV (l0 : List S75) (l1 l2 : List Int) (a : Int) : Bool := mayG l0 l1 l2 a (l2.count a)
theorem may_loop (l0 : List S75) (l2 : List Int) (a : Int) (h0 : 0 ≤ a) (h1 : a < l0.length) (h : l2.length ≤ 1048576) : ∀ (m i c : Nat), i + m = l2.length → c ≤ i → Ev (fun k => spec_l07May.l0 k l0 l2 a (l2.length : Int) (c : Int) (i : Int)) (decide (((c + (l2.drop i).count a : Nat) : Int) < wrap64 (rd_T75 l0 a).f1)) := by
  intro m
  induction m with
  | zero =>
    intro i c hi hc
    obtain rfl : i = l2.length := by omega
    refine Ev.eq (Ev.round (Ev.now (decide ((c : Int) < wrap64 (rd_T75 l0 a).f1))) fun k => ?_) (by simp)
    simp only [spec_l07May.l0]
    rw [if_neg (by omega), if_pos h0, if_pos h1]
  | succ m ih =>
    intro i c hi hc
    by_cases he : l2.getD i 0 = a
    · have hcnt : (l2.drop i).count a = (l2.drop (i + 1)).count a + 1 := by rw [drop_get l2 i 0 (by omega), he, List.count_cons_self]
      refine Ev.eq (Ev.round (ih (i + 1) (c + 1) (by omega) (by omega)) fun k => ?_) ?_
      · simp only [spec_l07May.l0, rd_nat]
        rw [if_pos (by omega), if_pos (by omega), if_pos (by omega), if_pos he, wnat c l2.length (by omega) (by omega), wnat i l2.length (by omega) (by omega)]
      · rw [hcnt, show c + 1 + (l2.drop (i + 1)).count a = c + ((l2.drop (i + 1)).count a + 1) by omega]
    · have hcnt : (l2.drop i).count a = (l2.drop (i + 1)).count a := by rw [drop_get l2 i 0 (by omega), List.count_cons_of_ne he]
      refine Ev.eq (Ev.round (ih (i + 1) c (by omega) (by omega)) fun k => ?_) ?_
      · simp only [spec_l07May.l0, rd_nat]
        rw [if_pos (by omega), if_pos (by omega), if_pos (by omega), if_neg he, wnat i l2.length (by omega) (by omega)]
      · rw [hcnt]
theorem May_ev (l0 : List S75) (l1 l2 : List Int) (a : Int) (h2 : l2.length < l1.length) (hl : l1.length ≤ 1048576) (h0 : 0 ≤ a) (h1 : a < l0.length) : Ev (fun k => spec_l07May.f k l0 l1 l2 a) (mayV l0 l1 l2 a) := by
  unfold spec_l07May.f mayV mayG
  have hloop := may_loop l0 l2 a h0 h1 (by omega) l2.length 0 0 (by omega) (by omega)
  have hj : Ev (fun k => spec_l07May.j0 k l0 l2 a (l2.length : Int) false) (decide ((l2.count a : Int) < wrap64 (rd_T75 l0 a).f1)) := by
    refine Ev.succ ?_
    simp only [spec_l07May.j0]
    refine Ev.neg (by simp) ?_
    simpa using hloop
  have ht : Ev (fun k => spec_l07May.j0 k l0 l2 a (l2.length : Int) true) false := by
    refine Ev.succ ?_
    simp only [spec_l07May.j0, if_true]
    exact Ev.now _
  refine Ev.pos (by omega) (Ev.pos (by omega) (Ev.pos h0 (Ev.pos h1 ?_)))
  rw [rd_nat]
  by_cases hw : l1.getD l2.length 0 > wrap64 (rd_T75 l0 a).f0
  · rw [decide_eq_false (show ¬ l1.getD l2.length 0 ≤ wrap64 (rd_T75 l0 a).f0 by omega)]
    exact Ev.eq (Ev.pos hw ht) (by simp)
  · rw [decide_eq_true (show l1.getD l2.length 0 ≤ wrap64 (rd_T75 l0 a).f0 by omega)]
    refine Ev.neg hw ?_
    by_cases hp : 0 < l2.length
    · rw [decide_eq_true hp]
      refine Ev.pos (by omega) (Ev.pos (by rw [wint _ (by omega) (by omega)]; omega) (Ev.pos (by rw [wint _ (by omega) (by omega)]; omega) ?_))
      rw [wint ((l2.length : Int) - 1) (by omega) (by omega)]
      by_cases he : rd l2 ((l2.length : Int) - 1) = a
      · rw [show (rd l2 ((l2.length : Int) - 1) == a) = true by simpa using he, decide_eq_true he]
        exact Ev.eq ht (by simp)
      · rw [show (rd l2 ((l2.length : Int) - 1) == a) = false by simpa using he, decide_eq_false he]
        exact Ev.eq hj (by simp)
    · rw [decide_eq_false hp]
      exact Ev.neg (by omega) (Ev.eq hj (by simp))
theorem bit_f (b : Bool) : impl_bit.f b = some (if b = true then 1 else 0) := by
  unfold impl_bit.f
  split <;> rfl
theorem goes_loop (l0 : List S75) (l1 l2 : List Int) (a : Int) (h2 : l2.length < l1.length) (hl : l1.length ≤ 1048576) (h0 : 0 ≤ a) (h1 : a < l0.length) : ∀ (m i c : Nat), i + m = l2.length → c ≤ i → Ev (fun k => impl_goesOn.l0 k l0 l1 l2 a (l2.length : Int) (((c + 1 : Nat) : Int)) l2 (l2.length : Int) (i : Int)) (mayG l0 l1 l2 a (c + (l2.drop i).count a)) := by
  intro m
  induction m with
  | zero =>
    intro i c hi hc
    obtain rfl : i = l2.length := by omega
    have hd : decide (((c + 1 : Nat) : Int) ≤ wrap64 (rd_T75 l0 a).f1) = decide ((c : Int) < wrap64 (rd_T75 l0 a).f1) := decide_eq_decide.2 (by omega)
    refine Ev.eq (r := mayG l0 l1 l2 a c) ?_ (by simp)
    refine Ev.succ ?_
    simp only [impl_goesOn.l0]
    refine Ev.neg (by omega) (Ev.pos (by omega) (Ev.pos (by omega) (Ev.pos h0 (Ev.pos h1 ?_))))
    rw [rd_nat, hd]
    unfold mayG
    by_cases hw : l1.getD l2.length 0 ≤ wrap64 (rd_T75 l0 a).f0
    · rw [decide_eq_true hw]
      refine Ev.pos hw ?_
      by_cases hp : 0 < l2.length
      · rw [decide_eq_true hp]
        refine Ev.neg (by omega) (Ev.pos (by rw [wint _ (by omega) (by omega)]; omega) (Ev.pos (by rw [wint _ (by omega) (by omega)]; omega) ?_))
        rw [wint ((l2.length : Int) - 1) (by omega) (by omega)]
        by_cases he : rd l2 ((l2.length : Int) - 1) = a
        · rw [decide_eq_true he]
          exact Ev.pos he (Ev.eq (Ev.now false) (by simp))
        · rw [decide_eq_false he]
          exact Ev.neg he (Ev.eq (Ev.now _) (by simp))
      · rw [decide_eq_false hp]
        exact Ev.pos (by omega) (Ev.eq (Ev.now _) (by simp))
    · rw [decide_eq_false hw]
      exact Ev.neg hw (Ev.eq (Ev.now false) (by simp))
  | succ m ih =>
    intro i c hi hc
    by_cases he : l2.getD i 0 = a
    · have hcnt : (l2.drop i).count a = (l2.drop (i + 1)).count a + 1 := by rw [drop_get l2 i 0 (by omega), he, List.count_cons_self]
      have hb : (l2.getD i 0 == a) = true := by simpa using he
      refine Ev.eq (Ev.round (ih (i + 1) (c + 1) (by omega) (by omega)) fun k => ?_) ?_
      · simp only [impl_goesOn.l0, rd_nat, hb, bit_f, if_true, Option.bind_some]
        rw [if_pos (by omega), if_pos (by omega), if_pos (by omega), wnat (c + 1) 1048578 (by omega) (by omega), wnat i l2.length (by omega) (by omega)]
      · rw [hcnt, show c + 1 + (l2.drop (i + 1)).count a = c + ((l2.drop (i + 1)).count a + 1) by omega]
    · have hcnt : (l2.drop i).count a = (l2.drop (i + 1)).count a := by rw [drop_get l2 i 0 (by omega), List.count_cons_of_ne he]
      have hb : (l2.getD i 0 == a) = false := by simpa using he
      refine Ev.eq (Ev.round (ih (i + 1) c (by omega) (by omega)) fun k => ?_) ?_
      · simp only [impl_goesOn.l0, rd_nat, hb, bit_f, Bool.false_eq_true, if_false, Option.bind_some, Int.add_zero]
        rw [if_pos (by omega), if_pos (by omega), if_pos (by omega), wint ((c + 1 : Nat) : Int) (by omega) (by omega), wnat i l2.length (by omega) (by omega)]
      · rw [hcnt]
theorem goesOn_ev (l0 : List S75) (l1 l2 : List Int) (a : Int) (h2 : l2.length < l1.length) (hl : l1.length ≤ 1048576) (h0 : 0 ≤ a) (h1 : a < l0.length) : Ev (fun k => impl_goesOn.f k l0 l1 l2 a) (mayV l0 l1 l2 a) := by
  unfold impl_goesOn.f mayV
  simpa using goes_loop l0 l1 l2 a h2 hl h0 h1 l2.length 0 0 (by omega) (by omega)

end Go.Proofs.Ythfinhdmdfekcaa.Q
