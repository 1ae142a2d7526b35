/- What marks on slices of whole numbers come to. -/
import Derived.Test.YthfinhdmdfekcaaPAx34
import Derived.Test.YthfinhdmdfekcaaQl
namespace Go.Proofs.Ythfinhdmdfekcaa.Q
open Go.RowKit Go.Proofs.YthfinhdmdfekcaaW.PrintWords Go.Proofs.YthfinhdmdfekcaaW.PrintLast Go.Proofs.Ythfinhdmdfekcaa.PA
set_option linter.unusedVariables false
set_option linter.unusedSimpArgs false
theorem markInt64S_ev (l : List Int) (a : Int) (h : l.length ≤ 1048576) (h0 : 0 ≤ a) (h1 : a ≤ 1000000000000) : Ev (fun k => laws_markInt64S.f k l a) (a + l.length, upFrom a l.length) := by
  unfold laws_markInt64S.f
  have key : ∀ (n i : Nat) (x : List Int), i + n = l.length → x.length = l.length → x.take i = upFrom a i → Ev (fun k => laws_markInt64S.l0 k x (a + i) (i : Int)) (a + l.length, upFrom a l.length) := by
    intro n
    induction n with
    | zero =>
      intro i x hi hl ht
      obtain rfl : i = l.length := by omega
      refine Ev.round (Ev.now _) fun k => ?_
      simp only [laws_markInt64S.l0]
      rw [if_neg (by omega), ← ht, List.take_of_length_le (by omega)]
    | succ n ih =>
      intro i x hi hl ht
      refine Ev.round (ih (i + 1) (x.set i (a + i)) (by omega) (by simpa using hl) (by rw [take_set _ _ _ (by omega), ht, upFrom_snoc])) fun k => ?_
      simp only [laws_markInt64S.l0]
      rw [if_pos (by omega), if_pos (by omega), wnat i l.length (by omega) (by omega), wint _ (by omega) (by omega)]
      simp [Int.add_assoc]
  simpa using key l.length 0 l (by omega) rfl (by simp [upFrom])

theorem heldInt64S_ev (a : Int) (n : Nat) (h : n ≤ 1048576) (h0 : 0 ≤ a) (h1 : a ≤ 1000000000000) : Ev (fun k => laws_heldInt64S.f k (upFrom a n) a) (a + n) := by
  unfold laws_heldInt64S.f
  have key : ∀ (m i : Nat), i + m = n → Ev (fun k => laws_heldInt64S.l0 k (upFrom a n) (a + i) (i : Int)) (a + n) := by
    intro m
    induction m with
    | zero =>
      intro i hi
      obtain rfl : i = n := by omega
      refine Ev.round (Ev.now _) fun k => ?_
      simp only [laws_heldInt64S.l0, upFrom_length]
      rw [if_neg (by omega)]
    | succ m ih =>
      intro i hi
      refine Ev.round (ih (i + 1) (by omega)) fun k => ?_
      simp only [laws_heldInt64S.l0, upFrom_length]
      rw [if_pos (by omega), if_pos (by omega), rd_nat, upFrom_get a n i (by omega), if_pos rfl, wnat i n (by omega) (by omega), wint _ (by omega) (by omega)]
      simp [Int.add_assoc]
  simpa using key n 0 (by omega)

end Go.Proofs.Ythfinhdmdfekcaa.Q
