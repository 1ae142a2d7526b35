/- CountLeaders: both come to one. -/
import Derived.Test.YthfinhdmdfekcaaPAx21
import Derived.Test.YthfinhdmdfekcaaQpl
import Derived.Test.YthfinhdmdfekcaaQld
namespace Go.Proofs.Ythfinhdmdfekcaa.Q
open Go.RowKit Go.Proofs.YthfinhdmdfekcaaW.PrintWords Go.Proofs.YthfinhdmdfekcaaW.PrintLast Go.Proofs.Ythfinhdmdfekcaa.PA
set_option linter.unusedVariables false
set_option linter.unusedSimpArgs false

theorem count_fold : ∀ (ps : List (List Int)) (n : Nat), n + ps.length ≤ 1000000 → ps.foldl (fun (s : Int) (_ : List Int) => wrap64 (s + 1)) (n : Int) = ((n + ps.length : Nat) : Int)
  | [], n, _ => by simp
  | p :: ps, n, h => by
    simp only [List.length_cons] at h
    simp only [List.foldl_cons, List.length_cons]
    rw [wnat n 1000001 (by omega) (by omega), count_fold ps (n + 1) (by omega)]
    omega
theorem CountLeaders_both (l0 : List S75) (l1 : List Int) (h0 : l0.length ≤ 1048576) (h1 : l1.length ≤ 1048576) : ∃ r, Ev (fun k => spec_CountLeaders.f k l0 l1) r ∧ Ev (fun k => impl_CountLeaders.f k l0 l1) r := by
  have hled := Led_ev l0 l1 h0 h1
  unfold spec_CountLeaders.f impl_CountLeaders.f
  cases hg : okGuides l0 with
  | false =>
    simp only [ledB, hg, Bool.false_and, Bool.false_eq_true, if_false] at hled
    exact ⟨(0, 1), Ev.bind hled (Ev.neg (by decide) (Ev.now _)), Ev.bind (Ev.const (ValidGuides_f l0)) (Ev.neg (by simp [hg]) (Ev.now _))⟩
  | true =>
    cases hl : okLegs l1 with
    | false =>
      simp only [ledB, hg, hl, Bool.and_false, Bool.false_eq_true, if_false] at hled
      exact ⟨(0, 1), Ev.bind hled (Ev.neg (by decide) (Ev.now _)), Ev.bind (Ev.const (ValidGuides_f l0)) (Ev.pos hg (Ev.bind (Ev.const (ValidLegs_f l1)) (Ev.neg (by simp [hl]) (Ev.now _))))⟩
    | true =>
      have hb := ledB_len (l0 := l0) (l1 := l1) (by simp [ledB, hg, hl])
      simp only [ledB, hg, hl, Bool.and_self, if_true] at hled
      have hp := Plans_ev l0 l1 (by omega) (by omega) l1.length [] (by simp)
      have hm := plansM_ev l0 l1 h1 (fun _ => countStep) (fun (s : Int) (_ : List Int) => wrap64 (s + 1)) (fun s p _ _ => Ev.now _) l1.length [] (0 : Int) (by simp) (by simp)
      have hlen := Nat.le_trans (plansL_len l0 l1 l1.length []) (Nat.le_trans (Nat.pow_le_pow_left (show l0.length ≤ 5 by omega) l1.length) (Nat.le_trans (Nat.pow_le_pow_right (by omega) (show l1.length ≤ 8 by omega)) (show 5 ^ 8 ≤ 390625 by decide)))
      have hf := count_fold (plansL l0 l1 l1.length []) 0 (by omega)
      rw [Nat.zero_add] at hf
      refine ⟨(((plansL l0 l1 l1.length []).length : Int), 0), Ev.bind hled (Ev.pos rfl (Ev.bind hp (Ev.now _))), Ev.bind (Ev.const (ValidGuides_f l0)) (Ev.pos hg (Ev.bind (Ev.const (ValidLegs_f l1)) (Ev.pos hl (Ev.bind hm ?_))))⟩
      exact Ev.eq (Ev.now _) (by rw [show ((plansL l0 l1 l1.length []).foldl (fun (s : Int) (_ : List Int) => wrap64 (s + 1)) 0) = ((plansL l0 l1 l1.length []).length : Int) from hf])

end Go.Proofs.Ythfinhdmdfekcaa.Q
