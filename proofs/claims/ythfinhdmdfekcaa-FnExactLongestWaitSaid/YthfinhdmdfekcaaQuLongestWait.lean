/- LongestWait: both come to one. -/
import Derived.Test.YthfinhdmdfekcaaPAx29
import Derived.Test.YthfinhdmdfekcaaQoc
import Derived.Test.YthfinhdmdfekcaaQt
namespace Go.Proofs.Ythfinhdmdfekcaa.Q
open Go.RowKit Go.Proofs.YthfinhdmdfekcaaW.PrintWords Go.Proofs.YthfinhdmdfekcaaW.PrintLast Go.Proofs.Ythfinhdmdfekcaa.PA
set_option linter.unusedVariables false
set_option linter.unusedSimpArgs false

theorem longest_loop (l0 : List S67) (ts : List Int) (hl : l0.length ≤ 1048576) (ht : ts.length = l0.length) : ∀ (m i : Nat) (a b : Int), i + m = l0.length → ∃ r, Ev (fun k => spec_LongestWait.l0 k l0 ts a b (i : Int)) r ∧ Ev (fun k => impl_LongestWait.l0 k l0 a b ts (ts.length : Int) (i : Int)) r := by
  intro m
  induction m with
  | zero =>
    intro i a b hi
    obtain rfl : i = l0.length := by omega
    refine ⟨(a, b, 0), Ev.round (Ev.now _) fun k => ?_, Ev.round (Ev.now _) fun k => ?_⟩
    · simp only [spec_LongestWait.l0]; rw [if_neg (by omega)]
    · simp only [impl_LongestWait.l0]; rw [if_neg (by omega)]
  | succ m ih =>
    intro i a b hi
    by_cases hc : (wrap64 ((rd ts (i : Int)) - (wrap64 ((rd_T67 l0 (i : Int)).f0)))) > b
    · obtain ⟨r, h1, h2⟩ := ih (i + 1) (i : Int) (wrap64 ((rd ts (i : Int)) - (wrap64 ((rd_T67 l0 (i : Int)).f0)))) (by omega)
      refine ⟨r, Ev.round h1 fun k => ?_, Ev.round h2 fun k => ?_⟩
      · simp only [spec_LongestWait.l0]
        rw [if_pos (by omega), if_pos (by omega), if_pos (by omega), if_pos hc, wnat i l0.length (by omega) (by omega)]
      · simp only [impl_LongestWait.l0]
        rw [if_pos (by omega), if_pos (by omega), if_pos (by omega), if_pos (by omega), if_pos hc, wnat i l0.length (by omega) (by omega)]
    · obtain ⟨r, h1, h2⟩ := ih (i + 1) a b (by omega)
      refine ⟨r, Ev.round h1 fun k => ?_, Ev.round h2 fun k => ?_⟩
      · simp only [spec_LongestWait.l0]
        rw [if_pos (by omega), if_pos (by omega), if_pos (by omega), if_neg hc, wnat i l0.length (by omega) (by omega)]
      · simp only [impl_LongestWait.l0]
        rw [if_pos (by omega), if_pos (by omega), if_pos (by omega), if_pos (by omega), if_neg hc, wnat i l0.length (by omega) (by omega)]
theorem LongestWait_both (l0 : List S67) (l1 : List Int) (h0 : l0.length ≤ 1048576) (h1 : l1.length ≤ 1048576) : ∃ r, Ev (fun k => spec_LongestWait.f k l0 l1) r ∧ Ev (fun k => impl_LongestWait.f k l0 l1) r := by
  unfold spec_LongestWait.f impl_LongestWait.f
  by_cases hc : codeO l0 l1 = 0
  · by_cases hn : (l0.length : Int) = 0
    · refine ⟨(0, 0, 6), Ev.bind (Ordered_ev l0 l1 h0 h1) (Ev.pos hc (Ev.succ ?_)), Ev.bind (orderCode_ev l0 l1 h0 h1) (Ev.pos hc (Ev.pos hn (Ev.now _)))⟩
      simp only [spec_LongestWait.j0]
      refine Ev.pos (by simp [hn]) (Ev.succ ?_)
      simp only [spec_LongestWait.j1]
      exact Ev.neg (by decide) (Ev.now _)
    · obtain ⟨ts, ht, hs, hi⟩ := times_both l0 l1 h0 h1 (okOrder_in (codeO_zero hc).2).2
      obtain ⟨r, g1, g2⟩ := longest_loop l0 ts h0 ht l0.length 0 0 (-1) (by omega)
      refine ⟨r, Ev.bind (Ordered_ev l0 l1 h0 h1) (Ev.pos hc (Ev.succ ?_)), Ev.bind (orderCode_ev l0 l1 h0 h1) (Ev.pos hc (Ev.neg hn (Ev.bind hi g2)))⟩
      simp only [spec_LongestWait.j0]
      refine Ev.neg (by simpa using hn) (Ev.succ ?_)
      simp only [spec_LongestWait.j1]
      exact Ev.pos hc (Ev.bind hs g1)
  · refine ⟨(0, 0, codeO l0 l1), Ev.bind (Ordered_ev l0 l1 h0 h1) (Ev.neg hc (Ev.succ ?_)), Ev.bind (orderCode_ev l0 l1 h0 h1) (Ev.neg hc (Ev.now _))⟩
    simp only [spec_LongestWait.j0]
    refine Ev.neg (by simp) (Ev.succ ?_)
    simp only [spec_LongestWait.j1]
    exact Ev.neg hc (Ev.now _)

end Go.Proofs.Ythfinhdmdfekcaa.Q
