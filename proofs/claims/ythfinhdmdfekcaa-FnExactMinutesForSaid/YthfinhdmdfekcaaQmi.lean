/- The minutes of a plan. -/
import Derived.Test.YthfinhdmdfekcaaPAx26
import Derived.Test.YthfinhdmdfekcaaQk
namespace Go.Proofs.Ythfinhdmdfekcaa.Q
open Go.RowKit Go.Proofs.YthfinhdmdfekcaaW.PrintWords Go.Proofs.YthfinhdmdfekcaaW.PrintLast Go.Proofs.Ythfinhdmdfekcaa.PA
set_option linter.unusedVariables false
set_option linter.unusedSimpArgs false

theorem minutes_all (l0 : List S75) (l1 l2 : List Int) (h2 : l2.length ≤ l1.length) (hl : l1.length ≤ 1048576) (hin : ∀ x ∈ l2, 0 ≤ x ∧ x < l0.length) : ∃ r, Ev (fun k => spec_l07Minutes.f k l0 l1 l2) r ∧ Ev (fun k => impl_minutes.f k l0 l1 l2) r ∧ (l1.length ≤ 8 → (∀ x ∈ l1, 0 ≤ x ∧ x ≤ 20) → (∀ i : Int, 0 ≤ i → i < l0.length → 0 ≤ wrap64 (rd_T75 l0 i).f2 ∧ wrap64 (rd_T75 l0 i).f2 ≤ 20) → 0 ≤ r ∧ r ≤ 3200) := by
  unfold spec_l07Minutes.f impl_minutes.f
  have key : ∀ (m i : Nat) (s : Int), i + m = l2.length → ∃ r, Ev (fun k => spec_l07Minutes.l0 k l0 l1 l2 s (i : Int)) r ∧ Ev (fun k => impl_minutes.l0 k l0 l1 s l2 (l2.length : Int) (i : Int)) r ∧ ((∀ x ∈ l1, 0 ≤ x ∧ x ≤ 20) → (∀ i : Int, 0 ≤ i → i < l0.length → 0 ≤ wrap64 (rd_T75 l0 i).f2 ∧ wrap64 (rd_T75 l0 i).f2 ≤ 20) → 0 ≤ s → s ≤ 400 * (i : Int) → 0 ≤ r ∧ r ≤ 400 * (l2.length : Int)) := by
    intro m
    induction m with
    | zero =>
      intro i s hi
      obtain rfl : i = l2.length := by omega
      refine ⟨s, Ev.round (Ev.now _) fun k => ?_, Ev.round (Ev.now _) fun k => ?_, fun _ _ h0 h1 => ⟨h0, h1⟩⟩
      · simp only [spec_l07Minutes.l0]; rw [if_neg (by omega)]
      · simp only [impl_minutes.l0]; rw [if_neg (by omega)]
    | succ m ih =>
      intro i s hi
      obtain ⟨j0, j1⟩ := hin _ (getD_mem l2 i 0 (by omega))
      obtain ⟨r, g1, g2, g3⟩ := ih (i + 1) (wrap64 (s + (wrap64 (l1.getD i 0 * (wrap64 ((rd_T75 l0 (l2.getD i 0)).f2)))))) (by omega)
      refine ⟨r, Ev.round g1 fun k => ?_, Ev.round g2 fun k => ?_, fun a1 a2 s0 s1 => ?_⟩
      · simp only [spec_l07Minutes.l0, rd_nat]
        rw [if_pos (by omega), if_pos (by omega), if_pos (by omega), if_pos j0, if_pos j1, wnat i l2.length (by omega) (by omega)]
      · simp only [impl_minutes.l0, rd_nat]
        rw [if_pos (by omega), if_pos (by omega), if_pos (by omega), if_pos (by omega), if_pos j0, if_pos j1, wnat i l2.length (by omega) (by omega)]
      · obtain ⟨b0, b1⟩ := a1 _ (getD_mem l1 i 0 (by omega))
        obtain ⟨c0, c1⟩ := a2 _ j0 j1
        have p0 : 0 ≤ l1.getD i 0 * wrap64 (rd_T75 l0 (l2.getD i 0)).f2 := Int.mul_nonneg b0 c0
        have p1 : l1.getD i 0 * wrap64 (rd_T75 l0 (l2.getD i 0)).f2 ≤ 20 * 20 := Int.mul_le_mul b1 c1 c0 (by omega)
        have e1 : wrap64 (l1.getD i 0 * wrap64 (rd_T75 l0 (l2.getD i 0)).f2) = l1.getD i 0 * wrap64 (rd_T75 l0 (l2.getD i 0)).f2 := wint _ (by omega) (by omega)
        have e2 : wrap64 (s + wrap64 (l1.getD i 0 * wrap64 (rd_T75 l0 (l2.getD i 0)).f2)) = s + l1.getD i 0 * wrap64 (rd_T75 l0 (l2.getD i 0)).f2 := by rw [e1]; exact wint _ (by omega) (by omega)
        rw [e2] at g3
        exact g3 a1 a2 (by omega) (by omega)
  obtain ⟨r, g1, g2, g3⟩ := key l2.length 0 0 (by omega)
  refine ⟨r, g1, g2, fun h8 a1 a2 => ?_⟩
  have := g3 a1 a2 (by omega) (by omega)
  omega

end Go.Proofs.Ythfinhdmdfekcaa.Q
