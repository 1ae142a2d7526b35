/- The times at a door. -/
import Derived.Test.YthfinhdmdfekcaaPAx22
import Derived.Test.YthfinhdmdfekcaaQk
namespace Go.Proofs.Ythfinhdmdfekcaa.Q
open Go.RowKit Go.Proofs.YthfinhdmdfekcaaW.PrintWords Go.Proofs.YthfinhdmdfekcaaW.PrintLast Go.Proofs.Ythfinhdmdfekcaa.PA
set_option linter.unusedVariables false
set_option linter.unusedSimpArgs false

theorem Max_mx (a b : Int) : spec_l00Max.f a b = some (mx a b) := by
  unfold spec_l00Max.f mx
  split <;> split <;> first | rfl | omega | (congr 1; omega)
theorem times_both (l0 : List S67) (l1 : List Int) (hl : l0.length ≤ 1048576) (hl1 : l1.length ≤ 1048576) (hin : ∀ x ∈ l1, 0 ≤ x ∧ x < l0.length) : ∃ ts : List Int, ts.length = l0.length ∧ Ev (fun k => spec_l07Times.f k l0 l1) ts ∧ Ev (fun k => impl_doorTimes.f k l0 l1) ts := by
  unfold spec_l07Times.f impl_doorTimes.f
  have key : ∀ (m i : Nat) (x : List Int) (f : Int), i + m = l1.length → x.length = l0.length → ∃ ts : List Int, ts.length = l0.length ∧ Ev (fun k => spec_l07Times.l0 k l0 l1 x f (i : Int)) ts ∧ Ev (fun k => impl_doorTimes.l0 k l0 x f l1 (l1.length : Int) (i : Int)) ts := by
    intro m
    induction m with
    | zero =>
      intro i x f hi hx
      obtain rfl : i = l1.length := by omega
      refine ⟨x, hx, Ev.round (Ev.now _) fun k => ?_, Ev.round (Ev.now _) fun k => ?_⟩
      · simp only [spec_l07Times.l0]; rw [if_neg (by omega)]
      · simp only [impl_doorTimes.l0]; rw [if_neg (by omega)]
    | succ m ih =>
      intro i x f hi hx
      obtain ⟨j0, j1⟩ := hin _ (getD_mem l1 i 0 (by omega))
      obtain ⟨ts, h0, h1, h2⟩ := ih (i + 1) (x.set (l1.getD i 0).toNat (mx f (wrap64 (rd_T67 l0 (l1.getD i 0)).f0))) (wrap64 (mx f (wrap64 (rd_T67 l0 (l1.getD i 0)).f0) + wrap64 (rd_T67 l0 (l1.getD i 0)).f1)) (by omega) (by simpa using hx)
      refine ⟨ts, h0, Ev.round h1 fun k => ?_, Ev.round h2 fun k => ?_⟩
      · simp only [spec_l07Times.l0, rd_nat, Max_mx, Option.bind_some]
        rw [if_pos (by omega), if_pos (by omega), if_pos j0, if_pos j1, if_pos (by omega), wnat i l1.length (by omega) (by omega)]
      · simp only [impl_doorTimes.l0, rd_nat, Option.bind_some]
        rw [if_pos (by omega), if_pos (by omega), if_pos (by omega), if_pos j0, if_pos j1, if_pos (by omega), rd_set _ _ _ j0 (by omega), wnat i l1.length (by omega) (by omega)]
  obtain ⟨ts, h0, h1, h2⟩ := key l1.length 0 (List.replicate ((l0.length : Int)).toNat 0) 0 (by omega) (by simp)
  exact ⟨ts, h0, Ev.pos (by omega) (Ev.pos (by omega) h1), Ev.pos (by omega) (Ev.pos (by omega) h2)⟩

end Go.Proofs.Ythfinhdmdfekcaa.Q
