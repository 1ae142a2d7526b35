/- MinutesFor: both come to one. -/
import Derived.Test.YthfinhdmdfekcaaPAx27
import Derived.Test.YthfinhdmdfekcaaPAx5
import Derived.Test.YthfinhdmdfekcaaQch
import Derived.Test.YthfinhdmdfekcaaQmi
namespace Go.Proofs.Ythfinhdmdfekcaa.Q
open Go.RowKit Go.Proofs.YthfinhdmdfekcaaW.PrintWords Go.Proofs.YthfinhdmdfekcaaW.PrintLast Go.Proofs.Ythfinhdmdfekcaa.PA
set_option linter.unusedVariables false
set_option linter.unusedSimpArgs false

theorem size_f (l : List Int) : impl_size_int64.f l = some (l.length : Int) := rfl
theorem MinutesFor_both (l0 : List S75) (l1 l2 : List Int) (a3 a4 : Int) (h0 : l0.length ≤ 1048576) (h1 : l1.length ≤ 1048576) (h2 : l2.length ≤ 1048576) : ∃ r, Ev (fun k => spec_MinutesFor.f k l0 l1 l2 a3 a4) r ∧ Ev (fun k => impl_MinutesFor.f k l0 l1 l2 a3 a4) r := by
  have hled := Led_ev l0 l1 h0 h1
  have hchk := Check_ev l0 l1 l2 h0 h1
  unfold spec_MinutesFor.f impl_MinutesFor.f
  cases hl : ledB l0 l1 with
  | false =>
    rw [hl] at hled hchk
    exact ⟨(0, 1), Ev.bind hled (Ev.neg (by decide) (Ev.now _)), Ev.bind hchk (Ev.neg (by simp) (Ev.now _))⟩
  | true =>
    rw [hl] at hled hchk
    have hbad : ∀ b : Bool, (∃ r, Ev (fun k => spec_MinutesFor.j0 k l0 l1 l2 a3 a4 true) r ∧ Ev (fun k => impl_MinutesFor.j0 k l0 l1 l2 a3 a4 b true) r) := fun b => by
      refine ⟨(0, 2), Ev.succ ?_, Ev.succ ?_⟩
      · simp only [spec_MinutesFor.j0, if_true]
        exact Ev.now _
      · simp only [impl_MinutesFor.j0, if_true]
        exact Ev.now _
    cases hi3 : inC a3 1 8 with
    | false =>
      obtain ⟨r, g1, g2⟩ := hbad (rightV l0 l1 l2)
      exact ⟨r, Ev.bind hled (Ev.pos rfl (Ev.bind (Ev.const (In_c a3 1 8)) (Ev.neg (by simp [hi3]) g1))), Ev.bind hchk (Ev.pos rfl (Ev.bind (Ev.const (within_c a3 1 8)) (Ev.neg (by simp [hi3]) g2)))⟩
    | true =>
      have h3 := (inC_iff _ _ _).1 hi3
      suffices hs : ∃ r, Ev (fun k => spec_MinutesFor.j0 k l0 l1 l2 a3 a4 (!inC a4 0 1000)) r ∧ Ev (fun k => impl_MinutesFor.j0 k l0 l1 l2 a3 a4 (rightV l0 l1 l2) (!inC a4 0 1000)) r by
        obtain ⟨r, g1, g2⟩ := hs
        exact ⟨r, Ev.bind hled (Ev.pos rfl (Ev.bind (Ev.const (In_c a3 1 8)) (Ev.pos hi3 (Ev.bind (Ev.const (In_c a4 0 1000)) g1)))), Ev.bind hchk (Ev.pos rfl (Ev.bind (Ev.const (within_c a3 1 8)) (Ev.pos hi3 (Ev.bind (Ev.const (within_c a4 0 1000)) g2))))⟩
      cases hi4 : inC a4 0 1000 with
      | false => exact hbad _
      | true =>
        have hR := Right_ev l0 l1 l2 h0 h1
        cases hr : rightV l0 l1 l2 with
        | false =>
          rw [hr] at hR
          refine ⟨(0, 4), Ev.succ ?_, Ev.succ ?_⟩
          · simp only [spec_MinutesFor.j0]
            exact Ev.neg (by simp) (Ev.bind hR (Ev.neg (by simp) (Ev.now _)))
          · simp only [impl_MinutesFor.j0]
            exact Ev.neg (by simp) (Ev.neg (by simp) (Ev.now _))
        | true =>
          rw [hr] at hR
          obtain ⟨hlen, hin⟩ := rightV_in hr
          obtain ⟨m, m1, m2, _⟩ := minutes_all l0 l1 l2 (by omega) h1 hin
          refine ⟨(wrap64 (m + (wrap64 ((wrap64 (Int.tdiv (wrap64 ((l1.length : Int) - 1)) a3)) * a4))), 0), Ev.succ ?_, Ev.succ ?_⟩
          · simp only [spec_MinutesFor.j0]
            exact Ev.neg (by simp) (Ev.bind hR (Ev.pos rfl (Ev.bind m1 (Ev.neg (by omega) (Ev.now _)))))
          · simp only [impl_MinutesFor.j0]
            rw [Int.mul_comm (wrap64 (Int.tdiv (wrap64 ((l1.length : Int) - 1)) a3)) a4]
            exact Ev.neg (by simp) (Ev.pos (by simp) (Ev.bind m2 (Ev.bind (Ev.const (size_f l1)) (Ev.neg (by omega) (Ev.now _)))))

end Go.Proofs.Ythfinhdmdfekcaa.Q
