/- Lean functions for Go functions, and proofs that Go comes to just their answers; written by a program of this session. -/
import Derived.Test.YthfinhdmdfekcaaPAx0
namespace Go.Proofs.Ythfinhdmdfekcaa.PA
open Go.RowKit Go.Proofs.YthfinhdmdfekcaaW.PrintWords Go.Proofs.YthfinhdmdfekcaaW.PrintLast Go.Proofs.YthfinhdmdfekcaaW.PrintMore
attribute [local go_sem] max2_int min2_int max_two min_two max_three min_three max_four min_four   -- for this text's walks alone
set_option linter.unusedVariables false
set_option linter.unusedSimpArgs false

/-! ### pre 2 -/

theorem blk_new2 (W : World) (o : Obj) {g : Nat} (h : W.heap.size = g) : (W.alloc o).heap[g]? = some o := by subst h; exact blk_new W o
theorem one_read {w : World} {g t : Nat} {x : Int} (h : w.heap[g]? = some (.cells #[.int .i64 x] t (0, 0))) : Kd.C (Kd.int .i64) w (some ⟨g, 0, none⟩) 1 [x] := by
  refine ⟨rfl, by omega, fun _ => ⟨_, rfl, fun j p hj => ?_⟩⟩
  match j, hj with
  | 0, hj =>
    cases hj
    refine ⟨[.int .i64 x], rfl, rfl, fun i u hu => ?_⟩
    match i, hu with
    | 0, hu => cases hu; exact blk_cell h 0
theorem foldlM_cons_some {σ α : Type} {f : σ → α → Option σ} {a : α} {l : List α} {s r : σ} (h : (a :: l).foldlM f s = some r) : ∃ s', f s a = some s' ∧ l.foldlM f s' = some r := by
  rw [List.foldlM_cons] at h
  exact Option.bind_eq_some_iff.1 h

theorem foldlM_le {σ α : Type} {f g : σ → α → Option σ} (h : ∀ s a, LeO (f s a) (g s a)) : ∀ (l : List α) (s : σ), LeO (l.foldlM f s) (l.foldlM g s)
  | [], s => LeO.refl _
  | a :: l, s => by
    rw [List.foldlM_cons, List.foldlM_cons]
    exact LeO.bind (h s a) (fun s' => foldlM_le h l s')

end Go.Proofs.Ythfinhdmdfekcaa.PA
