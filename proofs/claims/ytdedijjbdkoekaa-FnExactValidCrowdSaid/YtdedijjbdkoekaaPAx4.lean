/- Lean functions for Go functions, and proofs that Go comes to just their answers; written by a program of this session. -/
import Derived.Test.YtdedijjbdkoekaaPAx0
import Derived.Test.YtdedijjbdkoekaaPAx3
namespace Go.Proofs.Ytdedijjbdkoekaa.PA
open Go.RowKit Go.Proofs.YtdedijjbdkoekaaW.PrintWords Go.Proofs.YtdedijjbdkoekaaW.PrintLast Go.Proofs.YtdedijjbdkoekaaW.PrintMore
attribute [local go_sem] max2_int min2_int max_two min_two max_three min_three max_four min_four   -- for this text's walks alone
set_option linter.unusedVariables false
set_option linter.unusedSimpArgs false

/-! ### pre 3 -/

theorem heap_setCells_far {i b : Nat} (hne : i ≠ b) : ∀ (vs : List Value) (o : Nat) (w : World), (w.setCells b o vs).heap[i]? = w.heap[i]?
  | [], _, _ => rfl
  | v :: vs, o, w => (heap_setCells_far hne vs (o + 1) _).trans (Below.heap_setCell w ⟨b, o, none⟩ v i hne)

/-- A long array stored as a whole: the block is known whole, all else is as it was. -/
theorem wpList_store_whole {P : Program} {ops : Array Oper} {rest : List Oper} {op : Oper} {a : Act} {w : World} {Q : Exit → Act → World → Prop} (hgd : op.guard = none) (ty : TypeId) (x y : Operand) (ho : op.op = .store ty x y)
    (b : Nat) (cells cs : Array Value) {T : TypeId} (hx : a.eval x = .pointer (some ⟨b, 0, none⟩)) (hy : a.eval y = .agg cells) (hb : w.heap[b]? = some (.cells cs T (0, 0))) (hs : cells.size = cs.size)
    (hi : (P.info? ty).map (·.size) = some cells.size) (h1 : cells.all (·.oneCell') = true)
    (h : ∀ w1, w1.heap[b]? = some (.cells cells T (0, 0)) → KeepBut w w1 b none → (∀ B a, Below B a w → B ≤ b → Below B a w1) → wpList P ops Q rest (a.put op.dst undef) w1) : wpList P ops Q (op :: rest) a w := by
  have hb' : w.heap[b]? = some (.cells cs.toList.toArray T (0, 0)) := by simpa using hb
  have hl : cells.toList.length = cs.toList.length := by simpa using hs
  refine wpList_store_mid hgd ty x y ho b 0 cells hx hy (there_blk hb' 0 _ (by simp; omega)) hi h1 (h _ ?_ ?_ (fun B a hB hle => below_setCells hle _ _ _ hB))
  · have := blk_whole hb' hl
    simpa using this
  · refine ⟨?_, fun i _ hne _ => ?_⟩
    · have := (below_setCells (B := 0) (b := b) (by omega) cells.toList 0 w (Below.refl 0 w)).size
      exact this
    · exact heap_setCells_far hne cells.toList 0 w

end Go.Proofs.Ytdedijjbdkoekaa.PA
