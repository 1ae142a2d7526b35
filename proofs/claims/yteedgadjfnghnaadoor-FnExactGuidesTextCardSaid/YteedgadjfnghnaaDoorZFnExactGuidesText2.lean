/- The statement FnExactGuidesText of this program: what its proof uses, part 3 of 11. The call returns true for all arguments. No condition of its own. -/
import Derived.Test.YteedgadjfnghnaaDoorProg
import Derived.Deep.MidRow
import Derived.Test.YteedgadjfnghnaaDoorZFnExactGuidesText1
section
namespace Go.Proofs.YteedgadjfnghnaaDoor.La
open Go.RowKit Go.Proofs.YteedgadjfnghnaaDoorW.PrintWords Go.Proofs.YteedgadjfnghnaaDoorW.PrintLast Go.Proofs.YteedgadjfnghnaaDoorW.PrintMore
set_option linter.unusedVariables false
set_option linter.unusedSimpArgs false
structure LA (n : Nat) where
  l : List Int
  h : l.length = n
theorem LA.ext_l {n : Nat} {a b : LA n} (h : a.l = b.l) : a = b := by
  cases a; cases b; cases h; rfl
instance LA.dec (n : Nat) : DecidableEq (LA n) := fun a b => if h : a.l = b.l then isTrue (LA.ext_l h) else isFalse (fun e => h (by rw [e]))
def LA.zero (n : Nat) : LA n := ⟨List.replicate n 0, List.length_replicate⟩
def LA.row {n : Nat} (W : LA n) (m : Nat) (a : Int) : LA m := ⟨(List.range m).map (fun j : Nat => rd W.l (a * m + (j : Int))), by simp⟩
section
variable {e : Int → Value} {cs : List Value} {n : Nat} {W : LA n} {w : World} {g T : Nat}
end
section
variable {P : Program} {e : Int → Value} {cs : List Value} {n : Nat} {W : LA n}
end
section
variable {P : Program} {ops : Array Oper} {rest : List Oper} {op : Oper} {a : Act} {w : World} {Q : Exit → Act → World → Prop} {e : Int → Value} {cs : List Value} {n : Nat} {W : LA n}
end
section
variable {p q : Prop} {w w' w0 w1 w2 w3 : World} {g g2 : Nat} {o : Obj}
theorem pk (a : Aside0 q) (h : q → p := by (intro h_; (with_reducible repeat (first | refine blk_drewN ?_ _ | refine blk_drew ?_ | refine blk_alloc ?_ _)); exact h_)) : p := h a.out
theorem pb (a : Aside0 q) (h : q → p := by (intro h_; repeat (first | (with_reducible first | exact h_ | apply below_alloc | apply pw_below_drewN | apply below_drew1) | exact h_))) : p := h a.out
theorem pbs (a : Aside0 q) (h : q → p := by (intro h_; repeat (first | (with_reducible first | exact h_ | apply below_alloc | apply pw_below_drewN | apply below_drew1) | exact h_ | (refine below_set ?_ ?_; rotate_left; (exact (Aside0.out (by assumption)))))) ) : p := h a.out
theorem bkb (a : Aside0 (w.heap[g]? = some o)) (hb : Below w'.heap.size w' w1) (h : w.heap[g]? = some o → w'.heap[g]? = some o := by (intro h_; (with_reducible repeat (first | refine blk_drewN ?_ _ | refine blk_drew ?_ | refine blk_alloc ?_ _)); exact h_)) : Aside0 (w1.heap[g]? = some o) := ⟨blk_below (h a.out) hb⟩
theorem bst (a : Aside0 (Below w0.heap.size w0 w1)) (hb : Below w2.heap.size w2 w3) (h : Below w0.heap.size w0 w1 → Below w0.heap.size w0 w2 := by (intro h_; repeat (first | (with_reducible first | exact h_ | apply below_alloc | apply pw_below_drewN | apply below_drew1) | exact h_ | (refine below_set ?_ ?_; rotate_left; (exact (Aside0.out (by assumption))))))) : Aside0 (Below w0.heap.size w0 w3) := ⟨below_step (h a.out) hb⟩
theorem gwl (a : Aside0 (Below w0.heap.size w0 w1)) (hg : g = w2.heap.size) (h : Below w0.heap.size w0 w1 → Below w0.heap.size w0 w2 := by (intro h_; repeat (first | (with_reducible first | exact h_ | apply below_alloc | apply pw_below_drewN | apply below_drew1) | exact h_ | (refine below_set ?_ ?_; rotate_left; (exact (Aside0.out (by assumption))))))) : Aside0 (w0.heap.size ≤ g) := ⟨by rw [hg]; exact below_size (h a.out)⟩
theorem nbl (a : Aside0 (w.heap[g]? = some o)) (hg : g2 = w2.heap.size) (h : w.heap[g]? = some o → w2.heap[g]? = some o := by (intro h_; (with_reducible repeat (first | refine blk_drewN ?_ _ | refine blk_drew ?_ | refine blk_alloc ?_ _)); exact h_)) : Aside0 (g ≠ g2) := ⟨by rw [hg]; exact Nat.ne_of_lt (blk_lt (h a.out))⟩
theorem nbg (a : Aside0 (w.heap[g]? = some o)) (hg : g2 = w2.heap.size) (h : w.heap[g]? = some o → w2.heap[g]? = some o := by (intro h_; (with_reducible repeat (first | refine blk_drewN ?_ _ | refine blk_drew ?_ | refine blk_alloc ?_ _)); exact h_)) : Aside0 (g2 ≠ g) := ⟨by rw [hg]; exact Nat.ne_of_gt (blk_lt (h a.out))⟩
theorem krb {α : Type} {d : Kd α} {e base : Nat} {ok : Nat → Prop} {v : Value} {xs : List α} (a : Aside0 (d.R e w base ok v xs)) (hb : Below w'.heap.size w' w1) (h : d.R e w base ok v xs → d.R e w' base ok v xs := by (intro h_; (with_reducible repeat (first | apply Kd.R_alloc | apply Kd.R_drewN | apply Kd.R_drew)); exact h_)) : Aside0 (d.R e w1 base ok v xs) := ⟨Kd.R_below (h a.out) hb⟩
end
end Go.Proofs.YteedgadjfnghnaaDoor.La
end
