/- More plain lemmas on rounds and lists. -/
import Derived.Test.YtdedijjbdkoekaaPAx8
import Derived.Test.YtdedijjbdkoekaaQl
namespace Go.Proofs.Ytdedijjbdkoekaa.Q
open Go.RowKit Go.Proofs.YtdedijjbdkoekaaW.PrintWords Go.Proofs.YtdedijjbdkoekaaW.PrintLast Go.Proofs.Ytdedijjbdkoekaa.PA
set_option linter.unusedVariables false
set_option linter.unusedSimpArgs false

/-- Whether a number lies between two. -/
def inC (a lo hi : Int) : Bool := decide (lo ≤ a) && decide (a ≤ hi)
theorem In_c (a lo hi : Int) : spec_l00In.f a lo hi = some (inC a lo hi) := by
  unfold spec_l00In.f inC
  split
  · rename_i h; simp [h]
  · rename_i h; simp [h]

theorem Ev.const {α : Type} {x : Option α} {a : α} (h : x = some a) : Ev (fun _ => x) a := by subst h; exact Ev.now a
theorem Ev.succ {α : Type} {g : Nat → Option α} {r : α} (h : Ev (fun k => g (k + 1)) r) : Ev g r := Ev.step (fun _ => rfl) h
theorem getD_mem {α : Type} (l : List α) (i : Nat) (d : α) (h : i < l.length) : l.getD i d ∈ l := by
  simp [List.getD_eq_getElem?_getD, List.getElem?_eq_getElem h]
theorem drop_get {α : Type} (xs : List α) (i : Nat) (d : α) (h : i < xs.length) : xs.drop i = xs.getD i d :: xs.drop (i + 1) := by
  rw [List.drop_eq_getElem_cons h]
  simp [List.getD_eq_getElem?_getD, List.getElem?_eq_getElem h]
theorem rd_set (x : List Int) (j v : Int) (h0 : 0 ≤ j) (h1 : j < x.length) : rd (x.set j.toNat v) j = v := by
  have : j.toNat < x.length := by omega
  simp [rd, List.getD_eq_getElem?_getD, List.getElem?_set, this]
/-- A loop over numbers that answers 'false' at the first that doesn't do. -/
theorem Ev.all_upto (L : Nat → Int → Option Bool) (ok : Nat → Bool) (e : Bool) (n : Nat)
    (hyes : ∀ i : Nat, i < n → ok i = true → ∀ r, Ev (fun k => L k ((i + 1 : Nat) : Int)) r → Ev (fun k => L k (i : Int)) r)
    (hno : ∀ i : Nat, i < n → ok i = false → Ev (fun k => L k (i : Int)) false)
    (hend : Ev (fun k => L k (n : Int)) e) : Ev (fun k => L k 0) ((List.range n).all ok && e) := by
  refine Ev.all_or L ok 0 e (List.range n) ?_ ?_ (by simpa using hend)
  · intro i hi ho r hr
    have hi' : i < n := by simpa using hi
    refine hyes i hi' ?_ r hr
    simpa [List.getD_eq_getElem?_getD, hi'] using ho
  · intro i hi ho
    have hi' : i < n := by simpa using hi
    refine hno i hi' ?_
    simpa [List.getD_eq_getElem?_getD, hi'] using ho

end Go.Proofs.Ytdedijjbdkoekaa.Q
