/- The statement FnExactSeenAlong of this program: what its proof uses, part 6 of 18. The call returns true for all arguments. No condition of its own. -/
import Derived.Lib.SlicesCompact
import Derived.Lib.SliceRun
import Derived.Test.YtjogemppgdeomaaZFnExactSeenAlong4
section
namespace Go.Proofs
open Go.RowKit Go.Lib Go.Sort
set_option linter.unusedVariables false
set_option linter.unusedSimpArgs false
theorem run_clear_two {P : Program} (w : World) (t e ty : TypeId) (z zz : Value) (ht : P.underlying t = some (.slice e)) (hv : ∀ w, (zeroValue e).run P w = .ok zz w) (hz : zz.cells = #[z, z]) (h1 : z.oneCell' = true) (b o n c : Nat) (hn : 0 < n)
    (hc : ∀ j, j < n * 2 → (w.cell? ⟨b, o + j, none⟩).isSome = true) (hf : ∀ j, j < n * 2 → w.frozen? ⟨b, o + j, none⟩ = false) :
    (Builtin.clear_ #[t] ty #[.slice (some ⟨b, o, none⟩) n c]).run P w = .ok (.tuple #[]) (w.setCells b o (List.replicate (n * 2) z)) := by
  have hzc : (Builtin.zeroCells zz.cells n).toList = List.replicate (n * 2) z := by
    rw [hz]
    simp [Builtin.zeroCells]
    apply List.ext_getElem
    · simp
    · intro i h1 h2
      have : i % 2 = 0 ∨ i % 2 = 1 := by omega
      rcases this with h | h <;> simp [h]
  have hst := run_storeCells_cells (P := P) b o (List.replicate (n * 2) z) 0 w (by simpa using hc) (by simpa using hf) (by intro v hv'; rw [List.eq_of_mem_replicate hv']; exact h1); simp only [Nat.add_zero] at hst; obtain ⟨m, rfl⟩ : ∃ m, n = m + 1 := ⟨n - 1, by omega⟩
  simp [Builtin.clear_, run_underlying ht, hv, hzc, hst]
theorem setMany_at (d : Array S8) (i : Nat) (x : S8) (hi : i < d.size) : setMany (flatK encS8 2 d) (i * 2) (encS8 x) = flatK encS8 2 (d.setIfInBounds i x) := by
  refine ext_get! (by simp) fun t ht => ?_
  have ht' : t < d.size * 2 := by simpa using ht
  rw [get_setMany _ _ _ t (by simpa using ht'), get_flatK _ _ d t ht', get_flatK _ _ (d.setIfInBounds i x) t (by simpa using ht')]; have el : (encS8 x).length = 2 := rfl; rw [el]
  by_cases a : t / 2 = i
  · rw [if_pos ((blk_iff 2 i t (by omega)).2 a), a, getElem!_set_same d i _ hi]
    congr 1
    omega
  · rw [if_neg (fun h => a ((blk_iff 2 i t (by omega)).1 h)), getElem!_set_other d i _ _ a]
theorem setTwo (w : World) (blk off : Nat) (d : Array S8) (i : Nat) (x : S8) (hi : i < d.size) :
    (putRowK encS8 2 w blk off d).setCells blk (off + i * 2) (encS8 x) = putRowK encS8 2 w blk off (d.setIfInBounds i x) := by
  unfold putRowK; rw [setCells_putRow _ _ _ _ _ _ (by rw [size_flatK, show (encS8 x).length = 2 from rfl]; omega), setMany_at d i x hi]
theorem store2 {w wr : World} {n blk off : Nat} {d : Array S8} {i : Nat} (hi : i < d.size) (hwr : wr = putRowK encS8 2 (Sort.ahead w n) blk off d) (x : S8) :
    ((wr.setCell ⟨blk, off + i * 2, none⟩ (.int .i8 x.1.1)).setCell ⟨blk, off + i * 2 + 1, none⟩ (.int .i8 x.1.2)).drew = putRowK encS8 2 (Sort.ahead w (n + 1)) blk off (d.setIfInBounds i x) := by
  subst hwr; have := setTwo (Sort.ahead w n) blk off d i x hi; have h2 := congrArg (fun w => World.drewN w 1) this; rw [putRowK_drewN] at h2; exact h2
theorem clear2 (w : World) (blk off : Nat) : ∀ (n : Nat) (d : Array S8) (k : Nat), k + n ≤ d.size →
    (putRowK encS8 2 w blk off d).setCells blk (off + k * 2) (List.replicate (n * 2) (.int .i8 0)) = putRowK encS8 2 w blk off (lay d k (List.replicate n default))
  | 0, d, k, _ => rfl
  | n + 1, d, k, h => by
    have e : List.replicate ((n + 1) * 2) (Value.int .i8 0) = encS8 default ++ List.replicate (n * 2) (.int .i8 0) := by
      rw [Nat.add_mul, Nat.one_mul, Nat.add_comm, ← List.replicate_append_replicate]; rfl
    have ss := setTwo w blk off d k default (by omega); have ih := clear2 w blk off n (d.setIfInBounds k default) (k + 1) (by simp; omega); rw [← ss] at ih; rw [e, List.replicate_succ, lay, ← ih]
    show World.setCells _ _ (off + k * 2 + 1 + 1) _ = World.setCells _ _ (off + (k + 1) * 2) _
    rw [show off + (k + 1) * 2 = off + k * 2 + 1 + 1 by omega]; rfl
end Go.Proofs
end
