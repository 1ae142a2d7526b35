/- Lean functions for Go functions, and proofs that Go comes to just their answers; written by a program of this session. -/
import Derived.Test.YtdedijjbdkoekaaPAx0
namespace Go.Proofs.Ytdedijjbdkoekaa.PA
open Go.RowKit Go.Proofs.YtdedijjbdkoekaaW.PrintWords Go.Proofs.YtdedijjbdkoekaaW.PrintLast Go.Proofs.YtdedijjbdkoekaaW.PrintMore
attribute [local go_sem] max2_int min2_int max_two min_two max_three min_three max_four min_four   -- for this text's walks alone
set_option linter.unusedVariables false
set_option linter.unusedSimpArgs false

/-! ### pre 0 -/

/-- A cell of an array at a number that the code reckons. -/
theorem arr_at {w : World} {g o : Nat} {k : IntKind} (cs : List Int) (h : ∀ j, j < cs.length → w.cell? ⟨g, o + j, none⟩ = some (.int k (cs.getD j 0))) (i : Int) (h0 : 0 ≤ i) (h1 : i < (cs.length : Int)) : w.cell? ⟨g, o + i.toNat, none⟩ = some (.int k (rd cs i)) :=
  h i.toNat (by omega)

theorem arr_at2 {w : World} {g o m : Nat} {k : IntKind} (cs : List Int) (h : ∀ j, j < cs.length → w.cell? ⟨g, o + j, none⟩ = some (.int k (cs.getD j 0))) (a b : Int) (ha : 0 ≤ a) (hb : 0 ≤ b) (hb2 : b < 10) (hl : a * 10 + b < (cs.length : Int)) : w.cell? ⟨g, o + a.toNat * 10 + b.toNat, none⟩ = some (.int k (rd cs (a * 10 + b))) := by
  have h1 := h (a.toNat * 10 + b.toNat) (by omega)
  rw [← Nat.add_assoc] at h1
  rw [h1, show a.toNat * 10 + b.toNat = (a * 10 + b).toNat by omega]
  rfl
theorem row_at {w : World} {g o : Nat} {k : IntKind} (cs : List Int) (h : ∀ j, j < cs.length → w.cell? ⟨g, o + j, none⟩ = some (.int k (cs.getD j 0))) (a : Int) (b : Nat) (hb : b < 10) (ha : 0 ≤ a) (hl : a * 10 + 9 < (cs.length : Int)) : w.cell? ⟨g, o + a.toNat * 10 + b, none⟩ = some (.int k (rd cs (a * 10 + (b : Int)))) :=
  arr_at2 (m := 10) cs h a (b : Int) ha (by omega) (by omega) (by omega)
theorem row_at0 {w : World} {g o : Nat} {k : IntKind} (cs : List Int) (h : ∀ j, j < cs.length → w.cell? ⟨g, o + j, none⟩ = some (.int k (cs.getD j 0))) (a : Int) (b : Nat) (hb : b < 10) (ha : 0 ≤ a) (hl : a * 10 + 9 < (cs.length : Int)) : w.cell? ⟨g, o + a.toNat * 10, none⟩ = some (.int k (rd cs (a * 10))) := by
  have := row_at cs h a 0 (by omega) ha hl
  rw [Nat.add_zero] at this
  rw [this]
  simp
theorem row_atz {w : World} {g o : Nat} {k : IntKind} (cs : List Int) (h : ∀ j, j < cs.length → w.cell? ⟨g, o + j, none⟩ = some (.int k (cs.getD j 0))) (a : Int) (b : Nat) (hb : b < 10) (ha : 0 ≤ a) (hl : a * 10 + 9 < (cs.length : Int)) (ho : o = 0 := by rfl) : w.cell? ⟨g, a.toNat * 10 + b, none⟩ = some (.int k (rd cs (a * 10 + (b : Int)))) := by
  have := row_at cs h a b hb ha hl
  rwa [ho, Nat.zero_add] at this
theorem row_atz0 {w : World} {g o : Nat} {k : IntKind} (cs : List Int) (h : ∀ j, j < cs.length → w.cell? ⟨g, o + j, none⟩ = some (.int k (cs.getD j 0))) (a : Int) (b : Nat) (hb : b < 10) (ha : 0 ≤ a) (hl : a * 10 + 9 < (cs.length : Int)) (ho : o = 0 := by rfl) : w.cell? ⟨g, a.toNat * 10, none⟩ = some (.int k (rd cs (a * 10))) := by
  have := row_at0 cs h a b hb ha hl
  rwa [ho, Nat.zero_add] at this
theorem cell_zero {w : World} {g a b : Nat} {x : Option Value} (h : w.cell? ⟨g, 0 + a + b, none⟩ = x) : w.cell? ⟨g, a + b, none⟩ = x := by rwa [Nat.zero_add] at h
theorem cell_zero1 {w : World} {g a : Nat} {x : Option Value} (h : w.cell? ⟨g, 0 + a, none⟩ = x) : w.cell? ⟨g, a, none⟩ = x := by rwa [Nat.zero_add] at h

end Go.Proofs.Ytdedijjbdkoekaa.PA
