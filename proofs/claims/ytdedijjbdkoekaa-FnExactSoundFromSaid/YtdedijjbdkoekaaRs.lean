/- Arguments of the statements, opened. -/
import Derived.Test.YtdedijjbdkoekaaRw
import Derived.Test.YtdedijjbdkoekaaPAx0
namespace Go.Proofs.Ytdedijjbdkoekaa.Rw
open Go.RowKit Go.Proofs.YtdedijjbdkoekaaW.PrintWords Go.Proofs.YtdedijjbdkoekaaW.PrintLast Go.Proofs.Ytdedijjbdkoekaa.PA
open Go.ChangeShapes Go.WideShapes Go.Deep
set_option linter.unusedVariables false
set_option linter.unusedSimpArgs false

set_option maxRecDepth 100000 in
theorem openV31 {H : Type} {enc : TypeId × Value → H} {W : World} {b0 base : Nat} {v : Value} {d : DataW H} {p : List MemPlace} (hval : Value.okWide Try.prog W .any b0 31 v) (h : DataW.Trod enc Try.prog W base (fun _ => true) true 31 v d p) :
    ∃ n0 n1 : Int, v = .agg #[.int .i8 n0, .int .i8 n1] ∧ (Lit.int .i8 n0).wf = true ∧ (Lit.int .i8 n1).wf = true := by
  obtain ⟨cs, rfl, hsz⟩ := okWide_struct Try.underlying31 hval
  obtain ⟨fuel, hf⟩ := h
  have ec : Try.prog.cellsOf 31 = 2 := by kernel_rfl
  have hsz2 : cs.size = 2 := hsz.trans ec
  obtain ⟨c0, c1, rfl⟩ : ∃ c0 c1, cs = #[c0, c1] := by
    rcases cs with ⟨l⟩
    match l, hsz2 with
    | [c0, c1], _ => exact ⟨c0, c1, rfl⟩
  have hf' : DataW.trod enc Try.prog W base (fun _ => true) true fuel 31 [c0, c1] = some (d, p) := hf
  obtain ⟨y0, y1, n, hx, hl, h0, h1⟩ := trod_struct2 Try.underlying31 hf'
  have g0 : DataW.trod enc Try.prog W base (fun _ => true) true n 29 [c0] = some y0 := by
    have e : Try.prog.cellsOf 29 = 1 := by kernel_rfl
    dsimp only at h0
    rw [e] at h0
    exact h0
  obtain ⟨q0, hq0, _, hw0⟩ := DataW.trod_int Try.underlying29 g0
  simp only [List.cons.injEq, and_true] at hq0
  subst hq0
  have g1 : DataW.trod enc Try.prog W base (fun _ => true) true n 29 [c1] = some y1 := by
    have e : Try.prog.cellsOf 29 = 1 := by kernel_rfl
    dsimp only at h1
    rw [e] at h1
    exact h1
  obtain ⟨q1, hq1, _, hw1⟩ := DataW.trod_int Try.underlying29 g1
  simp only [List.cons.injEq, and_true] at hq1
  subst hq1
  exact ⟨q0, q1, rfl, hw0, hw1⟩

end Go.Proofs.Ytdedijjbdkoekaa.Rw
