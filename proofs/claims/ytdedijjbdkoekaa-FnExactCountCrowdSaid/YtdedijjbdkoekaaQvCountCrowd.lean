/- The statement CountCrowd in plain terms: the reference's count and the program's are one number. -/
import Derived.Test.YtdedijjbdkoekaaPAx11
import Derived.Test.YtdedijjbdkoekaaPAx9
import Derived.Test.YtdedijjbdkoekaaQcc
namespace Go.Proofs.Ytdedijjbdkoekaa.Q
open Go.RowKit Go.Proofs.YtdedijjbdkoekaaW.PrintWords Go.Proofs.YtdedijjbdkoekaaW.PrintLast Go.Proofs.YtdedijjbdkoekaaW.PrintMore Go.Proofs.Ytdedijjbdkoekaa.PA
set_option linter.unusedVariables false
theorem wf_u16 {n : Int} (h : (Lit.int .u16 n).wf = true) : 0 ≤ n ∧ n < 65536 := by
  simp [Lit.wf, IntKind.min, IntKind.max, IntKind.signed, IntKind.bits] at h
  omega
theorem rd_bound (l : List Int) (h : ∀ x ∈ l, 0 ≤ x ∧ x < 65536) (i : Int) : 0 ≤ rd l i ∧ rd l i < 65536 := by
  unfold rd
  by_cases hi : i.toNat < l.length
  · exact h _ (getD_mem l _ 0 hi)
  · rw [List.getD_eq_getElem?_getD, List.getElem?_eq_none (by omega)]
    show (0:Int) ≤ 0 ∧ (0:Int) < 65536
    omega
set_option maxRecDepth 100000 in
theorem FnExactCountCrowd (a0_0 a0_1 a0_2 a0_3 a0_4 a0_5 a0_6 a0_7 a0_8 a0_9 a0_10 a0_11 a0_12 a0_13 a0_14 a0_15 a0_16 a0_17 a0_18 a0_19 a0_20 a0_21 a0_22 a0_23 a0_24 a0_25 a0_26 a0_27 a0_28 a0_29 a0_30 a0_31 a0_32 a0_33 a0_34 a0_35 a0_36 a0_37 a0_38 a0_39 : Int) (w0_0 : (Lit.int .u16 a0_0).wf = true) (w0_1 : (Lit.int .u16 a0_1).wf = true) (w0_2 : (Lit.int .u16 a0_2).wf = true) (w0_3 : (Lit.int .u16 a0_3).wf = true) (w0_4 : (Lit.int .u16 a0_4).wf = true) (w0_5 : (Lit.int .u16 a0_5).wf = true) (w0_6 : (Lit.int .u16 a0_6).wf = true) (w0_7 : (Lit.int .u16 a0_7).wf = true) (w0_8 : (Lit.int .u16 a0_8).wf = true) (w0_9 : (Lit.int .u16 a0_9).wf = true) (w0_10 : (Lit.int .u16 a0_10).wf = true) (w0_11 : (Lit.int .u16 a0_11).wf = true) (w0_12 : (Lit.int .u16 a0_12).wf = true) (w0_13 : (Lit.int .u16 a0_13).wf = true) (w0_14 : (Lit.int .u16 a0_14).wf = true) (w0_15 : (Lit.int .u16 a0_15).wf = true) (w0_16 : (Lit.int .u16 a0_16).wf = true) (w0_17 : (Lit.int .u16 a0_17).wf = true) (w0_18 : (Lit.int .u16 a0_18).wf = true) (w0_19 : (Lit.int .u16 a0_19).wf = true) (w0_20 : (Lit.int .u16 a0_20).wf = true) (w0_21 : (Lit.int .u16 a0_21).wf = true) (w0_22 : (Lit.int .u16 a0_22).wf = true) (w0_23 : (Lit.int .u16 a0_23).wf = true) (w0_24 : (Lit.int .u16 a0_24).wf = true) (w0_25 : (Lit.int .u16 a0_25).wf = true) (w0_26 : (Lit.int .u16 a0_26).wf = true) (w0_27 : (Lit.int .u16 a0_27).wf = true) (w0_28 : (Lit.int .u16 a0_28).wf = true) (w0_29 : (Lit.int .u16 a0_29).wf = true) (w0_30 : (Lit.int .u16 a0_30).wf = true) (w0_31 : (Lit.int .u16 a0_31).wf = true) (w0_32 : (Lit.int .u16 a0_32).wf = true) (w0_33 : (Lit.int .u16 a0_33).wf = true) (w0_34 : (Lit.int .u16 a0_34).wf = true) (w0_35 : (Lit.int .u16 a0_35).wf = true) (w0_36 : (Lit.int .u16 a0_36).wf = true) (w0_37 : (Lit.int .u16 a0_37).wf = true) (w0_38 : (Lit.int .u16 a0_38).wf = true) (w0_39 : (Lit.int .u16 a0_39).wf = true) : Ev (fun k => laws_FnExactCountCrowd.f k a0_0 a0_1 a0_2 a0_3 a0_4 a0_5 a0_6 a0_7 a0_8 a0_9 a0_10 a0_11 a0_12 a0_13 a0_14 a0_15 a0_16 a0_17 a0_18 a0_19 a0_20 a0_21 a0_22 a0_23 a0_24 a0_25 a0_26 a0_27 a0_28 a0_29 a0_30 a0_31 a0_32 a0_33 a0_34 a0_35 a0_36 a0_37 a0_38 a0_39) true := by
  have hb : ∀ i, 0 ≤ rd [a0_0, a0_1, a0_2, a0_3, a0_4, a0_5, a0_6, a0_7, a0_8, a0_9, a0_10, a0_11, a0_12, a0_13, a0_14, a0_15, a0_16, a0_17, a0_18, a0_19, a0_20, a0_21, a0_22, a0_23, a0_24, a0_25, a0_26, a0_27, a0_28, a0_29, a0_30, a0_31, a0_32, a0_33, a0_34, a0_35, a0_36, a0_37, a0_38, a0_39] i ∧ rd [a0_0, a0_1, a0_2, a0_3, a0_4, a0_5, a0_6, a0_7, a0_8, a0_9, a0_10, a0_11, a0_12, a0_13, a0_14, a0_15, a0_16, a0_17, a0_18, a0_19, a0_20, a0_21, a0_22, a0_23, a0_24, a0_25, a0_26, a0_27, a0_28, a0_29, a0_30, a0_31, a0_32, a0_33, a0_34, a0_35, a0_36, a0_37, a0_38, a0_39] i < 65536 := rd_bound _ (by
    intro x hx
    simp only [List.mem_cons, List.not_mem_nil, or_false] at hx
    rcases hx with rfl | rfl | rfl | rfl | rfl | rfl | rfl | rfl | rfl | rfl | rfl | rfl | rfl | rfl | rfl | rfl | rfl | rfl | rfl | rfl | rfl | rfl | rfl | rfl | rfl | rfl | rfl | rfl | rfl | rfl | rfl | rfl | rfl | rfl | rfl | rfl | rfl | rfl | rfl | rfl
    all_goals exact wf_u16 (by assumption))
  obtain ⟨r, h1, h2⟩ := CountCrowd_both a0_0 a0_1 a0_2 a0_3 a0_4 a0_5 a0_6 a0_7 a0_8 a0_9 a0_10 a0_11 a0_12 a0_13 a0_14 a0_15 a0_16 a0_17 a0_18 a0_19 a0_20 a0_21 a0_22 a0_23 a0_24 a0_25 a0_26 a0_27 a0_28 a0_29 a0_30 a0_31 a0_32 a0_33 a0_34 a0_35 a0_36 a0_37 a0_38 a0_39 hb
  unfold laws_FnExactCountCrowd.f laws_toCrowd.f
  simp only [Option.bind_some]
  refine Ev.bind h1 ?_
  refine Ev.bind h2 ?_
  first | exact Ev.pos rfl (Ev.now true) | exact Ev.neg (by simp) (Ev.now true) | (simp; exact Ev.now true)

end Go.Proofs.Ytdedijjbdkoekaa.Q
