/- The statement ValidCrowd in plain terms. -/
import Derived.Test.YtdedijjbdkoekaaPAx12
import Derived.Test.YtdedijjbdkoekaaPAx16
import Derived.Test.YtdedijjbdkoekaaPAx8
import Derived.Test.YtdedijjbdkoekaaQvc
namespace Go.Proofs.Ytdedijjbdkoekaa.Q
open Go.RowKit Go.Proofs.YtdedijjbdkoekaaW.PrintWords Go.Proofs.YtdedijjbdkoekaaW.PrintLast Go.Proofs.YtdedijjbdkoekaaW.PrintMore Go.Proofs.Ytdedijjbdkoekaa.PA
set_option linter.unusedVariables false
set_option linter.unusedSimpArgs false

set_option maxRecDepth 100000 in
theorem FnExactValidCrowd (a0_0 a0_1 a0_2 a0_3 a0_4 a0_5 a0_6 a0_7 a0_8 a0_9 a0_10 a0_11 a1_0 a1_1 a1_2 a1_3 a1_4 a1_5 a1_6 a1_7 a1_8 a1_9 a1_10 a1_11 a1_12 a1_13 a1_14 a1_15 a1_16 a1_17 a1_18 a1_19 a1_20 a1_21 a1_22 a1_23 a1_24 a1_25 a1_26 a1_27 a1_28 a1_29 a1_30 a1_31 a1_32 a1_33 a1_34 a1_35 a1_36 a1_37 a1_38 a1_39 : Int) (w0_0 : (Lit.int .i8 a0_0).wf = true) (w0_1 : (Lit.int .i8 a0_1).wf = true) (w0_2 : (Lit.int .u16 a0_2).wf = true) (w0_3 : (Lit.int .u16 a0_3).wf = true) (w0_4 : (Lit.int .u16 a0_4).wf = true) (w0_5 : (Lit.int .u16 a0_5).wf = true) (w0_6 : (Lit.int .u16 a0_6).wf = true) (w0_7 : (Lit.int .u16 a0_7).wf = true) (w0_8 : (Lit.int .u16 a0_8).wf = true) (w0_9 : (Lit.int .u16 a0_9).wf = true) (w0_10 : (Lit.int .u16 a0_10).wf = true) (w0_11 : (Lit.int .u16 a0_11).wf = true) (w1_0 : (Lit.int .u16 a1_0).wf = true) (w1_1 : (Lit.int .u16 a1_1).wf = true) (w1_2 : (Lit.int .u16 a1_2).wf = true) (w1_3 : (Lit.int .u16 a1_3).wf = true) (w1_4 : (Lit.int .u16 a1_4).wf = true) (w1_5 : (Lit.int .u16 a1_5).wf = true) (w1_6 : (Lit.int .u16 a1_6).wf = true) (w1_7 : (Lit.int .u16 a1_7).wf = true) (w1_8 : (Lit.int .u16 a1_8).wf = true) (w1_9 : (Lit.int .u16 a1_9).wf = true) (w1_10 : (Lit.int .u16 a1_10).wf = true) (w1_11 : (Lit.int .u16 a1_11).wf = true) (w1_12 : (Lit.int .u16 a1_12).wf = true) (w1_13 : (Lit.int .u16 a1_13).wf = true) (w1_14 : (Lit.int .u16 a1_14).wf = true) (w1_15 : (Lit.int .u16 a1_15).wf = true) (w1_16 : (Lit.int .u16 a1_16).wf = true) (w1_17 : (Lit.int .u16 a1_17).wf = true) (w1_18 : (Lit.int .u16 a1_18).wf = true) (w1_19 : (Lit.int .u16 a1_19).wf = true) (w1_20 : (Lit.int .u16 a1_20).wf = true) (w1_21 : (Lit.int .u16 a1_21).wf = true) (w1_22 : (Lit.int .u16 a1_22).wf = true) (w1_23 : (Lit.int .u16 a1_23).wf = true) (w1_24 : (Lit.int .u16 a1_24).wf = true) (w1_25 : (Lit.int .u16 a1_25).wf = true) (w1_26 : (Lit.int .u16 a1_26).wf = true) (w1_27 : (Lit.int .u16 a1_27).wf = true) (w1_28 : (Lit.int .u16 a1_28).wf = true) (w1_29 : (Lit.int .u16 a1_29).wf = true) (w1_30 : (Lit.int .u16 a1_30).wf = true) (w1_31 : (Lit.int .u16 a1_31).wf = true) (w1_32 : (Lit.int .u16 a1_32).wf = true) (w1_33 : (Lit.int .u16 a1_33).wf = true) (w1_34 : (Lit.int .u16 a1_34).wf = true) (w1_35 : (Lit.int .u16 a1_35).wf = true) (w1_36 : (Lit.int .u16 a1_36).wf = true) (w1_37 : (Lit.int .u16 a1_37).wf = true) (w1_38 : (Lit.int .u16 a1_38).wf = true) (w1_39 : (Lit.int .u16 a1_39).wf = true) : Ev (fun k => laws_FnExactValidCrowd.f k a0_0 a0_1 a0_2 a0_3 a0_4 a0_5 a0_6 a0_7 a0_8 a0_9 a0_10 a0_11 a1_0 a1_1 a1_2 a1_3 a1_4 a1_5 a1_6 a1_7 a1_8 a1_9 a1_10 a1_11 a1_12 a1_13 a1_14 a1_15 a1_16 a1_17 a1_18 a1_19 a1_20 a1_21 a1_22 a1_23 a1_24 a1_25 a1_26 a1_27 a1_28 a1_29 a1_30 a1_31 a1_32 a1_33 a1_34 a1_35 a1_36 a1_37 a1_38 a1_39) true := by
  have hb : ∀ i, 0 ≤ rd [a0_2, a0_3, a0_4, a0_5, a0_6, a0_7, a0_8, a0_9, a0_10, a0_11] i ∧ rd [a0_2, a0_3, a0_4, a0_5, a0_6, a0_7, a0_8, a0_9, a0_10, a0_11] i < 65536 := rd_bound _ (by
    intro x hx
    simp only [List.mem_cons, List.not_mem_nil, or_false] at hx
    rcases hx with rfl | rfl | rfl | rfl | rfl | rfl | rfl | rfl | rfl | rfl
    all_goals exact wf_u16 (by assumption))
  have hc : ∀ i, 0 ≤ rd [a1_0, a1_1, a1_2, a1_3, a1_4, a1_5, a1_6, a1_7, a1_8, a1_9, a1_10, a1_11, a1_12, a1_13, a1_14, a1_15, a1_16, a1_17, a1_18, a1_19, a1_20, a1_21, a1_22, a1_23, a1_24, a1_25, a1_26, a1_27, a1_28, a1_29, a1_30, a1_31, a1_32, a1_33, a1_34, a1_35, a1_36, a1_37, a1_38, a1_39] i ∧ rd [a1_0, a1_1, a1_2, a1_3, a1_4, a1_5, a1_6, a1_7, a1_8, a1_9, a1_10, a1_11, a1_12, a1_13, a1_14, a1_15, a1_16, a1_17, a1_18, a1_19, a1_20, a1_21, a1_22, a1_23, a1_24, a1_25, a1_26, a1_27, a1_28, a1_29, a1_30, a1_31, a1_32, a1_33, a1_34, a1_35, a1_36, a1_37, a1_38, a1_39] i < 65536 := rd_bound _ (by
    intro x hx
    simp only [List.mem_cons, List.not_mem_nil, or_false] at hx
    rcases hx with rfl | rfl | rfl | rfl | rfl | rfl | rfl | rfl | rfl | rfl | rfl | rfl | rfl | rfl | rfl | rfl | rfl | rfl | rfl | rfl | rfl | rfl | rfl | rfl | rfl | rfl | rfl | rfl | rfl | rfl | rfl | rfl | rfl | rfl | rfl | rfl | rfl | rfl | rfl | rfl
    all_goals exact wf_u16 (by assumption))
  obtain ⟨r, h1, h2⟩ := ValidCrowd_both a0_0 a0_1 a0_2 a0_3 a0_4 a0_5 a0_6 a0_7 a0_8 a0_9 a0_10 a0_11 a1_0 a1_1 a1_2 a1_3 a1_4 a1_5 a1_6 a1_7 a1_8 a1_9 a1_10 a1_11 a1_12 a1_13 a1_14 a1_15 a1_16 a1_17 a1_18 a1_19 a1_20 a1_21 a1_22 a1_23 a1_24 a1_25 a1_26 a1_27 a1_28 a1_29 a1_30 a1_31 a1_32 a1_33 a1_34 a1_35 a1_36 a1_37 a1_38 a1_39 (wf_i8 w0_0) (wf_i8 w0_1) hb hc
  unfold laws_FnExactValidCrowd.f laws_toRoom.f laws_toUint16A10.f laws_toCrowd.f
  simp only [Option.bind_some]
  refine Ev.bind h1 ?_
  refine Ev.bind h2 ?_
  cases r
  all_goals first | exact Ev.now true | exact Ev.pos trivial (Ev.now true) | exact Ev.pos rfl (Ev.now true) | exact Ev.neg (by simp) (Ev.now true) | (simp; exact Ev.now true)

end Go.Proofs.Ytdedijjbdkoekaa.Q
