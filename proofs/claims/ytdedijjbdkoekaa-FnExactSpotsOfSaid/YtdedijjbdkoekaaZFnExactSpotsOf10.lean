/- The statement FnExactSpotsOf of this program: what its proof uses, part 11 of 11. The call returns true for all arguments. No condition of its own. -/
import Derived.Deep.Strs
import Derived.Test.YtdedijjbdkoekaaZFnExactSpotsOf9
section
namespace Go.Proofs.Ytdedijjbdkoekaa.Rw
open Go.RowKit Go.Proofs.YtdedijjbdkoekaaW.PrintWords Go.Proofs.YtdedijjbdkoekaaW.PrintLast Go.Proofs.Ytdedijjbdkoekaa.PA
open Go.ChangeShapes Go.WideShapes Go.Deep
set_option linter.unusedVariables false
set_option linter.unusedSimpArgs false
def IntV (k : IntKind) (v : Value) : Prop := ∃ q, v = .int k q ∧ (Lit.int k q).wf = true
theorem okWide_array {P : Program} {w : World} {r : Reach} {base : Nat} {t : TypeId} {v : Value} {n : Nat} {e : TypeId} (ht : P.underlying t = some (.array n e)) (h : Value.okWide P w r base t v) : ∃ cs, v = .agg cs ∧ cs.size = P.cellsOf t := by
  simp only [Value.okWide, ht] at h
  obtain ⟨cs, h1, h2, _⟩ := h
  exact ⟨cs, h1, h2⟩
section
variable {H : Type} {enc : TypeId × Value → H} {P : Program} {w : World} {base : Nat} {spare : Nat → Bool} {held : Bool} {fuel : Nat} {t : TypeId} {cs : List Value} {x : DataW H × List MemPlace}
theorem arr_ints {n : Nat} {e : TypeId} {k : IntKind} (ht : P.underlying t = some (.array n e)) (he : P.underlying e = some (.int k)) (hc : P.cellsOf e = 1) (hn : P.cellsOf t = n) (h : DataW.trod enc P w base spare held fuel t cs = some x) : cs.length = n ∧ ∀ v ∈ cs, IntV k v := by
  obtain ⟨xs, m, _, _, hl, hx, hi⟩ := DataW.trod_array ht h
  refine ⟨hl.trans hn, fun v hv => ?_⟩
  obtain ⟨i, hil, rfl⟩ := List.getElem_of_mem hv
  have h1 := hi i (by omega)
  rw [hc, List.getElem?_eq_getElem (by omega)] at h1
  obtain ⟨q, hq, _, hw⟩ := DataW.trod_int he h1
  rw [Nat.mul_one, List.drop_eq_getElem_cons hil] at hq
  simp only [List.take_succ_cons, List.take_zero, List.cons.injEq, and_true] at hq
  exact ⟨q, hq, hw⟩
theorem arr_rows {n m : Nat} {e f : TypeId} {k : IntKind} (ht : P.underlying t = some (.array n e)) (hte : P.underlying e = some (.array m f)) (hf : P.underlying f = some (.int k)) (hcf : P.cellsOf f = 1) (hce : P.cellsOf e = m) (hct : P.cellsOf t = n * m) (hm : 0 < m) (h : DataW.trod enc P w base spare held fuel t cs = some x) : cs.length = n * m ∧ ∀ v ∈ cs, IntV k v := by
  obtain ⟨xs, m0, _, _, hl, hx, hi⟩ := DataW.trod_array ht h
  refine ⟨hl.trans hct, fun v hv => ?_⟩
  obtain ⟨j, hj, rfl⟩ := List.getElem_of_mem hv
  have hjn : j < n * m := by omega
  have hdiv : j / m < n := Nat.div_lt_of_lt_mul (by rw [Nat.mul_comm]; exact hjn)
  have h1 := hi (j / m) hdiv
  rw [hce, List.getElem?_eq_getElem (by omega)] at h1
  refine (arr_ints hte hf hcf hce h1).2 _ (List.mem_of_getElem? (i := j % m) ?_)
  rw [List.getElem?_take, if_pos (Nat.mod_lt _ hm), List.getElem?_drop, show j / m * m + j % m = j by rw [Nat.mul_comm]; exact Nat.div_add_mod j m, List.getElem?_eq_getElem hj]
end
theorem intv_cons {n : Nat} {k : IntKind} {l : List Value} (hl : l.length = n + 1) (hv : ∀ v ∈ l, IntV k v) : ∃ q t, l = .int k q :: t ∧ (Lit.int k q).wf = true ∧ t.length = n ∧ ∀ v ∈ t, IntV k v := by
  cases l with
  | nil => simp at hl
  | cons a t =>
    obtain ⟨q, rfl, hq⟩ := hv a (by simp)
    exact ⟨q, t, rfl, hq, by simpa using hl, fun v h => hv v (by simp [h])⟩
set_option maxRecDepth 100000 in
theorem openV24 {H : Type} {enc : TypeId × Value → H} {W : World} {b0 base : Nat} {v : Value} {d : DataW H} {p : List MemPlace} (hval : Value.okWide Try.prog W .any b0 24 v) (h : DataW.Trod enc Try.prog W base (fun _ => true) true 24 v d p) :
    ∃ n0 n1 n2 n3 n4 n5 n6 n7 n8 n9 n10 n11 n12 n13 n14 n15 n16 n17 n18 n19 n20 n21 n22 n23 n24 n25 n26 n27 n28 n29 n30 n31 n32 n33 n34 n35 n36 n37 n38 n39 : Int, v = .agg #[.int .u16 n0, .int .u16 n1, .int .u16 n2, .int .u16 n3, .int .u16 n4, .int .u16 n5, .int .u16 n6, .int .u16 n7, .int .u16 n8, .int .u16 n9, .int .u16 n10, .int .u16 n11, .int .u16 n12, .int .u16 n13, .int .u16 n14, .int .u16 n15, .int .u16 n16, .int .u16 n17, .int .u16 n18, .int .u16 n19, .int .u16 n20, .int .u16 n21, .int .u16 n22, .int .u16 n23, .int .u16 n24, .int .u16 n25, .int .u16 n26, .int .u16 n27, .int .u16 n28, .int .u16 n29, .int .u16 n30, .int .u16 n31, .int .u16 n32, .int .u16 n33, .int .u16 n34, .int .u16 n35, .int .u16 n36, .int .u16 n37, .int .u16 n38, .int .u16 n39] ∧ (Lit.int .u16 n0).wf = true ∧ (Lit.int .u16 n1).wf = true ∧ (Lit.int .u16 n2).wf = true ∧ (Lit.int .u16 n3).wf = true ∧ (Lit.int .u16 n4).wf = true ∧ (Lit.int .u16 n5).wf = true ∧ (Lit.int .u16 n6).wf = true ∧ (Lit.int .u16 n7).wf = true ∧ (Lit.int .u16 n8).wf = true ∧ (Lit.int .u16 n9).wf = true ∧ (Lit.int .u16 n10).wf = true ∧ (Lit.int .u16 n11).wf = true ∧ (Lit.int .u16 n12).wf = true ∧ (Lit.int .u16 n13).wf = true ∧ (Lit.int .u16 n14).wf = true ∧ (Lit.int .u16 n15).wf = true ∧ (Lit.int .u16 n16).wf = true ∧ (Lit.int .u16 n17).wf = true ∧ (Lit.int .u16 n18).wf = true ∧ (Lit.int .u16 n19).wf = true ∧ (Lit.int .u16 n20).wf = true ∧ (Lit.int .u16 n21).wf = true ∧ (Lit.int .u16 n22).wf = true ∧ (Lit.int .u16 n23).wf = true ∧ (Lit.int .u16 n24).wf = true ∧ (Lit.int .u16 n25).wf = true ∧ (Lit.int .u16 n26).wf = true ∧ (Lit.int .u16 n27).wf = true ∧ (Lit.int .u16 n28).wf = true ∧ (Lit.int .u16 n29).wf = true ∧ (Lit.int .u16 n30).wf = true ∧ (Lit.int .u16 n31).wf = true ∧ (Lit.int .u16 n32).wf = true ∧ (Lit.int .u16 n33).wf = true ∧ (Lit.int .u16 n34).wf = true ∧ (Lit.int .u16 n35).wf = true ∧ (Lit.int .u16 n36).wf = true ∧ (Lit.int .u16 n37).wf = true ∧ (Lit.int .u16 n38).wf = true ∧ (Lit.int .u16 n39).wf = true := by
  obtain ⟨⟨l⟩, rfl, hsz⟩ := okWide_array Try.underlying24 hval
  obtain ⟨fuel, hf⟩ := h
  have hf' : DataW.trod enc Try.prog W base (fun _ => true) true fuel 24 l = some (d, p) := hf
  obtain ⟨hl0, hv0⟩ := arr_rows Try.underlying24 Try.underlying23 Try.underlying22 (by kernel_rfl) (by kernel_rfl) (by kernel_rfl) (by omega) hf'
  clear hsz hf hf'
  obtain ⟨n0, l0, rfl, w0, hl1, hv1⟩ := intv_cons hl0 hv0
  obtain ⟨n1, l1, rfl, w1, hl2, hv2⟩ := intv_cons hl1 hv1
  obtain ⟨n2, l2, rfl, w2, hl3, hv3⟩ := intv_cons hl2 hv2
  obtain ⟨n3, l3, rfl, w3, hl4, hv4⟩ := intv_cons hl3 hv3
  obtain ⟨n4, l4, rfl, w4, hl5, hv5⟩ := intv_cons hl4 hv4
  obtain ⟨n5, l5, rfl, w5, hl6, hv6⟩ := intv_cons hl5 hv5
  obtain ⟨n6, l6, rfl, w6, hl7, hv7⟩ := intv_cons hl6 hv6
  obtain ⟨n7, l7, rfl, w7, hl8, hv8⟩ := intv_cons hl7 hv7
  obtain ⟨n8, l8, rfl, w8, hl9, hv9⟩ := intv_cons hl8 hv8
  obtain ⟨n9, l9, rfl, w9, hl10, hv10⟩ := intv_cons hl9 hv9
  obtain ⟨n10, l10, rfl, w10, hl11, hv11⟩ := intv_cons hl10 hv10
  obtain ⟨n11, l11, rfl, w11, hl12, hv12⟩ := intv_cons hl11 hv11
  obtain ⟨n12, l12, rfl, w12, hl13, hv13⟩ := intv_cons hl12 hv12
  obtain ⟨n13, l13, rfl, w13, hl14, hv14⟩ := intv_cons hl13 hv13
  obtain ⟨n14, l14, rfl, w14, hl15, hv15⟩ := intv_cons hl14 hv14
  obtain ⟨n15, l15, rfl, w15, hl16, hv16⟩ := intv_cons hl15 hv15
  obtain ⟨n16, l16, rfl, w16, hl17, hv17⟩ := intv_cons hl16 hv16
  obtain ⟨n17, l17, rfl, w17, hl18, hv18⟩ := intv_cons hl17 hv17
  obtain ⟨n18, l18, rfl, w18, hl19, hv19⟩ := intv_cons hl18 hv18
  obtain ⟨n19, l19, rfl, w19, hl20, hv20⟩ := intv_cons hl19 hv19
  obtain ⟨n20, l20, rfl, w20, hl21, hv21⟩ := intv_cons hl20 hv20
  obtain ⟨n21, l21, rfl, w21, hl22, hv22⟩ := intv_cons hl21 hv21
  obtain ⟨n22, l22, rfl, w22, hl23, hv23⟩ := intv_cons hl22 hv22
  obtain ⟨n23, l23, rfl, w23, hl24, hv24⟩ := intv_cons hl23 hv23
  obtain ⟨n24, l24, rfl, w24, hl25, hv25⟩ := intv_cons hl24 hv24
  obtain ⟨n25, l25, rfl, w25, hl26, hv26⟩ := intv_cons hl25 hv25
  obtain ⟨n26, l26, rfl, w26, hl27, hv27⟩ := intv_cons hl26 hv26
  obtain ⟨n27, l27, rfl, w27, hl28, hv28⟩ := intv_cons hl27 hv27
  obtain ⟨n28, l28, rfl, w28, hl29, hv29⟩ := intv_cons hl28 hv28
  obtain ⟨n29, l29, rfl, w29, hl30, hv30⟩ := intv_cons hl29 hv29
  obtain ⟨n30, l30, rfl, w30, hl31, hv31⟩ := intv_cons hl30 hv30
  obtain ⟨n31, l31, rfl, w31, hl32, hv32⟩ := intv_cons hl31 hv31
  obtain ⟨n32, l32, rfl, w32, hl33, hv33⟩ := intv_cons hl32 hv32
  obtain ⟨n33, l33, rfl, w33, hl34, hv34⟩ := intv_cons hl33 hv33
  obtain ⟨n34, l34, rfl, w34, hl35, hv35⟩ := intv_cons hl34 hv34
  obtain ⟨n35, l35, rfl, w35, hl36, hv36⟩ := intv_cons hl35 hv35
  obtain ⟨n36, l36, rfl, w36, hl37, hv37⟩ := intv_cons hl36 hv36
  obtain ⟨n37, l37, rfl, w37, hl38, hv38⟩ := intv_cons hl37 hv37
  obtain ⟨n38, l38, rfl, w38, hl39, hv39⟩ := intv_cons hl38 hv38
  obtain ⟨n39, l39, rfl, w39, hl40, hv40⟩ := intv_cons hl39 hv39
  obtain rfl := List.eq_nil_of_length_eq_zero hl40
  exact ⟨n0, n1, n2, n3, n4, n5, n6, n7, n8, n9, n10, n11, n12, n13, n14, n15, n16, n17, n18, n19, n20, n21, n22, n23, n24, n25, n26, n27, n28, n29, n30, n31, n32, n33, n34, n35, n36, n37, n38, n39, rfl, w0, w1, w2, w3, w4, w5, w6, w7, w8, w9, w10, w11, w12, w13, w14, w15, w16, w17, w18, w19, w20, w21, w22, w23, w24, w25, w26, w27, w28, w29, w30, w31, w32, w33, w34, w35, w36, w37, w38, w39⟩
set_option maxRecDepth 100000 in
theorem openV37 {H : Type} {enc : TypeId × Value → H} {W : World} {b0 base : Nat} {v : Value} {d : DataW H} {p : List MemPlace} (hval : Value.okWide Try.prog W .any b0 37 v) (h : DataW.Trod enc Try.prog W base (fun _ => true) true 37 v d p) :
    ∃ n0 n1 n2 n3 n4 n5 n6 n7 n8 n9 n10 n11 : Int, v = .agg #[.int .i8 n0, .int .i8 n1, .int .u16 n2, .int .u16 n3, .int .u16 n4, .int .u16 n5, .int .u16 n6, .int .u16 n7, .int .u16 n8, .int .u16 n9, .int .u16 n10, .int .u16 n11] ∧ (Lit.int .i8 n0).wf = true ∧ (Lit.int .i8 n1).wf = true ∧ (Lit.int .u16 n2).wf = true ∧ (Lit.int .u16 n3).wf = true ∧ (Lit.int .u16 n4).wf = true ∧ (Lit.int .u16 n5).wf = true ∧ (Lit.int .u16 n6).wf = true ∧ (Lit.int .u16 n7).wf = true ∧ (Lit.int .u16 n8).wf = true ∧ (Lit.int .u16 n9).wf = true ∧ (Lit.int .u16 n10).wf = true ∧ (Lit.int .u16 n11).wf = true := by
  obtain ⟨⟨l⟩, rfl, hsz⟩ := okWide_struct Try.underlying37 hval
  obtain ⟨fuel, hf⟩ := h
  have hf' : DataW.trod enc Try.prog W base (fun _ => true) true fuel 37 l = some (d, p) := hf
  obtain ⟨y0, y1, y2, n, hx, hl, h0, h1, h2⟩ := trod_struct3 Try.underlying37 hf'
  have e1 : Try.prog.cellsOf 29 = 1 := by kernel_rfl
  have e2 : Try.prog.cellsOf 23 = 10 := by kernel_rfl
  have e3 : Try.prog.cellsOf 37 = 12 := by kernel_rfl
  dsimp only at h0 h1 h2
  rw [e1] at h0 h1
  rw [e2] at h2
  rw [e3] at hl
  obtain ⟨c0, l, rfl, hl⟩ : ∃ c t, l = c :: t ∧ t.length = 11 := by
    cases l with
    | nil => simp at hl
    | cons c t => exact ⟨c, t, rfl, by simpa using hl⟩
  obtain ⟨c1, l, rfl, hl⟩ : ∃ c t, l = c :: t ∧ t.length = 10 := by
    cases l with
    | nil => simp at hl
    | cons c t => exact ⟨c, t, rfl, by simpa using hl⟩
  obtain ⟨n0, hq0, _, w0⟩ := DataW.trod_int Try.underlying29 h0
  obtain ⟨n1, hq1, _, w1⟩ := DataW.trod_int Try.underlying29 h1
  simp only [List.drop_zero, List.drop_succ_cons, List.take_succ_cons, List.take_zero, List.cons.injEq, and_true] at hq0 hq1 h2
  subst hq0 hq1
  rw [List.take_of_length_le (by omega)] at h2
  obtain ⟨hl2, hv2⟩ := arr_ints Try.underlying23 Try.underlying22 (by kernel_rfl) (by kernel_rfl) h2
  obtain ⟨n2, l2, rfl, w2, hl3, hv3⟩ := intv_cons hl2 hv2
  obtain ⟨n3, l3, rfl, w3, hl4, hv4⟩ := intv_cons hl3 hv3
  obtain ⟨n4, l4, rfl, w4, hl5, hv5⟩ := intv_cons hl4 hv4
  obtain ⟨n5, l5, rfl, w5, hl6, hv6⟩ := intv_cons hl5 hv5
  obtain ⟨n6, l6, rfl, w6, hl7, hv7⟩ := intv_cons hl6 hv6
  obtain ⟨n7, l7, rfl, w7, hl8, hv8⟩ := intv_cons hl7 hv7
  obtain ⟨n8, l8, rfl, w8, hl9, hv9⟩ := intv_cons hl8 hv8
  obtain ⟨n9, l9, rfl, w9, hl10, hv10⟩ := intv_cons hl9 hv9
  obtain ⟨n10, l10, rfl, w10, hl11, hv11⟩ := intv_cons hl10 hv10
  obtain ⟨n11, l11, rfl, w11, hl12, hv12⟩ := intv_cons hl11 hv11
  obtain rfl := List.eq_nil_of_length_eq_zero hl12
  exact ⟨n0, n1, n2, n3, n4, n5, n6, n7, n8, n9, n10, n11, rfl, w0, w1, w2, w3, w4, w5, w6, w7, w8, w9, w10, w11⟩
end Go.Proofs.Ytdedijjbdkoekaa.Rw
end
section
namespace Go.Proofs.Ytdedijjbdkoekaa.fnExactSpotsOf
open Go.ChangeShapes Go.WideShapes Go.ChangeAt Go.RowKit Go.Proofs.YtdedijjbdkoekaaW.PrintWords Go.Proofs.YtdedijjbdkoekaaW.PrintLast Go.Proofs.Ytdedijjbdkoekaa.Rw Go.Proofs.Ytdedijjbdkoekaa.PA
open Go.ChangeMaps (open_string shut_string)
set_option linter.unusedVariables false
set_option maxRecDepth 100000 in
set_option maxHeartbeats 1000000 in
theorem lifted (os : Os) (started : os.Started) (H : Type) (enc : TypeId × Value → H) :
    ReturnsInHanded {} Try.checked os 8 .any (Rows.fnExactSpotsOfSpec.pre6 enc Try.prog Try.f8 Rows.fnExactSpotsOfRow.domain false) (Rows.fnExactSpotsOfSpec.post enc Try.prog Try.f8 false true false false) := by
  refine returnsInHanded_of_change_sized (C := Try.checked) own started (by kernel_rfl) Try.func8
    (ChangeSpec.witness6 (enc := enc) (C := Try.checked) false ⟨#[], #[.agg #[.int .i8 0, .int .i8 0, .int .u16 0, .int .u16 0, .int .u16 0, .int .u16 0, .int .u16 0, .int .u16 0, .int .u16 0, .int .u16 0, .int .u16 0, .int .u16 0], .agg #[.int .u16 0, .int .u16 0, .int .u16 0, .int .u16 0, .int .u16 0, .int .u16 0, .int .u16 0, .int .u16 0, .int .u16 0, .int .u16 0, .int .u16 0, .int .u16 0, .int .u16 0, .int .u16 0, .int .u16 0, .int .u16 0, .int .u16 0, .int .u16 0, .int .u16 0, .int .u16 0, .int .u16 0, .int .u16 0, .int .u16 0, .int .u16 0, .int .u16 0, .int .u16 0, .int .u16 0, .int .u16 0, .int .u16 0, .int .u16 0, .int .u16 0, .int .u16 0, .int .u16 0, .int .u16 0, .int .u16 0, .int .u16 0, .int .u16 0, .int .u16 0, .int .u16 0, .int .u16 0]], []⟩ 8 (by kernel_rfl) (by kernel_rfl) (by kernel_rfl) (by kernel_rfl)) ?_
  intro W base args ds gs before hval0 hW hcnd hsz0 _
  have hval : ∀ (j : Nat) t v, Try.f8.params[j]? = some t → args[j]? = some v → Value.okWide Try.prog W .any base t v := hval0
  have hW' := hW
  obtain ⟨p, q, hA0, hV, rfl, hfz, hnd⟩ := hW
  have hA : DataW.TrodAll enc Try.prog W 0 (fun _ => true) true Try.f8.params.toList args.toList ds p := hA0
  rw [Try.params8] at hA hval
  obtain ⟨v0, vs0, d0, ds0, p0, q0, hargs, rfl, rfl, h0, r0⟩ := trodAll_cons hA
  obtain ⟨v1, vs1, d1, ds1, p1, q1, rfl, rfl, rfl, h1, r1⟩ := trodAll_cons r0
  obtain ⟨rfl, rfl, rfl⟩ := trodAll_nil r1
  obtain rfl : args = #[v0, v1] := by cases args; simp_all
  obtain ⟨rfl, rfl⟩ := trodVars_none hV
  have k0 := h0
  have lt0 : ∀ x ∈ p0, x.block < W.heap.size := by obtain ⟨m, hm⟩ := k0; exact DataW.trod_lt m _ _ _ hm
  obtain ⟨a0_0, a0_1, a0_2, a0_3, a0_4, a0_5, a0_6, a0_7, a0_8, a0_9, a0_10, a0_11, rfl, w0_0, w0_1, w0_2, w0_3, w0_4, w0_5, w0_6, w0_7, w0_8, w0_9, w0_10, w0_11⟩ := openV37 (hval 0 37 v0 rfl rfl) h0
  have k1 := h1
  have lt1 : ∀ x ∈ p1, x.block < W.heap.size := by obtain ⟨m, hm⟩ := k1; exact DataW.trod_lt m _ _ _ hm
  obtain ⟨a1_0, a1_1, a1_2, a1_3, a1_4, a1_5, a1_6, a1_7, a1_8, a1_9, a1_10, a1_11, a1_12, a1_13, a1_14, a1_15, a1_16, a1_17, a1_18, a1_19, a1_20, a1_21, a1_22, a1_23, a1_24, a1_25, a1_26, a1_27, a1_28, a1_29, a1_30, a1_31, a1_32, a1_33, a1_34, a1_35, a1_36, a1_37, a1_38, a1_39, rfl, w1_0, w1_1, w1_2, w1_3, w1_4, w1_5, w1_6, w1_7, w1_8, w1_9, w1_10, w1_11, w1_12, w1_13, w1_14, w1_15, w1_16, w1_17, w1_18, w1_19, w1_20, w1_21, w1_22, w1_23, w1_24, w1_25, w1_26, w1_27, w1_28, w1_29, w1_30, w1_31, w1_32, w1_33, w1_34, w1_35, w1_36, w1_37, w1_38, w1_39⟩ := openV24 (hval 1 24 v1 rfl rfl) h1
  clear hA0 hval0 hsz0
  obtain ⟨k, hk⟩ := Ev.rounds (Q.FnExactSpotsOf a0_0 a0_1 a0_2 a0_3 a0_4 a0_5 a0_6 a0_7 a0_8 a0_9 a0_10 a0_11 a1_0 a1_1 a1_2 a1_3 a1_4 a1_5 a1_6 a1_7 a1_8 a1_9 a1_10 a1_11 a1_12 a1_13 a1_14 a1_15 a1_16 a1_17 a1_18 a1_19 a1_20 a1_21 a1_22 a1_23 a1_24 a1_25 a1_26 a1_27 a1_28 a1_29 a1_30 a1_31 a1_32 a1_33 a1_34 a1_35 a1_36 a1_37 a1_38 a1_39 w0_0 w0_1 w0_2 w0_3 w0_4 w0_5 w0_6 w0_7 w0_8 w0_9 w0_10 w0_11 w1_0 w1_1 w1_2 w1_3 w1_4 w1_5 w1_6 w1_7 w1_8 w1_9 w1_10 w1_11 w1_12 w1_13 w1_14 w1_15 w1_16 w1_17 w1_18 w1_19 w1_20 w1_21 w1_22 w1_23 w1_24 w1_25 w1_26 w1_27 w1_28 w1_29 w1_30 w1_31 w1_32 w1_33 w1_34 w1_35 w1_36 w1_37 w1_38 w1_39)
  refine (laws_FnExactSpotsOf.calls k a0_0 a0_1 a0_2 a0_3 a0_4 a0_5 a0_6 a0_7 a0_8 a0_9 a0_10 a0_11 a1_0 a1_1 a1_2 a1_3 a1_4 a1_5 a1_6 a1_7 a1_8 a1_9 a1_10 a1_11 a1_12 a1_13 a1_14 a1_15 a1_16 a1_17 a1_18 a1_19 a1_20 a1_21 a1_22 a1_23 a1_24 a1_25 a1_26 a1_27 a1_28 a1_29 a1_30 a1_31 a1_32 a1_33 a1_34 a1_35 a1_36 a1_37 a1_38 a1_39 true W  hk).mono fun e W' ⟨he, bel0⟩ => ?_
  subst he
  have bel : Below W.heap.size W W' := by first | exact bel0 | exact bel0.below
  exact ⟨_, rfl, _, _, _, [], _, [], hW', trodAll_mk1 (shut_bool Try.underlying4 _), (trodAll_cons_mk (Below.trod laidOut (by kernel_rfl) (of_decide_eq_true (by kernel_rfl)) k0 bel lt0) (trodAll_cons_mk (Below.trod laidOut (by kernel_rfl) (of_decide_eq_true (by kernel_rfl)) k1 bel lt1) trodAll_mk0)), rfl, bel.frame _, fun h => by cases h⟩
theorem over : Rows.fnExactSpotsOfRow.holds Try.pinned (OpenSpec.ofChange Rows.fnExactSpotsOfSpec) :=
  OpenClaim.holds_of_wide 8 Try.f8 rfl rfl rfl rfl rfl rfl rfl ⟨rfl, rfl, rfl, rfl, rfl⟩ rfl rfl rfl rfl rfl (by kernel_rfl) Try.func8 (by kernel_rfl)
    (of_decide_eq_true (by kernel_rfl)) (by unfold Func.isWrapper; first | (rw [if_pos (by decide +kernel)]; kernel_rfl) | (rw [if_neg (by decide +kernel)]; exact ⟨rfl, rfl⟩))
    (fun os started H enc _ => lifted os started H enc)
end Go.Proofs.Ytdedijjbdkoekaa.fnExactSpotsOf
namespace Go.Proofs.Ytdedijjbdkoekaa
theorem fnExactSpotsOf_holds : Rows.FnExactSpotsOfSaid := fnExactSpotsOf.over
end Go.Proofs.Ytdedijjbdkoekaa
end
