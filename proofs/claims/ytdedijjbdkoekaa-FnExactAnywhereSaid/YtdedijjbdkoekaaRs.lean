/- Arguments of the statements, opened. -/
import Derived.Test.YtdedijjbdkoekaaRw
import Derived.Deep.Strs
import Derived.Test.YtdedijjbdkoekaaPAx0
namespace Go.Proofs.Ytdedijjbdkoekaa.Rw
open Go.RowKit Go.Proofs.YtdedijjbdkoekaaW.PrintWords Go.Proofs.YtdedijjbdkoekaaW.PrintLast Go.Proofs.Ytdedijjbdkoekaa.PA
open Go.ChangeShapes Go.WideShapes Go.Deep
set_option linter.unusedVariables false
set_option linter.unusedSimpArgs false

def IntV (k : IntKind) (v : Value) : Prop := ∃ q, v = .int k q ∧ (Lit.int k q).wf = true
theorem okWide_array {P : Program} {w : World} {r : Reach} {base : Nat} {t : TypeId} {v : Value} {n : Nat} {e : TypeId} (ht : P.underlying t = some (.array n e)) (h : Value.okWide P w r base t v) : ∃ cs, v = .agg cs ∧ cs.size = P.cellsOf t := by
  simp only [Value.okWide, ht] at h
  obtain ⟨cs, h1, h2, _⟩ := h
  exact ⟨cs, h1, h2⟩
section
variable {H : Type} {enc : TypeId × Value → H} {P : Program} {w : World} {base : Nat} {spare : Nat → Bool} {held : Bool} {fuel : Nat} {t : TypeId} {cs : List Value} {x : DataW H × List MemPlace}
theorem arr_ints {n : Nat} {e : TypeId} {k : IntKind} (ht : P.underlying t = some (.array n e)) (he : P.underlying e = some (.int k)) (hc : P.cellsOf e = 1) (hn : P.cellsOf t = n) (h : DataW.trod enc P w base spare held fuel t cs = some x) : cs.length = n ∧ ∀ v ∈ cs, IntV k v := by
  obtain ⟨xs, m, _, _, hl, hx, hi⟩ := DataW.trod_array ht h
  refine ⟨hl.trans hn, fun v hv => ?_⟩
  obtain ⟨i, hil, rfl⟩ := List.getElem_of_mem hv
  have h1 := hi i (by omega)
  rw [hc, List.getElem?_eq_getElem (by omega)] at h1
  obtain ⟨q, hq, _, hw⟩ := DataW.trod_int he h1
  rw [Nat.mul_one, List.drop_eq_getElem_cons hil] at hq
  simp only [List.take_succ_cons, List.take_zero, List.cons.injEq, and_true] at hq
  exact ⟨q, hq, hw⟩
theorem arr_rows {n m : Nat} {e f : TypeId} {k : IntKind} (ht : P.underlying t = some (.array n e)) (hte : P.underlying e = some (.array m f)) (hf : P.underlying f = some (.int k)) (hcf : P.cellsOf f = 1) (hce : P.cellsOf e = m) (hct : P.cellsOf t = n * m) (hm : 0 < m) (h : DataW.trod enc P w base spare held fuel t cs = some x) : cs.length = n * m ∧ ∀ v ∈ cs, IntV k v := by
  obtain ⟨xs, m0, _, _, hl, hx, hi⟩ := DataW.trod_array ht h
  refine ⟨hl.trans hct, fun v hv => ?_⟩
  obtain ⟨j, hj, rfl⟩ := List.getElem_of_mem hv
  have hjn : j < n * m := by omega
  have hdiv : j / m < n := Nat.div_lt_of_lt_mul (by rw [Nat.mul_comm]; exact hjn)
  have h1 := hi (j / m) hdiv
  rw [hce, List.getElem?_eq_getElem (by omega)] at h1
  refine (arr_ints hte hf hcf hce h1).2 _ (List.mem_of_getElem? (i := j % m) ?_)
  rw [List.getElem?_take, if_pos (Nat.mod_lt _ hm), List.getElem?_drop, show j / m * m + j % m = j by rw [Nat.mul_comm]; exact Nat.div_add_mod j m, List.getElem?_eq_getElem hj]
end
theorem intv_cons {n : Nat} {k : IntKind} {l : List Value} (hl : l.length = n + 1) (hv : ∀ v ∈ l, IntV k v) : ∃ q t, l = .int k q :: t ∧ (Lit.int k q).wf = true ∧ t.length = n ∧ ∀ v ∈ t, IntV k v := by
  cases l with
  | nil => simp at hl
  | cons a t =>
    obtain ⟨q, rfl, hq⟩ := hv a (by simp)
    exact ⟨q, t, rfl, hq, by simpa using hl, fun v h => hv v (by simp [h])⟩


set_option maxRecDepth 100000 in
theorem openV37 {H : Type} {enc : TypeId × Value → H} {W : World} {b0 base : Nat} {v : Value} {d : DataW H} {p : List MemPlace} (hval : Value.okWide Try.prog W .any b0 37 v) (h : DataW.Trod enc Try.prog W base (fun _ => true) true 37 v d p) :
    ∃ n0 n1 n2 n3 n4 n5 n6 n7 n8 n9 n10 n11 : Int, v = .agg #[.int .i8 n0, .int .i8 n1, .int .u16 n2, .int .u16 n3, .int .u16 n4, .int .u16 n5, .int .u16 n6, .int .u16 n7, .int .u16 n8, .int .u16 n9, .int .u16 n10, .int .u16 n11] ∧ (Lit.int .i8 n0).wf = true ∧ (Lit.int .i8 n1).wf = true ∧ (Lit.int .u16 n2).wf = true ∧ (Lit.int .u16 n3).wf = true ∧ (Lit.int .u16 n4).wf = true ∧ (Lit.int .u16 n5).wf = true ∧ (Lit.int .u16 n6).wf = true ∧ (Lit.int .u16 n7).wf = true ∧ (Lit.int .u16 n8).wf = true ∧ (Lit.int .u16 n9).wf = true ∧ (Lit.int .u16 n10).wf = true ∧ (Lit.int .u16 n11).wf = true := by
  obtain ⟨⟨l⟩, rfl, hsz⟩ := okWide_struct Try.underlying37 hval
  obtain ⟨fuel, hf⟩ := h
  have hf' : DataW.trod enc Try.prog W base (fun _ => true) true fuel 37 l = some (d, p) := hf
  obtain ⟨y0, y1, y2, n, hx, hl, h0, h1, h2⟩ := trod_struct3 Try.underlying37 hf'
  have e1 : Try.prog.cellsOf 29 = 1 := by kernel_rfl
  have e2 : Try.prog.cellsOf 23 = 10 := by kernel_rfl
  have e3 : Try.prog.cellsOf 37 = 12 := by kernel_rfl
  dsimp only at h0 h1 h2
  rw [e1] at h0 h1
  rw [e2] at h2
  rw [e3] at hl
  obtain ⟨c0, l, rfl, hl⟩ : ∃ c t, l = c :: t ∧ t.length = 11 := by
    cases l with
    | nil => simp at hl
    | cons c t => exact ⟨c, t, rfl, by simpa using hl⟩
  obtain ⟨c1, l, rfl, hl⟩ : ∃ c t, l = c :: t ∧ t.length = 10 := by
    cases l with
    | nil => simp at hl
    | cons c t => exact ⟨c, t, rfl, by simpa using hl⟩
  obtain ⟨n0, hq0, _, w0⟩ := DataW.trod_int Try.underlying29 h0
  obtain ⟨n1, hq1, _, w1⟩ := DataW.trod_int Try.underlying29 h1
  simp only [List.drop_zero, List.drop_succ_cons, List.take_succ_cons, List.take_zero, List.cons.injEq, and_true] at hq0 hq1 h2
  subst hq0 hq1
  rw [List.take_of_length_le (by omega)] at h2
  obtain ⟨hl2, hv2⟩ := arr_ints Try.underlying23 Try.underlying22 (by kernel_rfl) (by kernel_rfl) h2
  obtain ⟨n2, l2, rfl, w2, hl3, hv3⟩ := intv_cons hl2 hv2
  obtain ⟨n3, l3, rfl, w3, hl4, hv4⟩ := intv_cons hl3 hv3
  obtain ⟨n4, l4, rfl, w4, hl5, hv5⟩ := intv_cons hl4 hv4
  obtain ⟨n5, l5, rfl, w5, hl6, hv6⟩ := intv_cons hl5 hv5
  obtain ⟨n6, l6, rfl, w6, hl7, hv7⟩ := intv_cons hl6 hv6
  obtain ⟨n7, l7, rfl, w7, hl8, hv8⟩ := intv_cons hl7 hv7
  obtain ⟨n8, l8, rfl, w8, hl9, hv9⟩ := intv_cons hl8 hv8
  obtain ⟨n9, l9, rfl, w9, hl10, hv10⟩ := intv_cons hl9 hv9
  obtain ⟨n10, l10, rfl, w10, hl11, hv11⟩ := intv_cons hl10 hv10
  obtain ⟨n11, l11, rfl, w11, hl12, hv12⟩ := intv_cons hl11 hv11
  obtain rfl := List.eq_nil_of_length_eq_zero hl12
  exact ⟨n0, n1, n2, n3, n4, n5, n6, n7, n8, n9, n10, n11, rfl, w0, w1, w2, w3, w4, w5, w6, w7, w8, w9, w10, w11⟩

end Go.Proofs.Ytdedijjbdkoekaa.Rw
