/- The statement FnExactLateBy of this program: what its proof uses, part 8 of 12. The call returns true for all arguments. No condition of its own. -/
import Derived.Deep.Strs
import Derived.Test.YtanobaoaelhebaaZFnExactLateBy6
section
namespace Go.Proofs.Ytanobaoaelhebaa.Rw
open Go.RowKit Go.Proofs.YtanobaoaelhebaaW.PrintWords Go.Proofs.YtanobaoaelhebaaW.PrintLast Go.Proofs.Ytanobaoaelhebaa.La Go.Proofs.Ytanobaoaelhebaa.PB
open Go.ChangeShapes Go.WideShapes Go.Deep
set_option linter.unusedVariables false
set_option linter.unusedSimpArgs false
def IntV (k : IntKind) (v : Value) : Prop := ∃ q, v = .int k q ∧ (Lit.int k q).wf = true
section
variable {H : Type} {enc : TypeId × Value → H} {P : Program} {w : World} {base : Nat} {spare : Nat → Bool} {held : Bool} {fuel : Nat} {t : TypeId} {cs : List Value} {x : DataW H × List MemPlace}
theorem arr_ints {n : Nat} {e : TypeId} {k : IntKind} (ht : P.underlying t = some (.array n e)) (he : P.underlying e = some (.int k)) (hc : P.cellsOf e = 1) (hn : P.cellsOf t = n) (h : DataW.trod enc P w base spare held fuel t cs = some x) : cs.length = n ∧ ∀ v ∈ cs, IntV k v := by
  obtain ⟨xs, m, _, _, hl, hx, hi⟩ := DataW.trod_array ht h
  refine ⟨hl.trans hn, fun v hv => ?_⟩
  obtain ⟨i, hil, rfl⟩ := List.getElem_of_mem hv
  have h1 := hi i (by omega)
  rw [hc, List.getElem?_eq_getElem (by omega)] at h1
  obtain ⟨q, hq, _, hw⟩ := DataW.trod_int he h1
  rw [Nat.mul_one, List.drop_eq_getElem_cons hil] at hq
  simp only [List.take_succ_cons, List.take_zero, List.cons.injEq, and_true] at hq
  exact ⟨q, hq, hw⟩
end
theorem nums_of {k : IntKind} : ∀ {l : List Value}, (∀ v ∈ l, IntV k v) → ∃ xs : List Int, l = xs.map (Value.int k) ∧ ∀ x ∈ xs, (Lit.int k x).wf = true
  | [], _ => ⟨[], rfl, fun x h => by simp at h⟩
  | v :: t, h => by
    obtain ⟨q, rfl, hq⟩ := h v (by simp)
    obtain ⟨xs, rfl, hx⟩ := nums_of (l := t) (fun v hv => h v (by simp [hv]))
    exact ⟨q :: xs, rfl, fun x hm => by
      rcases List.mem_cons.1 hm with rfl | hm
      · exact hq
      · exact hx x hm⟩
set_option maxRecDepth 100000 in
theorem openV26 {H : Type} {enc : TypeId × Value → H} {W : World} {b0 base : Nat} {v : Value} {d : DataW H} {p : List MemPlace} (hval : Value.okWide Try.prog W .any b0 26 v) (h : DataW.Trod enc Try.prog W base (fun _ => true) true 26 v d p) :
    ∃ (n0 n1 : Int) (R : LA 10), v = .agg (mixA (Value.int .u16) [.int .i8 n0, .int .i8 n1] R) ∧ (Lit.int .i8 n0).wf = true ∧ (Lit.int .i8 n1).wf = true ∧ ∀ x ∈ R.l, (Lit.int .u16 x).wf = true := by
  obtain ⟨⟨l⟩, rfl, hsz⟩ := okWide_struct Try.underlying26 hval
  obtain ⟨fuel, hf⟩ := h
  have hf' : DataW.trod enc Try.prog W base (fun _ => true) true fuel 26 l = some (d, p) := hf
  obtain ⟨y0, y1, y2, n, hx, hl, h0, h1, h2⟩ := trod_struct3 Try.underlying26 hf'
  have e1 : Try.prog.cellsOf 22 = 1 := by kernel_rfl
  have e2 : Try.prog.cellsOf 24 = 10 := by kernel_rfl
  have e3 : Try.prog.cellsOf 26 = 12 := by kernel_rfl
  dsimp only at h0 h1 h2
  rw [e1] at h0 h1
  rw [e2] at h2
  rw [e3] at hl
  obtain ⟨c0, l, rfl, hl⟩ : ∃ c t, l = c :: t ∧ t.length = 11 := by
    cases l with
    | nil => simp at hl
    | cons c t => exact ⟨c, t, rfl, by simpa using hl⟩
  obtain ⟨c1, l, rfl, hl⟩ : ∃ c t, l = c :: t ∧ t.length = 10 := by
    cases l with
    | nil => simp at hl
    | cons c t => exact ⟨c, t, rfl, by simpa using hl⟩
  obtain ⟨n0, hq0, _, w0⟩ := DataW.trod_int Try.underlying22 h0
  obtain ⟨n1, hq1, _, w1⟩ := DataW.trod_int Try.underlying22 h1
  simp only [List.drop_zero, List.drop_succ_cons, List.take_succ_cons, List.take_zero, List.cons.injEq, and_true] at hq0 hq1 h2
  subst hq0 hq1
  rw [List.take_of_length_le (by omega)] at h2
  obtain ⟨hl2, hv2⟩ := arr_ints Try.underlying24 Try.underlying23 (by kernel_rfl) (by kernel_rfl) h2
  obtain ⟨xs, rfl, hx2⟩ := nums_of hv2
  exact ⟨n0, n1, ⟨xs, by simpa using hl2⟩, rfl, w0, w1, hx2⟩
set_option maxRecDepth 100000 in
theorem openV28 {H : Type} {enc : TypeId × Value → H} {W : World} {b0 base : Nat} {v : Value} {d : DataW H} {p : List MemPlace} (hval : Value.okWide Try.prog W .any b0 28 v) (h : DataW.Trod enc Try.prog W base (fun _ => true) true 28 v d p) :
    ∃ n0 n1 : Int, v = .agg #[.int .i8 n0, .int .i8 n1] ∧ (Lit.int .i8 n0).wf = true ∧ (Lit.int .i8 n1).wf = true := by
  obtain ⟨cs, rfl, hsz⟩ := okWide_struct Try.underlying28 hval
  obtain ⟨fuel, hf⟩ := h
  have ec : Try.prog.cellsOf 28 = 2 := by kernel_rfl
  have hsz2 : cs.size = 2 := hsz.trans ec
  obtain ⟨c0, c1, rfl⟩ : ∃ c0 c1, cs = #[c0, c1] := by
    rcases cs with ⟨l⟩
    match l, hsz2 with
    | [c0, c1], _ => exact ⟨c0, c1, rfl⟩
  have hf' : DataW.trod enc Try.prog W base (fun _ => true) true fuel 28 [c0, c1] = some (d, p) := hf
  obtain ⟨y0, y1, n, hx, hl, h0, h1⟩ := trod_struct2 Try.underlying28 hf'
  have g0 : DataW.trod enc Try.prog W base (fun _ => true) true n 22 [c0] = some y0 := by
    have e : Try.prog.cellsOf 22 = 1 := by kernel_rfl
    dsimp only at h0
    rw [e] at h0
    exact h0
  obtain ⟨q0, hq0, _, hw0⟩ := DataW.trod_int Try.underlying22 g0
  simp only [List.cons.injEq, and_true] at hq0
  subst hq0
  have g1 : DataW.trod enc Try.prog W base (fun _ => true) true n 22 [c1] = some y1 := by
    have e : Try.prog.cellsOf 22 = 1 := by kernel_rfl
    dsimp only at h1
    rw [e] at h1
    exact h1
  obtain ⟨q1, hq1, _, hw1⟩ := DataW.trod_int Try.underlying22 g1
  simp only [List.cons.injEq, and_true] at hq1
  subst hq1
  exact ⟨q0, q1, rfl, hw0, hw1⟩
theorem one28 : ∃ fs : Array Field, Try.prog.underlying 28 = some (.struct fs) ∧ oneCellFields Try.prog fs = true ∧ Try.prog.cellsOf 28 = fs.size ∧ fs.size = 2 ∧ ∀ (j : Nat) (f : Field), fs[j]? = some f → ∃ k, ([.i8, .i8] : List IntKind)[j]? = some k ∧ Try.prog.underlying f.type = some (.int k) := by
  refine ⟨_, Try.underlying28, by kernel_rfl, by kernel_rfl, rfl, fun j f hj => ?_⟩
  match j, hj with
  | 0, hj => cases hj; exact ⟨.i8, rfl, Try.underlying22⟩
  | 1, hj => cases hj; exact ⟨.i8, rfl, Try.underlying22⟩
  | j + 2, hj => simp at hj
theorem openS28 {H : Type} {enc : TypeId × Value → H} {W : World} {a : Option Addr} {len cap : Nat} {d : DataW H} {p : List MemPlace} (h : DataW.Trod enc Try.prog W 0 (fun _ => true) true 29 (.slice a len cap) d p) :
    ∃ l : List S28, l.length = len ∧ len ≤ cap ∧ len ≤ maxLen ∧ Kd.C k28 W a len l ∧ ∀ x ∈ l, (Lit.int .i8 x.f0).wf = true ∧ (Lit.int .i8 x.f1).wf = true := by
  obtain ⟨fuel, hf⟩ := h
  obtain ⟨fs, hu, hone, hC, hsz, hk⟩ := one28
  have hf' : DataW.trod enc Try.prog W 0 (fun _ => true) true fuel 29 [.slice a len cap] = some (d, p) := by simpa [Value.cells] using hf
  rcases open_structs Try.underlying29 hu hone hC hk hf' with ⟨rfl, rfl, rfl⟩ | ⟨ad, rfl, hl, hm, hc⟩
  · exact ⟨[], rfl, Nat.le_refl _, by unfold maxLen; omega, ⟨rfl, by omega, fun h => absurd h (by omega)⟩, fun x hx => by simp at hx⟩
  · have hfield : ∀ j, j < 2 → ∃ f, fs[j]? = some f := fun j hj => ⟨_, Array.getElem?_eq_getElem (by omega)⟩
    have c0 : ∀ i, i < len → ∃ n, W.cell? (ad.add (i * 2 + 0)) = some (.int .i8 n) ∧ (Lit.int .i8 n).wf = true := fun i hi => by
      obtain ⟨f, hfj⟩ := hfield 0 (by omega)
      obtain ⟨k, n, hk', hcell, hwf⟩ := hc i hi 0 f hfj
      cases hk'
      rw [hsz] at hcell
      exact ⟨n, hcell, hwf⟩
    have c1 : ∀ i, i < len → ∃ n, W.cell? (ad.add (i * 2 + 1)) = some (.int .i8 n) ∧ (Lit.int .i8 n).wf = true := fun i hi => by
      obtain ⟨f, hfj⟩ := hfield 1 (by omega)
      obtain ⟨k, n, hk', hcell, hwf⟩ := hc i hi 1 f hfj
      cases hk'
      rw [hsz] at hcell
      exact ⟨n, hcell, hwf⟩
    refine ⟨(List.range len).map fun i => (⟨numOf (W.cell? (ad.add (i * 2 + 0))), numOf (W.cell? (ad.add (i * 2 + 1)))⟩ : S28), by simp, hl, by omega, ⟨by simp, by unfold maxLen at hm; omega, fun _ => ⟨ad, rfl, fun j p hj => ?_⟩⟩, fun x hx => ?_⟩
    · have hjl : j < len := by have := (List.getElem?_eq_some_iff.1 hj).1; simpa using this
      have hp : p = (⟨numOf (W.cell? (ad.add (j * 2 + 0))), numOf (W.cell? (ad.add (j * 2 + 1)))⟩ : S28) := by
        rw [List.getElem?_map, List.getElem?_range hjl] at hj
        exact (Option.some.inj hj).symm
      refine ⟨[.int .i8 p.f0, .int .i8 p.f1], rfl, k28_mk W p, fun i u hu => ?_⟩
      match i, hu with
      | 0, hu => obtain ⟨n, hn, _⟩ := c0 j hjl; cases hu; rw [hp]; show W.cell? (ad.add (j * 2 + 0)) = _; rw [hn]; simp [numOf, hn]
      | 1, hu => obtain ⟨n, hn, _⟩ := c1 j hjl; cases hu; rw [hp]; show W.cell? (ad.add (j * 2 + 1)) = _; rw [hn]; simp [numOf, hn]
      | i + 2, hu => simp at hu
    · rw [List.mem_map] at hx
      obtain ⟨i, hi, rfl⟩ := hx
      have hil : i < len := by simpa using hi
      obtain ⟨n0, hn0, hw0⟩ := c0 i hil
      obtain ⟨n1, hn1, hw1⟩ := c1 i hil
      simp only [hn0, hn1, numOf]
      exact ⟨hw0, hw1⟩
theorem openI31 {H : Type} {enc : TypeId × Value → H} {W : World} {a : Option Addr} {len cap : Nat} {d : DataW H} {p : List MemPlace} (h : DataW.Trod enc Try.prog W 0 (fun _ => true) true 31 (.slice a len cap) d p) :
    ∃ l : List Int, l.length = len ∧ Kd.C (Kd.int .i64) W a len l ∧ l.length ≤ maxLen ∧ (∀ x ∈ l, (Lit.int .i64 x).wf = true) ∧ len ≤ cap := by
  obtain ⟨fuel, hf⟩ := h
  have hrow : ∃ zs, (a = none ∧ len = 0 ∧ cap = 0 ∧ zs = []) ∨ ∃ x, a = some x ∧ len ≤ cap ∧ cap ≤ maxLen ∧ zs.length = cap ∧ (∀ i, i < zs.length → W.cell? (x.add i) = some (.int .i64 (zs.getD i 0))) ∧ ∀ n ∈ zs, (Lit.int .i64 n).wf = true := by
    rcases open_ints Try.underlying31 Try.underlying2 (by kernel_rfl) hf with ⟨hcs, _⟩ | ⟨x, l, c, zs, hcs, _, hl, hm, hz, _, hcell, hwz⟩
    · simp [Value.cells] at hcs
      obtain ⟨rfl, rfl, rfl⟩ := hcs
      exact ⟨[], .inl ⟨rfl, rfl, rfl, rfl⟩⟩
    · simp [Value.cells] at hcs
      obtain ⟨rfl, rfl, rfl⟩ := hcs
      exact ⟨zs, .inr ⟨_, rfl, hl, hm, by simpa using hz, hcell, hwz⟩⟩
  obtain ⟨zs, hz⟩ := hrow
  obtain ⟨l, rfl, hr, hm, hw, hc⟩ := ReadsInt.ofRowC hz
  exact ⟨l, rfl, Kd.C_of_reads (d := (0 : Int)) (h1 := fun _ => rfl) hr, hm, hw, hc⟩
end Go.Proofs.Ytanobaoaelhebaa.Rw
end
section
namespace Go.Proofs.Ytanobaoaelhebaa.PB
open Go.RowKit Go.Proofs.YtanobaoaelhebaaW.PrintWords Go.Proofs.YtanobaoaelhebaaW.PrintLast Go.Proofs.YtanobaoaelhebaaW.PrintMore Go.Proofs.Ytanobaoaelhebaa.La Go.Proofs.Ytanobaoaelhebaa.Mp
attribute [local go_sem] max2_int min2_int max_two min_two max_three min_three max_four min_four   -- for this text's walks alone
set_option linter.unusedVariables false
set_option linter.unusedSimpArgs false
def laws_szSpotS.f (l0 : List (S28)) (a1 : Int) : Option (Int) := if (wrap64 (a1 - (l0.length : Int))) < 0 then (some (-1)) else (some (wrap64 (a1 - (l0.length : Int))))
set_option maxHeartbeats 8000000 in
set_option maxRecDepth 100000 in
theorem laws_szSpotS.calls (A0 : Option Addr) (c0 : Nat) (l0 : List (S28)) (a1 : Int) (r : Int) (w : World) (hr0 : Kd.C k28 w A0 l0.length l0) (hc0 : l0.length ≤ c0) (h : laws_szSpotS.f l0 a1 = some r) :
  Calls Try.prog 7 #[.slice A0 l0.length c0, .int .i64 a1] w fun e w' => e = .returned (.int .i64 r) ∧ Drawn0 w w' := by
 have HR0 := Aside0.mk hr0
 have HC0 := Aside0.mk hc0
 clear hr0 hc0
 have H : (if (wrap64 (a1 - (l0.length : Int))) < 0 then (some (-1)) else (some (wrap64 (a1 - (l0.length : Int))))) = some r := h
 clear h
 by_cases c3 : (wrap64 (a1 - (l0.length : Int))) < 0
 ·rw [if_pos c3] at H
  have c3b0 : decide ((wrap64 (a1 - (l0.length : Int))) < 0) = true := decide_eq_true c3; clear c3; obtain rfl := Option.some.inj H
  go_enter Try.func7, Try.ntmps7
  go_wp2
  go_ret
  exact ⟨by first | rfl | (simp; done) | (simp [*]; done), by repeat (first | exact Drawn0.refl _ | apply Drawn0.step)⟩
 ·rw [if_neg c3] at H
  have c3b0 : decide ((wrap64 (a1 - (l0.length : Int))) < 0) = false := decide_eq_false c3; clear c3; obtain rfl := Option.some.inj H
  go_enter Try.func7, Try.ntmps7
  go_wp2
  go_ret
  exact ⟨by first | rfl | (simp; done) | (simp [*]; done), by repeat (first | exact Drawn0.refl _ | apply Drawn0.step)⟩
def laws_toUint16A10.l0 : Nat → Int → LA 10 → LA 10 → Option (LA 10)
 | 0, _, _, _ => none
 | k + 1, x4, x102000, x104000 => if x4 < 10 then (if 0 ≤ x4 then (laws_toUint16A10.l0 k (wrap64 (x4 + 1)) x102000 (LA.set x104000 x4 (rd x102000.l x4))) else (none)) else (some x104000)
def laws_toUint16A10.f (k : Nat) (a0 : LA 10) : Option (LA 10) := laws_toUint16A10.l0 k 0 a0 (LA.zero 10)
theorem laws_toUint16A10.mono_l : ∀ k, (∀ y0 y1 y2, LeO (laws_toUint16A10.l0 k y0 y1 y2) (laws_toUint16A10.l0 (k + 1) y0 y1 y2))
 | 0 => fun _ _ _ r h => by simp [laws_toUint16A10.l0] at h
 | k + 1 => by
  have ih0 := laws_toUint16A10.mono_l k
  ·intro y0 y1 y2
   unfold laws_toUint16A10.l0
   repeat' first
   | (with_reducible exact ih0 _ _ _)
   | (with_reducible exact LeO.refl _)
   | (with_reducible exact LeO.none _)
   | (with_reducible refine LeO.ite ?_ ?_)
   | (with_reducible refine LeO.bind ?_ (fun _ => ?_))
   | exact ih0 _ _ _
   | exact LeO.none _
   | refine LeO.ite ?_ ?_
   | refine LeO.bind ?_ (fun _ => ?_)
theorem laws_toUint16A10.mono : ∀ a0 k, LeO (laws_toUint16A10.f k a0) (laws_toUint16A10.f (k + 1) a0) := by
 intro a0 k
 have ih0 := laws_toUint16A10.mono_l k
 unfold laws_toUint16A10.f
 repeat' first
   | (with_reducible exact ih0 _ _ _)
   | (with_reducible exact LeO.refl _)
   | (with_reducible exact LeO.none _)
   | (with_reducible refine LeO.ite ?_ ?_)
   | (with_reducible refine LeO.bind ?_ (fun _ => ?_))
   | exact ih0 _ _ _
   | exact LeO.none _
   | refine LeO.ite ?_ ?_
   | refine LeO.bind ?_ (fun _ => ?_)
set_option maxHeartbeats 8000000 in
set_option maxRecDepth 100000 in
theorem laws_toUint16A10.calls (k : Nat) (a0 : LA 10) (r : LA 10) (w : World) (h : laws_toUint16A10.f k a0 = some r) :
  Calls Try.prog 40 #[.agg (mixA (Value.int .u16) [] a0)] w fun e w' => e = .returned (.agg (mixA (Value.int .u16) [] r)) ∧ Below w.heap.size w w' := by
 have HB := Aside0.mk (Below.refl w.heap.size w)
 have H : (laws_toUint16A10.l0 k 0 a0 (LA.zero 10)) = some r := h
 clear h
 have H' := Aside0.mk H
 clear H
 go_enter Try.func40, Try.ntmps40
 go_wp2_with (first | ((with_reducible refine gate_dst (N := 1) rfl ?_); refine box_event ?hg (N := 1) ?hd (cs := (mixA (Value.int .u16) [] a0)) (t := 24) ?hr ?_; (case hd => rfl); (case hg => rfl); (case hr => first | (go_simp; done) | (go_simp; rfl)); intro gb101 hg w2 hbox hb; have n0_ := bst HB hb; have n1_ := Aside0.mk (hbox); have n2_ := gwl HB hg; have n3_ := gwl HB hg; clear HB; have HB := n0_; have BK101 := n1_; have GW101 := n2_; have GE101 := n3_; clear n0_ n1_ n2_ n3_; clear hb hbox hg) | ((with_reducible refine gate_dst (N := 2) rfl ?_); refine box_event ?hg (N := 2) ?hd (cs := (mixA (Value.int .u16) [] (LA.zero 10))) (t := 24) ?hr ?_; (case hd => rfl); (case hg => rfl); (case hr => first | (go_simp; done) | (go_simp; rfl)); intro gb102 hg w3 hbox hb; have n0_ := bkb BK101 hb; have n1_ := bst HB hb; have n2_ := Aside0.mk (hbox); have n3_ := gwl HB hg; have n4_ := gwl HB hg; have n5_ := nbl BK101 hg; have n6_ := nbg BK101 hg; clear BK101; clear HB; have BK101 := n0_; have HB := n1_; have BK102 := n2_; have GW102 := n3_; have GE102 := n4_; have NB101_102 := n5_; have NB102_101 := n6_; clear n0_ n1_ n2_ n3_ n4_ n5_ n6_; clear hb hbox hg) | ((with_reducible refine gate_dst (N := 3) rfl ?_); refine box_event ?hg (N := 3) ?hd (cs := (mixA (Value.int .u16) [] (LA.zero 10))) (t := 24) ?hr ?_; (case hd => rfl); (case hg => rfl); (case hr => first | (go_simp; done) | (go_simp; rfl)); intro gb103 hg w4 hbox hb; have n0_ := bkb BK101 hb; have n1_ := bkb BK102 hb; have n2_ := bst HB hb; have n3_ := Aside0.mk (hbox); have n4_ := gwl HB hg; have n5_ := gwl HB hg; have n6_ := nbl BK101 hg; have n7_ := nbg BK101 hg; have n8_ := nbl BK102 hg; have n9_ := nbg BK102 hg; clear BK101; clear BK102; clear HB; have BK101 := n0_; have BK102 := n1_; have HB := n2_; have BK103 := n3_; have GW103 := n4_; have GE103 := n5_; have NB101_103 := n6_; have NB103_101 := n7_; have NB102_103 := n8_; have NB103_102 := n9_; clear n0_ n1_ n2_ n3_ n4_ n5_ n6_ n7_ n8_ n9_; clear hb hbox hg))
 go_loopg [4] k (fun kq v4 w' => ∃ (x4_1 : Int) (x104000_1 : LA 10), v4 = .int .i64 x4_1 ∧ Aside0 (laws_toUint16A10.l0 kq x4_1 a0 x104000_1 = some r) ∧ Aside0 (kq ≤ k) ∧ Aside0 (w'.heap[gb101]? = some (.cells (mixA (Value.int .u16) [] a0) 24 (0, 0))) ∧ Aside0 (w'.heap[gb102]? = some (.cells (mixA (Value.int .u16) [] (LA.zero 10)) 24 (0, 0))) ∧ Aside0 (w'.heap[gb103]? = some (.cells (mixA (Value.int .u16) [] x104000_1) 24 (0, 0))) ∧ Aside0 (Below w.heap.size w w'))
 case atStart => exact ⟨(0), ((LA.zero 10)), (by first | rfl | (simp; done) | (simp [*]; done)), H', ⟨Nat.le_refl _⟩, ⟨pk BK101⟩, ⟨pk BK102⟩, ⟨pk BK103⟩, ⟨pbs HB⟩⟩
 case round =>
  clear H'
  try clear p2
  try clear c4
  obtain ⟨x4_1, x104000_1, rfl, HA, HK1, BK101, BK102, BK103, HB⟩ := hrel
  cases gk with
  | zero => exact absurd HA.out (by simp [laws_toUint16A10.l0])
  | succ k1 =>
   have H := HA.out; clear HA; simp only [laws_toUint16A10.l0] at H
   by_cases c5 : x4_1 < 10
   ·rw [if_pos c5] at H
    have c5b0 : decide (x4_1 < 10) = true := decide_eq_true c5; clear c5
    by_cases c6 : 0 ≤ x4_1
    ·rw [if_pos c6] at H
     have c6b0 : decide (0 ≤ x4_1) = true := decide_eq_true c6; clear c6; have H' := Aside0.mk H; clear H; have hnb7 := NB101_102.out; have hnc7 := NB102_101.out; have hnb8 := NB101_103.out; have hnc8 := NB103_101.out; have hpd10 : (0 ≤ x4_1) = True := eq_true (by first | omega | exact oda); have hqd10 : (x4_1 < 10) = True := eq_true (by first | omega | exact oda); have hrd10 : (x4_1 < ((10 : Nat) : Int)) = True := eq_true (by first | omega | exact oda); have hdd10 : wr.cell? ⟨gb101, x4_1.toNat, none⟩ = some (.int .u16 (rd a0.l x4_1)) := mix_atz BK101.out x4_1 (of_eq_true hpd10) (of_eq_true hqd10); have hfdd10 := blk_frozen BK101.out (x4_1.toNat); have hpd11 : (0 ≤ x4_1) = True := eq_true (by first | omega | exact oda); have hqd11 : (x4_1 < 10) = True := eq_true (by first | omega | exact oda); have hrd11 : (x4_1 < ((10 : Nat) : Int)) = True := eq_true (by first | omega | exact oda); have hdd11 : wr.cell? ⟨gb103, x4_1.toNat, none⟩ = some (.int .u16 (rd x104000_1.l x4_1)) := mix_atz BK103.out x4_1 (of_eq_true hpd11) (of_eq_true hqd11); have hfdd11 := blk_frozen BK103.out (x4_1.toNat)
     go_wp2_with (first | ((with_reducible refine gate_store (t := 23) (p := 13) rfl ?_); refine store_event (t := 23) (p := 13) (v := ?vo_w12) (w1 := (wr.setCell ⟨gb103, x4_1.toNat, none⟩ (.int .u16 (rd a0.l x4_1)))) ?hg ?ho ?hn ?hr ?_; (case ho => rfl); (case hg => rfl); (case hn => rfl); (case hr => first | (go_simp; done) | (go_simp; rfl)); intro w12 hw; have hi : w12.heap[gb103]? = some (.cells (mixA (Value.int .u16) [] (LA.set x104000_1 x4_1 (rd a0.l x4_1))) 24 (0, 0)) := (by rw [hw]; exact mix_setz BK103.out x4_1 (rd a0.l x4_1) (of_eq_true hpd11) (of_eq_true hqd11)); have hk : KeepBut wr w12 gb103 none := (by rw [hw]; exact setcell_keep _ _ _ _); have hbl : ∀ B_ a_, Below B_ a_ wr → B_ ≤ gb103 → Below B_ a_ w12 := (by rw [hw]; exact setcell_below _ _ _ _); clear hw; replace BK101 := Aside0.mk (KeepBut.blk hk (g' := gb101) (o := .cells (mixA (Value.int .u16) [] a0) 24 (0, 0)) (pk BK101) NB101_103.out (by simp)); replace BK102 := Aside0.mk (KeepBut.blk hk (g' := gb102) (o := .cells (mixA (Value.int .u16) [] (LA.zero 10)) 24 (0, 0)) (pk BK102) NB102_103.out (by simp)); replace HB := Aside0.mk (hbl _ _ (pbs HB) GE103.out); replace BK103 := Aside0.mk (hi); clear hi hk hbl))
     go_roundg k1
     case measure => have := HK1.out; omega
     case rel => exact ⟨(wrap64 (x4_1 + 1)), ((LA.set x104000_1 x4_1 (rd a0.l x4_1))), (by first | rfl | (simp; done) | (simp [*]; done)), H', ⟨by have := HK1.out; omega⟩, ⟨pk BK101⟩, ⟨pk BK102⟩, ⟨pk BK103⟩, ⟨pbs HB⟩⟩
    ·rw [if_neg c6] at H
     exact absurd H (by simp)
   ·rw [if_neg c5] at H
    have c5b0 : decide (x4_1 < 10) = false := decide_eq_false c5; clear c5; obtain rfl := Option.some.inj H
    go_wp2_with (first | ((with_reducible refine gate_dst (N := 14) rfl ?_); refine wpList_run0 (v := .agg (mixA (Value.int .u16) [] x104000_1)) rfl (load_mix_run (P := Try.prog) 24 (.tmp 3) rfl gb103 rfl (show World.rangeAt _ gb103 0 ([] ++ x104000_1.l.map (Value.int .u16)) from mix_range (show (World.heap _)[gb103]? = some (.cells (mixA (Value.int .u16) [] x104000_1) 24 (0, 0)) from by (with_reducible repeat (first | refine blk_drewN ?_ _ | refine blk_drew ?_ | refine blk_alloc ?_ _)); exact BK103.out)) Try.underlying24 rfl (by kernel_rfl) rfl) ?_) | ((with_reducible refine gate_store (p := 2) rfl ?_); refine wpList_store_lmix rfl 24 _ _ rfl gb102 (e := (Value.int .u16)) (cs' := []) (W' := x104000_1) (cs := []) (W := (LA.zero 10)) (T := 24) rfl rfl (pk BK102) rfl (by kernel_rfl) rfl (fun _ => rfl) rfl ?_; intro w14 hi hk hbl; replace BK101 := Aside0.mk (KeepBut.blk hk (g' := gb101) (o := .cells (mixA (Value.int .u16) [] a0) 24 (0, 0)) (pk BK101) NB101_102.out (by simp)); replace BK103 := Aside0.mk (KeepBut.blk hk (g' := gb103) (o := .cells (mixA (Value.int .u16) [] x104000_1) 24 (0, 0)) (pk BK103) NB103_102.out (by simp)); replace HB := Aside0.mk (hbl _ _ (pbs HB) GE102.out); replace BK102 := Aside0.mk (hi); clear hi hk hbl))
    refine bodyPost_ret (results_cell_row rfl _ _ gb102 24 (mixA (Value.int .u16) [] x104000_1) (0, 0) _ rfl (pk BK102) Try.underlying24 rfl (by rw [mix_size]; kernel_rfl)) rfl ?_; exact ⟨by first | rfl | (simp [errW_none, errW_some] <;> rfl) | (simp [*, errW_none, errW_some] <;> rfl), pbs HB⟩
def laws_toRoom.f (k : Nat) (a0_0 : Int) (a0_1 : Int) (a0_2 : LA 10) : Option (Int × Int × LA 10) := (laws_toUint16A10.f k a0_2).bind fun t107 => (some (a0_0, a0_1, t107))
theorem laws_toRoom.mono : ∀ a0 a1 a2 k, LeO (laws_toRoom.f k a0 a1 a2) (laws_toRoom.f (k + 1) a0 a1 a2) := by
 intro a0 a1 a2 k
 unfold laws_toRoom.f
 repeat' first
   | (with_reducible exact laws_toUint16A10.mono _ _)
   | (with_reducible exact LeO.refl _)
   | (with_reducible exact LeO.none _)
   | (with_reducible refine LeO.ite ?_ ?_)
   | (with_reducible refine LeO.bind ?_ (fun _ => ?_))
   | exact laws_toUint16A10.mono _ _
   | exact LeO.none _
   | refine LeO.ite ?_ ?_
   | refine LeO.bind ?_ (fun _ => ?_)
set_option maxHeartbeats 8000000 in
set_option maxRecDepth 100000 in
theorem laws_toRoom.calls (k : Nat) (a0_0 : Int) (a0_1 : Int) (a0_2 : LA 10) (r1 : Int) (r2 : Int) (r3 : LA 10) (w : World) (h : laws_toRoom.f k a0_0 a0_1 a0_2 = some (r1, r2, r3)) :
  Calls Try.prog 9 #[.agg (mixA (Value.int .u16) [.int .i8 a0_0, .int .i8 a0_1] a0_2)] w fun e w' => e = .returned (.agg (mixA (Value.int .u16) [.int .i8 r1, .int .i8 r2] r3)) ∧ Below w.heap.size w w' := by
 have hu26 := Try.underlying26
 have hu34 := Try.underlying34
 have HB := Aside0.mk (Below.refl w.heap.size w)
 have H : ((laws_toUint16A10.f k a0_2).bind fun t107 => (some (a0_0, a0_1, t107))) = some (r1, r2, r3) := h
 clear h
 replace H := Option.bind_eq_some_iff.mp H
 obtain ⟨t107, A20, H⟩ := H
 replace H : (some (a0_0, a0_1, t107)) = some (r1, r2, r3) := H
 have A2 := Aside0.mk A20
 clear A20
 simp only [Option.some.injEq, Prod.mk.injEq] at H
 obtain ⟨rfl, rfl, rfl⟩ := H
 go_enter Try.func9, Try.ntmps9
 go_wp2_with (first | ((with_reducible refine gate_dst (N := 1) rfl ?_); refine box_event ?hg (N := 1) ?hd (cs := (mixA (Value.int .u16) [.int .i8 a0_0, .int .i8 a0_1] a0_2)) (t := 26) ?hr ?_; (case hd => rfl); (case hg => rfl); (case hr => first | (go_simp; done) | (go_simp; rfl)); intro gb104 hg w3 hbox hb; have n0_ := bst HB hb; have n1_ := Aside0.mk (hbox); have n2_ := gwl HB hg; have n3_ := gwl HB hg; clear HB; have HB := n0_; have BK104 := n1_; have GW104 := n2_; have GE104 := n3_; clear n0_ n1_ n2_ n3_; clear hb hbox hg) | ((with_reducible refine gate_dst (N := 2) rfl ?_); refine box_event ?hg (N := 2) ?hd (cs := (mixA (Value.int .u16) [.int .i8 0, .int .i8 0] (LA.zero 10))) (t := 34) ?hr ?_; (case hd => rfl); (case hg => rfl); (case hr => first | (go_simp; done) | (go_simp; rfl)); intro gb105 hg w4 hbox hb; have n0_ := bkb BK104 hb; have n1_ := bst HB hb; have n2_ := Aside0.mk (hbox); have n3_ := gwl HB hg; have n4_ := gwl HB hg; have n5_ := nbl BK104 hg; have n6_ := nbg BK104 hg; clear BK104; clear HB; have BK104 := n0_; have HB := n1_; have BK105 := n2_; have GW105 := n3_; have GE105 := n4_; have NB104_105 := n5_; have NB105_104 := n6_; clear n0_ n1_ n2_ n3_ n4_ n5_ n6_; clear hb hbox hg) | ((with_reducible refine gate_dst (N := 3) rfl ?_); refine box_event ?hg (N := 3) ?hd (cs := (mixA (Value.int .u16) [.int .i8 0, .int .i8 0] (LA.zero 10))) (t := 34) ?hr ?_; (case hd => rfl); (case hg => rfl); (case hr => first | (go_simp; done) | (go_simp; rfl)); intro gb106 hg w5 hbox hb; have n0_ := bkb BK104 hb; have n1_ := bkb BK105 hb; have n2_ := bst HB hb; have n3_ := Aside0.mk (hbox); have n4_ := gwl HB hg; have n5_ := gwl HB hg; have n6_ := nbl BK104 hg; have n7_ := nbg BK104 hg; have n8_ := nbl BK105 hg; have n9_ := nbg BK105 hg; clear BK104; clear BK105; clear HB; have BK104 := n0_; have BK105 := n1_; have HB := n2_; have BK106 := n3_; have GW106 := n4_; have GE106 := n5_; have NB104_106 := n6_; have NB106_104 := n7_; have NB105_106 := n8_; have NB106_105 := n9_; clear n0_ n1_ n2_ n3_ n4_ n5_ n6_ n7_ n8_ n9_; clear hb hbox hg; have hnb6 := NB104_105.out; have hnc6 := NB105_104.out; have hnb7 := NB104_106.out; have hnc7 := NB106_104.out; have hcz8_0 : w5.cell? ⟨gb104, 0, none⟩ = some (.int .i8 a0_0) := mix_cell0 BK104.out 0; have hcz8_1 : w5.cell? ⟨gb104, 1, none⟩ = some (.int .i8 a0_1) := mix_cell0 BK104.out 1; have hfz8_0 := blk_frozen BK104.out 0; have hfz8_1 := blk_frozen BK104.out 1; have hnb9 := NB106_105.out; have hnc9 := NB105_106.out; have hcz10_0 : w5.cell? ⟨gb106, 0, none⟩ = some (.int .i8 0) := mix_cell0 BK106.out 0; have hcz10_1 : w5.cell? ⟨gb106, 1, none⟩ = some (.int .i8 0) := mix_cell0 BK106.out 1; have hfz10_0 := blk_frozen BK106.out 0; have hfz10_1 := blk_frozen BK106.out 1) | ((with_reducible refine gate_dst (N := 11) rfl ?_); refine wpList_run0 (v := .agg (mixA (Value.int .u16) [] a0_2)) rfl (load_arr_run (P := Try.prog) 24 (.tmp 10) rfl gb104 2 rfl (show World.rangeAt _ gb104 2 (a0_2.l.map (Value.int .u16)) from mix_range_arr (show (World.heap _)[gb104]? = some (.cells (mixA (Value.int .u16) [.int .i8 a0_0, .int .i8 a0_1] a0_2) 26 (0, 0)) from by (with_reducible repeat (first | refine blk_drewN ?_ _ | refine blk_drew ?_ | refine blk_alloc ?_ _)); refine blk_far ?_ NB104_106.out _; (with_reducible repeat (first | refine blk_drewN ?_ _ | refine blk_drew ?_ | refine blk_alloc ?_ _)); refine blk_far ?_ NB104_106.out _; (with_reducible repeat (first | refine blk_drewN ?_ _ | refine blk_drew ?_ | refine blk_alloc ?_ _)); exact BK104.out) 2 rfl) Try.underlying24 rfl (by kernel_rfl)) ?_) | ((with_reducible refine gate_callee (f := 40) rfl ?_); refine gl (some 12) Try.func40 #[.agg (mixA (Value.int .u16) [] a0_2)] ?_; (with_reducible refine (laws_toUint16A10.calls k a0_2 t107 _ A2.out).mono ?_); rintro e w12 ⟨rfl, hb⟩; refine ⟨_, rfl, ?_⟩; replace BK104 := Aside0.mk (blk_below (g := gb104) (o := .cells (mixA (Value.int .u16) [.int .i8 a0_0, .int .i8 a0_1] a0_2) 26 (0, 0)) (by (with_reducible repeat (first | refine blk_drewN ?_ _ | refine blk_drew ?_ | refine blk_alloc ?_ _)); refine blk_far ?_ NB104_106.out _; (with_reducible repeat (first | refine blk_drewN ?_ _ | refine blk_drew ?_ | refine blk_alloc ?_ _)); refine blk_far ?_ NB104_106.out _; (with_reducible repeat (first | refine blk_drewN ?_ _ | refine blk_drew ?_ | refine blk_alloc ?_ _)); exact BK104.out) hb); replace BK105 := Aside0.mk (blk_below (g := gb105) (o := .cells (mixA (Value.int .u16) [.int .i8 0, .int .i8 0] (LA.zero 10)) 34 (0, 0)) (by (with_reducible repeat (first | refine blk_drewN ?_ _ | refine blk_drew ?_ | refine blk_alloc ?_ _)); refine blk_far ?_ NB105_106.out _; (with_reducible repeat (first | refine blk_drewN ?_ _ | refine blk_drew ?_ | refine blk_alloc ?_ _)); refine blk_far ?_ NB105_106.out _; (with_reducible repeat (first | refine blk_drewN ?_ _ | refine blk_drew ?_ | refine blk_alloc ?_ _)); exact BK105.out) hb); replace BK106 := Aside0.mk (blk_below (g := gb106) (o := .cells (mixA (Value.int .u16) [.int .i8 a0_0, .int .i8 a0_1] (LA.zero 10)) 34 (0, 0)) (by (with_reducible repeat (first | refine blk_drewN ?_ _ | refine blk_drew ?_ | refine blk_alloc ?_ _)); refine mix_put0 (cs := [.int .i8 a0_0, .int .i8 0]) ?_ 1 _ (by simp); (with_reducible repeat (first | refine blk_drewN ?_ _ | refine blk_drew ?_ | refine blk_alloc ?_ _)); refine mix_put0 (cs := [.int .i8 0, .int .i8 0]) ?_ 0 _ (by simp); (with_reducible repeat (first | refine blk_drewN ?_ _ | refine blk_drew ?_ | refine blk_alloc ?_ _)); exact BK106.out) hb); replace HB := bst HB hb; (try clear hb); (try clear hb2); (try clear hk); (try clear hi)) | ((with_reducible refine gate_store (p := 13) rfl ?_); refine wpList_store_larr rfl 24 _ _ rfl gb106 2 (e := (Value.int .u16)) (W' := t107) (cs := [.int .i8 a0_0, .int .i8 a0_1]) (W := (LA.zero 10)) (T := 34) rfl rfl (pk BK106) rfl (by kernel_rfl) (fun _ => rfl) ?_; intro w13 hi hk hbl; replace BK104 := Aside0.mk (KeepBut.blk hk (g' := gb104) (o := .cells (mixA (Value.int .u16) [.int .i8 a0_0, .int .i8 a0_1] a0_2) 26 (0, 0)) (pk BK104) NB104_106.out (by simp)); replace BK105 := Aside0.mk (KeepBut.blk hk (g' := gb105) (o := .cells (mixA (Value.int .u16) [.int .i8 0, .int .i8 0] (LA.zero 10)) 34 (0, 0)) (pk BK105) NB105_106.out (by simp)); replace HB := Aside0.mk (hbl _ _ (pbs HB) GE106.out); replace BK106 := Aside0.mk (hi); clear hi hk hbl) | ((with_reducible refine gate_dst (N := 14) rfl ?_); refine wpList_run0 (v := .agg (mixA (Value.int .u16) [.int .i8 a0_0, .int .i8 a0_1] t107)) rfl (load_mix_run (P := Try.prog) 34 (.tmp 3) rfl gb106 rfl (show World.rangeAt _ gb106 0 ([.int .i8 a0_0, .int .i8 a0_1] ++ t107.l.map (Value.int .u16)) from mix_range (show (World.heap _)[gb106]? = some (.cells (mixA (Value.int .u16) [.int .i8 a0_0, .int .i8 a0_1] t107) 34 (0, 0)) from by (with_reducible repeat (first | refine blk_drewN ?_ _ | refine blk_drew ?_ | refine blk_alloc ?_ _)); exact BK106.out)) Try.underlying34 rfl (by kernel_rfl) rfl) ?_) | ((with_reducible refine gate_store (p := 2) rfl ?_); refine wpList_store_lmix rfl 34 _ _ rfl gb105 (e := (Value.int .u16)) (cs' := [.int .i8 a0_0, .int .i8 a0_1]) (W' := t107) (cs := [.int .i8 0, .int .i8 0]) (W := (LA.zero 10)) (T := 34) rfl rfl (pk BK105) rfl (by kernel_rfl) rfl (fun _ => rfl) rfl ?_; intro w15 hi hk hbl; replace BK104 := Aside0.mk (KeepBut.blk hk (g' := gb104) (o := .cells (mixA (Value.int .u16) [.int .i8 a0_0, .int .i8 a0_1] a0_2) 26 (0, 0)) (pk BK104) NB104_105.out (by simp)); replace BK106 := Aside0.mk (KeepBut.blk hk (g' := gb106) (o := .cells (mixA (Value.int .u16) [.int .i8 a0_0, .int .i8 a0_1] t107) 34 (0, 0)) (pk BK106) NB106_105.out (by simp)); replace HB := Aside0.mk (hbl _ _ (pbs HB) GE105.out); replace BK105 := Aside0.mk (hi); clear hi hk hbl))
 refine bodyPost_ret (results_cell_row rfl _ _ gb105 34 (mixA (Value.int .u16) [.int .i8 a0_0, .int .i8 a0_1] t107) (0, 0) _ rfl (pk BK105) Try.underlying34 rfl (by rw [mix_size]; kernel_rfl)) rfl ?_
 exact ⟨by first | rfl | (simp [errW_none, errW_some] <;> rfl) | (simp [*, errW_none, errW_some] <;> rfl), pbs HB⟩
def laws_toSpot.f (a0_0 : Int) (a0_1 : Int) : Option (Int × Int) := some (a0_0, a0_1)
set_option maxHeartbeats 8000000 in
set_option maxRecDepth 100000 in
theorem laws_toSpot.calls (a0_0 : Int) (a0_1 : Int) (r1 : Int) (r2 : Int) (w : World) (h : laws_toSpot.f a0_0 a0_1 = some (r1, r2)) :
  Calls Try.prog 10 #[.agg #[.int .i8 a0_0, .int .i8 a0_1]] w fun e w' => e = .returned (.agg #[.int .i8 r1, .int .i8 r2]) ∧ Below w.heap.size w w' := by
 have hu28 := Try.underlying28
 have hu36 := Try.underlying36
 have HB := Aside0.mk (Below.refl w.heap.size w)
 have H : (some (a0_0, a0_1)) = some (r1, r2) := h
 clear h
 simp only [Option.some.injEq, Prod.mk.injEq] at H
 obtain ⟨rfl, rfl⟩ := H
 go_enter Try.func10, Try.ntmps10
 go_wp2_with (first | ((with_reducible refine gate_dst (N := 1) rfl ?_); refine box_event ?hg (N := 1) ?hd (cs := #[.int .i8 a0_0, .int .i8 a0_1]) (t := 28) ?hr ?_; (case hd => rfl); (case hg => rfl); (case hr => first | (go_simp; done) | (go_simp; rfl)); intro gb108 hg w2 hbox hb; have n0_ := bst HB hb; have n1_ := Aside0.mk (hbox); have n2_ := gwl HB hg; have n3_ := gwl HB hg; clear HB; have HB := n0_; have BK108 := n1_; have GW108 := n2_; have GE108 := n3_; clear n0_ n1_ n2_ n3_; clear hb hbox hg) | ((with_reducible refine gate_dst (N := 2) rfl ?_); refine box_event ?hg (N := 2) ?hd (cs := #[.int .i8 0, .int .i8 0]) (t := 36) ?hr ?_; (case hd => rfl); (case hg => rfl); (case hr => first | (go_simp; done) | (go_simp; rfl)); intro gb109 hg w3 hbox hb; have n0_ := bkb BK108 hb; have n1_ := bst HB hb; have n2_ := Aside0.mk (hbox); have n3_ := gwl HB hg; have n4_ := gwl HB hg; have n5_ := nbl BK108 hg; have n6_ := nbg BK108 hg; clear BK108; clear HB; have BK108 := n0_; have HB := n1_; have BK109 := n2_; have GW109 := n3_; have GE109 := n4_; have NB108_109 := n5_; have NB109_108 := n6_; clear n0_ n1_ n2_ n3_ n4_ n5_ n6_; clear hb hbox hg) | ((with_reducible refine gate_dst (N := 3) rfl ?_); refine box_event ?hg (N := 3) ?hd (cs := #[.int .i8 0, .int .i8 0]) (t := 36) ?hr ?_; (case hd => rfl); (case hg => rfl); (case hr => first | (go_simp; done) | (go_simp; rfl)); intro gb110 hg w4 hbox hb; have n0_ := bkb BK108 hb; have n1_ := bkb BK109 hb; have n2_ := bst HB hb; have n3_ := Aside0.mk (hbox); have n4_ := gwl HB hg; have n5_ := gwl HB hg; have n6_ := nbl BK108 hg; have n7_ := nbg BK108 hg; have n8_ := nbl BK109 hg; have n9_ := nbg BK109 hg; clear BK108; clear BK109; clear HB; have BK108 := n0_; have BK109 := n1_; have HB := n2_; have BK110 := n3_; have GW110 := n4_; have GE110 := n5_; have NB108_110 := n6_; have NB110_108 := n7_; have NB109_110 := n8_; have NB110_109 := n9_; clear n0_ n1_ n2_ n3_ n4_ n5_ n6_ n7_ n8_ n9_; clear hb hbox hg; have hnb5 := NB108_109.out; have hnc5 := NB109_108.out; have hnb6 := NB108_110.out; have hnc6 := NB110_108.out; have hcz7_0 : w4.cell? ⟨gb108, 0, none⟩ = some (.int .i8 a0_0) := (blk_cell BK108.out 0).trans rfl; have hcz7_1 : w4.cell? ⟨gb108, 1, none⟩ = some (.int .i8 a0_1) := (blk_cell BK108.out 1).trans rfl; have hfz7_0 := blk_frozen BK108.out 0; have hfz7_1 := blk_frozen BK108.out 1; have hnb8 := NB110_109.out; have hnc8 := NB109_110.out; have hcz9_0 : w4.cell? ⟨gb110, 0, none⟩ = some (.int .i8 0) := (blk_cell BK110.out 0).trans rfl; have hcz9_1 : w4.cell? ⟨gb110, 1, none⟩ = some (.int .i8 0) := (blk_cell BK110.out 1).trans rfl; have hfz9_0 := blk_frozen BK110.out 0; have hfz9_1 := blk_frozen BK110.out 1; have hcz10_0 : w4.cell? ⟨gb109, 0, none⟩ = some (.int .i8 0) := (blk_cell BK109.out 0).trans rfl; have hcz10_1 : w4.cell? ⟨gb109, 1, none⟩ = some (.int .i8 0) := (blk_cell BK109.out 1).trans rfl; have hfz10_0 := blk_frozen BK109.out 0; have hfz10_1 := blk_frozen BK109.out 1))
 refine bodyPost_ret (results_cell_row rfl _ _ gb109 36 #[.int .i8 a0_0, .int .i8 a0_1] (0, 0) _ rfl (by (with_reducible repeat (first | refine blk_drewN ?_ _ | refine blk_drew ?_ | refine blk_alloc ?_ _)); refine blk_put (cs := #[.int .i8 a0_0, .int .i8 0]) ?_ 1 _ rfl; (with_reducible repeat (first | refine blk_drewN ?_ _ | refine blk_drew ?_ | refine blk_alloc ?_ _)); refine blk_put (cs := #[.int .i8 0, .int .i8 0]) ?_ 0 _ rfl; (with_reducible repeat (first | refine blk_drewN ?_ _ | refine blk_drew ?_ | refine blk_alloc ?_ _)); refine blk_far ?_ NB109_110.out _; (with_reducible repeat (first | refine blk_drewN ?_ _ | refine blk_drew ?_ | refine blk_alloc ?_ _)); refine blk_far ?_ NB109_110.out _; (with_reducible repeat (first | refine blk_drewN ?_ _ | refine blk_drew ?_ | refine blk_alloc ?_ _)); exact BK109.out) Try.underlying36 rfl (by kernel_rfl)) rfl ?_
 exact ⟨by first | rfl | (simp [errW_none, errW_some] <;> rfl) | (simp [*, errW_none, errW_some] <;> rfl), pbs HB⟩
def laws_toSpotS.l0 : Nat → List (S28) → List (S36) → Int → Option ((List (S36)))
 | 0, _, _, _ => none
 | k + 1, x0, x3, x4 => if x4 < (x0.length : Int) then (if 0 ≤ x4 then ((laws_toSpot.f ((rd_T28 x0 x4).f0) ((rd_T28 x0 x4).f1)).bind fun bt115 => (if x4 < (x3.length : Int) then (laws_toSpotS.l0 k x0 (x3.set (x4 : Int).toNat (⟨bt115.1, bt115.2⟩ : S36)) (wrap64 (x4 + 1))) else (none))) else (none)) else (some x3)
def laws_toSpotS.f (k : Nat) (l0 : List (S28)) : Option ((List (S36))) := if 0 ≤ (l0.length : Int) then (if ((l0.length : Int) : Int).toNat ≤ 140737488355328 then (laws_toSpotS.l0 k l0 (List.replicate ((l0.length : Int) : Int).toNat z36) 0) else (none)) else (none)
theorem laws_toSpotS.mono_l : ∀ k, (∀ y0 y1 y2, LeO (laws_toSpotS.l0 k y0 y1 y2) (laws_toSpotS.l0 (k + 1) y0 y1 y2))
 | 0 => fun _ _ _ r h => by simp [laws_toSpotS.l0] at h
 | k + 1 => by
  have ih0 := laws_toSpotS.mono_l k
  ·intro y0 y1 y2
   unfold laws_toSpotS.l0
   repeat' first
   | (with_reducible exact ih0 _ _ _)
   | (with_reducible exact LeO.refl _)
   | (with_reducible exact LeO.none _)
   | (with_reducible refine LeO.ite ?_ ?_)
   | (with_reducible refine LeO.bind ?_ (fun _ => ?_))
   | exact ih0 _ _ _
   | exact LeO.none _
   | refine LeO.ite ?_ ?_
   | refine LeO.bind ?_ (fun _ => ?_)
theorem laws_toSpotS.mono : ∀ a0 k, LeO (laws_toSpotS.f k a0) (laws_toSpotS.f (k + 1) a0) := by
 intro a0 k
 have ih0 := laws_toSpotS.mono_l k
 unfold laws_toSpotS.f
 repeat' first
   | (with_reducible exact ih0 _ _ _)
   | (with_reducible exact LeO.refl _)
   | (with_reducible exact LeO.none _)
   | (with_reducible refine LeO.ite ?_ ?_)
   | (with_reducible refine LeO.bind ?_ (fun _ => ?_))
   | exact ih0 _ _ _
   | exact LeO.none _
   | refine LeO.ite ?_ ?_
   | refine LeO.bind ?_ (fun _ => ?_)
set_option maxHeartbeats 8000000 in
set_option maxRecDepth 100000 in
theorem laws_toSpotS.calls (k : Nat) (A0 : Option Addr) (c0 : Nat) (l0 : List (S28)) (r : List (S36)) (w : World) (hr0 : Kd.C k28 w A0 l0.length l0) (hc0 : l0.length ≤ c0) (h : laws_toSpotS.f k l0 = some r) :
  Calls Try.prog 11 #[.slice A0 l0.length c0] w fun e w' => ∃ v0_ : Value, e = .returned (v0_) ∧ Kd.R k36 36 w' w.heap.size (fun _ => True) v0_ r ∧ Below w.heap.size w w' := by
 have hu28 := Try.underlying28
 have hu36 := Try.underlying36
 have HR0 := Aside0.mk hr0
 have HC0 := Aside0.mk hc0
 clear hr0 hc0
 have HB := Aside0.mk (Below.refl w.heap.size w)
 have H : (if 0 ≤ (l0.length : Int) then (if ((l0.length : Int) : Int).toNat ≤ 140737488355328 then (laws_toSpotS.l0 k l0 (List.replicate ((l0.length : Int) : Int).toNat z36) 0) else (none)) else (none)) = some r := h
 clear h
 by_cases c2 : 0 ≤ (l0.length : Int)
 ·rw [if_pos c2] at H
  have c2b0 := eq_true c2; have c2b1 : decide (0 ≤ (l0.length : Int)) = true := decide_eq_true c2; clear c2
  by_cases c3 : ((l0.length : Int) : Int).toNat ≤ 140737488355328
  ·rw [if_pos c3] at H
   have c3b0 := eq_true c3; have c3b1 : decide (((l0.length : Int) : Int).toNat ≤ 140737488355328) = true := decide_eq_true c3; clear c3; obtain ⟨y111, hy111⟩ : ∃ y_ : List (S36), y_ = (List.replicate ((l0.length : Int) : Int).toNat z36) := ⟨_, rfl⟩
   replace H : (laws_toSpotS.l0 k l0 y111 0) = some r := by first | (rw [hy111]; with_reducible exact H) | (have H2_ := (Option.bind_some _ _).symm.trans H; rw [hy111]; with_reducible exact H2_) | (have H2_ := (Option.bind_some _ _).symm.trans H; with_reducible exact H2_) | with_reducible exact H | (rw [hy111]; exact H) | exact H
   have Ny111 := Aside0.mk hy111; clear hy111; have H' := Aside0.mk H; clear H
   go_enter Try.func11, Try.ntmps11
   go_wp2_with (first | ((with_reducible refine gate_dst (N := 7) rfl ?_); refine Kd.R_make k36 _ 36 rfl (N := 7) rfl 38 _ _ rfl (l0.length : Int) rfl rfl Try.underlying38 (.agg #[(.int .i8 0), (.int .i8 0)]) 2 info36 rfl (by decide) (by omega) z36 (ok := fun _ => True) (okp := fun _ => True) (k36_mkM _ _ _ z36 ) (fun _ hk => hk) trivial (oda) (Nat.le_trans (Nat.mul_le_mul_right _ (oda : (l0.length : Int).toNat ≤ 140737488355328)) (by omega)) (Below.refl _ _) (Nat.le_refl _) ?_; intro v112 w4 ho5 hb hg_ hnew_; clear hg_ hnew_; (first | rw [← Ny111.out] at ho5 | (simp only [Int.reduceToNat] at ho5; rw [← Ny111.out] at ho5)); have HO113 := Aside0.mk (Kd.R_lower ho5 (below_size (by repeat (first | (with_reducible first | exact HB.out | apply below_alloc | apply pw_below_drewN | apply below_drew1) | exact HB.out)))); replace HB := bst HB hb; clear hb ho5))
   go_loopg [4] k (fun kq v4 w' => ∃ (x3_1 : List (S36)) (x4_1 : Int), v4 = .int .i64 x4_1 ∧ Aside0 (laws_toSpotS.l0 kq l0 x3_1 x4_1 = some r) ∧ Aside0 (kq ≤ k) ∧ Aside0 (Kd.R k36 36 w' w.heap.size (fun _ => True) v112 x3_1) ∧ Aside0 (Below w.heap.size w w'))
   case atStart => exact ⟨(y111), (0), (by first | rfl | (simp; done) | (simp [*]; done)), H', ⟨Nat.le_refl _⟩, ⟨by (with_reducible repeat (first | apply Kd.R_alloc | apply Kd.R_drewN | apply Kd.R_drew)); exact HO113.out⟩, ⟨pb HB⟩⟩
   case round =>
    clear H'
    try clear c1
    try clear c2
    try clear c2b0
    try clear c2b1
    try clear p2
    try clear c3
    try clear c3b0
    try clear c3b1
    obtain ⟨x3_1, x4_1, rfl, HA, HK1, HO_3, HB⟩ := hrel
    cases gk with
    | zero => exact absurd HA.out (by simp [laws_toSpotS.l0])
    | succ k1 =>
     have H := HA.out; clear HA; simp only [laws_toSpotS.l0] at H
     by_cases c6 : x4_1 < (l0.length : Int)
     ·rw [if_pos c6] at H
      have c6b0 : decide (x4_1 < (l0.length : Int)) = true := decide_eq_true c6; clear c6
      by_cases c7 : 0 ≤ x4_1
      ·rw [if_pos c7] at H
       have c7b0 : decide (0 ≤ x4_1) = true := decide_eq_true c7; clear c7; replace H := Option.bind_eq_some_iff.mp H; obtain ⟨⟨t115, t116⟩, A80, H⟩ := H; replace H : (if x4_1 < (x3_1.length : Int) then (laws_toSpotS.l0 k1 l0 (x3_1.set (x4_1 : Int).toNat (⟨t115, t116⟩ : S36)) (wrap64 (x4_1 + 1))) else (none)) = some r := H; have A8 := Aside0.mk A80; clear A80
       by_cases c9 : x4_1 < (x3_1.length : Int)
       ·rw [if_pos c9] at H
        have c9b0 : decide (x4_1 < (x3_1.length : Int)) = true := decide_eq_true c9; clear c9; obtain ⟨y117, hy117⟩ : ∃ y_ : List (S36), y_ = (x3_1.set (x4_1 : Int).toNat (⟨t115, t116⟩ : S36)) := ⟨_, rfl⟩
        replace H : (laws_toSpotS.l0 k1 l0 y117 (wrap64 (x4_1 + 1))) = some r := by first | (rw [hy117]; with_reducible exact H) | (have H2_ := (Option.bind_some _ _).symm.trans H; rw [hy117]; with_reducible exact H2_) | (have H2_ := (Option.bind_some _ _).symm.trans H; with_reducible exact H2_) | with_reducible exact H | (rw [hy117]; exact H) | exact H
        have Ny117 := Aside0.mk hy117; clear hy117; have H' := Aside0.mk H; clear H; have p114 : 0 ≤ (x4_1 : Int) := oda; have q114 : x4_1 < (l0.length : Int) := oda; obtain ⟨ad114, e114, hx114_0, hx114_1⟩ := at_T28 HR0.out x4_1 p114 q114; cases e114
        try replace hx114_0 := cb HB hx114_0
        try replace hx114_1 := cb HB hx114_1
        replace p114 := eq_true p114; replace q114 := eq_true q114
        go_wp2_with (first | ((with_reducible refine gate_callee (f := 10) rfl ?_); refine gl (some 20) Try.func10 #[.agg #[.int .i8 ((rd_T28 l0 x4_1).f0), .int .i8 ((rd_T28 l0 x4_1).f1)]] ?_; (with_reducible refine (laws_toSpot.calls ((rd_T28 l0 x4_1).f0) ((rd_T28 l0 x4_1).f1) t115 t116 _ A8.out).mono ?_); rintro e w11 ⟨rfl, hb⟩; refine ⟨_, rfl, ?_⟩; replace HO_3 := krb HO_3 hb; replace HB := bst HB hb; (try clear hb); (try clear hb2); (try clear hk); (try clear hi); have p10 : 0 ≤ (x4_1 : Int) := oda; have q10 : (x4_1 : Int) < ((x3_1.length : Int) : Int) := oda; obtain ⟨go10, co10, eo10, gb10, gl10, cl10, HG10⟩ := Kd.R_form HO_3.out (by omega); (first | cases eo10 | (injection eo10 with ea_ en_ ec_; (first | subst ea_ | (injection ea_ with ea_; subst ea_)); subst ec_; clear en_)); have GB10 := Aside0.mk gb10; have GG10 := Aside0.mk HG10; clear gb10 gl10 HG10; obtain ⟨ce10, hcl10, hM10, hcc10, hfr10⟩ := Kd.R_elem HO_3.out z36 (x4_1 : Int) p10 q10; obtain rfl := k36_openM hM10; have hx10_0 : w11.cell? ⟨go10, (x4_1 : Int).toNat * 2, none⟩ = some (.int .i8 ((rd_T36 x3_1 x4_1).f0)) := hcc10 0 _ rfl; have hx10_1 : w11.cell? ⟨go10, (x4_1 : Int).toNat * 2 + 1, none⟩ = some (.int .i8 ((rd_T36 x3_1 x4_1).f1)) := hcc10 1 _ rfl; have hf10_0 : w11.frozen? ⟨go10, (x4_1 : Int).toNat * 2, none⟩ = false := hfr10 0; have hf10_1 : w11.frozen? ⟨go10, (x4_1 : Int).toNat * 2 + 1, none⟩ = false := hfr10 1; clear hcl10 hcc10 hfr10 hM10; replace p10 := eq_true p10; replace q10 := eq_true q10; have HX12 := Aside0.mk (show Kd.R k36 36 w11 w.heap.size (fun _ => True) (.slice (some ⟨go10, 0, none⟩) x3_1.length co10) x3_1 from (by (with_reducible repeat (first | apply Kd.R_alloc | apply Kd.R_drewN | apply Kd.R_drew)); exact HO_3.out)); obtain ⟨ce12, hcl12, hM12, hcc12, hfr12⟩ := Kd.R_elem HX12.out z36 (x4_1 : Int) (oda) (by have h_ : (x4_1 : Int) < ((x3_1.length : Int) : Int) := oda; first | exact h_ | (have e_ := (Kd.R_reads' HO_3.out).1; omega) | simpa using h_); obtain rfl := k36_openM hM12; have HP12 := Kd.R_seg HX12.out (x4_1 : Int) (oda) (by have h_ : (x4_1 : Int) < ((x3_1.length : Int) : Int) := oda; first | exact h_ | (have e_ := (Kd.R_reads' HO_3.out).1; omega) | simpa using h_) (seg := [.int .i8 t115, .int .i8 t116]) (j := 0) hcl12 hcc12 (show 2 ≤ 2 from by decide) (x' := (⟨t115, t116⟩ : S36)) (k36_mkM _ _ _ (⟨t115, t116⟩ : S36) ) (fun _ hk => hk); have hx12_0 := hcc12 0 _ rfl; (try simp only [show (k36).sz = 2 from rfl, Nat.mul_one, Nat.add_zero] at hx12_0); have hf12_0 := hfr12 0; (try simp only [show (k36).sz = 2 from rfl, Nat.mul_one, Nat.add_zero] at hf12_0); have hx12_1 := hcc12 1 _ rfl; (try simp only [show (k36).sz = 2 from rfl, Nat.mul_one, Nat.add_zero] at hx12_1); have hf12_1 := hfr12 1; (try simp only [show (k36).sz = 2 from rfl, Nat.mul_one, Nat.add_zero] at hf12_1); clear hcl12 hcc12 hfr12 hM12) | ((with_reducible refine gate_store (t := 36) (p := 21) rfl ?_); refine store_event (t := 36) (p := 21) (v := ?vo_w13) (w1 := ((w11.setCell ⟨go10, (x4_1 : Int).toNat * 2, none⟩ (.int .i8 t115)).setCell ⟨go10, (x4_1 : Int).toNat * 2 + 1, none⟩ (.int .i8 t116))) ?hg ?ho ?hn ?hr ?_; (case ho => rfl); (case hg => rfl); (case hn => rfl); (case hr => first | (go_simp; done) | (go_simp; rfl)); intro w13 hw; have hg : w11.grownBy w13 (some go10) := (by rw [hw]; exact HP12.2); have hp_ : Kd.R k36 36 w13 w.heap.size (fun _ => True) (.slice (some ⟨go10, 0, none⟩) x3_1.length co10) y117 := (by rw [hw, Ny117.out]; exact HP12.1); clear HP12; replace HO_3 := Aside0.mk (hp_); replace HB := Aside0.mk ((by rw [hw]; exact below_set (below_set (HB.out) GB10.out) GB10.out : Below w.heap.size w w13)); clear hg hw hp_))
        go_roundg k1
        case measure => have := HK1.out; omega
        case rel => exact ⟨(y117), (wrap64 (x4_1 + 1)), (by first | rfl | (simp; done) | (simp [*]; done)), H', ⟨by have := HK1.out; omega⟩, ⟨by (with_reducible repeat (first | apply Kd.R_alloc | apply Kd.R_drewN | apply Kd.R_drew)); exact HO_3.out⟩, ⟨pb HB⟩⟩
       ·rw [if_neg c9] at H
        exact absurd H (by simp)
      ·rw [if_neg c7] at H
       exact absurd H (by simp)
     ·rw [if_neg c6] at H
      have c6b0 : decide (x4_1 < (l0.length : Int)) = false := decide_eq_false c6; clear c6; obtain rfl := Option.some.inj H
      go_wp2
      go_ret
      exact ⟨_, by first | rfl | (simp [errW_none, errW_some] <;> rfl) | (simp [*, errW_none, errW_some] <;> rfl), by (with_reducible repeat (first | apply Kd.R_alloc | apply Kd.R_drewN | apply Kd.R_drew)); exact HO_3.out, pb HB⟩
  ·rw [if_neg c3] at H
   exact absurd H (by simp)
 ·rw [if_neg c2] at H
  exact absurd H (by simp)
def laws_eqInt64S.l0 : Nat → List Int → List Int → Int → Option (Bool)
 | 0, _, _, _ => none
 | k + 1, x0, x1, x5 => if x5 < (x0.length : Int) then (if 0 ≤ x5 then (if x5 < (x1.length : Int) then (if (rd x0 x5) = (rd x1 x5) then (laws_eqInt64S.l0 k x0 x1 (wrap64 (x5 + 1))) else (some false)) else (none)) else (none)) else (some true)
def laws_eqInt64S.f (k : Nat) (l0 : List Int) (l1 : List Int) : Option (Bool) := if (l0.length : Int) = (l1.length : Int) then (laws_eqInt64S.l0 k l0 l1 0) else (some false)
theorem laws_eqInt64S.mono_l : ∀ k, (∀ y0 y1 y2, LeO (laws_eqInt64S.l0 k y0 y1 y2) (laws_eqInt64S.l0 (k + 1) y0 y1 y2))
 | 0 => fun _ _ _ r h => by simp [laws_eqInt64S.l0] at h
 | k + 1 => by
  have ih0 := laws_eqInt64S.mono_l k
  ·intro y0 y1 y2
   unfold laws_eqInt64S.l0
   repeat' first
   | (with_reducible exact ih0 _ _ _)
   | (with_reducible exact LeO.refl _)
   | (with_reducible exact LeO.none _)
   | (with_reducible refine LeO.ite ?_ ?_)
   | (with_reducible refine LeO.bind ?_ (fun _ => ?_))
   | exact ih0 _ _ _
   | exact LeO.none _
   | refine LeO.ite ?_ ?_
   | refine LeO.bind ?_ (fun _ => ?_)
theorem laws_eqInt64S.mono : ∀ a0 a1 k, LeO (laws_eqInt64S.f k a0 a1) (laws_eqInt64S.f (k + 1) a0 a1) := by
 intro a0 a1 k
 have ih0 := laws_eqInt64S.mono_l k
 unfold laws_eqInt64S.f
 repeat' first
   | (with_reducible exact ih0 _ _ _)
   | (with_reducible exact LeO.refl _)
   | (with_reducible exact LeO.none _)
   | (with_reducible refine LeO.ite ?_ ?_)
   | (with_reducible refine LeO.bind ?_ (fun _ => ?_))
   | exact ih0 _ _ _
   | exact LeO.none _
   | refine LeO.ite ?_ ?_
   | refine LeO.bind ?_ (fun _ => ?_)
set_option maxHeartbeats 8000000 in
set_option maxRecDepth 100000 in
theorem laws_eqInt64S.calls (k : Nat) (A0 : Option Addr) (c0 : Nat) (l0 : List Int) (A1 : Option Addr) (c1 : Nat) (l1 : List Int) (r : Bool) (w : World) (hr0 : Kd.C (Kd.int .i64) w A0 l0.length l0) (hc0 : l0.length ≤ c0) (hr1 : Kd.C (Kd.int .i64) w A1 l1.length l1) (hc1 : l1.length ≤ c1) (h : laws_eqInt64S.f k l0 l1 = some r) :
  Calls Try.prog 13 #[.slice A0 l0.length c0, .slice A1 l1.length c1] w fun e w' => e = .returned (.bool r) ∧ Drawn0 w w' := by
 have HR0 := Aside0.mk hr0
 have HC0 := Aside0.mk hc0
 clear hr0 hc0
 have HR1 := Aside0.mk hr1
 have HC1 := Aside0.mk hc1
 clear hr1 hc1
 have H : (if (l0.length : Int) = (l1.length : Int) then (laws_eqInt64S.l0 k l0 l1 0) else (some false)) = some r := h
 clear h
 by_cases c3 : (l0.length : Int) = (l1.length : Int)
 ·rw [if_pos c3] at H
  have c3b0 : ((l0.length : Int) == (l1.length : Int)) = true := beq_iff_eq.mpr c3; have c3b1 : ((l0.length : Int) != (l1.length : Int)) = false := bne_eq_false_iff_eq.mpr c3
  have c3b2 : (l0.length == l1.length) = true := by first | simpa using c3 | (simp at c3 ⊢; omega)
  clear c3; have H' := Aside0.mk H; clear H
  go_enter Try.func13, Try.ntmps13
  go_wp2
  repeat (go_quiet (fail); try go_wp2)
  go_loopg [5] k (fun kq v5 w' => ∃ (x5_1 : Int), v5 = .int .i64 x5_1 ∧ Aside0 (laws_eqInt64S.l0 kq l0 l1 x5_1 = some r) ∧ Aside0 (kq ≤ k) ∧ Drawn0 w w')
  case atStart => exact ⟨(0), (by first | rfl | (simp; done) | (simp [*]; done)), H', ⟨Nat.le_refl _⟩, by repeat (first | exact Drawn0.refl _ | apply Drawn0.step)⟩
  case round =>
   clear H'
   try clear c1
   try clear p2
   try clear c3
   try clear c3b0
   try clear c3b1
   try clear c3b2
   obtain ⟨x5_1, rfl, HA, HK1, ⟨m1, rfl⟩⟩ := hrel
   cases gk with
   | zero => exact absurd HA.out (by simp [laws_eqInt64S.l0])
   | succ k1 =>
    have H := HA.out; clear HA; simp only [laws_eqInt64S.l0] at H
    by_cases c4 : x5_1 < (l0.length : Int)
    ·rw [if_pos c4] at H
     have c4b0 : decide (x5_1 < (l0.length : Int)) = true := decide_eq_true c4; clear c4
     by_cases c5 : 0 ≤ x5_1
     ·rw [if_pos c5] at H
      have c5b0 : decide (0 ≤ x5_1) = true := decide_eq_true c5; clear c5
      by_cases c6 : x5_1 < (l1.length : Int)
      ·rw [if_pos c6] at H
       have c6b0 : decide (x5_1 < (l1.length : Int)) = true := decide_eq_true c6; clear c6
       by_cases c7 : (rd l0 x5_1) = (rd l1 x5_1)
       ·rw [if_pos c7] at H
        have c7b0 : ((rd l0 x5_1) == (rd l1 x5_1)) = true := beq_iff_eq.mpr c7; have c7b1 : ((rd l0 x5_1) != (rd l1 x5_1)) = false := bne_eq_false_iff_eq.mpr c7; clear c7; have H' := Aside0.mk H; clear H; have p118 : 0 ≤ (x5_1 : Int) := oda; have q118 : x5_1 < (l0.length : Int) := oda; obtain ⟨ad118, e118, hx118_0⟩ := Kd.at_int HR0.out x5_1 p118 q118; cases e118; replace p118 := eq_true p118; replace q118 := eq_true q118; have p119 : 0 ≤ (x5_1 : Int) := oda; have q119 : x5_1 < (l1.length : Int) := oda; obtain ⟨ad119, e119, hx119_0⟩ := Kd.at_int HR1.out x5_1 p119 q119; cases e119; replace p119 := eq_true p119; replace q119 := eq_true q119
        go_wp2
        repeat (go_quiet (fail); try go_wp2)
        go_roundg k1
        case measure => have := HK1.out; omega
        case rel => exact ⟨(wrap64 (x5_1 + 1)), (by first | rfl | (simp; done) | (simp [*]; done)), H', ⟨by have := HK1.out; omega⟩, by repeat (first | exact Drawn0.refl _ | apply Drawn0.step)⟩
       ·rw [if_neg c7] at H
        have c7b0 : ((rd l0 x5_1) == (rd l1 x5_1)) = false := beq_eq_false_iff_ne.mpr c7; have c7b1 : ((rd l0 x5_1) != (rd l1 x5_1)) = true := bne_iff_ne.mpr c7; obtain rfl := Option.some.inj H; have p118 : 0 ≤ (x5_1 : Int) := oda; have q118 : x5_1 < (l0.length : Int) := oda; obtain ⟨ad118, e118, hx118_0⟩ := Kd.at_int HR0.out x5_1 p118 q118; cases e118; replace p118 := eq_true p118; replace q118 := eq_true q118; have p119 : 0 ≤ (x5_1 : Int) := oda; have q119 : x5_1 < (l1.length : Int) := oda; obtain ⟨ad119, e119, hx119_0⟩ := Kd.at_int HR1.out x5_1 p119 q119; cases e119; replace p119 := eq_true p119; replace q119 := eq_true q119
        go_wp2
        repeat (go_quiet (fail); try go_wp2)
        go_ret
        exact ⟨by first | rfl | (simp; done) | (simp [*]; done), by repeat (first | exact Drawn0.refl _ | apply Drawn0.step)⟩
      ·rw [if_neg c6] at H
       exact absurd H (by simp)
     ·rw [if_neg c5] at H
      exact absurd H (by simp)
    ·rw [if_neg c4] at H
     have c4b0 : decide (x5_1 < (l0.length : Int)) = false := decide_eq_false c4; clear c4; obtain rfl := Option.some.inj H
     go_wp2
     repeat (go_quiet (fail); try go_wp2)
     go_ret
     exact ⟨by first | rfl | (simp; done) | (simp [*]; done), by repeat (first | exact Drawn0.refl _ | apply Drawn0.step)⟩
 ·rw [if_neg c3] at H
  have c3b0 : ((l0.length : Int) == (l1.length : Int)) = false := beq_eq_false_iff_ne.mpr c3; have c3b1 : ((l0.length : Int) != (l1.length : Int)) = true := bne_iff_ne.mpr c3
  have c3b2 : (l0.length == l1.length) = false := by first | simpa using c3 | (simp at c3 ⊢; omega)
  obtain rfl := Option.some.inj H
  go_enter Try.func13, Try.ntmps13
  go_wp2
  repeat (go_quiet (fail); try go_wp2)
  go_ret
  exact ⟨by first | rfl | (simp; done) | (simp [*]; done), by repeat (first | exact Drawn0.refl _ | apply Drawn0.step)⟩
def laws_eqSpot.f (a0_0 : Int) (a0_1 : Int) (a1_0 : Int) (a1_1 : Int) : Option (Bool) := if a0_0 = a1_0 then (if a0_1 = a1_1 then (some true) else (some false)) else (some false)
set_option maxHeartbeats 8000000 in
set_option maxRecDepth 100000 in
theorem laws_eqSpot.calls (a0_0 : Int) (a0_1 : Int) (a1_0 : Int) (a1_1 : Int) (r : Bool) (w : World) (h : laws_eqSpot.f a0_0 a0_1 a1_0 a1_1 = some r) :
  Calls Try.prog 47 #[.agg #[.int .i8 a0_0, .int .i8 a0_1], .agg #[.int .i8 a1_0, .int .i8 a1_1]] w fun e w' => e = .returned (.bool r) ∧ Below w.heap.size w w' := by
 have hu36 := Try.underlying36
 have HB := Aside0.mk (Below.refl w.heap.size w)
 have H : (if a0_0 = a1_0 then (if a0_1 = a1_1 then (some true) else (some false)) else (some false)) = some r := h
 clear h
 by_cases c3 : a0_0 = a1_0
 ·rw [if_pos c3] at H
  have c3b0 : (a0_0 == a1_0) = true := beq_iff_eq.mpr c3; have c3b1 : (a0_0 != a1_0) = false := bne_eq_false_iff_eq.mpr c3; clear c3
  by_cases c4 : a0_1 = a1_1
  ·rw [if_pos c4] at H
   have c4b0 : (a0_1 == a1_1) = true := beq_iff_eq.mpr c4; have c4b1 : (a0_1 != a1_1) = false := bne_eq_false_iff_eq.mpr c4; clear c4; obtain rfl := Option.some.inj H
   go_enter Try.func47, Try.ntmps47
   go_wp2_with (first | ((with_reducible refine gate_dst (N := 2) rfl ?_); refine box_event ?hg (N := 2) ?hd (cs := #[.int .i8 a0_0, .int .i8 a0_1]) (t := 36) ?hr ?_; (case hd => rfl); (case hg => rfl); (case hr => first | (go_simp; done) | (go_simp; rfl)); intro gb120 hg w5 hbox hb; have n0_ := bst HB hb; have n1_ := Aside0.mk (hbox); have n2_ := gwl HB hg; have n3_ := gwl HB hg; clear HB; have HB := n0_; have BK120 := n1_; have GW120 := n2_; have GE120 := n3_; clear n0_ n1_ n2_ n3_; clear hb hbox hg) | ((with_reducible refine gate_dst (N := 3) rfl ?_); refine box_event ?hg (N := 3) ?hd (cs := #[.int .i8 a1_0, .int .i8 a1_1]) (t := 36) ?hr ?_; (case hd => rfl); (case hg => rfl); (case hr => first | (go_simp; done) | (go_simp; rfl)); intro gb121 hg w6 hbox hb; have n0_ := bkb BK120 hb; have n1_ := bst HB hb; have n2_ := Aside0.mk (hbox); have n3_ := gwl HB hg; have n4_ := gwl HB hg; have n5_ := nbl BK120 hg; have n6_ := nbg BK120 hg; clear BK120; clear HB; have BK120 := n0_; have HB := n1_; have BK121 := n2_; have GW121 := n3_; have GE121 := n4_; have NB120_121 := n5_; have NB121_120 := n6_; clear n0_ n1_ n2_ n3_ n4_ n5_ n6_; clear hb hbox hg; have hnb7 := NB120_121.out; have hnc7 := NB121_120.out; have hcz8_0 : w6.cell? ⟨gb120, 0, none⟩ = some (.int .i8 a0_0) := (blk_cell BK120.out 0).trans rfl; have hcz8_1 : w6.cell? ⟨gb120, 1, none⟩ = some (.int .i8 a0_1) := (blk_cell BK120.out 1).trans rfl; have hfz8_0 := blk_frozen BK120.out 0; have hfz8_1 := blk_frozen BK120.out 1; have hcz9_0 : w6.cell? ⟨gb121, 0, none⟩ = some (.int .i8 a1_0) := (blk_cell BK121.out 0).trans rfl; have hcz9_1 : w6.cell? ⟨gb121, 1, none⟩ = some (.int .i8 a1_1) := (blk_cell BK121.out 1).trans rfl; have hfz9_0 := blk_frozen BK121.out 0; have hfz9_1 := blk_frozen BK121.out 1))
   go_ret
   exact ⟨by first | rfl | (simp [errW_none, errW_some] <;> rfl) | (simp [*, errW_none, errW_some] <;> rfl), pbs HB⟩
  ·rw [if_neg c4] at H
   have c4b0 : (a0_1 == a1_1) = false := beq_eq_false_iff_ne.mpr c4; have c4b1 : (a0_1 != a1_1) = true := bne_iff_ne.mpr c4; obtain rfl := Option.some.inj H
   go_enter Try.func47, Try.ntmps47
   go_wp2_with (first | ((with_reducible refine gate_dst (N := 2) rfl ?_); refine box_event ?hg (N := 2) ?hd (cs := #[.int .i8 a0_0, .int .i8 a0_1]) (t := 36) ?hr ?_; (case hd => rfl); (case hg => rfl); (case hr => first | (go_simp; done) | (go_simp; rfl)); intro gb120 hg w10 hbox hb; have n0_ := bst HB hb; have n1_ := Aside0.mk (hbox); have n2_ := gwl HB hg; have n3_ := gwl HB hg; clear HB; have HB := n0_; have BK120 := n1_; have GW120 := n2_; have GE120 := n3_; clear n0_ n1_ n2_ n3_; clear hb hbox hg) | ((with_reducible refine gate_dst (N := 3) rfl ?_); refine box_event ?hg (N := 3) ?hd (cs := #[.int .i8 a1_0, .int .i8 a1_1]) (t := 36) ?hr ?_; (case hd => rfl); (case hg => rfl); (case hr => first | (go_simp; done) | (go_simp; rfl)); intro gb121 hg w11 hbox hb; have n0_ := bkb BK120 hb; have n1_ := bst HB hb; have n2_ := Aside0.mk (hbox); have n3_ := gwl HB hg; have n4_ := gwl HB hg; have n5_ := nbl BK120 hg; have n6_ := nbg BK120 hg; clear BK120; clear HB; have BK120 := n0_; have HB := n1_; have BK121 := n2_; have GW121 := n3_; have GE121 := n4_; have NB120_121 := n5_; have NB121_120 := n6_; clear n0_ n1_ n2_ n3_ n4_ n5_ n6_; clear hb hbox hg; have hnb12 := NB120_121.out; have hnc12 := NB121_120.out; have hcz13_0 : w11.cell? ⟨gb120, 0, none⟩ = some (.int .i8 a0_0) := (blk_cell BK120.out 0).trans rfl; have hcz13_1 : w11.cell? ⟨gb120, 1, none⟩ = some (.int .i8 a0_1) := (blk_cell BK120.out 1).trans rfl; have hfz13_0 := blk_frozen BK120.out 0; have hfz13_1 := blk_frozen BK120.out 1; have hcz14_0 : w11.cell? ⟨gb121, 0, none⟩ = some (.int .i8 a1_0) := (blk_cell BK121.out 0).trans rfl; have hcz14_1 : w11.cell? ⟨gb121, 1, none⟩ = some (.int .i8 a1_1) := (blk_cell BK121.out 1).trans rfl; have hfz14_0 := blk_frozen BK121.out 0; have hfz14_1 := blk_frozen BK121.out 1))
   go_ret
   exact ⟨by first | rfl | (simp [errW_none, errW_some] <;> rfl) | (simp [*, errW_none, errW_some] <;> rfl), pbs HB⟩
 ·rw [if_neg c3] at H
  have c3b0 : (a0_0 == a1_0) = false := beq_eq_false_iff_ne.mpr c3; have c3b1 : (a0_0 != a1_0) = true := bne_iff_ne.mpr c3; obtain rfl := Option.some.inj H
  go_enter Try.func47, Try.ntmps47
  go_wp2_with (first | ((with_reducible refine gate_dst (N := 2) rfl ?_); refine box_event ?hg (N := 2) ?hd (cs := #[.int .i8 a0_0, .int .i8 a0_1]) (t := 36) ?hr ?_; (case hd => rfl); (case hg => rfl); (case hr => first | (go_simp; done) | (go_simp; rfl)); intro gb120 hg w15 hbox hb; have n0_ := bst HB hb; have n1_ := Aside0.mk (hbox); have n2_ := gwl HB hg; have n3_ := gwl HB hg; clear HB; have HB := n0_; have BK120 := n1_; have GW120 := n2_; have GE120 := n3_; clear n0_ n1_ n2_ n3_; clear hb hbox hg) | ((with_reducible refine gate_dst (N := 3) rfl ?_); refine box_event ?hg (N := 3) ?hd (cs := #[.int .i8 a1_0, .int .i8 a1_1]) (t := 36) ?hr ?_; (case hd => rfl); (case hg => rfl); (case hr => first | (go_simp; done) | (go_simp; rfl)); intro gb121 hg w16 hbox hb; have n0_ := bkb BK120 hb; have n1_ := bst HB hb; have n2_ := Aside0.mk (hbox); have n3_ := gwl HB hg; have n4_ := gwl HB hg; have n5_ := nbl BK120 hg; have n6_ := nbg BK120 hg; clear BK120; clear HB; have BK120 := n0_; have HB := n1_; have BK121 := n2_; have GW121 := n3_; have GE121 := n4_; have NB120_121 := n5_; have NB121_120 := n6_; clear n0_ n1_ n2_ n3_ n4_ n5_ n6_; clear hb hbox hg; have hnb17 := NB120_121.out; have hnc17 := NB121_120.out; have hcz18_0 : w16.cell? ⟨gb120, 0, none⟩ = some (.int .i8 a0_0) := (blk_cell BK120.out 0).trans rfl; have hcz18_1 : w16.cell? ⟨gb120, 1, none⟩ = some (.int .i8 a0_1) := (blk_cell BK120.out 1).trans rfl; have hfz18_0 := blk_frozen BK120.out 0; have hfz18_1 := blk_frozen BK120.out 1; have hcz19_0 : w16.cell? ⟨gb121, 0, none⟩ = some (.int .i8 a1_0) := (blk_cell BK121.out 0).trans rfl; have hcz19_1 : w16.cell? ⟨gb121, 1, none⟩ = some (.int .i8 a1_1) := (blk_cell BK121.out 1).trans rfl; have hfz19_0 := blk_frozen BK121.out 0; have hfz19_1 := blk_frozen BK121.out 1))
  go_ret
  exact ⟨by first | rfl | (simp [errW_none, errW_some] <;> rfl) | (simp [*, errW_none, errW_some] <;> rfl), pbs HB⟩
end Go.Proofs.Ytanobaoaelhebaa.PB
end
section
namespace Go.Proofs.Ytanobaoaelhebaa.PB
open Go.RowKit Go.Proofs.YtanobaoaelhebaaW.PrintWords Go.Proofs.YtanobaoaelhebaaW.PrintLast Go.Proofs.YtanobaoaelhebaaW.PrintMore Go.Proofs.Ytanobaoaelhebaa.La Go.Proofs.Ytanobaoaelhebaa.Mp
attribute [local go_sem] max2_int min2_int max_two min_two max_three min_three max_four min_four   -- for this text's walks alone
set_option linter.unusedVariables false
set_option linter.unusedSimpArgs false
def laws_eqSpotS.l0 : Nat → List (S36) → List (S36) → Int → Option (Bool)
 | 0, _, _, _ => none
 | k + 1, x0, x1, x5 => if x5 < (x0.length : Int) then (if 0 ≤ x5 then (if x5 < (x1.length : Int) then ((laws_eqSpot.f ((rd_T36 x0 x5).f0) ((rd_T36 x0 x5).f1) ((rd_T36 x1 x5).f0) ((rd_T36 x1 x5).f1)).bind fun t124 => (if t124 = true then (laws_eqSpotS.l0 k x0 x1 (wrap64 (x5 + 1))) else (some false))) else (none)) else (none)) else (some true)
def laws_eqSpotS.f (k : Nat) (l0 : List (S36)) (l1 : List (S36)) : Option (Bool) := if (l0.length : Int) = (l1.length : Int) then (laws_eqSpotS.l0 k l0 l1 0) else (some false)
theorem laws_eqSpotS.mono_l : ∀ k, (∀ y0 y1 y2, LeO (laws_eqSpotS.l0 k y0 y1 y2) (laws_eqSpotS.l0 (k + 1) y0 y1 y2))
 | 0 => fun _ _ _ r h => by simp [laws_eqSpotS.l0] at h
 | k + 1 => by
  have ih0 := laws_eqSpotS.mono_l k
  ·intro y0 y1 y2
   unfold laws_eqSpotS.l0
   repeat' first
   | (with_reducible exact ih0 _ _ _)
   | (with_reducible exact LeO.refl _)
   | (with_reducible exact LeO.none _)
   | (with_reducible refine LeO.ite ?_ ?_)
   | (with_reducible refine LeO.bind ?_ (fun _ => ?_))
   | exact ih0 _ _ _
   | exact LeO.none _
   | refine LeO.ite ?_ ?_
   | refine LeO.bind ?_ (fun _ => ?_)
theorem laws_eqSpotS.mono : ∀ a0 a1 k, LeO (laws_eqSpotS.f k a0 a1) (laws_eqSpotS.f (k + 1) a0 a1) := by
 intro a0 a1 k
 have ih0 := laws_eqSpotS.mono_l k
 unfold laws_eqSpotS.f
 repeat' first
   | (with_reducible exact ih0 _ _ _)
   | (with_reducible exact LeO.refl _)
   | (with_reducible exact LeO.none _)
   | (with_reducible refine LeO.ite ?_ ?_)
   | (with_reducible refine LeO.bind ?_ (fun _ => ?_))
   | exact ih0 _ _ _
   | exact LeO.none _
   | refine LeO.ite ?_ ?_
   | refine LeO.bind ?_ (fun _ => ?_)
def laws_eqSpotS.T6 : Bool × List (List Nat × List Nat) := (true, [([], []), ([], []), ([0, 1], [0, 1]), ([2], [2]), ([], []), ([], []), ([4, 5], [4, 5]), ([6], [6]), ([3, 7], [3, 7]), ([8], [8])])
def laws_eqSpotS.B6 : List Nat := [0, 0, 3, 7, 0, 0, 48, 112, 255, 511]
theorem laws_eqSpotS.tab6 : rtab .any (opsOf Try.f14 6) = laws_eqSpotS.T6 := by kernel_rfl
theorem laws_eqSpotS.bits6 : waitsOk laws_eqSpotS.T6.2 laws_eqSpotS.B6 = true := by kernel_rfl
set_option maxHeartbeats 8000000 in
set_option maxRecDepth 100000 in
theorem laws_eqSpotS.calls (k : Nat) (A0 : Option Addr) (c0 : Nat) (l0 : List (S36)) (A1 : Option Addr) (c1 : Nat) (l1 : List (S36)) (r : Bool) (w : World) (hr0 : Kd.C k36 w A0 l0.length l0) (hc0 : l0.length ≤ c0) (hr1 : Kd.C k36 w A1 l1.length l1) (hc1 : l1.length ≤ c1) (h : laws_eqSpotS.f k l0 l1 = some r) :
  Calls Try.prog 14 #[.slice A0 l0.length c0, .slice A1 l1.length c1] w fun e w' => e = .returned (.bool r) ∧ Below w.heap.size w w' := by
 have hu36 := Try.underlying36
 have HR0 := Aside0.mk hr0
 have HC0 := Aside0.mk hc0
 clear hr0 hc0
 have HR1 := Aside0.mk hr1
 have HC1 := Aside0.mk hc1
 clear hr1 hc1
 have HB := Aside0.mk (Below.refl w.heap.size w)
 have H : (if (l0.length : Int) = (l1.length : Int) then (laws_eqSpotS.l0 k l0 l1 0) else (some false)) = some r := h
 clear h
 by_cases c3 : (l0.length : Int) = (l1.length : Int)
 ·rw [if_pos c3] at H
  have c3b0 : ((l0.length : Int) == (l1.length : Int)) = true := beq_iff_eq.mpr c3; have c3b1 : ((l0.length : Int) != (l1.length : Int)) = false := bne_eq_false_iff_eq.mpr c3
  have c3b2 : (l0.length == l1.length) = true := by first | simpa using c3 | (simp at c3 ⊢; omega)
  clear c3; have H' := Aside0.mk H; clear H
  go_enter Try.func14, Try.ntmps14
  go_wp2
  go_loopg [5] k (fun kq v5 w' => ∃ (x5_1 : Int), v5 = .int .i64 x5_1 ∧ Aside0 (laws_eqSpotS.l0 kq l0 l1 x5_1 = some r) ∧ Aside0 (kq ≤ k) ∧ Aside0 (Below w.heap.size w w'))
  case atStart => exact ⟨(0), (by first | rfl | (simp; done) | (simp [*]; done)), H', ⟨Nat.le_refl _⟩, ⟨pb HB⟩⟩
  case round =>
   clear H'
   try clear c1
   try clear p2
   try clear c3
   try clear c3b0
   try clear c3b1
   try clear c3b2
   obtain ⟨x5_1, rfl, HA, HK1, HB⟩ := hrel
   cases gk with
   | zero => exact absurd HA.out (by simp [laws_eqSpotS.l0])
   | succ k1 =>
    have H := HA.out; clear HA; simp only [laws_eqSpotS.l0] at H
    by_cases c4 : x5_1 < (l0.length : Int)
    ·rw [if_pos c4] at H
     have c4b0 : decide (x5_1 < (l0.length : Int)) = true := decide_eq_true c4; clear c4
     by_cases c5 : 0 ≤ x5_1
     ·rw [if_pos c5] at H
      have c5b0 : decide (0 ≤ x5_1) = true := decide_eq_true c5; clear c5
      by_cases c6 : x5_1 < (l1.length : Int)
      ·rw [if_pos c6] at H
       have c6b0 : decide (x5_1 < (l1.length : Int)) = true := decide_eq_true c6; clear c6; obtain ⟨t124, A7, H⟩ := obn H
       by_cases c8 : t124 = true
       ·subst c8
        have H1 : (laws_eqSpotS.l0 k1 l0 l1 (wrap64 (x5_1 + 1))) = some r := by rw [if_pos rfl] at H; exact H
        clear H; have H := H1; clear H1; have H' := Aside0.mk H; clear H
        try go_wp2
        replace HB := Aside0.mk (below_drew1 HB.out); have p122 : 0 ≤ (x5_1 : Int) := oda; have q122 : x5_1 < (l0.length : Int) := oda; obtain ⟨ad122, e122, hx122_0, hx122_1⟩ := at_T36 HR0.out x5_1 p122 q122; have hw122_1 := hx122_1; have hw122_0 := hx122_0; cases e122
        try replace hx122_0 := cb HB hx122_0
        try replace hx122_1 := cb HB hx122_1
        replace p122 := eq_true p122; replace q122 := eq_true q122; have p123 : 0 ≤ (x5_1 : Int) := oda; have q123 : x5_1 < (l1.length : Int) := oda; obtain ⟨ad123, e123, hx123_0, hx123_1⟩ := at_T36 HR1.out x5_1 p123 q123; have hw123_1 := hx123_1; have hw123_0 := hx123_0; cases e123
        try replace hx123_0 := cb HB hx123_0
        try replace hx123_1 := cb HB hx123_1
        replace p123 := eq_true p123; replace q123 := eq_true q123
        refine start_ (n := 10) (S := fun w' => w'.cell? (ad122.add ((x5_1).toNat * 2)) = some (.int .i8 ((rd_T36 l0 x5_1).f0)) ∧ w'.cell? ⟨(ad122.add ((x5_1).toNat * 2)).block, (ad122.add ((x5_1).toNat * 2)).off + 1, none⟩ = some (.int .i8 ((rd_T36 l0 x5_1).f1)) ∧ w'.cell? (ad123.add ((x5_1).toNat * 2)) = some (.int .i8 ((rd_T36 l1 x5_1).f0)) ∧ w'.cell? ⟨(ad123.add ((x5_1).toNat * 2)).block, (ad123.add ((x5_1).toNat * 2)).off + 1, none⟩ = some (.int .i8 ((rd_T36 l1 x5_1).f1))) (ds := []) (bA 10 0) (by kernel_rfl) rfl rfl ⟨(cb HB hw122_0), (cb HB hw122_1), (cb HB hw123_0), (cb HB hw123_1)⟩ (fun hHeld => ?_); refine with_tabW laws_eqSpotS.tab6 laws_eqSpotS.bits6 (fun HT_ HW_ => ?_)
        generalize wr.drew = w9 at HB hx122_0 hx122_1 hx123_0 hx123_1 hHeld ⊢; refine pu 0 17 10 1 HT_ ?_; refine pu 1 18 10 3 HT_ ?_; refine pu 2 19 10 7 HT_ ?_; refine pu 4 21 10 23 HT_ ?_; refine pu 5 22 10 55 HT_ ?_; refine pu 6 23 10 119 HT_ ?_; refine tk 3 20 10 127 HT_ HW_ hHeld ?_; refine tk 7 24 10 255 HT_ HW_ hHeld ?_; refine one_ (i := 8) (N := some 25) (bA 10 511) rfl rfl (one_of HT_.out (by kernel_rfl)) (by decide) (fun K hK => ?_); refine gs Try.func47 #[.agg #[.int .i8 ((rd_T36 l0 x5_1).f0), .int .i8 ((rd_T36 l0 x5_1).f1)], .agg #[.int .i8 ((rd_T36 l1 x5_1).f0), .int .i8 ((rd_T36 l1 x5_1).f1)]] ?_; with_reducible refine (laws_eqSpot.calls ((rd_T36 l0 x5_1).f0) ((rd_T36 l0 x5_1).f1) ((rd_T36 l1 x5_1).f0) ((rd_T36 l1 x5_1).f1) true _ A7.out).mono ?_
        rintro e w10 ⟨rfl, hb⟩
        refine ⟨_, rfl, ?_⟩; replace HB := bst HB hb; (try clear hb); (try clear hb2); (try clear hk); (try clear hi); refine hK.out _ _ ⟨(cb HB hw122_0), (cb HB hw122_1), (cb HB hw123_0), (cb HB hw123_1)⟩ (fun hHeld => ?_); clear hK K; refine nm 25 ?_; refine pu 9 26 10 1023 HT_ ?_; refine done_ (done_of HT_.out (by kernel_rfl)) ?_
        try go_wp2
        go_roundg k1
        case measure => have := HK1.out; omega
        case rel => exact ⟨(wrap64 (x5_1 + 1)), (by first | rfl | (simp; done) | (simp [*]; done)), H', ⟨by have := HK1.out; omega⟩, ⟨pb HB⟩⟩
       ·replace c8 := Bool.eq_false_iff.mpr c8
        subst c8
        have H1 : (some false) = some r := by rw [if_neg (show ¬ (false = true) by decide)] at H; exact H
        clear H; have H := H1; clear H1; obtain rfl := Option.some.inj H
        try go_wp2
        replace HB := Aside0.mk (below_drew1 HB.out); have p122 : 0 ≤ (x5_1 : Int) := oda; have q122 : x5_1 < (l0.length : Int) := oda; obtain ⟨ad122, e122, hx122_0, hx122_1⟩ := at_T36 HR0.out x5_1 p122 q122; have hw122_1 := hx122_1; have hw122_0 := hx122_0; cases e122
        try replace hx122_0 := cb HB hx122_0
        try replace hx122_1 := cb HB hx122_1
        replace p122 := eq_true p122; replace q122 := eq_true q122; have p123 : 0 ≤ (x5_1 : Int) := oda; have q123 : x5_1 < (l1.length : Int) := oda; obtain ⟨ad123, e123, hx123_0, hx123_1⟩ := at_T36 HR1.out x5_1 p123 q123; have hw123_1 := hx123_1; have hw123_0 := hx123_0; cases e123
        try replace hx123_0 := cb HB hx123_0
        try replace hx123_1 := cb HB hx123_1
        replace p123 := eq_true p123; replace q123 := eq_true q123
        refine start_ (n := 10) (S := fun w' => w'.cell? (ad122.add ((x5_1).toNat * 2)) = some (.int .i8 ((rd_T36 l0 x5_1).f0)) ∧ w'.cell? ⟨(ad122.add ((x5_1).toNat * 2)).block, (ad122.add ((x5_1).toNat * 2)).off + 1, none⟩ = some (.int .i8 ((rd_T36 l0 x5_1).f1)) ∧ w'.cell? (ad123.add ((x5_1).toNat * 2)) = some (.int .i8 ((rd_T36 l1 x5_1).f0)) ∧ w'.cell? ⟨(ad123.add ((x5_1).toNat * 2)).block, (ad123.add ((x5_1).toNat * 2)).off + 1, none⟩ = some (.int .i8 ((rd_T36 l1 x5_1).f1))) (ds := []) (bA 10 0) (by kernel_rfl) rfl rfl ⟨(cb HB hw122_0), (cb HB hw122_1), (cb HB hw123_0), (cb HB hw123_1)⟩ (fun hHeld => ?_); refine with_tabW laws_eqSpotS.tab6 laws_eqSpotS.bits6 (fun HT_ HW_ => ?_)
        generalize wr.drew = w11 at HB hx122_0 hx122_1 hx123_0 hx123_1 hHeld ⊢; refine pu 0 17 10 1 HT_ ?_; refine pu 1 18 10 3 HT_ ?_; refine pu 2 19 10 7 HT_ ?_; refine pu 4 21 10 23 HT_ ?_; refine pu 5 22 10 55 HT_ ?_; refine pu 6 23 10 119 HT_ ?_; refine tk 3 20 10 127 HT_ HW_ hHeld ?_; refine tk 7 24 10 255 HT_ HW_ hHeld ?_; refine one_ (i := 8) (N := some 25) (bA 10 511) rfl rfl (one_of HT_.out (by kernel_rfl)) (by decide) (fun K hK => ?_); refine gs Try.func47 #[.agg #[.int .i8 ((rd_T36 l0 x5_1).f0), .int .i8 ((rd_T36 l0 x5_1).f1)], .agg #[.int .i8 ((rd_T36 l1 x5_1).f0), .int .i8 ((rd_T36 l1 x5_1).f1)]] ?_; with_reducible refine (laws_eqSpot.calls ((rd_T36 l0 x5_1).f0) ((rd_T36 l0 x5_1).f1) ((rd_T36 l1 x5_1).f0) ((rd_T36 l1 x5_1).f1) false _ A7.out).mono ?_
        rintro e w12 ⟨rfl, hb⟩
        refine ⟨_, rfl, ?_⟩; replace HB := bst HB hb; (try clear hb); (try clear hb2); (try clear hk); (try clear hi); refine hK.out _ _ ⟨(cb HB hw122_0), (cb HB hw122_1), (cb HB hw123_0), (cb HB hw123_1)⟩ (fun hHeld => ?_); clear hK K; refine nm 25 ?_; refine pu 9 26 10 1023 HT_ ?_; refine done_ (done_of HT_.out (by kernel_rfl)) ?_
        try go_wp2
        go_ret
        exact ⟨by first | rfl | (simp [errW_none, errW_some] <;> rfl) | (simp [*, errW_none, errW_some] <;> rfl), pb HB⟩
      ·rw [if_neg c6] at H
       exact absurd H (by simp)
     ·rw [if_neg c5] at H
      exact absurd H (by simp)
    ·rw [if_neg c4] at H
     have c4b0 : decide (x5_1 < (l0.length : Int)) = false := decide_eq_false c4; clear c4; obtain rfl := Option.some.inj H
     go_wp2
     go_ret
     exact ⟨by first | rfl | (simp [errW_none, errW_some] <;> rfl) | (simp [*, errW_none, errW_some] <;> rfl), pb HB⟩
 ·rw [if_neg c3] at H
  have c3b0 : ((l0.length : Int) == (l1.length : Int)) = false := beq_eq_false_iff_ne.mpr c3; have c3b1 : ((l0.length : Int) != (l1.length : Int)) = true := bne_iff_ne.mpr c3
  have c3b2 : (l0.length == l1.length) = false := by first | simpa using c3 | (simp at c3 ⊢; omega)
  obtain rfl := Option.some.inj H
  go_enter Try.func14, Try.ntmps14
  go_wp2
  go_ret
  exact ⟨by first | rfl | (simp [errW_none, errW_some] <;> rfl) | (simp [*, errW_none, errW_some] <;> rfl), pb HB⟩
def spec_l00In.f (a0 : Int) (a1 : Int) (a2 : Int) : Option (Bool) := if a0 ≥ a1 then (some (decide (a0 ≤ a2))) else (some false)
set_option maxHeartbeats 8000000 in
set_option maxRecDepth 100000 in
theorem spec_l00In.calls (a0 : Int) (a1 : Int) (a2 : Int) (r : Bool) (w : World) (h : spec_l00In.f a0 a1 a2 = some r) :
  Calls Try.prog 51 #[.int .i64 a0, .int .i64 a1, .int .i64 a2] w fun e w' => e = .returned (.bool r) ∧ Drawn0 w w' := by
 have H : (if a0 ≥ a1 then (some (decide (a0 ≤ a2))) else (some false)) = some r := h
 clear h
 by_cases c4 : a0 ≥ a1
 ·rw [if_pos c4] at H
  have c4b0 : decide (a1 ≤ a0) = true := decide_eq_true c4; clear c4; obtain rfl := Option.some.inj H
  go_enter Try.func51, Try.ntmps51
  go_wp2
  go_ret
  exact ⟨by first | rfl | (simp; done) | (simp [*]; done), by repeat (first | exact Drawn0.refl _ | apply Drawn0.step)⟩
 ·rw [if_neg c4] at H
  have c4b0 : decide (a1 ≤ a0) = false := decide_eq_false c4; clear c4; obtain rfl := Option.some.inj H
  go_enter Try.func51, Try.ntmps51
  go_wp2
  go_ret
  exact ⟨by first | rfl | (simp; done) | (simp [*]; done), by repeat (first | exact Drawn0.refl _ | apply Drawn0.step)⟩
def spec_l01Is.f (s0_0 : Int) (s0_1 : Int) (s0_2 : LA 10) (a1_0 : Int) (a1_1 : Int) : Option (Bool) := (spec_l00In.f (wrap64 (a1_0)) 0 (wrap64 ((wrap64 (s0_0)) - 1))).bind fun t126 => (if t126 = true then ((spec_l00In.f (wrap64 (a1_1)) 0 (wrap64 ((wrap64 (s0_1)) - 1))).bind fun t127 => (some t127)) else (some false))
set_option maxHeartbeats 8000000 in
set_option maxRecDepth 100000 in
theorem spec_l01Is.calls (g0 : Nat) (s0_0 : Int) (s0_1 : Int) (s0_2 : LA 10) (a1_0 : Int) (a1_1 : Int) (r : Bool) (w : World) (hb0 : w.heap[g0]? = some (.cells (mixA (Value.int .u16) [.int .i8 s0_0, .int .i8 s0_1] s0_2) 34 (0, 0))) (h : spec_l01Is.f s0_0 s0_1 s0_2 a1_0 a1_1 = some r) :
  Calls Try.prog 97 #[.pointer (some ⟨g0, 0, none⟩), .agg #[.int .i8 a1_0, .int .i8 a1_1]] w fun e w' => e = .returned (.bool r) ∧ Below w.heap.size w w' := by
 have hu36 := Try.underlying36
 have BK0 := Aside0.mk hb0
 clear hb0
 have HB := Aside0.mk (Below.refl w.heap.size w)
 have H : ((spec_l00In.f (wrap64 (a1_0)) 0 (wrap64 ((wrap64 (s0_0)) - 1))).bind fun t126 => (if t126 = true then ((spec_l00In.f (wrap64 (a1_1)) 0 (wrap64 ((wrap64 (s0_1)) - 1))).bind fun t127 => (some t127)) else (some false))) = some r := h
 clear h
 obtain ⟨t126, A3, H⟩ := obn H
 by_cases c4 : t126 = true
 ·subst c4
  have H1 : ((spec_l00In.f (wrap64 (a1_1)) 0 (wrap64 ((wrap64 (s0_1)) - 1))).bind fun t127 => (some t127)) = some r := by rw [if_pos rfl] at H; exact H
  clear H; have H := H1; clear H1; obtain ⟨t127, A5, H⟩ := obn H; obtain rfl := Option.some.inj H
  go_enter Try.func97, Try.ntmps97
  go_wp2_with (first | ((with_reducible refine gate_dst (N := 3) rfl ?_); refine box_event ?hg (N := 3) ?hd (cs := #[.int .i8 a1_0, .int .i8 a1_1]) (t := 36) ?hr ?_; (case hd => rfl); (case hg => rfl); (case hr => first | (go_simp; done) | (go_simp; rfl)); intro gb125 hg w6 hbox hb; have n0_ := bkb BK0 hb; have n1_ := bst HB hb; have n2_ := Aside0.mk (hbox); have n3_ := gwl HB hg; have n4_ := gwl HB hg; have n5_ := nbl BK0 hg; have n6_ := nbg BK0 hg; clear BK0; clear HB; have BK0 := n0_; have HB := n1_; have BK125 := n2_; have GW125 := n3_; have GE125 := n4_; have NB0_125 := n5_; have NB125_0 := n6_; clear n0_ n1_ n2_ n3_ n4_ n5_ n6_; clear hb hbox hg; have hnb7 := NB125_0.out; have hnc7 := NB0_125.out; have hcz8_0 : w6.cell? ⟨gb125, 0, none⟩ = some (.int .i8 a1_0) := (blk_cell BK125.out 0).trans rfl; have hcz8_1 : w6.cell? ⟨gb125, 1, none⟩ = some (.int .i8 a1_1) := (blk_cell BK125.out 1).trans rfl; have hfz8_0 := blk_frozen BK125.out 0; have hfz8_1 := blk_frozen BK125.out 1; have hcz9_0 : w6.cell? ⟨g0, 0, none⟩ = some (.int .i8 s0_0) := mix_cell0 BK0.out 0; have hcz9_1 : w6.cell? ⟨g0, 1, none⟩ = some (.int .i8 s0_1) := mix_cell0 BK0.out 1; have hfz9_0 := blk_frozen BK0.out 0; have hfz9_1 := blk_frozen BK0.out 1) | (go_at_call 51; (with_reducible refine (spec_l00In.calls (wrap64 (a1_0)) 0 (wrap64 ((wrap64 (s0_0)) - 1)) true _ A3.out).mono ?_); rintro e w' ⟨rfl, ⟨nd, rfl⟩⟩; (try first | exact ⟨rfl, _, World.drewN_drewN _ _ _⟩ | exact ⟨rfl, _, Eq.trans (World.drewN_drewN _ _ _) (congrArg (World.drewN _) (Nat.add_assoc _ _ _))⟩)) | (go_at_call 51; (with_reducible refine (spec_l00In.calls (wrap64 (a1_1)) 0 (wrap64 ((wrap64 (s0_1)) - 1)) t127 _ A5.out).mono ?_); rintro e w' ⟨rfl, ⟨nd, rfl⟩⟩; (try first | exact ⟨rfl, _, World.drewN_drewN _ _ _⟩ | exact ⟨rfl, _, Eq.trans (World.drewN_drewN _ _ _) (congrArg (World.drewN _) (Nat.add_assoc _ _ _))⟩)))
  repeat (go_quiet (first | ((with_reducible refine gate_dst (N := 3) rfl ?_); refine box_event ?hg (N := 3) ?hd (cs := #[.int .i8 a1_0, .int .i8 a1_1]) (t := 36) ?hr ?_; (case hd => rfl); (case hg => rfl); (case hr => first | (go_simp; done) | (go_simp; rfl)); intro gb125 hg w6 hbox hb; have n0_ := bkb BK0 hb; have n1_ := bst HB hb; have n2_ := Aside0.mk (hbox); have n3_ := gwl HB hg; have n4_ := gwl HB hg; have n5_ := nbl BK0 hg; have n6_ := nbg BK0 hg; clear BK0; clear HB; have BK0 := n0_; have HB := n1_; have BK125 := n2_; have GW125 := n3_; have GE125 := n4_; have NB0_125 := n5_; have NB125_0 := n6_; clear n0_ n1_ n2_ n3_ n4_ n5_ n6_; clear hb hbox hg; have hnb7 := NB125_0.out; have hnc7 := NB0_125.out; have hcz8_0 : w6.cell? ⟨gb125, 0, none⟩ = some (.int .i8 a1_0) := (blk_cell BK125.out 0).trans rfl; have hcz8_1 : w6.cell? ⟨gb125, 1, none⟩ = some (.int .i8 a1_1) := (blk_cell BK125.out 1).trans rfl; have hfz8_0 := blk_frozen BK125.out 0; have hfz8_1 := blk_frozen BK125.out 1; have hcz9_0 : w6.cell? ⟨g0, 0, none⟩ = some (.int .i8 s0_0) := mix_cell0 BK0.out 0; have hcz9_1 : w6.cell? ⟨g0, 1, none⟩ = some (.int .i8 s0_1) := mix_cell0 BK0.out 1; have hfz9_0 := blk_frozen BK0.out 0; have hfz9_1 := blk_frozen BK0.out 1) | (go_at_call 51; (with_reducible refine (spec_l00In.calls (wrap64 (a1_0)) 0 (wrap64 ((wrap64 (s0_0)) - 1)) true _ A3.out).mono ?_); rintro e w' ⟨rfl, ⟨nd, rfl⟩⟩; (try first | exact ⟨rfl, _, World.drewN_drewN _ _ _⟩ | exact ⟨rfl, _, Eq.trans (World.drewN_drewN _ _ _) (congrArg (World.drewN _) (Nat.add_assoc _ _ _))⟩)) | (go_at_call 51; (with_reducible refine (spec_l00In.calls (wrap64 (a1_1)) 0 (wrap64 ((wrap64 (s0_1)) - 1)) t127 _ A5.out).mono ?_); rintro e w' ⟨rfl, ⟨nd, rfl⟩⟩; (try first | exact ⟨rfl, _, World.drewN_drewN _ _ _⟩ | exact ⟨rfl, _, Eq.trans (World.drewN_drewN _ _ _) (congrArg (World.drewN _) (Nat.add_assoc _ _ _))⟩))); try go_wp2_with (first | ((with_reducible refine gate_dst (N := 3) rfl ?_); refine box_event ?hg (N := 3) ?hd (cs := #[.int .i8 a1_0, .int .i8 a1_1]) (t := 36) ?hr ?_; (case hd => rfl); (case hg => rfl); (case hr => first | (go_simp; done) | (go_simp; rfl)); intro gb125 hg w6 hbox hb; have n0_ := bkb BK0 hb; have n1_ := bst HB hb; have n2_ := Aside0.mk (hbox); have n3_ := gwl HB hg; have n4_ := gwl HB hg; have n5_ := nbl BK0 hg; have n6_ := nbg BK0 hg; clear BK0; clear HB; have BK0 := n0_; have HB := n1_; have BK125 := n2_; have GW125 := n3_; have GE125 := n4_; have NB0_125 := n5_; have NB125_0 := n6_; clear n0_ n1_ n2_ n3_ n4_ n5_ n6_; clear hb hbox hg; have hnb7 := NB125_0.out; have hnc7 := NB0_125.out; have hcz8_0 : w6.cell? ⟨gb125, 0, none⟩ = some (.int .i8 a1_0) := (blk_cell BK125.out 0).trans rfl; have hcz8_1 : w6.cell? ⟨gb125, 1, none⟩ = some (.int .i8 a1_1) := (blk_cell BK125.out 1).trans rfl; have hfz8_0 := blk_frozen BK125.out 0; have hfz8_1 := blk_frozen BK125.out 1; have hcz9_0 : w6.cell? ⟨g0, 0, none⟩ = some (.int .i8 s0_0) := mix_cell0 BK0.out 0; have hcz9_1 : w6.cell? ⟨g0, 1, none⟩ = some (.int .i8 s0_1) := mix_cell0 BK0.out 1; have hfz9_0 := blk_frozen BK0.out 0; have hfz9_1 := blk_frozen BK0.out 1) | (go_at_call 51; (with_reducible refine (spec_l00In.calls (wrap64 (a1_0)) 0 (wrap64 ((wrap64 (s0_0)) - 1)) true _ A3.out).mono ?_); rintro e w' ⟨rfl, ⟨nd, rfl⟩⟩; (try first | exact ⟨rfl, _, World.drewN_drewN _ _ _⟩ | exact ⟨rfl, _, Eq.trans (World.drewN_drewN _ _ _) (congrArg (World.drewN _) (Nat.add_assoc _ _ _))⟩)) | (go_at_call 51; (with_reducible refine (spec_l00In.calls (wrap64 (a1_1)) 0 (wrap64 ((wrap64 (s0_1)) - 1)) t127 _ A5.out).mono ?_); rintro e w' ⟨rfl, ⟨nd, rfl⟩⟩; (try first | exact ⟨rfl, _, World.drewN_drewN _ _ _⟩ | exact ⟨rfl, _, Eq.trans (World.drewN_drewN _ _ _) (congrArg (World.drewN _) (Nat.add_assoc _ _ _))⟩))))
  go_ret
  exact ⟨by first | rfl | (simp [errW_none, errW_some] <;> rfl) | (simp [*, errW_none, errW_some] <;> rfl), pbs HB⟩
 ·replace c4 := Bool.eq_false_iff.mpr c4
  subst c4
  have H1 : (some false) = some r := by rw [if_neg (show ¬ (false = true) by decide)] at H; exact H
  clear H; have H := H1; clear H1; obtain rfl := Option.some.inj H
  go_enter Try.func97, Try.ntmps97
  go_wp2_with (first | ((with_reducible refine gate_dst (N := 3) rfl ?_); refine box_event ?hg (N := 3) ?hd (cs := #[.int .i8 a1_0, .int .i8 a1_1]) (t := 36) ?hr ?_; (case hd => rfl); (case hg => rfl); (case hr => first | (go_simp; done) | (go_simp; rfl)); intro gb125 hg w10 hbox hb; have n0_ := bkb BK0 hb; have n1_ := bst HB hb; have n2_ := Aside0.mk (hbox); have n3_ := gwl HB hg; have n4_ := gwl HB hg; have n5_ := nbl BK0 hg; have n6_ := nbg BK0 hg; clear BK0; clear HB; have BK0 := n0_; have HB := n1_; have BK125 := n2_; have GW125 := n3_; have GE125 := n4_; have NB0_125 := n5_; have NB125_0 := n6_; clear n0_ n1_ n2_ n3_ n4_ n5_ n6_; clear hb hbox hg; have hnb11 := NB125_0.out; have hnc11 := NB0_125.out; have hcz12_0 : w10.cell? ⟨gb125, 0, none⟩ = some (.int .i8 a1_0) := (blk_cell BK125.out 0).trans rfl; have hcz12_1 : w10.cell? ⟨gb125, 1, none⟩ = some (.int .i8 a1_1) := (blk_cell BK125.out 1).trans rfl; have hfz12_0 := blk_frozen BK125.out 0; have hfz12_1 := blk_frozen BK125.out 1; have hcz13_0 : w10.cell? ⟨g0, 0, none⟩ = some (.int .i8 s0_0) := mix_cell0 BK0.out 0; have hcz13_1 : w10.cell? ⟨g0, 1, none⟩ = some (.int .i8 s0_1) := mix_cell0 BK0.out 1; have hfz13_0 := blk_frozen BK0.out 0; have hfz13_1 := blk_frozen BK0.out 1) | (go_at_call 51; (with_reducible refine (spec_l00In.calls (wrap64 (a1_0)) 0 (wrap64 ((wrap64 (s0_0)) - 1)) false _ A3.out).mono ?_); rintro e w' ⟨rfl, ⟨nd, rfl⟩⟩; (try first | exact ⟨rfl, _, World.drewN_drewN _ _ _⟩ | exact ⟨rfl, _, Eq.trans (World.drewN_drewN _ _ _) (congrArg (World.drewN _) (Nat.add_assoc _ _ _))⟩)))
  repeat (go_quiet (first | ((with_reducible refine gate_dst (N := 3) rfl ?_); refine box_event ?hg (N := 3) ?hd (cs := #[.int .i8 a1_0, .int .i8 a1_1]) (t := 36) ?hr ?_; (case hd => rfl); (case hg => rfl); (case hr => first | (go_simp; done) | (go_simp; rfl)); intro gb125 hg w10 hbox hb; have n0_ := bkb BK0 hb; have n1_ := bst HB hb; have n2_ := Aside0.mk (hbox); have n3_ := gwl HB hg; have n4_ := gwl HB hg; have n5_ := nbl BK0 hg; have n6_ := nbg BK0 hg; clear BK0; clear HB; have BK0 := n0_; have HB := n1_; have BK125 := n2_; have GW125 := n3_; have GE125 := n4_; have NB0_125 := n5_; have NB125_0 := n6_; clear n0_ n1_ n2_ n3_ n4_ n5_ n6_; clear hb hbox hg; have hnb11 := NB125_0.out; have hnc11 := NB0_125.out; have hcz12_0 : w10.cell? ⟨gb125, 0, none⟩ = some (.int .i8 a1_0) := (blk_cell BK125.out 0).trans rfl; have hcz12_1 : w10.cell? ⟨gb125, 1, none⟩ = some (.int .i8 a1_1) := (blk_cell BK125.out 1).trans rfl; have hfz12_0 := blk_frozen BK125.out 0; have hfz12_1 := blk_frozen BK125.out 1; have hcz13_0 : w10.cell? ⟨g0, 0, none⟩ = some (.int .i8 s0_0) := mix_cell0 BK0.out 0; have hcz13_1 : w10.cell? ⟨g0, 1, none⟩ = some (.int .i8 s0_1) := mix_cell0 BK0.out 1; have hfz13_0 := blk_frozen BK0.out 0; have hfz13_1 := blk_frozen BK0.out 1) | (go_at_call 51; (with_reducible refine (spec_l00In.calls (wrap64 (a1_0)) 0 (wrap64 ((wrap64 (s0_0)) - 1)) false _ A3.out).mono ?_); rintro e w' ⟨rfl, ⟨nd, rfl⟩⟩; (try first | exact ⟨rfl, _, World.drewN_drewN _ _ _⟩ | exact ⟨rfl, _, Eq.trans (World.drewN_drewN _ _ _) (congrArg (World.drewN _) (Nat.add_assoc _ _ _))⟩))); try go_wp2_with (first | ((with_reducible refine gate_dst (N := 3) rfl ?_); refine box_event ?hg (N := 3) ?hd (cs := #[.int .i8 a1_0, .int .i8 a1_1]) (t := 36) ?hr ?_; (case hd => rfl); (case hg => rfl); (case hr => first | (go_simp; done) | (go_simp; rfl)); intro gb125 hg w10 hbox hb; have n0_ := bkb BK0 hb; have n1_ := bst HB hb; have n2_ := Aside0.mk (hbox); have n3_ := gwl HB hg; have n4_ := gwl HB hg; have n5_ := nbl BK0 hg; have n6_ := nbg BK0 hg; clear BK0; clear HB; have BK0 := n0_; have HB := n1_; have BK125 := n2_; have GW125 := n3_; have GE125 := n4_; have NB0_125 := n5_; have NB125_0 := n6_; clear n0_ n1_ n2_ n3_ n4_ n5_ n6_; clear hb hbox hg; have hnb11 := NB125_0.out; have hnc11 := NB0_125.out; have hcz12_0 : w10.cell? ⟨gb125, 0, none⟩ = some (.int .i8 a1_0) := (blk_cell BK125.out 0).trans rfl; have hcz12_1 : w10.cell? ⟨gb125, 1, none⟩ = some (.int .i8 a1_1) := (blk_cell BK125.out 1).trans rfl; have hfz12_0 := blk_frozen BK125.out 0; have hfz12_1 := blk_frozen BK125.out 1; have hcz13_0 : w10.cell? ⟨g0, 0, none⟩ = some (.int .i8 s0_0) := mix_cell0 BK0.out 0; have hcz13_1 : w10.cell? ⟨g0, 1, none⟩ = some (.int .i8 s0_1) := mix_cell0 BK0.out 1; have hfz13_0 := blk_frozen BK0.out 0; have hfz13_1 := blk_frozen BK0.out 1) | (go_at_call 51; (with_reducible refine (spec_l00In.calls (wrap64 (a1_0)) 0 (wrap64 ((wrap64 (s0_0)) - 1)) false _ A3.out).mono ?_); rintro e w' ⟨rfl, ⟨nd, rfl⟩⟩; (try first | exact ⟨rfl, _, World.drewN_drewN _ _ _⟩ | exact ⟨rfl, _, Eq.trans (World.drewN_drewN _ _ _) (congrArg (World.drewN _) (Nat.add_assoc _ _ _))⟩))))
  go_ret
  exact ⟨by first | rfl | (simp [errW_none, errW_some] <;> rfl) | (simp [*, errW_none, errW_some] <;> rfl), pbs HB⟩
end Go.Proofs.Ytanobaoaelhebaa.PB
end
section
namespace Go.Proofs.Ytanobaoaelhebaa.PB
open Go.RowKit Go.Proofs.YtanobaoaelhebaaW.PrintWords Go.Proofs.YtanobaoaelhebaaW.PrintLast Go.Proofs.YtanobaoaelhebaaW.PrintMore Go.Proofs.Ytanobaoaelhebaa.La Go.Proofs.Ytanobaoaelhebaa.Mp
attribute [local go_sem] max2_int min2_int max_two min_two max_three min_three max_four min_four   -- for this text's walks alone
set_option linter.unusedVariables false
set_option linter.unusedSimpArgs false
def spec_l01Free.f (s0_0 : Int) (s0_1 : Int) (s0_2 : LA 10) (a1_0 : Int) (a1_1 : Int) : Option (Bool) := (spec_l01Is.f s0_0 s0_1 s0_2 a1_0 a1_1).bind fun t129 => (if t129 = true then (if 0 ≤ a1_1 then (if a1_1 < 10 then (if 0 ≤ (IntKind.u64.wrap (a1_0)) then (some ((Int.tmod (shr .u16 (rd s0_2.l a1_1) (IntKind.u64.wrap (a1_0))) 2) == 0)) else (none)) else (none)) else (none)) else (some false))
def spec_l01Free.T1 : Bool × List (List Nat × List Nat) := (true, [([], []), ([], []), ([0, 1], [0, 1]), ([2, 2], [2]), ([3], [3]), ([3], [3]), ([5, 3], [3, 5]), ([4, 3], [3, 4]), ([7, 3], [3, 7]), ([8, 6, 3], [3, 6, 8]), ([9, 3], [3, 9]), ([3], [3]), ([11, 3], [3, 11]), ([12, 3], [3, 12]), ([10, 13, 3], [3, 10, 13]), ([14, 3], [3, 14]), ([15, 3], [3, 15]), ([3, 16], [3, 16]), ([17, 3, 0, 1, 2, 3, 4, 5, 6, 7, 8, 9, 10, 11, 12, 13, 14, 15, 16, 17], [17])])
def spec_l01Free.B1 : List Nat := [0, 0, 3, 7, 15, 15, 47, 31, 159, 511, 1023, 15, 2063, 6159, 16383, 32767, 65535, 131071, 262143]
theorem spec_l01Free.tab1 : rtab .any (opsOf Try.f82 1) = spec_l01Free.T1 := by kernel_rfl
theorem spec_l01Free.bits1 : waitsOk spec_l01Free.T1.2 spec_l01Free.B1 = true := by kernel_rfl
set_option maxHeartbeats 8000000 in
set_option maxRecDepth 100000 in
theorem spec_l01Free.calls (g0 : Nat) (s0_0 : Int) (s0_1 : Int) (s0_2 : LA 10) (a1_0 : Int) (a1_1 : Int) (r : Bool) (w : World) (hb0 : w.heap[g0]? = some (.cells (mixA (Value.int .u16) [.int .i8 s0_0, .int .i8 s0_1] s0_2) 34 (0, 0))) (h : spec_l01Free.f s0_0 s0_1 s0_2 a1_0 a1_1 = some r) :
  Calls Try.prog 82 #[.pointer (some ⟨g0, 0, none⟩), .agg #[.int .i8 a1_0, .int .i8 a1_1]] w fun e w' => e = .returned (.bool r) ∧ Below w.heap.size w w' := by
 have hu36 := Try.underlying36
 have BK0 := Aside0.mk hb0
 clear hb0
 have HB := Aside0.mk (Below.refl w.heap.size w)
 have H : ((spec_l01Is.f s0_0 s0_1 s0_2 a1_0 a1_1).bind fun t129 => (if t129 = true then (if 0 ≤ a1_1 then (if a1_1 < 10 then (if 0 ≤ (IntKind.u64.wrap (a1_0)) then (some ((Int.tmod (shr .u16 (rd s0_2.l a1_1) (IntKind.u64.wrap (a1_0))) 2) == 0)) else (none)) else (none)) else (none)) else (some false))) = some r := h
 clear h
 obtain ⟨t129, A3, H⟩ := obn H
 by_cases c4 : t129 = true
 ·subst c4
  have H1 : (if 0 ≤ a1_1 then (if a1_1 < 10 then (if 0 ≤ (IntKind.u64.wrap (a1_0)) then (some ((Int.tmod (shr .u16 (rd s0_2.l a1_1) (IntKind.u64.wrap (a1_0))) 2) == 0)) else (none)) else (none)) else (none)) = some r := by rw [if_pos rfl] at H; exact H
  clear H; have H := H1; clear H1
  by_cases c5 : 0 ≤ a1_1
  ·rw [if_pos c5] at H
   have c5b0 : decide (0 ≤ a1_1) = true := decide_eq_true c5; clear c5
   by_cases c6 : a1_1 < 10
   ·rw [if_pos c6] at H
    have c6b0 : decide (a1_1 < 10) = true := decide_eq_true c6; clear c6; obtain ⟨ji7, hji7⟩ : ∃ j_ : Int, (IntKind.u64.wrap (a1_0)) = j_ := ⟨_, rfl⟩
    replace H : (if 0 ≤ (ji7) then (some ((Int.tmod (shr .u16 (rd s0_2.l a1_1) (ji7)) 2) == 0)) else (none)) = some r := by first | (rw [hji7] at H; exact H) | (simp only [hji7] at H ⊢; exact H)
    (try rw [hji7] at A3)
    by_cases c8 : 0 ≤ (ji7)
    ·rw [if_pos c8] at H
     have c8b0 := eq_true c8; have c8b1 : decide (0 ≤ (ji7)) = true := decide_eq_true c8; clear c8; obtain ⟨ji9, hji9⟩ : ∃ j_ : Int, (shr .u16 (rd s0_2.l a1_1) (ji7)) = j_ := ⟨_, rfl⟩
     replace H : (some ((Int.tmod (ji9) 2) == 0)) = some r := by first | (rw [hji9] at H; exact H) | (simp only [hji9] at H ⊢; exact H)
     (try rw [hji9] at A3); have hji9_ : ((rd s0_2.l a1_1) / 2 ^ min (ji7).toNat 16) = ji9 := hji9; have hji9z : (ji7) ≤ 16 → ((rd s0_2.l a1_1) / 2 ^ (ji7).toNat) = ji9 := shr_small hji9; obtain rfl := Option.some.inj H
     go_enter Try.func82, Try.ntmps82
     try go_wp2_with (first | ((with_reducible refine gate_dst (N := 3) rfl ?_); refine box_event ?hg (N := 3) ?hd (cs := #[.int .i8 a1_0, .int .i8 a1_1]) (t := 36) ?hr ?_; (case hd => rfl); (case hg => rfl); (case hr => first | (go_simp; done) | (go_simp; rfl)); intro gb128 hg w10 hbox hb; have n0_ := bkb BK0 hb; have n1_ := bst HB hb; have n2_ := Aside0.mk (hbox); have n3_ := gwl HB hg; have n4_ := gwl HB hg; have n5_ := nbl BK0 hg; have n6_ := nbg BK0 hg; clear BK0; clear HB; have BK0 := n0_; have HB := n1_; have BK128 := n2_; have GW128 := n3_; have GE128 := n4_; have NB0_128 := n5_; have NB128_0 := n6_; clear n0_ n1_ n2_ n3_ n4_ n5_ n6_; clear hb hbox hg))
     replace BK0 := Aside0.mk (blk_drew BK0.out); replace BK128 := Aside0.mk (blk_drew BK128.out); replace HB := Aside0.mk (below_drew1 HB.out); have hpd13 : (0 ≤ a1_1) = True := eq_true (by first | omega | exact oda); have hqd13 : (a1_1 < 10) = True := eq_true (by first | omega | exact oda); have hrd13 : (a1_1 < ((10 : Nat) : Int)) = True := eq_true (by first | omega | exact oda)
     refine start_ (n := 19) (S := fun w' => w'.cell? ⟨gb128, 0, none⟩ = some (.int .i8 a1_0) ∧ w'.cell? ⟨gb128, 1, none⟩ = some (.int .i8 a1_1) ∧ w'.cell? ⟨g0, 2 + a1_1.toNat, none⟩ = some (.int .u16 (rd s0_2.l a1_1))) (ds := []) (bA 19 0) (by kernel_rfl) rfl rfl ⟨(blk_cell BK128.out 0).trans rfl, (blk_cell BK128.out 1).trans rfl, mix_at BK0.out 2 rfl a1_1 (of_eq_true hpd13) (of_eq_true hqd13)⟩ (fun hHeld => ?_); refine with_tabW spec_l01Free.tab1 spec_l01Free.bits1 (fun HT_ HW_ => ?_)
     generalize w10.drew = w11 at BK0 BK128 HB hHeld ⊢; refine pu 0 5 19 1 HT_ ?_; refine tk 1 6 19 3 HT_ HW_ hHeld ?_; refine one_ (i := 2) (N := some 7) (bA 19 7) rfl rfl (one_of HT_.out (by kernel_rfl)) (by decide) (fun K hK => ?_); refine gs Try.func97 #[.pointer (some ⟨g0, 0, none⟩), .agg #[.int .i8 a1_0, .int .i8 a1_1]] ?_; with_reducible refine (spec_l01Is.calls g0 s0_0 s0_1 s0_2 a1_0 a1_1 true _ ?side1 A3.out).mono ?_; (case side1 => exact (pk BK0))
     rintro e w12 ⟨rfl, hb⟩
     refine ⟨_, rfl, ?_⟩; replace BK0 := bkb BK0 hb; replace BK128 := bkb BK128 hb; replace HB := bst HB hb; (try clear hb); (try clear hb2); (try clear hk); (try clear hi); refine hK.out _ _ ⟨(blk_cell BK128.out 0).trans rfl, (blk_cell BK128.out 1).trans rfl, mix_at BK0.out 2 rfl a1_1 (of_eq_true hpd13) (of_eq_true hqd13)⟩ (fun hHeld => ?_); clear hK K; refine nm 7 ?_; refine pu 3 8 19 15 HT_ ?_; refine pu 4 9 19 31 HT_ ?_; refine pu 5 10 19 63 HT_ ?_; refine pu 7 12 19 191 HT_ ?_; refine pu 8 13 19 447 HT_ ?_; refine pu 11 16 19 2495 HT_ ?_; refine tk 6 11 19 2559 HT_ HW_ hHeld ?_; refine pu 9 14 19 3071 HT_ ?_; refine tk 10 15 19 4095 HT_ HW_ hHeld ?_; refine tk 12 17 19 8191 HT_ HW_ hHeld ?_; refine pu 13 18 19 16383 HT_ ?_; refine pu 14 19 19 32767 HT_ ?_; refine pu 15 20 19 65535 HT_ ?_; refine pu 16 21 19 131071 HT_ ?_; refine pu 17 22 19 262143 HT_ ?_; refine pu 18 4 19 524287 HT_ ?_; refine done_ (done_of HT_.out (by kernel_rfl)) ?_
     try go_wp2
     go_ret
     exact ⟨by first | rfl | (simp [errW_none, errW_some] <;> rfl) | (simp only [← hji7, ← hji9]; first | rfl | (simp [errW_none, errW_some] <;> rfl)) | (simp [*, errW_none, errW_some] <;> rfl), pbs HB⟩
    ·rw [if_neg c8] at H
     exact absurd H (by simp)
   ·rw [if_neg c6] at H
    exact absurd H (by simp)
  ·rw [if_neg c5] at H
   exact absurd H (by simp)
 ·replace c4 := Bool.eq_false_iff.mpr c4
  subst c4
  have H1 : (some false) = some r := by rw [if_neg (show ¬ (false = true) by decide)] at H; exact H
  clear H; have H := H1; clear H1; obtain rfl := Option.some.inj H
  go_enter Try.func82, Try.ntmps82
  try go_wp2_with (first | ((with_reducible refine gate_dst (N := 3) rfl ?_); refine box_event ?hg (N := 3) ?hd (cs := #[.int .i8 a1_0, .int .i8 a1_1]) (t := 36) ?hr ?_; (case hd => rfl); (case hg => rfl); (case hr => first | (go_simp; done) | (go_simp; rfl)); intro gb128 hg w14 hbox hb; have n0_ := bkb BK0 hb; have n1_ := bst HB hb; have n2_ := Aside0.mk (hbox); have n3_ := gwl HB hg; have n4_ := gwl HB hg; have n5_ := nbl BK0 hg; have n6_ := nbg BK0 hg; clear BK0; clear HB; have BK0 := n0_; have HB := n1_; have BK128 := n2_; have GW128 := n3_; have GE128 := n4_; have NB0_128 := n5_; have NB128_0 := n6_; clear n0_ n1_ n2_ n3_ n4_ n5_ n6_; clear hb hbox hg))
  replace BK0 := Aside0.mk (blk_drew BK0.out); replace BK128 := Aside0.mk (blk_drew BK128.out); replace HB := Aside0.mk (below_drew1 HB.out)
  refine start_ (n := 19) (S := fun w' => w'.cell? ⟨gb128, 0, none⟩ = some (.int .i8 a1_0) ∧ w'.cell? ⟨gb128, 1, none⟩ = some (.int .i8 a1_1)) (ds := []) (bA 19 0) (by kernel_rfl) rfl rfl ⟨(blk_cell BK128.out 0).trans rfl, (blk_cell BK128.out 1).trans rfl⟩ (fun hHeld => ?_); refine with_tabW spec_l01Free.tab1 spec_l01Free.bits1 (fun HT_ HW_ => ?_)
  generalize w14.drew = w15 at BK0 BK128 HB hHeld ⊢; refine pu 0 5 19 1 HT_ ?_; refine tk 1 6 19 3 HT_ HW_ hHeld ?_; refine one_ (i := 2) (N := some 7) (bA 19 7) rfl rfl (one_of HT_.out (by kernel_rfl)) (by decide) (fun K hK => ?_); refine gs Try.func97 #[.pointer (some ⟨g0, 0, none⟩), .agg #[.int .i8 a1_0, .int .i8 a1_1]] ?_; with_reducible refine (spec_l01Is.calls g0 s0_0 s0_1 s0_2 a1_0 a1_1 false _ ?side1 A3.out).mono ?_; (case side1 => exact (pk BK0))
  rintro e w16 ⟨rfl, hb⟩
  refine ⟨_, rfl, ?_⟩; replace BK0 := bkb BK0 hb; replace BK128 := bkb BK128 hb; replace HB := bst HB hb; (try clear hb); (try clear hb2); (try clear hk); (try clear hi); refine hK.out _ _ ⟨(blk_cell BK128.out 0).trans rfl, (blk_cell BK128.out 1).trans rfl⟩ (fun hHeld => ?_); clear hK K; refine nm 7 ?_; refine pu 3 8 19 15 HT_ ?_; refine pn 4 9 19 31 HT_ ?_; refine pn 5 10 19 63 HT_ ?_; refine pn 6 11 19 127 HT_ ?_; refine pn 7 12 19 255 HT_ ?_; refine pn 8 13 19 511 HT_ ?_; refine pn 9 14 19 1023 HT_ ?_; refine pn 10 15 19 2047 HT_ ?_; refine pn 11 16 19 4095 HT_ ?_; refine pn 12 17 19 8191 HT_ ?_; refine pn 13 18 19 16383 HT_ ?_; refine pn 14 19 19 32767 HT_ ?_; refine pn 15 20 19 65535 HT_ ?_; refine pn 16 21 19 131071 HT_ ?_; refine pu 17 22 19 262143 HT_ ?_; refine pu 18 4 19 524287 HT_ ?_; refine done_ (done_of HT_.out (by kernel_rfl)) ?_
  try go_wp2
  go_ret
  exact ⟨by first | rfl | (simp [errW_none, errW_some] <;> rfl) | (simp [*, errW_none, errW_some] <;> rfl), pbs HB⟩
def spec_l01Next.f (a0_0 : Int) (a0_1 : Int) (a1 : Int) : Option (Int × Int) := if a1 = 0 then (some (a0_0, IntKind.i8.wrap (a0_1 - 1))) else (if a1 = 1 then (some (IntKind.i8.wrap (a0_0 + 1), a0_1)) else (if a1 = 2 then (some (a0_0, IntKind.i8.wrap (a0_1 + 1))) else (if a1 = 3 then (some (IntKind.i8.wrap (a0_0 - 1), a0_1)) else (some (a0_0, a0_1)))))
set_option maxHeartbeats 8000000 in
set_option maxRecDepth 100000 in
theorem spec_l01Next.calls (a0_0 : Int) (a0_1 : Int) (a1 : Int) (r1 : Int) (r2 : Int) (w : World) (h : spec_l01Next.f a0_0 a0_1 a1 = some (r1, r2)) :
  Calls Try.prog 98 #[.agg #[.int .i8 a0_0, .int .i8 a0_1], .int .i64 a1] w fun e w' => e = .returned (.agg #[.int .i8 r1, .int .i8 r2]) ∧ Below w.heap.size w w' := by
 have hu36 := Try.underlying36
 have HB := Aside0.mk (Below.refl w.heap.size w)
 have H : (if a1 = 0 then (some (a0_0, IntKind.i8.wrap (a0_1 - 1))) else (if a1 = 1 then (some (IntKind.i8.wrap (a0_0 + 1), a0_1)) else (if a1 = 2 then (some (a0_0, IntKind.i8.wrap (a0_1 + 1))) else (if a1 = 3 then (some (IntKind.i8.wrap (a0_0 - 1), a0_1)) else (some (a0_0, a0_1)))))) = some (r1, r2) := h
 clear h
 by_cases c3 : a1 = 0
 ·rw [if_pos c3] at H
  have c3b0 : (a1 == 0) = true := beq_iff_eq.mpr c3; have c3b1 : (a1 != 0) = false := bne_eq_false_iff_eq.mpr c3; clear c3; simp only [Option.some.injEq, Prod.mk.injEq] at H; obtain ⟨rfl, rfl⟩ := H
  go_enter Try.func98, Try.ntmps98
  go_wp2_with (first | ((with_reducible refine gate_dst (N := 2) rfl ?_); refine box_event ?hg (N := 2) ?hd (cs := #[.int .i8 a0_0, .int .i8 a0_1]) (t := 36) ?hr ?_; (case hd => rfl); (case hg => rfl); (case hr => first | (go_simp; done) | (go_simp; rfl)); intro gb130 hg w4 hbox hb; have n0_ := bst HB hb; have n1_ := Aside0.mk (hbox); have n2_ := gwl HB hg; have n3_ := gwl HB hg; clear HB; have HB := n0_; have BK130 := n1_; have GW130 := n2_; have GE130 := n3_; clear n0_ n1_ n2_ n3_; clear hb hbox hg) | ((with_reducible refine gate_dst (N := 4) rfl ?_); refine box_event ?hg (N := 4) ?hd (cs := #[.int .i8 0, .int .i8 0]) (t := 36) ?hr ?_; (case hd => rfl); (case hg => rfl); (case hr => first | (go_simp; done) | (go_simp; rfl)); intro gb131 hg w5 hbox hb; have n0_ := bkb BK130 hb; have n1_ := bst HB hb; have n2_ := Aside0.mk (hbox); have n3_ := gwl HB hg; have n4_ := gwl HB hg; have n5_ := nbl BK130 hg; have n6_ := nbg BK130 hg; clear BK130; clear HB; have BK130 := n0_; have HB := n1_; have BK131 := n2_; have GW131 := n3_; have GE131 := n4_; have NB130_131 := n5_; have NB131_130 := n6_; clear n0_ n1_ n2_ n3_ n4_ n5_ n6_; clear hb hbox hg; have hnb6 := NB130_131.out; have hnc6 := NB131_130.out; have hcz7_0 : w5.cell? ⟨gb130, 0, none⟩ = some (.int .i8 a0_0) := (blk_cell BK130.out 0).trans rfl; have hcz7_1 : w5.cell? ⟨gb130, 1, none⟩ = some (.int .i8 a0_1) := (blk_cell BK130.out 1).trans rfl; have hfz7_0 := blk_frozen BK130.out 0; have hfz7_1 := blk_frozen BK130.out 1; have hcz8_0 : w5.cell? ⟨gb131, 0, none⟩ = some (.int .i8 0) := (blk_cell BK131.out 0).trans rfl; have hcz8_1 : w5.cell? ⟨gb131, 1, none⟩ = some (.int .i8 0) := (blk_cell BK131.out 1).trans rfl; have hfz8_0 := blk_frozen BK131.out 0; have hfz8_1 := blk_frozen BK131.out 1))
  refine bodyPost_ret (results_cell_row rfl _ _ gb131 36 #[.int .i8 a0_0, .int .i8 (IntKind.i8.wrap (a0_1 - 1))] (0, 0) _ rfl (by (with_reducible repeat (first | refine blk_drewN ?_ _ | refine blk_drew ?_ | refine blk_alloc ?_ _)); refine blk_put (cs := #[.int .i8 a0_0, .int .i8 0]) ?_ 1 _ rfl; (with_reducible repeat (first | refine blk_drewN ?_ _ | refine blk_drew ?_ | refine blk_alloc ?_ _)); refine blk_put (cs := #[.int .i8 0, .int .i8 0]) ?_ 0 _ rfl; (with_reducible repeat (first | refine blk_drewN ?_ _ | refine blk_drew ?_ | refine blk_alloc ?_ _)); refine blk_far ?_ NB131_130.out _; (with_reducible repeat (first | refine blk_drewN ?_ _ | refine blk_drew ?_ | refine blk_alloc ?_ _)); exact BK131.out) Try.underlying36 rfl (by kernel_rfl)) rfl ?_; exact ⟨by first | rfl | (simp [errW_none, errW_some] <;> rfl) | (simp [*, errW_none, errW_some] <;> rfl), pbs HB⟩
 ·rw [if_neg c3] at H
  have c3b0 : (a1 == 0) = false := beq_eq_false_iff_ne.mpr c3; have c3b1 : (a1 != 0) = true := bne_iff_ne.mpr c3
  by_cases c9 : a1 = 1
  ·rw [if_pos c9] at H
   have c9b0 : (a1 == 1) = true := beq_iff_eq.mpr c9; have c9b1 : (a1 != 1) = false := bne_eq_false_iff_eq.mpr c9; clear c9; simp only [Option.some.injEq, Prod.mk.injEq] at H; obtain ⟨rfl, rfl⟩ := H
   go_enter Try.func98, Try.ntmps98
   go_wp2_with (first | ((with_reducible refine gate_dst (N := 2) rfl ?_); refine box_event ?hg (N := 2) ?hd (cs := #[.int .i8 a0_0, .int .i8 a0_1]) (t := 36) ?hr ?_; (case hd => rfl); (case hg => rfl); (case hr => first | (go_simp; done) | (go_simp; rfl)); intro gb130 hg w10 hbox hb; have n0_ := bst HB hb; have n1_ := Aside0.mk (hbox); have n2_ := gwl HB hg; have n3_ := gwl HB hg; clear HB; have HB := n0_; have BK130 := n1_; have GW130 := n2_; have GE130 := n3_; clear n0_ n1_ n2_ n3_; clear hb hbox hg) | ((with_reducible refine gate_dst (N := 4) rfl ?_); refine box_event ?hg (N := 4) ?hd (cs := #[.int .i8 0, .int .i8 0]) (t := 36) ?hr ?_; (case hd => rfl); (case hg => rfl); (case hr => first | (go_simp; done) | (go_simp; rfl)); intro gb131 hg w11 hbox hb; have n0_ := bkb BK130 hb; have n1_ := bst HB hb; have n2_ := Aside0.mk (hbox); have n3_ := gwl HB hg; have n4_ := gwl HB hg; have n5_ := nbl BK130 hg; have n6_ := nbg BK130 hg; clear BK130; clear HB; have BK130 := n0_; have HB := n1_; have BK131 := n2_; have GW131 := n3_; have GE131 := n4_; have NB130_131 := n5_; have NB131_130 := n6_; clear n0_ n1_ n2_ n3_ n4_ n5_ n6_; clear hb hbox hg; have hnb12 := NB130_131.out; have hnc12 := NB131_130.out; have hcz13_0 : w11.cell? ⟨gb130, 0, none⟩ = some (.int .i8 a0_0) := (blk_cell BK130.out 0).trans rfl; have hcz13_1 : w11.cell? ⟨gb130, 1, none⟩ = some (.int .i8 a0_1) := (blk_cell BK130.out 1).trans rfl; have hfz13_0 := blk_frozen BK130.out 0; have hfz13_1 := blk_frozen BK130.out 1; have hcz14_0 : w11.cell? ⟨gb131, 0, none⟩ = some (.int .i8 0) := (blk_cell BK131.out 0).trans rfl; have hcz14_1 : w11.cell? ⟨gb131, 1, none⟩ = some (.int .i8 0) := (blk_cell BK131.out 1).trans rfl; have hfz14_0 := blk_frozen BK131.out 0; have hfz14_1 := blk_frozen BK131.out 1))
   refine bodyPost_ret (results_cell_row rfl _ _ gb131 36 #[.int .i8 (IntKind.i8.wrap (a0_0 + 1)), .int .i8 a0_1] (0, 0) _ rfl (by (with_reducible repeat (first | refine blk_drewN ?_ _ | refine blk_drew ?_ | refine blk_alloc ?_ _)); refine blk_put (cs := #[.int .i8 (IntKind.i8.wrap (a0_0 + 1)), .int .i8 0]) ?_ 1 _ rfl; (with_reducible repeat (first | refine blk_drewN ?_ _ | refine blk_drew ?_ | refine blk_alloc ?_ _)); refine blk_put (cs := #[.int .i8 0, .int .i8 0]) ?_ 0 _ rfl; (with_reducible repeat (first | refine blk_drewN ?_ _ | refine blk_drew ?_ | refine blk_alloc ?_ _)); refine blk_far ?_ NB131_130.out _; (with_reducible repeat (first | refine blk_drewN ?_ _ | refine blk_drew ?_ | refine blk_alloc ?_ _)); exact BK131.out) Try.underlying36 rfl (by kernel_rfl)) rfl ?_; exact ⟨by first | rfl | (simp [errW_none, errW_some] <;> rfl) | (simp [*, errW_none, errW_some] <;> rfl), pbs HB⟩
  ·rw [if_neg c9] at H
   have c9b0 : (a1 == 1) = false := beq_eq_false_iff_ne.mpr c9; have c9b1 : (a1 != 1) = true := bne_iff_ne.mpr c9
   by_cases c15 : a1 = 2
   ·rw [if_pos c15] at H
    have c15b0 : (a1 == 2) = true := beq_iff_eq.mpr c15; have c15b1 : (a1 != 2) = false := bne_eq_false_iff_eq.mpr c15; clear c15; simp only [Option.some.injEq, Prod.mk.injEq] at H; obtain ⟨rfl, rfl⟩ := H
    go_enter Try.func98, Try.ntmps98
    go_wp2_with (first | ((with_reducible refine gate_dst (N := 2) rfl ?_); refine box_event ?hg (N := 2) ?hd (cs := #[.int .i8 a0_0, .int .i8 a0_1]) (t := 36) ?hr ?_; (case hd => rfl); (case hg => rfl); (case hr => first | (go_simp; done) | (go_simp; rfl)); intro gb130 hg w16 hbox hb; have n0_ := bst HB hb; have n1_ := Aside0.mk (hbox); have n2_ := gwl HB hg; have n3_ := gwl HB hg; clear HB; have HB := n0_; have BK130 := n1_; have GW130 := n2_; have GE130 := n3_; clear n0_ n1_ n2_ n3_; clear hb hbox hg) | ((with_reducible refine gate_dst (N := 4) rfl ?_); refine box_event ?hg (N := 4) ?hd (cs := #[.int .i8 0, .int .i8 0]) (t := 36) ?hr ?_; (case hd => rfl); (case hg => rfl); (case hr => first | (go_simp; done) | (go_simp; rfl)); intro gb131 hg w17 hbox hb; have n0_ := bkb BK130 hb; have n1_ := bst HB hb; have n2_ := Aside0.mk (hbox); have n3_ := gwl HB hg; have n4_ := gwl HB hg; have n5_ := nbl BK130 hg; have n6_ := nbg BK130 hg; clear BK130; clear HB; have BK130 := n0_; have HB := n1_; have BK131 := n2_; have GW131 := n3_; have GE131 := n4_; have NB130_131 := n5_; have NB131_130 := n6_; clear n0_ n1_ n2_ n3_ n4_ n5_ n6_; clear hb hbox hg; have hnb18 := NB130_131.out; have hnc18 := NB131_130.out; have hcz19_0 : w17.cell? ⟨gb130, 0, none⟩ = some (.int .i8 a0_0) := (blk_cell BK130.out 0).trans rfl; have hcz19_1 : w17.cell? ⟨gb130, 1, none⟩ = some (.int .i8 a0_1) := (blk_cell BK130.out 1).trans rfl; have hfz19_0 := blk_frozen BK130.out 0; have hfz19_1 := blk_frozen BK130.out 1; have hcz20_0 : w17.cell? ⟨gb131, 0, none⟩ = some (.int .i8 0) := (blk_cell BK131.out 0).trans rfl; have hcz20_1 : w17.cell? ⟨gb131, 1, none⟩ = some (.int .i8 0) := (blk_cell BK131.out 1).trans rfl; have hfz20_0 := blk_frozen BK131.out 0; have hfz20_1 := blk_frozen BK131.out 1))
    refine bodyPost_ret (results_cell_row rfl _ _ gb131 36 #[.int .i8 a0_0, .int .i8 (IntKind.i8.wrap (a0_1 + 1))] (0, 0) _ rfl (by (with_reducible repeat (first | refine blk_drewN ?_ _ | refine blk_drew ?_ | refine blk_alloc ?_ _)); refine blk_put (cs := #[.int .i8 a0_0, .int .i8 0]) ?_ 1 _ rfl; (with_reducible repeat (first | refine blk_drewN ?_ _ | refine blk_drew ?_ | refine blk_alloc ?_ _)); refine blk_put (cs := #[.int .i8 0, .int .i8 0]) ?_ 0 _ rfl; (with_reducible repeat (first | refine blk_drewN ?_ _ | refine blk_drew ?_ | refine blk_alloc ?_ _)); refine blk_far ?_ NB131_130.out _; (with_reducible repeat (first | refine blk_drewN ?_ _ | refine blk_drew ?_ | refine blk_alloc ?_ _)); exact BK131.out) Try.underlying36 rfl (by kernel_rfl)) rfl ?_; exact ⟨by first | rfl | (simp [errW_none, errW_some] <;> rfl) | (simp [*, errW_none, errW_some] <;> rfl), pbs HB⟩
   ·rw [if_neg c15] at H
    have c15b0 : (a1 == 2) = false := beq_eq_false_iff_ne.mpr c15; have c15b1 : (a1 != 2) = true := bne_iff_ne.mpr c15
    by_cases c21 : a1 = 3
    ·rw [if_pos c21] at H
     have c21b0 : (a1 == 3) = true := beq_iff_eq.mpr c21; have c21b1 : (a1 != 3) = false := bne_eq_false_iff_eq.mpr c21; clear c21; simp only [Option.some.injEq, Prod.mk.injEq] at H; obtain ⟨rfl, rfl⟩ := H
     go_enter Try.func98, Try.ntmps98
     go_wp2_with (first | ((with_reducible refine gate_dst (N := 2) rfl ?_); refine box_event ?hg (N := 2) ?hd (cs := #[.int .i8 a0_0, .int .i8 a0_1]) (t := 36) ?hr ?_; (case hd => rfl); (case hg => rfl); (case hr => first | (go_simp; done) | (go_simp; rfl)); intro gb130 hg w22 hbox hb; have n0_ := bst HB hb; have n1_ := Aside0.mk (hbox); have n2_ := gwl HB hg; have n3_ := gwl HB hg; clear HB; have HB := n0_; have BK130 := n1_; have GW130 := n2_; have GE130 := n3_; clear n0_ n1_ n2_ n3_; clear hb hbox hg) | ((with_reducible refine gate_dst (N := 4) rfl ?_); refine box_event ?hg (N := 4) ?hd (cs := #[.int .i8 0, .int .i8 0]) (t := 36) ?hr ?_; (case hd => rfl); (case hg => rfl); (case hr => first | (go_simp; done) | (go_simp; rfl)); intro gb131 hg w23 hbox hb; have n0_ := bkb BK130 hb; have n1_ := bst HB hb; have n2_ := Aside0.mk (hbox); have n3_ := gwl HB hg; have n4_ := gwl HB hg; have n5_ := nbl BK130 hg; have n6_ := nbg BK130 hg; clear BK130; clear HB; have BK130 := n0_; have HB := n1_; have BK131 := n2_; have GW131 := n3_; have GE131 := n4_; have NB130_131 := n5_; have NB131_130 := n6_; clear n0_ n1_ n2_ n3_ n4_ n5_ n6_; clear hb hbox hg; have hnb24 := NB130_131.out; have hnc24 := NB131_130.out; have hcz25_0 : w23.cell? ⟨gb130, 0, none⟩ = some (.int .i8 a0_0) := (blk_cell BK130.out 0).trans rfl; have hcz25_1 : w23.cell? ⟨gb130, 1, none⟩ = some (.int .i8 a0_1) := (blk_cell BK130.out 1).trans rfl; have hfz25_0 := blk_frozen BK130.out 0; have hfz25_1 := blk_frozen BK130.out 1; have hcz26_0 : w23.cell? ⟨gb131, 0, none⟩ = some (.int .i8 0) := (blk_cell BK131.out 0).trans rfl; have hcz26_1 : w23.cell? ⟨gb131, 1, none⟩ = some (.int .i8 0) := (blk_cell BK131.out 1).trans rfl; have hfz26_0 := blk_frozen BK131.out 0; have hfz26_1 := blk_frozen BK131.out 1))
     refine bodyPost_ret (results_cell_row rfl _ _ gb131 36 #[.int .i8 (IntKind.i8.wrap (a0_0 - 1)), .int .i8 a0_1] (0, 0) _ rfl (by (with_reducible repeat (first | refine blk_drewN ?_ _ | refine blk_drew ?_ | refine blk_alloc ?_ _)); refine blk_put (cs := #[.int .i8 (IntKind.i8.wrap (a0_0 - 1)), .int .i8 0]) ?_ 1 _ rfl; (with_reducible repeat (first | refine blk_drewN ?_ _ | refine blk_drew ?_ | refine blk_alloc ?_ _)); refine blk_put (cs := #[.int .i8 0, .int .i8 0]) ?_ 0 _ rfl; (with_reducible repeat (first | refine blk_drewN ?_ _ | refine blk_drew ?_ | refine blk_alloc ?_ _)); refine blk_far ?_ NB131_130.out _; (with_reducible repeat (first | refine blk_drewN ?_ _ | refine blk_drew ?_ | refine blk_alloc ?_ _)); exact BK131.out) Try.underlying36 rfl (by kernel_rfl)) rfl ?_; exact ⟨by first | rfl | (simp [errW_none, errW_some] <;> rfl) | (simp [*, errW_none, errW_some] <;> rfl), pbs HB⟩
    ·rw [if_neg c21] at H
     have c21b0 : (a1 == 3) = false := beq_eq_false_iff_ne.mpr c21; have c21b1 : (a1 != 3) = true := bne_iff_ne.mpr c21; simp only [Option.some.injEq, Prod.mk.injEq] at H; obtain ⟨rfl, rfl⟩ := H
     go_enter Try.func98, Try.ntmps98
     go_wp2_with (first | ((with_reducible refine gate_dst (N := 2) rfl ?_); refine box_event ?hg (N := 2) ?hd (cs := #[.int .i8 a0_0, .int .i8 a0_1]) (t := 36) ?hr ?_; (case hd => rfl); (case hg => rfl); (case hr => first | (go_simp; done) | (go_simp; rfl)); intro gb130 hg w27 hbox hb; have n0_ := bst HB hb; have n1_ := Aside0.mk (hbox); have n2_ := gwl HB hg; have n3_ := gwl HB hg; clear HB; have HB := n0_; have BK130 := n1_; have GW130 := n2_; have GE130 := n3_; clear n0_ n1_ n2_ n3_; clear hb hbox hg) | ((with_reducible refine gate_dst (N := 4) rfl ?_); refine box_event ?hg (N := 4) ?hd (cs := #[.int .i8 0, .int .i8 0]) (t := 36) ?hr ?_; (case hd => rfl); (case hg => rfl); (case hr => first | (go_simp; done) | (go_simp; rfl)); intro gb131 hg w28 hbox hb; have n0_ := bkb BK130 hb; have n1_ := bst HB hb; have n2_ := Aside0.mk (hbox); have n3_ := gwl HB hg; have n4_ := gwl HB hg; have n5_ := nbl BK130 hg; have n6_ := nbg BK130 hg; clear BK130; clear HB; have BK130 := n0_; have HB := n1_; have BK131 := n2_; have GW131 := n3_; have GE131 := n4_; have NB130_131 := n5_; have NB131_130 := n6_; clear n0_ n1_ n2_ n3_ n4_ n5_ n6_; clear hb hbox hg; have hnb29 := NB130_131.out; have hnc29 := NB131_130.out; have hcz30_0 : w28.cell? ⟨gb130, 0, none⟩ = some (.int .i8 a0_0) := (blk_cell BK130.out 0).trans rfl; have hcz30_1 : w28.cell? ⟨gb130, 1, none⟩ = some (.int .i8 a0_1) := (blk_cell BK130.out 1).trans rfl; have hfz30_0 := blk_frozen BK130.out 0; have hfz30_1 := blk_frozen BK130.out 1; have hcz31_0 : w28.cell? ⟨gb131, 0, none⟩ = some (.int .i8 0) := (blk_cell BK131.out 0).trans rfl; have hcz31_1 : w28.cell? ⟨gb131, 1, none⟩ = some (.int .i8 0) := (blk_cell BK131.out 1).trans rfl; have hfz31_0 := blk_frozen BK131.out 0; have hfz31_1 := blk_frozen BK131.out 1))
     refine bodyPost_ret (results_cell_row rfl _ _ gb131 36 #[.int .i8 a0_0, .int .i8 a0_1] (0, 0) _ rfl (by (with_reducible repeat (first | refine blk_drewN ?_ _ | refine blk_drew ?_ | refine blk_alloc ?_ _)); refine blk_put (cs := #[.int .i8 a0_0, .int .i8 0]) ?_ 1 _ rfl; (with_reducible repeat (first | refine blk_drewN ?_ _ | refine blk_drew ?_ | refine blk_alloc ?_ _)); refine blk_put (cs := #[.int .i8 0, .int .i8 0]) ?_ 0 _ rfl; (with_reducible repeat (first | refine blk_drewN ?_ _ | refine blk_drew ?_ | refine blk_alloc ?_ _)); exact BK131.out) Try.underlying36 rfl (by kernel_rfl)) rfl ?_; exact ⟨by first | rfl | (simp [errW_none, errW_some] <;> rfl) | (simp [*, errW_none, errW_some] <;> rfl), pbs HB⟩
def spec_l01Beside.l0 : Nat → List (S36) → Int → Int → Int → LA 10 → Int → Int → Option ((List (S36)))
 | 0, _, _, _, _, _, _, _ => none
 | k + 1, x5, x6, x1000, x1001, x1002, x133000, x133001 => if x6 < 4 then ((spec_l01Next.f x133000 x133001 x6).bind fun bt136 => ((spec_l01Free.f x1000 x1001 x1002 bt136.1 bt136.2).bind fun t139 => (if t139 = true then (if x5.length < 70368744177664 then (spec_l01Beside.l0 k (x5 ++ [(⟨bt136.1, bt136.2⟩ : S36)]) (wrap64 (x6 + 1)) x1000 x1001 x1002 x133000 x133001) else (none)) else (spec_l01Beside.l0 k x5 (wrap64 (x6 + 1)) x1000 x1001 x1002 x133000 x133001)))) else (some x5)
def spec_l01Beside.f (k : Nat) (s0_0 : Int) (s0_1 : Int) (s0_2 : LA 10) (a1_0 : Int) (a1_1 : Int) : Option ((List (S36))) := spec_l01Beside.l0 k (([] : List (S36))) 0 s0_0 s0_1 s0_2 a1_0 a1_1
theorem spec_l01Beside.mono_l : ∀ k, (∀ y0 y1 y2 y3 y4 y5 y6, LeO (spec_l01Beside.l0 k y0 y1 y2 y3 y4 y5 y6) (spec_l01Beside.l0 (k + 1) y0 y1 y2 y3 y4 y5 y6))
 | 0 => fun _ _ _ _ _ _ _ r h => by simp [spec_l01Beside.l0] at h
 | k + 1 => by
  have ih0 := spec_l01Beside.mono_l k
  ·intro y0 y1 y2 y3 y4 y5 y6
   unfold spec_l01Beside.l0
   repeat' first
   | (with_reducible exact ih0 _ _ _ _ _ _ _)
   | (with_reducible exact LeO.refl _)
   | (with_reducible exact LeO.none _)
   | (with_reducible refine LeO.ite ?_ ?_)
   | (with_reducible refine LeO.bind ?_ (fun _ => ?_))
   | exact ih0 _ _ _ _ _ _ _
   | exact LeO.none _
   | refine LeO.ite ?_ ?_
   | refine LeO.bind ?_ (fun _ => ?_)
theorem spec_l01Beside.mono : ∀ a0 a1 a2 a3 a4 k, LeO (spec_l01Beside.f k a0 a1 a2 a3 a4) (spec_l01Beside.f (k + 1) a0 a1 a2 a3 a4) := by
 intro a0 a1 a2 a3 a4 k
 have ih0 := spec_l01Beside.mono_l k
 unfold spec_l01Beside.f
 repeat' first
   | (with_reducible exact ih0 _ _ _ _ _ _ _)
   | (with_reducible exact LeO.refl _)
   | (with_reducible exact LeO.none _)
   | (with_reducible refine LeO.ite ?_ ?_)
   | (with_reducible refine LeO.bind ?_ (fun _ => ?_))
   | exact ih0 _ _ _ _ _ _ _
   | exact LeO.none _
   | refine LeO.ite ?_ ?_
   | refine LeO.bind ?_ (fun _ => ?_)
set_option maxHeartbeats 8000000 in
set_option maxRecDepth 100000 in
theorem spec_l01Beside.calls (k : Nat) (g0 : Nat) (s0_0 : Int) (s0_1 : Int) (s0_2 : LA 10) (a1_0 : Int) (a1_1 : Int) (r : List (S36)) (w : World) (hb0 : w.heap[g0]? = some (.cells (mixA (Value.int .u16) [.int .i8 s0_0, .int .i8 s0_1] s0_2) 34 (0, 0))) (h : spec_l01Beside.f k s0_0 s0_1 s0_2 a1_0 a1_1 = some r) :
  Calls Try.prog 84 #[.pointer (some ⟨g0, 0, none⟩), .agg #[.int .i8 a1_0, .int .i8 a1_1]] w fun e w' => ∃ v0_ : Value, e = .returned (v0_) ∧ Kd.R k36 36 w' w.heap.size (fun _ => True) v0_ r ∧ Below w.heap.size w w' := by
 have hu36 := Try.underlying36
 have BK0 := Aside0.mk hb0
 clear hb0
 have HB := Aside0.mk (Below.refl w.heap.size w)
 have H : (spec_l01Beside.l0 k (([] : List (S36))) 0 s0_0 s0_1 s0_2 a1_0 a1_1) = some r := h
 clear h
 obtain ⟨y133, hy133⟩ : ∃ y_ : List (S36), y_ = (([] : List (S36))) := ⟨_, rfl⟩
 replace H : (spec_l01Beside.l0 k y133 0 s0_0 s0_1 s0_2 a1_0 a1_1) = some r := by first | (rw [hy133]; with_reducible exact H) | (have H2_ := (Option.bind_some _ _).symm.trans H; rw [hy133]; with_reducible exact H2_) | (have H2_ := (Option.bind_some _ _).symm.trans H; with_reducible exact H2_) | with_reducible exact H | (rw [hy133]; exact H) | exact H
 have Ny133 := Aside0.mk hy133
 clear hy133
 have H' := Aside0.mk H
 clear H
 go_enter Try.func84, Try.ntmps84
 go_wp2_with (first | ((with_reducible refine gate_dst (N := 3) rfl ?_); refine box_event ?hg (N := 3) ?hd (cs := #[.int .i8 a1_0, .int .i8 a1_1]) (t := 36) ?hr ?_; (case hd => rfl); (case hg => rfl); (case hr => first | (go_simp; done) | (go_simp; rfl)); intro gb132 hg w3 hbox hb; have n0_ := bkb BK0 hb; have n1_ := bst HB hb; have n2_ := Aside0.mk (hbox); have n3_ := gwl HB hg; have n4_ := gwl HB hg; have n5_ := nbl BK0 hg; have n6_ := nbg BK0 hg; clear BK0; clear HB; have BK0 := n0_; have HB := n1_; have BK132 := n2_; have GW132 := n3_; have GE132 := n4_; have NB0_132 := n5_; have NB132_0 := n6_; clear n0_ n1_ n2_ n3_ n4_ n5_ n6_; clear hb hbox hg) | ((with_reducible refine gate_dst (N := 8) rfl ?_); refine Kd.R_lit k36 _ 36 ?hg (N := 8) ?hd (xs := ([] : List (S36))) (inner := []) (ok := fun _ => True) (okp := fun _ => True) ?hr ?hp (fun _ hk => hk) trivial (Below.refl _ _) (Nat.le_refl _) (by simp) ?_; (case hd => rfl); (case hg => rfl); (case hr => first | (go_simp; done) | (go_simp; rfl)); (case hp => exact (Reps.none _ _)); intro v134 w4 ho5 hb hg_ hnew_; clear hg_ hnew_; (first | rw [← Ny133.out] at ho5 | (simp only [Int.reduceToNat] at ho5; rw [← Ny133.out] at ho5)); have HO135 := Aside0.mk (Kd.R_lower (Kd.R_newB ho5 (g := gb132) (o := .cells #[.int .i8 a1_0, .int .i8 a1_1] 36 (0, 0)) (pk BK132)) (below_size (by repeat (first | (with_reducible first | exact HB.out | apply below_alloc | apply pw_below_drewN | apply below_drew1 | refine below_set ?_ GE0.out | refine below_set ?_ GE132.out) | exact HB.out)))); replace BK0 := bkb BK0 hb; replace BK132 := bkb BK132 hb; replace HB := bst HB hb; clear hb ho5))
 go_loopg [5, 6] k (fun kq v5 v6 w' => ∃ (x5_1 : List (S36)) (x6_1 : Int), v6 = .int .i64 x6_1 ∧ Aside0 (spec_l01Beside.l0 kq x5_1 x6_1 s0_0 s0_1 s0_2 a1_0 a1_1 = some r) ∧ Aside0 (kq ≤ k) ∧ Aside0 (Kd.R k36 36 w' w.heap.size (fun k_ => k_ ≠ gb132) v5 x5_1) ∧ Aside0 (w'.heap[g0]? = some (.cells (mixA (Value.int .u16) [.int .i8 s0_0, .int .i8 s0_1] s0_2) 34 (0, 0))) ∧ Aside0 (w'.heap[gb132]? = some (.cells #[.int .i8 a1_0, .int .i8 a1_1] 36 (0, 0))) ∧ Aside0 (Below w.heap.size w w'))
 case atStart => exact ⟨(y133), (0), (by first | rfl | (simp; done) | (simp [*]; done)), H', ⟨Nat.le_refl _⟩, ⟨by (with_reducible repeat (first | apply Kd.R_alloc | apply Kd.R_drewN | apply Kd.R_drew)); exact Kd.R_mono HO135.out (fun _ hk => hk.2)⟩, ⟨pk BK0⟩, ⟨pk BK132⟩, ⟨pbs HB⟩⟩
 case round =>
  clear H'
  try clear p2
  obtain ⟨x5_1, x6_1, rfl, HA, HK1, HO_5, BK0, BK132, HB⟩ := hrel
  cases gk with
  | zero => exact absurd HA.out (by simp [spec_l01Beside.l0])
  | succ k1 =>
   have H := HA.out; clear HA; simp only [spec_l01Beside.l0] at H
   by_cases c6 : x6_1 < 4
   ·rw [if_pos c6] at H
    have c6b0 : decide (x6_1 < 4) = true := decide_eq_true c6; clear c6; replace H := Option.bind_eq_some_iff.mp H; obtain ⟨⟨t136, t137⟩, A70, H⟩ := H; replace H : ((spec_l01Free.f s0_0 s0_1 s0_2 t136 t137).bind fun t139 => (if t139 = true then (if x5_1.length < 70368744177664 then (spec_l01Beside.l0 k1 (x5_1 ++ [(⟨t136, t137⟩ : S36)]) (wrap64 (x6_1 + 1)) s0_0 s0_1 s0_2 a1_0 a1_1) else (none)) else (spec_l01Beside.l0 k1 x5_1 (wrap64 (x6_1 + 1)) s0_0 s0_1 s0_2 a1_0 a1_1))) = some r := H; have A7 := Aside0.mk A70; clear A70; obtain ⟨t139, A8, H⟩ := obn H
    by_cases c9 : t139 = true
    ·subst c9
     have H1 : (if x5_1.length < 70368744177664 then (spec_l01Beside.l0 k1 (x5_1 ++ [(⟨t136, t137⟩ : S36)]) (wrap64 (x6_1 + 1)) s0_0 s0_1 s0_2 a1_0 a1_1) else (none)) = some r := by rw [if_pos rfl] at H; exact H
     clear H; have H := H1; clear H1
     by_cases c10 : x5_1.length < 70368744177664
     ·rw [if_pos c10] at H
      have LMc10 := Aside0.mk c10; clear c10; obtain ⟨y140, hy140⟩ : ∃ y_ : List (S36), y_ = (x5_1 ++ [(⟨t136, t137⟩ : S36)]) := ⟨_, rfl⟩
      replace H : (spec_l01Beside.l0 k1 y140 (wrap64 (x6_1 + 1)) s0_0 s0_1 s0_2 a1_0 a1_1) = some r := by first | (rw [hy140]; with_reducible exact H) | (have H2_ := (Option.bind_some _ _).symm.trans H; rw [hy140]; with_reducible exact H2_) | (have H2_ := (Option.bind_some _ _).symm.trans H; with_reducible exact H2_) | with_reducible exact H | (rw [hy140]; exact H) | exact H
      have Ny140 := Aside0.mk hy140; clear hy140; have H' := Aside0.mk H; clear H; have hnb11 := NB132_0.out; have hnc11 := NB0_132.out; have hcz12_0 : wr.cell? ⟨gb132, 0, none⟩ = some (.int .i8 a1_0) := bc_ BK132.out 0; have hcz12_1 : wr.cell? ⟨gb132, 1, none⟩ = some (.int .i8 a1_1) := bc_ BK132.out 1; have hfz12_0 := blk_frozen BK132.out 0; have hfz12_1 := blk_frozen BK132.out 1
      go_wp2_with (first | ((with_reducible refine gate_callee (f := 98) rfl ?_); refine gl (some 15) Try.func98 #[.agg #[.int .i8 a1_0, .int .i8 a1_1], .int .i64 x6_1] ?_; (with_reducible refine (spec_l01Next.calls a1_0 a1_1 x6_1 t136 t137 _ A7.out).mono ?_); rintro e w13 ⟨rfl, hb⟩; refine ⟨_, rfl, ?_⟩; replace HO_5 := krb HO_5 hb; replace BK0 := bkb BK0 hb; replace BK132 := bkb BK132 hb; replace HB := bst HB hb; (try clear hb); (try clear hb2); (try clear hk); (try clear hi)) | ((with_reducible refine gate_dst (N := 7) rfl ?_); refine box_event ?hg (N := 7) ?hd (cs := #[.int .i8 0, .int .i8 0]) (t := 36) ?hr ?_; (case hd => rfl); (case hg => rfl); (case hr => first | (go_simp; done) | (go_simp; rfl)); intro gb138 hg w14 hbox hb; have n0_ := Aside0.mk (Kd.R_below (Kd.R_elderB (by (with_reducible repeat (first | apply Kd.R_alloc | apply Kd.R_drewN | apply Kd.R_drew)); exact HO_5.out) gb138 (Nat.le_of_eq hg.symm)) hb); have n1_ := bkb BK0 hb; have n2_ := bkb BK132 hb; have n3_ := bst HB hb; have n4_ := Aside0.mk (hbox); have n5_ := gwl HB hg; have n6_ := gwl HB hg; have n7_ := nbl BK0 hg; have n8_ := nbg BK0 hg; have n9_ := nbl BK132 hg; have n10_ := nbg BK132 hg; clear HO_5; clear BK0; clear BK132; clear HB; have HO_5 := n0_; have BK0 := n1_; have BK132 := n2_; have HB := n3_; have BK138 := n4_; have GW138 := n5_; have GE138 := n6_; have NB0_138 := n7_; have NB138_0 := n8_; have NB132_138 := n9_; have NB138_132 := n10_; clear n0_ n1_ n2_ n3_ n4_ n5_ n6_ n7_ n8_ n9_ n10_; clear hb hbox hg; have hnb15 := NB138_0.out; have hnc15 := NB0_138.out; have hnb16 := NB138_132.out; have hnc16 := NB132_138.out; have hcz17_0 : w14.cell? ⟨gb138, 0, none⟩ = some (.int .i8 0) := (blk_cell BK138.out 0).trans rfl; have hcz17_1 : w14.cell? ⟨gb138, 1, none⟩ = some (.int .i8 0) := (blk_cell BK138.out 1).trans rfl; have hfz17_0 := blk_frozen BK138.out 0; have hfz17_1 := blk_frozen BK138.out 1) | ((with_reducible refine gate_callee (f := 82) rfl ?_); refine gl (some 18) Try.func82 #[.pointer (some ⟨g0, 0, none⟩), .agg #[.int .i8 t136, .int .i8 t137]] ?_; (with_reducible refine (spec_l01Free.calls g0 s0_0 s0_1 s0_2 t136 t137 true _ ?side1 A8.out).mono ?_); (case side1 => exact (by (with_reducible repeat (first | refine blk_drewN ?_ _ | refine blk_drew ?_ | refine blk_alloc ?_ _)); refine blk_far ?_ NB0_138.out _; (with_reducible repeat (first | refine blk_drewN ?_ _ | refine blk_drew ?_ | refine blk_alloc ?_ _)); refine blk_far ?_ NB0_138.out _; (with_reducible repeat (first | refine blk_drewN ?_ _ | refine blk_drew ?_ | refine blk_alloc ?_ _)); exact BK0.out)); rintro e w18 ⟨rfl, hb⟩; refine ⟨_, rfl, ?_⟩; replace HO_5 := Aside0.mk (Kd.R_below (by (with_reducible repeat (first | apply Kd.R_alloc | apply Kd.R_drewN | apply Kd.R_drew)); exact (Kd.R_mono (Kd.R_far (p := ⟨gb138, 1, none⟩) (Kd.R_far (p := ⟨gb138, 0, none⟩) (Kd.R_mono HO_5.out (fun k_ hk => (⟨hk, hk.2⟩ : _ ∧ k_ ≠ gb138))) (fun _ hk => hk.2) (.int .i8 t136)) (fun _ hk => hk.2) (.int .i8 t137)) (fun _ h_ => h_.1))) hb); replace BK0 := Aside0.mk (blk_below (g := g0) (o := .cells (mixA (Value.int .u16) [.int .i8 s0_0, .int .i8 s0_1] s0_2) 34 (0, 0)) (by (with_reducible repeat (first | refine blk_drewN ?_ _ | refine blk_drew ?_ | refine blk_alloc ?_ _)); refine blk_far ?_ NB0_138.out _; (with_reducible repeat (first | refine blk_drewN ?_ _ | refine blk_drew ?_ | refine blk_alloc ?_ _)); refine blk_far ?_ NB0_138.out _; (with_reducible repeat (first | refine blk_drewN ?_ _ | refine blk_drew ?_ | refine blk_alloc ?_ _)); exact BK0.out) hb); replace BK132 := Aside0.mk (blk_below (g := gb132) (o := .cells #[.int .i8 a1_0, .int .i8 a1_1] 36 (0, 0)) (by (with_reducible repeat (first | refine blk_drewN ?_ _ | refine blk_drew ?_ | refine blk_alloc ?_ _)); refine blk_far ?_ NB132_138.out _; (with_reducible repeat (first | refine blk_drewN ?_ _ | refine blk_drew ?_ | refine blk_alloc ?_ _)); refine blk_far ?_ NB132_138.out _; (with_reducible repeat (first | refine blk_drewN ?_ _ | refine blk_drew ?_ | refine blk_alloc ?_ _)); exact BK132.out) hb); replace BK138 := Aside0.mk (blk_below (g := gb138) (o := .cells #[.int .i8 t136, .int .i8 t137] 36 (0, 0)) (by (with_reducible repeat (first | refine blk_drewN ?_ _ | refine blk_drew ?_ | refine blk_alloc ?_ _)); refine blk_put (cs := #[.int .i8 t136, .int .i8 0]) ?_ 1 _ rfl; (with_reducible repeat (first | refine blk_drewN ?_ _ | refine blk_drew ?_ | refine blk_alloc ?_ _)); refine blk_put (cs := #[.int .i8 0, .int .i8 0]) ?_ 0 _ rfl; (with_reducible repeat (first | refine blk_drewN ?_ _ | refine blk_drew ?_ | refine blk_alloc ?_ _)); exact BK138.out) hb); replace HB := bst HB hb; (try clear hb); (try clear hb2); (try clear hk); (try clear hi); have hcz19_0 : w18.cell? ⟨gb138, 0, none⟩ = some (.int .i8 t136) := (blk_cell BK138.out 0).trans rfl; have hcz19_1 : w18.cell? ⟨gb138, 1, none⟩ = some (.int .i8 t137) := (blk_cell BK138.out 1).trans rfl; have hfz19_0 := blk_frozen BK138.out 0; have hfz19_1 := blk_frozen BK138.out 1) | ((with_reducible refine gate_builtin (b := .append) (xs := #[.tmp 19, .tmp 21]) rfl ?_); at_builtin; refine Kd.R_append k36 (w0 := w) w.heap.size rfl (.tmp 19) (.tmp 21) 38 36 (.agg #[(.int .i8 0), (.int .i8 0)]) 2 rfl Try.underlying38 info36 rfl (by decide) (by omega) u5 x5_1 (⟨t136, t137⟩ : S36) [.int .i8 t136, .int .i8 t137] (fun k_ => k_ ≠ gb132 ∧ k_ ≠ gb138) (fun _ => False) rfl rfl ?aP (fun _ hk => hk.elim) ?aF ?aO ?aB ?aS ?aL ?_; (case aP => exact k36_mkM _ _ _ (⟨t136, t137⟩ : S36)); (case aB => exact (pbs HB)); (case aF => exact (fun k_ hk => ⟨Kd.freshB (g := gb132) (o := .cells #[.int .i8 a1_0, .int .i8 a1_1] 36 (0, 0)) (pk BK132) k_ hk, Kd.freshB (g := gb138) (o := .cells #[.int .i8 t136, .int .i8 t137] 36 (0, 0)) (pk BK138) k_ hk⟩)); (case aO => exact (by (with_reducible repeat (first | apply Kd.R_alloc | apply Kd.R_drewN | apply Kd.R_drew)); exact HO_5.out)); (case aS => exact (below_size (by repeat (first | (with_reducible first | exact HB.out | apply below_alloc | apply pw_below_drewN | apply below_drew1 | refine below_set ?_ GE0.out | refine below_set ?_ GE132.out | refine below_set ?_ GE138.out) | exact HB.out)))); (case aL => have := LMc10.out; omega); intro v141 w20 ho hb hg hat; rw [← Ny140.out] at ho; have n0_ := Aside0.mk (blk_grown (g := g0) (o := .cells (mixA (Value.int .u16) [.int .i8 s0_0, .int .i8 s0_1] s0_2) 34 (0, 0)) (pk BK0) hg (Kd.R_ne HO_5.out BK0.out (by decide))); have n1_ := Aside0.mk (blk_grown (g := gb132) (o := .cells #[.int .i8 a1_0, .int .i8 a1_1] 36 (0, 0)) (pk BK132) hg (Kd.R_away HO_5.out (fun _ hk => hk.1))); have n2_ := Aside0.mk (blk_grown (g := gb138) (o := .cells #[.int .i8 t136, .int .i8 t137] 36 (0, 0)) (pk BK138) hg (Kd.R_away HO_5.out (fun _ hk => hk.2))); have n3_ := Aside0.mk (hb); have n4_ := Aside0.mk (ho); clear BK0; clear BK132; clear BK138; clear HB; clear HO_5; have BK0 := n0_; have BK132 := n1_; have BK138 := n2_; have HB := n3_; have HO142 := n4_; clear n0_ n1_ n2_ n3_ n4_; clear ho hb hg hat))
      go_roundg k1
      case measure => have := HK1.out; omega
      case rel => exact ⟨(y140), (wrap64 (x6_1 + 1)), (by first | rfl | (simp; done) | (simp [*]; done)), H', ⟨by have := HK1.out; omega⟩, ⟨by (with_reducible repeat (first | apply Kd.R_alloc | apply Kd.R_drewN | apply Kd.R_drew)); exact Kd.R_mono HO142.out (fun _ hk => hk.1)⟩, ⟨pk BK0⟩, ⟨pk BK132⟩, ⟨pbs HB⟩⟩
     ·rw [if_neg c10] at H
      exact absurd H (by simp)
    ·replace c9 := Bool.eq_false_iff.mpr c9
     subst c9
     have H1 : (spec_l01Beside.l0 k1 x5_1 (wrap64 (x6_1 + 1)) s0_0 s0_1 s0_2 a1_0 a1_1) = some r := by rw [if_neg (show ¬ (false = true) by decide)] at H; exact H
     clear H; have H := H1; clear H1; have H' := Aside0.mk H; clear H; have hnb21 := NB132_0.out; have hnc21 := NB0_132.out; have hcz22_0 : wr.cell? ⟨gb132, 0, none⟩ = some (.int .i8 a1_0) := bc_ BK132.out 0; have hcz22_1 : wr.cell? ⟨gb132, 1, none⟩ = some (.int .i8 a1_1) := bc_ BK132.out 1; have hfz22_0 := blk_frozen BK132.out 0; have hfz22_1 := blk_frozen BK132.out 1
     go_wp2_with (first | ((with_reducible refine gate_callee (f := 98) rfl ?_); refine gl (some 15) Try.func98 #[.agg #[.int .i8 a1_0, .int .i8 a1_1], .int .i64 x6_1] ?_; (with_reducible refine (spec_l01Next.calls a1_0 a1_1 x6_1 t136 t137 _ A7.out).mono ?_); rintro e w23 ⟨rfl, hb⟩; refine ⟨_, rfl, ?_⟩; replace HO_5 := krb HO_5 hb; replace BK0 := bkb BK0 hb; replace BK132 := bkb BK132 hb; replace HB := bst HB hb; (try clear hb); (try clear hb2); (try clear hk); (try clear hi)) | ((with_reducible refine gate_dst (N := 7) rfl ?_); refine box_event ?hg (N := 7) ?hd (cs := #[.int .i8 0, .int .i8 0]) (t := 36) ?hr ?_; (case hd => rfl); (case hg => rfl); (case hr => first | (go_simp; done) | (go_simp; rfl)); intro gb138 hg w24 hbox hb; have n0_ := Aside0.mk (Kd.R_below (Kd.R_elderB (by (with_reducible repeat (first | apply Kd.R_alloc | apply Kd.R_drewN | apply Kd.R_drew)); exact HO_5.out) gb138 (Nat.le_of_eq hg.symm)) hb); have n1_ := bkb BK0 hb; have n2_ := bkb BK132 hb; have n3_ := bst HB hb; have n4_ := Aside0.mk (hbox); have n5_ := gwl HB hg; have n6_ := gwl HB hg; have n7_ := nbl BK0 hg; have n8_ := nbg BK0 hg; have n9_ := nbl BK132 hg; have n10_ := nbg BK132 hg; clear HO_5; clear BK0; clear BK132; clear HB; have HO_5 := n0_; have BK0 := n1_; have BK132 := n2_; have HB := n3_; have BK138 := n4_; have GW138 := n5_; have GE138 := n6_; have NB0_138 := n7_; have NB138_0 := n8_; have NB132_138 := n9_; have NB138_132 := n10_; clear n0_ n1_ n2_ n3_ n4_ n5_ n6_ n7_ n8_ n9_ n10_; clear hb hbox hg; have hnb25 := NB138_0.out; have hnc25 := NB0_138.out; have hnb26 := NB138_132.out; have hnc26 := NB132_138.out; have hcz27_0 : w24.cell? ⟨gb138, 0, none⟩ = some (.int .i8 0) := (blk_cell BK138.out 0).trans rfl; have hcz27_1 : w24.cell? ⟨gb138, 1, none⟩ = some (.int .i8 0) := (blk_cell BK138.out 1).trans rfl; have hfz27_0 := blk_frozen BK138.out 0; have hfz27_1 := blk_frozen BK138.out 1) | ((with_reducible refine gate_callee (f := 82) rfl ?_); refine gl (some 18) Try.func82 #[.pointer (some ⟨g0, 0, none⟩), .agg #[.int .i8 t136, .int .i8 t137]] ?_; (with_reducible refine (spec_l01Free.calls g0 s0_0 s0_1 s0_2 t136 t137 false _ ?side1 A8.out).mono ?_); (case side1 => exact (by (with_reducible repeat (first | refine blk_drewN ?_ _ | refine blk_drew ?_ | refine blk_alloc ?_ _)); refine blk_far ?_ NB0_138.out _; (with_reducible repeat (first | refine blk_drewN ?_ _ | refine blk_drew ?_ | refine blk_alloc ?_ _)); refine blk_far ?_ NB0_138.out _; (with_reducible repeat (first | refine blk_drewN ?_ _ | refine blk_drew ?_ | refine blk_alloc ?_ _)); exact BK0.out)); rintro e w28 ⟨rfl, hb⟩; refine ⟨_, rfl, ?_⟩; replace HO_5 := Aside0.mk (Kd.R_below (by (with_reducible repeat (first | apply Kd.R_alloc | apply Kd.R_drewN | apply Kd.R_drew)); exact (Kd.R_mono (Kd.R_far (p := ⟨gb138, 1, none⟩) (Kd.R_far (p := ⟨gb138, 0, none⟩) (Kd.R_mono HO_5.out (fun k_ hk => (⟨hk, hk.2⟩ : _ ∧ k_ ≠ gb138))) (fun _ hk => hk.2) (.int .i8 t136)) (fun _ hk => hk.2) (.int .i8 t137)) (fun _ h_ => h_.1))) hb); replace BK0 := Aside0.mk (blk_below (g := g0) (o := .cells (mixA (Value.int .u16) [.int .i8 s0_0, .int .i8 s0_1] s0_2) 34 (0, 0)) (by (with_reducible repeat (first | refine blk_drewN ?_ _ | refine blk_drew ?_ | refine blk_alloc ?_ _)); refine blk_far ?_ NB0_138.out _; (with_reducible repeat (first | refine blk_drewN ?_ _ | refine blk_drew ?_ | refine blk_alloc ?_ _)); refine blk_far ?_ NB0_138.out _; (with_reducible repeat (first | refine blk_drewN ?_ _ | refine blk_drew ?_ | refine blk_alloc ?_ _)); exact BK0.out) hb); replace BK132 := Aside0.mk (blk_below (g := gb132) (o := .cells #[.int .i8 a1_0, .int .i8 a1_1] 36 (0, 0)) (by (with_reducible repeat (first | refine blk_drewN ?_ _ | refine blk_drew ?_ | refine blk_alloc ?_ _)); refine blk_far ?_ NB132_138.out _; (with_reducible repeat (first | refine blk_drewN ?_ _ | refine blk_drew ?_ | refine blk_alloc ?_ _)); refine blk_far ?_ NB132_138.out _; (with_reducible repeat (first | refine blk_drewN ?_ _ | refine blk_drew ?_ | refine blk_alloc ?_ _)); exact BK132.out) hb); replace BK138 := Aside0.mk (blk_below (g := gb138) (o := .cells #[.int .i8 t136, .int .i8 t137] 36 (0, 0)) (by (with_reducible repeat (first | refine blk_drewN ?_ _ | refine blk_drew ?_ | refine blk_alloc ?_ _)); refine blk_put (cs := #[.int .i8 t136, .int .i8 0]) ?_ 1 _ rfl; (with_reducible repeat (first | refine blk_drewN ?_ _ | refine blk_drew ?_ | refine blk_alloc ?_ _)); refine blk_put (cs := #[.int .i8 0, .int .i8 0]) ?_ 0 _ rfl; (with_reducible repeat (first | refine blk_drewN ?_ _ | refine blk_drew ?_ | refine blk_alloc ?_ _)); exact BK138.out) hb); replace HB := bst HB hb; (try clear hb); (try clear hb2); (try clear hk); (try clear hi)))
     go_roundg k1
     case measure => have := HK1.out; omega
     case rel => exact ⟨(x5_1), (wrap64 (x6_1 + 1)), (by first | rfl | (simp; done) | (simp [*]; done)), H', ⟨by have := HK1.out; omega⟩, ⟨by (with_reducible repeat (first | apply Kd.R_alloc | apply Kd.R_drewN | apply Kd.R_drew)); exact Kd.R_mono HO_5.out (fun _ hk => hk.1)⟩, ⟨pk BK0⟩, ⟨pk BK132⟩, ⟨pbs HB⟩⟩
   ·rw [if_neg c6] at H
    have c6b0 : decide (x6_1 < 4) = false := decide_eq_false c6; clear c6; obtain rfl := Option.some.inj H
    go_wp2
    go_ret
    exact ⟨_, by first | rfl | (simp [errW_none, errW_some] <;> rfl) | (simp [*, errW_none, errW_some] <;> rfl), by (with_reducible repeat (first | apply Kd.R_alloc | apply Kd.R_drewN | apply Kd.R_drew)); exact Kd.R_mono HO_5.out (fun _ hk => trivial), pbs HB⟩
end Go.Proofs.Ytanobaoaelhebaa.PB
end
section
namespace Go.Proofs.Ytanobaoaelhebaa.PB
open Go.RowKit Go.Proofs.YtanobaoaelhebaaW.PrintWords Go.Proofs.YtanobaoaelhebaaW.PrintLast Go.Proofs.YtanobaoaelhebaaW.PrintMore Go.Proofs.Ytanobaoaelhebaa.La Go.Proofs.Ytanobaoaelhebaa.Mp
attribute [local go_sem] max2_int min2_int max_two min_two max_three min_three max_four min_four   -- for this text's walks alone
set_option linter.unusedVariables false
set_option linter.unusedSimpArgs false
mutual
def spec_l01Steps.l0 : Nat → Int → Int → Int → LA 10 → Int → Int → LA 100 → Option (LA 100)
 | 0, _, _, _, _, _, _, _ => none
 | k + 1, x6, x1000, x1001, x1002, x144000, x144001, x146000 => if x6 < 10 then (spec_l01Steps.l1 k x6 0 x1000 x1001 x1002 x144000 x144001 x146000) else (if 0 ≤ x144001 then (if x144001 < 10 then (if 0 ≤ x144000 then (if x144000 < 10 then (spec_l01Steps.l2 k (([(⟨x144000, x144001⟩ : S36)] : List (S36))) 0 x1000 x1001 x1002 (LA.set x146000 (x144001 * 10 + x144000) 0)) else (none)) else (none)) else (none)) else (none))
def spec_l01Steps.l1 : Nat → Int → Int → Int → Int → LA 10 → Int → Int → LA 100 → Option (LA 100)
 | 0, _, _, _, _, _, _, _, _ => none
 | k + 1, x6, x7, x1000, x1001, x1002, x144000, x144001, x146000 => if x7 < 10 then (if 0 ≤ x6 then (if x6 < 10 then (if 0 ≤ x7 then (spec_l01Steps.l1 k x6 (wrap64 (x7 + 1)) x1000 x1001 x1002 x144000 x144001 (LA.set x146000 (x6 * 10 + x7) (-1))) else (none)) else (none)) else (none)) else (spec_l01Steps.l0 k (wrap64 (x6 + 1)) x1000 x1001 x1002 x144000 x144001 x146000)
def spec_l01Steps.l2 : Nat → List (S36) → Int → Int → Int → LA 10 → LA 100 → Option (LA 100)
 | 0, _, _, _, _, _, _ => none
 | k + 1, x8, x9, x1000, x1001, x1002, x146000 => if x9 < (x8.length : Int) then (if 0 ≤ x9 then ((spec_l01Beside.f k x1000 x1001 x1002 ((rd_T36 x8 x9).f0) ((rd_T36 x8 x9).f1)).bind fun t150 => (spec_l01Steps.l3 k x8 x9 t150 0 x1000 x1001 x1002 x146000)) else (none)) else (some x146000)
def spec_l01Steps.l3 : Nat → List (S36) → Int → List (S36) → Int → Int → Int → LA 10 → LA 100 → Option (LA 100)
 | 0, _, _, _, _, _, _, _, _ => none
 | k + 1, x8, x9, x10, x11, x1000, x1001, x1002, x146000 => if x11 < (x10.length : Int) then (if 0 ≤ x11 then (if 0 ≤ ((rd_T36 x10 x11).f1) then (if ((rd_T36 x10 x11).f1) < 10 then (if 0 ≤ ((rd_T36 x10 x11).f0) then (if ((rd_T36 x10 x11).f0) < 10 then (if (rd x146000.l (((rd_T36 x10 x11).f1) * 10 + ((rd_T36 x10 x11).f0))) < 0 then (if 0 ≤ x9 then (if x9 < (x8.length : Int) then (if 0 ≤ ((rd_T36 x8 x9).f1) then (if ((rd_T36 x8 x9).f1) < 10 then (if 0 ≤ ((rd_T36 x8 x9).f0) then (if ((rd_T36 x8 x9).f0) < 10 then (if x8.length < 70368744177664 then (spec_l01Steps.l3 k (x8 ++ [(⟨(rd_T36 x10 x11).f0, (rd_T36 x10 x11).f1⟩ : S36)]) x9 x10 (wrap64 (x11 + 1)) x1000 x1001 x1002 (LA.set x146000 (((rd_T36 x10 x11).f1) * 10 + ((rd_T36 x10 x11).f0)) (wrap64 ((rd x146000.l (((rd_T36 x8 x9).f1) * 10 + ((rd_T36 x8 x9).f0))) + 1)))) else (none)) else (none)) else (none)) else (none)) else (none)) else (none)) else (none)) else (spec_l01Steps.l3 k x8 x9 x10 (wrap64 (x11 + 1)) x1000 x1001 x1002 x146000)) else (none)) else (none)) else (none)) else (none)) else (none)) else (spec_l01Steps.l2 k x8 (wrap64 (x9 + 1)) x1000 x1001 x1002 x146000)
end
def spec_l01Steps.f (k : Nat) (s0_0 : Int) (s0_1 : Int) (s0_2 : LA 10) (a1_0 : Int) (a1_1 : Int) : Option (LA 100) := spec_l01Steps.l0 k 0 s0_0 s0_1 s0_2 a1_0 a1_1 (LA.zero 100)
theorem spec_l01Steps.mono_l : ∀ k, (∀ y0 y1 y2 y3 y4 y5 y6, LeO (spec_l01Steps.l0 k y0 y1 y2 y3 y4 y5 y6) (spec_l01Steps.l0 (k + 1) y0 y1 y2 y3 y4 y5 y6)) ∧ (∀ y0 y1 y2 y3 y4 y5 y6 y7, LeO (spec_l01Steps.l1 k y0 y1 y2 y3 y4 y5 y6 y7) (spec_l01Steps.l1 (k + 1) y0 y1 y2 y3 y4 y5 y6 y7)) ∧ (∀ y0 y1 y2 y3 y4 y5, LeO (spec_l01Steps.l2 k y0 y1 y2 y3 y4 y5) (spec_l01Steps.l2 (k + 1) y0 y1 y2 y3 y4 y5)) ∧ (∀ y0 y1 y2 y3 y4 y5 y6 y7, LeO (spec_l01Steps.l3 k y0 y1 y2 y3 y4 y5 y6 y7) (spec_l01Steps.l3 (k + 1) y0 y1 y2 y3 y4 y5 y6 y7))
 | 0 => ⟨fun _ _ _ _ _ _ _ r h => by simp [spec_l01Steps.l0] at h, fun _ _ _ _ _ _ _ _ r h => by simp [spec_l01Steps.l1] at h, fun _ _ _ _ _ _ r h => by simp [spec_l01Steps.l2] at h, fun _ _ _ _ _ _ _ _ r h => by simp [spec_l01Steps.l3] at h⟩
 | k + 1 => by
  obtain ⟨ih0, ih1, ih2, ih3⟩ := spec_l01Steps.mono_l k; refine ⟨?_, ?_, ?_, ?_⟩
  ·intro y0 y1 y2 y3 y4 y5 y6
   unfold spec_l01Steps.l0
   repeat' first
   | (with_reducible exact ih0 _ _ _ _ _ _ _)
   | (with_reducible exact ih1 _ _ _ _ _ _ _ _)
   | (with_reducible exact ih2 _ _ _ _ _ _)
   | (with_reducible exact ih3 _ _ _ _ _ _ _ _)
   | (with_reducible exact spec_l01Beside.mono _ _ _ _ _ _)
   | (with_reducible exact LeO.refl _)
   | (with_reducible exact LeO.none _)
   | (with_reducible refine LeO.ite ?_ ?_)
   | (with_reducible refine LeO.bind ?_ (fun _ => ?_))
   | exact ih0 _ _ _ _ _ _ _
   | exact ih1 _ _ _ _ _ _ _ _
   | exact ih2 _ _ _ _ _ _
   | exact ih3 _ _ _ _ _ _ _ _
   | exact spec_l01Beside.mono _ _ _ _ _ _
   | exact LeO.none _
   | refine LeO.ite ?_ ?_
   | refine LeO.bind ?_ (fun _ => ?_)
  ·intro y0 y1 y2 y3 y4 y5 y6 y7
   unfold spec_l01Steps.l1
   repeat' first
   | (with_reducible exact ih0 _ _ _ _ _ _ _)
   | (with_reducible exact ih1 _ _ _ _ _ _ _ _)
   | (with_reducible exact ih2 _ _ _ _ _ _)
   | (with_reducible exact ih3 _ _ _ _ _ _ _ _)
   | (with_reducible exact spec_l01Beside.mono _ _ _ _ _ _)
   | (with_reducible exact LeO.refl _)
   | (with_reducible exact LeO.none _)
   | (with_reducible refine LeO.ite ?_ ?_)
   | (with_reducible refine LeO.bind ?_ (fun _ => ?_))
   | exact ih0 _ _ _ _ _ _ _
   | exact ih1 _ _ _ _ _ _ _ _
   | exact ih2 _ _ _ _ _ _
   | exact ih3 _ _ _ _ _ _ _ _
   | exact spec_l01Beside.mono _ _ _ _ _ _
   | exact LeO.none _
   | refine LeO.ite ?_ ?_
   | refine LeO.bind ?_ (fun _ => ?_)
  ·intro y0 y1 y2 y3 y4 y5
   unfold spec_l01Steps.l2
   repeat' first
   | (with_reducible exact ih0 _ _ _ _ _ _ _)
   | (with_reducible exact ih1 _ _ _ _ _ _ _ _)
   | (with_reducible exact ih2 _ _ _ _ _ _)
   | (with_reducible exact ih3 _ _ _ _ _ _ _ _)
   | (with_reducible exact spec_l01Beside.mono _ _ _ _ _ _)
   | (with_reducible exact LeO.refl _)
   | (with_reducible exact LeO.none _)
   | (with_reducible refine LeO.ite ?_ ?_)
   | (with_reducible refine LeO.bind ?_ (fun _ => ?_))
   | exact ih0 _ _ _ _ _ _ _
   | exact ih1 _ _ _ _ _ _ _ _
   | exact ih2 _ _ _ _ _ _
   | exact ih3 _ _ _ _ _ _ _ _
   | exact spec_l01Beside.mono _ _ _ _ _ _
   | exact LeO.none _
   | refine LeO.ite ?_ ?_
   | refine LeO.bind ?_ (fun _ => ?_)
  ·intro y0 y1 y2 y3 y4 y5 y6 y7
   unfold spec_l01Steps.l3
   repeat' first
   | (with_reducible exact ih0 _ _ _ _ _ _ _)
   | (with_reducible exact ih1 _ _ _ _ _ _ _ _)
   | (with_reducible exact ih2 _ _ _ _ _ _)
   | (with_reducible exact ih3 _ _ _ _ _ _ _ _)
   | (with_reducible exact spec_l01Beside.mono _ _ _ _ _ _)
   | (with_reducible exact LeO.refl _)
   | (with_reducible exact LeO.none _)
   | (with_reducible refine LeO.ite ?_ ?_)
   | (with_reducible refine LeO.bind ?_ (fun _ => ?_))
   | exact ih0 _ _ _ _ _ _ _
   | exact ih1 _ _ _ _ _ _ _ _
   | exact ih2 _ _ _ _ _ _
   | exact ih3 _ _ _ _ _ _ _ _
   | exact spec_l01Beside.mono _ _ _ _ _ _
   | exact LeO.none _
   | refine LeO.ite ?_ ?_
   | refine LeO.bind ?_ (fun _ => ?_)
theorem spec_l01Steps.mono : ∀ a0 a1 a2 a3 a4 k, LeO (spec_l01Steps.f k a0 a1 a2 a3 a4) (spec_l01Steps.f (k + 1) a0 a1 a2 a3 a4) := by
 intro a0 a1 a2 a3 a4 k
 obtain ⟨ih0, ih1, ih2, ih3⟩ := spec_l01Steps.mono_l k
 unfold spec_l01Steps.f
 repeat' first
   | (with_reducible exact ih0 _ _ _ _ _ _ _)
   | (with_reducible exact ih1 _ _ _ _ _ _ _ _)
   | (with_reducible exact ih2 _ _ _ _ _ _)
   | (with_reducible exact ih3 _ _ _ _ _ _ _ _)
   | (with_reducible exact spec_l01Beside.mono _ _ _ _ _ _)
   | (with_reducible exact LeO.refl _)
   | (with_reducible exact LeO.none _)
   | (with_reducible refine LeO.ite ?_ ?_)
   | (with_reducible refine LeO.bind ?_ (fun _ => ?_))
   | exact ih0 _ _ _ _ _ _ _
   | exact ih1 _ _ _ _ _ _ _ _
   | exact ih2 _ _ _ _ _ _
   | exact ih3 _ _ _ _ _ _ _ _
   | exact spec_l01Beside.mono _ _ _ _ _ _
   | exact LeO.none _
   | refine LeO.ite ?_ ?_
   | refine LeO.bind ?_ (fun _ => ?_)
def spec_l01Steps.T18 : Bool × List (List Nat × List Nat) := (true, [([], []), ([], []), ([0, 1], [0, 1]), ([2], [2]), ([3], [3]), ([], []), ([], []), ([5, 6], [5, 6]), ([7], [7]), ([8], [8]), ([4], [4]), ([10, 9], [9, 10]), ([11], [11]), ([12], [12])])
def spec_l01Steps.B18 : List Nat := [0, 0, 3, 7, 15, 0, 0, 96, 224, 480, 31, 2047, 4095, 8191]
theorem spec_l01Steps.tab18 : rtab .any (opsOf Try.f60 18) = spec_l01Steps.T18 := by kernel_rfl
theorem spec_l01Steps.bits18 : waitsOk spec_l01Steps.T18.2 spec_l01Steps.B18 = true := by kernel_rfl
def spec_l01Steps.T19 : Bool × List (List Nat × List Nat) := (true, [([], []), ([], []), ([0, 1], [0, 1]), ([2], [2]), ([3], [3]), ([], []), ([], []), ([5, 6], [5, 6]), ([7], [7]), ([8], [8]), ([], []), ([], []), ([10, 11], [10, 11]), ([12], [12]), ([13], [13]), ([], []), ([], []), ([15, 16], [15, 16]), ([17], [17]), ([18], [18]), ([14], [14]), ([20, 19], [19, 20]), ([21], [21]), ([22], [22]), ([4], [4]), ([24, 9, 0, 1, 2, 3, 4, 5, 6, 7, 8, 9, 10, 11, 12, 13, 14, 15, 16, 17, 18, 19, 20, 21, 22, 23], [9, 24]), ([25, 23, 0, 1, 2, 3, 4, 5, 6, 7, 8, 9, 10, 11, 12, 13, 14, 15, 16, 17, 18, 19, 20, 21, 22, 23], [23, 25])])
def spec_l01Steps.B19 : List Nat := [0, 0, 3, 7, 15, 0, 0, 96, 224, 480, 0, 0, 3072, 7168, 15360, 0, 0, 98304, 229376, 491520, 31744, 2096128, 4193280, 8387584, 31, 33554431, 67108863]
theorem spec_l01Steps.tab19 : rtab .any (opsOf Try.f60 19) = spec_l01Steps.T19 := by kernel_rfl
theorem spec_l01Steps.bits19 : waitsOk spec_l01Steps.T19.2 spec_l01Steps.B19 = true := by kernel_rfl
set_option maxHeartbeats 8000000 in
set_option maxRecDepth 100000 in
theorem spec_l01Steps.calls (k : Nat) (g0 : Nat) (s0_0 : Int) (s0_1 : Int) (s0_2 : LA 10) (a1_0 : Int) (a1_1 : Int) (r : LA 100) (w : World) (hb0 : w.heap[g0]? = some (.cells (mixA (Value.int .u16) [.int .i8 s0_0, .int .i8 s0_1] s0_2) 34 (0, 0))) (h : spec_l01Steps.f k s0_0 s0_1 s0_2 a1_0 a1_1 = some r) :
  Calls Try.prog 60 #[.pointer (some ⟨g0, 0, none⟩), .agg #[.int .i8 a1_0, .int .i8 a1_1]] w fun e w' => e = .returned (.agg (mixA (Value.int .i64) [] r)) ∧ Below w.heap.size w w' := by
 have hu36 := Try.underlying36
 have BK0 := Aside0.mk hb0
 clear hb0
 have HB := Aside0.mk (Below.refl w.heap.size w)
 have H : (spec_l01Steps.l0 k 0 s0_0 s0_1 s0_2 a1_0 a1_1 (LA.zero 100)) = some r := h
 clear h
 have H' := Aside0.mk H
 clear H
 go_enter Try.func60, Try.ntmps60
 go_wp2_with (first | ((with_reducible refine gate_dst (N := 3) rfl ?_); refine box_event ?hg (N := 3) ?hd (cs := #[.int .i8 a1_0, .int .i8 a1_1]) (t := 36) ?hr ?_; (case hd => rfl); (case hg => rfl); (case hr => first | (go_simp; done) | (go_simp; rfl)); intro gb143 hg w3 hbox hb; have n0_ := bkb BK0 hb; have n1_ := bst HB hb; have n2_ := Aside0.mk (hbox); have n3_ := gwl HB hg; have n4_ := gwl HB hg; have n5_ := nbl BK0 hg; have n6_ := nbg BK0 hg; clear BK0; clear HB; have BK0 := n0_; have HB := n1_; have BK143 := n2_; have GW143 := n3_; have GE143 := n4_; have NB0_143 := n5_; have NB143_0 := n6_; clear n0_ n1_ n2_ n3_ n4_ n5_ n6_; clear hb hbox hg) | ((with_reducible refine gate_dst (N := 4) rfl ?_); refine box_event ?hg (N := 4) ?hd (cs := (mixA (Value.int .i64) [] (LA.zero 100))) (t := 94) ?hr ?_; (case hd => rfl); (case hg => rfl); (case hr => first | (go_simp; done) | (go_simp; rfl)); intro gb144 hg w4 hbox hb; have n0_ := bkb BK0 hb; have n1_ := bkb BK143 hb; have n2_ := bst HB hb; have n3_ := Aside0.mk (hbox); have n4_ := gwl HB hg; have n5_ := gwl HB hg; have n6_ := nbl BK0 hg; have n7_ := nbg BK0 hg; have n8_ := nbl BK143 hg; have n9_ := nbg BK143 hg; clear BK0; clear BK143; clear HB; have BK0 := n0_; have BK143 := n1_; have HB := n2_; have BK144 := n3_; have GW144 := n4_; have GE144 := n5_; have NB0_144 := n6_; have NB144_0 := n7_; have NB143_144 := n8_; have NB144_143 := n9_; clear n0_ n1_ n2_ n3_ n4_ n5_ n6_ n7_ n8_ n9_; clear hb hbox hg) | ((with_reducible refine gate_dst (N := 5) rfl ?_); refine box_event ?hg (N := 5) ?hd (cs := (mixA (Value.int .i64) [] (LA.zero 100))) (t := 94) ?hr ?_; (case hd => rfl); (case hg => rfl); (case hr => first | (go_simp; done) | (go_simp; rfl)); intro gb145 hg w5 hbox hb; have n0_ := bkb BK0 hb; have n1_ := bkb BK143 hb; have n2_ := bkb BK144 hb; have n3_ := bst HB hb; have n4_ := Aside0.mk (hbox); have n5_ := gwl HB hg; have n6_ := gwl HB hg; have n7_ := nbl BK0 hg; have n8_ := nbg BK0 hg; have n9_ := nbl BK143 hg; have n10_ := nbg BK143 hg; have n11_ := nbl BK144 hg; have n12_ := nbg BK144 hg; clear BK0; clear BK143; clear BK144; clear HB; have BK0 := n0_; have BK143 := n1_; have BK144 := n2_; have HB := n3_; have BK145 := n4_; have GW145 := n5_; have GE145 := n6_; have NB0_145 := n7_; have NB145_0 := n8_; have NB143_145 := n9_; have NB145_143 := n10_; have NB144_145 := n11_; have NB145_144 := n12_; clear n0_ n1_ n2_ n3_ n4_ n5_ n6_ n7_ n8_ n9_ n10_ n11_ n12_; clear hb hbox hg) | ((with_reducible refine gate_store (p := 5) rfl ?_); refine wpList_store_lmix rfl 94 _ _ rfl gb145 (e := (Value.int .i64)) (cs' := []) (W' := (LA.zero 100)) (cs := []) (W := (LA.zero 100)) (T := 94) rfl rfl (pk BK145) rfl (by kernel_rfl) rfl (fun _ => rfl) rfl ?_; intro w6 hi hk hbl; replace BK0 := Aside0.mk (KeepBut.blk hk (g' := g0) (o := .cells (mixA (Value.int .u16) [.int .i8 s0_0, .int .i8 s0_1] s0_2) 34 (0, 0)) (pk BK0) NB0_145.out (by simp)); replace BK143 := Aside0.mk (KeepBut.blk hk (g' := gb143) (o := .cells #[.int .i8 a1_0, .int .i8 a1_1] 36 (0, 0)) (pk BK143) NB143_145.out (by simp)); replace BK144 := Aside0.mk (KeepBut.blk hk (g' := gb144) (o := .cells (mixA (Value.int .i64) [] (LA.zero 100)) 94 (0, 0)) (pk BK144) NB144_145.out (by simp)); replace HB := Aside0.mk (hbl _ _ (pbs HB) GE145.out); replace BK145 := Aside0.mk (hi); clear hi hk hbl))
 go_loopg [6] k (fun kq v6 w' => ∃ (x6_1 : Int) (x146000_1 : LA 100), v6 = .int .i64 x6_1 ∧ Aside0 (spec_l01Steps.l0 kq x6_1 s0_0 s0_1 s0_2 a1_0 a1_1 x146000_1 = some r) ∧ Aside0 (kq ≤ k) ∧ Aside0 (w'.heap[g0]? = some (.cells (mixA (Value.int .u16) [.int .i8 s0_0, .int .i8 s0_1] s0_2) 34 (0, 0))) ∧ Aside0 (w'.heap[gb143]? = some (.cells #[.int .i8 a1_0, .int .i8 a1_1] 36 (0, 0))) ∧ Aside0 (w'.heap[gb144]? = some (.cells (mixA (Value.int .i64) [] (LA.zero 100)) 94 (0, 0))) ∧ Aside0 (w'.heap[gb145]? = some (.cells (mixA (Value.int .i64) [] x146000_1) 94 (0, 0))) ∧ Aside0 (Below w.heap.size w w'))
 case atStart => exact ⟨(0), ((LA.zero 100)), (by first | rfl | (simp; done) | (simp [*]; done)), H', ⟨Nat.le_refl _⟩, ⟨pk BK0⟩, ⟨pk BK143⟩, ⟨pk BK144⟩, ⟨pk BK145⟩, ⟨pbs HB⟩⟩
 case round =>
  clear H'
  try clear p2
  try clear c6
  obtain ⟨x6_1, x146000_1, rfl, HA, HK1, BK0, BK143, BK144, BK145, HB⟩ := hrel
  cases gk with
  | zero => exact absurd HA.out (by simp [spec_l01Steps.l0])
  | succ k1 =>
   have H := HA.out; clear HA; simp only [spec_l01Steps.l0] at H
   by_cases c7 : x6_1 < 10
   ·rw [if_pos c7] at H
    have c7b0 : decide (x6_1 < 10) = true := decide_eq_true c7; clear c7; have H' := Aside0.mk H; clear H
    go_wp2
    go_loopg [7] k1 (fun kq v7 w' => ∃ (x7_2 : Int) (x146000_2 : LA 100), v7 = .int .i64 x7_2 ∧ Aside0 (spec_l01Steps.l1 kq x6_1 x7_2 s0_0 s0_1 s0_2 a1_0 a1_1 x146000_2 = some r) ∧ Aside0 (kq ≤ k1) ∧ Aside0 (w'.heap[g0]? = some (.cells (mixA (Value.int .u16) [.int .i8 s0_0, .int .i8 s0_1] s0_2) 34 (0, 0))) ∧ Aside0 (w'.heap[gb143]? = some (.cells #[.int .i8 a1_0, .int .i8 a1_1] 36 (0, 0))) ∧ Aside0 (w'.heap[gb144]? = some (.cells (mixA (Value.int .i64) [] (LA.zero 100)) 94 (0, 0))) ∧ Aside0 (w'.heap[gb145]? = some (.cells (mixA (Value.int .i64) [] x146000_2) 94 (0, 0))) ∧ Aside0 (Below w.heap.size w w'))
    case atStart => exact ⟨(0), (x146000_1), (by first | rfl | (simp; done) | (simp [*]; done)), H', ⟨Nat.le_refl _⟩, ⟨pk BK0⟩, ⟨pk BK143⟩, ⟨pk BK144⟩, ⟨pk BK145⟩, ⟨pbs HB⟩⟩
    case round =>
     clear H'
     try clear p2
     try clear c6
     try clear c7
     try clear c7b0
     try clear p2
     obtain ⟨x7_2, x146000_2, rfl, HA, HK2, BK0, BK143, BK144, BK145, HB⟩ := hrel
     cases gk with
     | zero => exact absurd HA.out (by simp [spec_l01Steps.l1])
     | succ k2 =>
      have H := HA.out; clear HA; simp only [spec_l01Steps.l1] at H
      by_cases c8 : x7_2 < 10
      ·rw [if_pos c8] at H
       have c8b0 : decide (x7_2 < 10) = true := decide_eq_true c8; clear c8
       by_cases c9 : 0 ≤ x6_1
       ·rw [if_pos c9] at H
        have c9b0 : decide (0 ≤ x6_1) = true := decide_eq_true c9; clear c9
        by_cases c10 : x6_1 < 10
        ·rw [if_pos c10] at H
         have c10b0 : decide (x6_1 < 10) = true := decide_eq_true c10; clear c10
         by_cases c11 : 0 ≤ x7_2
         ·rw [if_pos c11] at H
          have c11b0 : decide (0 ≤ x7_2) = true := decide_eq_true c11; clear c11; have H' := Aside0.mk H; clear H; have hpd12 : (0 ≤ x6_1) = True := eq_true (by first | omega | exact oda); have hqd12 : (x6_1 < 10) = True := eq_true (by first | omega | exact oda); have hrd12 : (x6_1 < ((10 : Nat) : Int)) = True := eq_true (by first | omega | exact oda); have hpbd12 : (0 ≤ x7_2) = True := eq_true (by first | omega | exact oda); have hqbd12 : (x7_2 < 10) = True := eq_true (by first | omega | exact oda); have hrbd12 : (x7_2 < ((10 : Nat) : Int)) = True := eq_true (by first | omega | exact oda); have hdd12 : wr.cell? ⟨gb145, x6_1.toNat * 10 + x7_2.toNat, none⟩ = some (.int .i64 (rd x146000_2.l (x6_1 * 10 + x7_2))) := mix_at2z 10 BK145.out x6_1 x7_2 (of_eq_true hpd12) (of_eq_true hpbd12) (by have := of_eq_true hqd12; have := of_eq_true hqbd12; omega); have hfdd12 := blk_frozen BK145.out (x6_1.toNat * 10 + x7_2.toNat)
          go_wp2_with (first | ((with_reducible refine gate_store (t := 2) (p := 24) rfl ?_); refine store_event (t := 2) (p := 24) (v := ?vo_w13) (w1 := (wr.setCell ⟨gb145, x6_1.toNat * 10 + x7_2.toNat, none⟩ (.int .i64 (-1)))) ?hg ?ho ?hn ?hr ?_; (case ho => rfl); (case hg => rfl); (case hn => rfl); (case hr => first | (go_simp; done) | (go_simp; rfl)); intro w13 hw; have hi : w13.heap[gb145]? = some (.cells (mixA (Value.int .i64) [] (LA.set x146000_2 (x6_1 * 10 + x7_2) (-1))) 94 (0, 0)) := (by rw [hw]; exact mix_set2z 10 BK145.out x6_1 x7_2 (-1) (of_eq_true hpd12) (of_eq_true hpbd12) (by have := of_eq_true hqd12; have := of_eq_true hqbd12; omega)); have hk : KeepBut wr w13 gb145 none := (by rw [hw]; exact setcell_keep _ _ _ _); have hbl : ∀ B_ a_, Below B_ a_ wr → B_ ≤ gb145 → Below B_ a_ w13 := (by rw [hw]; exact setcell_below _ _ _ _); clear hw; replace BK0 := Aside0.mk (KeepBut.blk hk (g' := g0) (o := .cells (mixA (Value.int .u16) [.int .i8 s0_0, .int .i8 s0_1] s0_2) 34 (0, 0)) (pk BK0) NB0_145.out (by simp)); replace BK143 := Aside0.mk (KeepBut.blk hk (g' := gb143) (o := .cells #[.int .i8 a1_0, .int .i8 a1_1] 36 (0, 0)) (pk BK143) NB143_145.out (by simp)); replace BK144 := Aside0.mk (KeepBut.blk hk (g' := gb144) (o := .cells (mixA (Value.int .i64) [] (LA.zero 100)) 94 (0, 0)) (pk BK144) NB144_145.out (by simp)); replace HB := Aside0.mk (hbl _ _ (pbs HB) GE145.out); replace BK145 := Aside0.mk (hi); clear hi hk hbl))
          go_roundg k2
          case measure => have := HK1.out; have := HK2.out; omega
          case rel => exact ⟨(wrap64 (x7_2 + 1)), ((LA.set x146000_2 (x6_1 * 10 + x7_2) (-1))), (by first | rfl | (simp; done) | (simp [*]; done)), H', ⟨by have := HK1.out; have := HK2.out; omega⟩, ⟨pk BK0⟩, ⟨pk BK143⟩, ⟨pk BK144⟩, ⟨pk BK145⟩, ⟨pbs HB⟩⟩
         ·rw [if_neg c11] at H
          exact absurd H (by simp)
        ·rw [if_neg c10] at H
         exact absurd H (by simp)
       ·rw [if_neg c9] at H
        exact absurd H (by simp)
      ·rw [if_neg c8] at H
       have c8b0 : decide (x7_2 < 10) = false := decide_eq_false c8; clear c8; have H' := Aside0.mk H; clear H
       go_wp2
       go_roundg k2
       case measure => have := HK1.out; have := HK2.out; omega
       case rel => exact ⟨(wrap64 (x6_1 + 1)), (x146000_2), (by first | rfl | (simp; done) | (simp [*]; done)), H', ⟨by have := HK1.out; have := HK2.out; omega⟩, ⟨pk BK0⟩, ⟨pk BK143⟩, ⟨pk BK144⟩, ⟨pk BK145⟩, ⟨pbs HB⟩⟩
   ·rw [if_neg c7] at H
    have c7b0 : decide (x6_1 < 10) = false := decide_eq_false c7; clear c7
    by_cases c14 : 0 ≤ a1_1
    ·rw [if_pos c14] at H
     have c14b0 : decide (0 ≤ a1_1) = true := decide_eq_true c14; clear c14
     by_cases c15 : a1_1 < 10
     ·rw [if_pos c15] at H
      have c15b0 : decide (a1_1 < 10) = true := decide_eq_true c15; clear c15
      by_cases c16 : 0 ≤ a1_0
      ·rw [if_pos c16] at H
       have c16b0 : decide (0 ≤ a1_0) = true := decide_eq_true c16; clear c16
       by_cases c17 : a1_0 < 10
       ·rw [if_pos c17] at H
        have c17b0 : decide (a1_0 < 10) = true := decide_eq_true c17; clear c17; obtain ⟨y146, hy146⟩ : ∃ y_ : List (S36), y_ = (([(⟨a1_0, a1_1⟩ : S36)] : List (S36))) := ⟨_, rfl⟩
        replace H : (spec_l01Steps.l2 k1 y146 0 s0_0 s0_1 s0_2 (LA.set x146000_1 (a1_1 * 10 + a1_0) 0)) = some r := by first | (rw [hy146]; with_reducible exact H) | (have H2_ := (Option.bind_some _ _).symm.trans H; rw [hy146]; with_reducible exact H2_) | (have H2_ := (Option.bind_some _ _).symm.trans H; with_reducible exact H2_) | with_reducible exact H | (rw [hy146]; exact H) | exact H
        have Ny146 := Aside0.mk hy146; clear hy146; have H' := Aside0.mk H; clear H
        try go_wp2
        replace BK0 := Aside0.mk (blk_drew BK0.out); replace BK143 := Aside0.mk (blk_drew BK143.out); replace BK144 := Aside0.mk (blk_drew BK144.out); replace BK145 := Aside0.mk (blk_drew BK145.out); replace HB := Aside0.mk (below_drew1 HB.out); have hpd19 : (0 ≤ a1_1) = True := eq_true (by first | omega | exact oda); have hqd19 : (a1_1 < 10) = True := eq_true (by first | omega | exact oda); have hrd19 : (a1_1 < ((10 : Nat) : Int)) = True := eq_true (by first | omega | exact oda); have hpbd19 : (0 ≤ a1_0) = True := eq_true (by first | omega | exact oda); have hqbd19 : (a1_0 < 10) = True := eq_true (by first | omega | exact oda); have hrbd19 : (a1_0 < ((10 : Nat) : Int)) = True := eq_true (by first | omega | exact oda); refine start_ (n := 7) (S := fun w' => w'.cell? ⟨gb143, 0, none⟩ = some (.int .i8 a1_0) ∧ w'.cell? ⟨gb143, 1, none⟩ = some (.int .i8 a1_1)) (ds := [6]) (bA 7 0) (by kernel_rfl) rfl rfl ⟨(blk_cell BK143.out 0).trans rfl, (blk_cell BK143.out 1).trans rfl⟩ (fun hHeld => ?_); generalize wr.drew = w18 at BK0 BK143 BK144 BK145 HB hHeld ⊢; refine pure_ (i := 0) (N := some 25) (v := ?_) (a' := ?_) (bA 7 1) rfl rfl (by kernel_rfl) (fun _ _ _ h => h) (Or.inl ⟨by rfl, ?_⟩) ?_ ?_; rotate_left
        ·intro w'
         go_simp; with_reducible rfl
        rotate_left
        ·simp only [Act.put, List.setIfInBounds_toArray, List.set_cons_zero, List.set_cons_succ, i64_w, i32_w]
         rfl
        refine pure_ (i := 2) (N := some 27) (v := ?_) (a' := ?_) (bA 7 5) rfl rfl (by kernel_rfl) (fun _ _ _ h => h) (Or.inl ⟨by rfl, ?_⟩) ?_ ?_; rotate_left
        ·intro w'
         go_simp; with_reducible rfl
        rotate_left
        ·simp only [Act.put, List.setIfInBounds_toArray, List.set_cons_zero, List.set_cons_succ, i64_w, i32_w]
         rfl
        refine take_ (i := 1) (N := some 26) (v := ?_) (a' := ?_) (bA 7 7) rfl rfl (by kernel_rfl) (fun _ _ _ h => h) (Or.inl ⟨by rfl, ?_⟩) hHeld ?_ ?_; rotate_left
        ·rintro w' ⟨s0, s1⟩
         go_simp; with_reducible rfl
        rotate_left
        ·simp only [Act.put, List.setIfInBounds_toArray, List.set_cons_zero, List.set_cons_succ, i64_w, i32_w]
         rfl
        refine pure_ (i := 4) (N := some 29) (v := ?_) (a' := ?_) (bA 7 23) rfl rfl (by kernel_rfl) (fun _ _ _ h => h) (Or.inl ⟨by rfl, ?_⟩) ?_ ?_; rotate_left
        ·intro w'
         go_simp; with_reducible rfl
        rotate_left
        ·simp only [Act.put, List.setIfInBounds_toArray, List.set_cons_zero, List.set_cons_succ, i64_w, i32_w]
         rfl
        refine take_ (i := 3) (N := some 28) (v := ?_) (a' := ?_) (bA 7 31) rfl rfl (by kernel_rfl) (fun _ _ _ h => h) (Or.inl ⟨by rfl, ?_⟩) hHeld ?_ ?_; rotate_left
        ·rintro w' ⟨s0, s1⟩
         go_simp; with_reducible rfl
        rotate_left
        ·simp only [Act.put, List.setIfInBounds_toArray, List.set_cons_zero, List.set_cons_succ, i64_w, i32_w]
         rfl
        refine pure_ (i := 5) (N := some 30) (v := ?_) (a' := ?_) (bA 7 63) rfl rfl (by kernel_rfl) (fun _ _ _ h => h) (Or.inl ⟨by rfl, ?_⟩) ?_ ?_; rotate_left
        ·intro w'
         go_simp; with_reducible rfl
        rotate_left
        ·simp only [Act.put, List.setIfInBounds_toArray, List.set_cons_zero, List.set_cons_succ, i64_w, i32_w]
         rfl
        refine last_ (i := 6) (N := none) (bA 7 127) rfl rfl (by kernel_rfl) (by decide) (fun K hK => ?_); have hdd19 : w18.cell? ⟨gb145, a1_1.toNat * 10 + a1_0.toNat, none⟩ = some (.int .i64 (rd x146000_1.l (a1_1 * 10 + a1_0))) := mix_at2z 10 BK145.out a1_1 a1_0 (of_eq_true hpd19) (of_eq_true hpbd19) (by have := of_eq_true hqd19; have := of_eq_true hqbd19; omega); have hfdd19 := blk_frozen BK145.out (a1_1.toNat * 10 + a1_0.toNat)
        refine storel_step (w1 := (w18.setCell ⟨gb145, a1_1.toNat * 10 + a1_0.toNat, none⟩ (.int .i64 0))) ?hg ?hn ?hr ?_; (case hg => rfl); (case hn => rfl); (case hr => first | (go_simp; done) | (go_simp; rfl))
        intro w20 hw; have hi : w20.heap[gb145]? = some (.cells (mixA (Value.int .i64) [] (LA.set x146000_1 (a1_1 * 10 + a1_0) 0)) 94 (0, 0)) := (by rw [hw]; exact mix_set2z 10 BK145.out a1_1 a1_0 0 (of_eq_true hpd19) (of_eq_true hpbd19) (by have := of_eq_true hqd19; have := of_eq_true hqbd19; omega)); have hk : KeepBut w18 w20 gb145 none := (by rw [hw]; exact setcell_keep _ _ _ _); have hbl : ∀ B_ a_, Below B_ a_ w18 → B_ ≤ gb145 → Below B_ a_ w20 := (by rw [hw]; exact setcell_below _ _ _ _); clear hw; replace BK0 := Aside0.mk (KeepBut.blk hk (g' := g0) (o := .cells (mixA (Value.int .u16) [.int .i8 s0_0, .int .i8 s0_1] s0_2) 34 (0, 0)) (pk BK0) NB0_145.out (by simp)); replace BK143 := Aside0.mk (KeepBut.blk hk (g' := gb143) (o := .cells #[.int .i8 a1_0, .int .i8 a1_1] 36 (0, 0)) (pk BK143) NB143_145.out (by simp)); replace BK144 := Aside0.mk (KeepBut.blk hk (g' := gb144) (o := .cells (mixA (Value.int .i64) [] (LA.zero 100)) 94 (0, 0)) (pk BK144) NB144_145.out (by simp)); replace HB := Aside0.mk (hbl _ _ (pbs HB) GE145.out); replace BK145 := Aside0.mk (hi); clear hi hk hbl; refine hK.out _ _ ?_; clear hK K; refine done_ (by kernel_rfl) ?_; have hnb21 := NB143_0.out; have hnc21 := NB0_143.out; have hnb22 := NB143_144.out; have hnc22 := NB144_143.out; have hnb23 := NB143_145.out; have hnc23 := NB145_143.out; have hcz24_0 : w20.cell? ⟨gb143, 0, none⟩ = some (.int .i8 a1_0) := bc_ BK143.out 0; have hcz24_1 : w20.cell? ⟨gb143, 1, none⟩ = some (.int .i8 a1_1) := bc_ BK143.out 1; have hfz24_0 := blk_frozen BK143.out 0; have hfz24_1 := blk_frozen BK143.out 1
        try go_wp2_with (first | ((with_reducible refine gate_dst (N := 32) rfl ?_); refine Kd.R_lit k36 _ 36 ?hg (N := 32) ?hd (xs := ([(⟨a1_0, a1_1⟩ : S36)] : List (S36))) (inner := [.int .i8 a1_0, .int .i8 a1_1]) (ok := fun _ => True) (okp := fun _ => True) ?hr ?hp (fun _ hk => hk) trivial (Below.refl _ _) (Nat.le_refl _) (by simp) ?_; (case hd => rfl); (case hg => rfl); (case hr => first | (go_simp; done) | (go_simp; rfl)); (case hp => exact (Reps.c2 (show Kd.M k36 _ _ _ (⟨a1_0, a1_1⟩ : S36) [.int .i8 a1_0, .int .i8 a1_1] from (k36_mkM _ _ _ (⟨a1_0, a1_1⟩ : S36) )) (Reps.none _ _))); intro v147 w25 ho26 hb hg_ hnew_; clear hg_ hnew_; (first | rw [← Ny146.out] at ho26 | (simp only [Int.reduceToNat] at ho26; rw [← Ny146.out] at ho26)); have HO148 := Aside0.mk (Kd.R_lower (Kd.R_newB ho26 (g := gb143) (o := .cells #[.int .i8 a1_0, .int .i8 a1_1] 36 (0, 0)) (pk BK143)) (below_size (by repeat (first | (with_reducible first | exact HB.out | apply below_alloc | apply pw_below_drewN | apply below_drew1 | refine below_set ?_ GE0.out | refine below_set ?_ GE143.out | refine below_set ?_ GE144.out | refine below_set ?_ GE145.out) | exact HB.out)))); replace BK0 := bkb BK0 hb; replace BK143 := bkb BK143 hb; replace BK144 := bkb BK144 hb; replace BK145 := bkb BK145 hb; replace HB := bst HB hb; clear hb ho26))
        go_loopg [8, 9] k1 (fun kq v8 v9 w' => ∃ (x8_2 : List (S36)) (x9_2 : Int) (x146000_2 : LA 100), v9 = .int .i64 x9_2 ∧ Aside0 (spec_l01Steps.l2 kq x8_2 x9_2 s0_0 s0_1 s0_2 x146000_2 = some r) ∧ Aside0 (kq ≤ k1) ∧ Aside0 (Kd.R k36 36 w' w.heap.size (fun k_ => k_ ≠ gb143) v8 x8_2) ∧ Aside0 (w'.heap[g0]? = some (.cells (mixA (Value.int .u16) [.int .i8 s0_0, .int .i8 s0_1] s0_2) 34 (0, 0))) ∧ Aside0 (w'.heap[gb143]? = some (.cells #[.int .i8 a1_0, .int .i8 a1_1] 36 (0, 0))) ∧ Aside0 (w'.heap[gb144]? = some (.cells (mixA (Value.int .i64) [] (LA.zero 100)) 94 (0, 0))) ∧ Aside0 (w'.heap[gb145]? = some (.cells (mixA (Value.int .i64) [] x146000_2) 94 (0, 0))) ∧ Aside0 (Below w.heap.size w w'))
        case atStart => exact ⟨(y146), (0), ((LA.set x146000_1 (a1_1 * 10 + a1_0) 0)), (by first | rfl | (simp; done) | (simp [*]; done)), H', ⟨Nat.le_refl _⟩, ⟨by (with_reducible repeat (first | apply Kd.R_alloc | apply Kd.R_drewN | apply Kd.R_drew)); exact Kd.R_mono HO148.out (fun _ hk => hk.2)⟩, ⟨pk BK0⟩, ⟨pk BK143⟩, ⟨pk BK144⟩, ⟨pk BK145⟩, ⟨pbs HB⟩⟩
        case round =>
         clear H'
         try clear c1
         try clear c2
         try clear p2
         try clear c6
         try clear p6
         try clear c7
         try clear c7b0
         try clear c8
         try clear c8b0
         try clear c9
         try clear c9b0
         try clear c10
         try clear c10b0
         try clear c11
         try clear c11b0
         try clear c14
         try clear c14b0
         try clear c15
         try clear c15b0
         try clear c16
         try clear c16b0
         try clear c17
         try clear c17b0
         try clear c21
         try clear c22
         try clear c23
         try clear hcz24_0
         try clear hcz24_1
         try clear hfz24_0
         try clear hfz24_1
         try clear p2
         obtain ⟨x8_2, x9_2, x146000_2, rfl, HA, HK2, HO_8, BK0, BK143, BK144, BK145, HB⟩ := hrel
         cases gk with
         | zero => exact absurd HA.out (by simp [spec_l01Steps.l2])
         | succ k2 =>
          have H := HA.out; clear HA; simp only [spec_l01Steps.l2] at H
          by_cases c27 : x9_2 < (x8_2.length : Int)
          ·rw [if_pos c27] at H
           have c27b0 : decide (x9_2 < (x8_2.length : Int)) = true := decide_eq_true c27; clear c27
           by_cases c28 : 0 ≤ x9_2
           ·rw [if_pos c28] at H
            have c28b0 : decide (0 ≤ x9_2) = true := decide_eq_true c28; clear c28; obtain ⟨t150, A29, H⟩ := obn H; have H' := Aside0.mk H; clear H; obtain ⟨Ao30, co30, eo30⟩ := Kd.R_slice HO_8.out; subst eo30; have p149 : 0 ≤ (x9_2 : Int) := oda; have q149 : x9_2 < (x8_2.length : Int) := oda; obtain ⟨ad149, e149, hx149_0, hx149_1⟩ := at_T36 (Kd.R_reads' HO_8.out).2.2 x9_2 p149 q149; cases e149; replace p149 := eq_true p149; replace q149 := eq_true q149
            go_wp2_with (first | ((with_reducible refine gate_callee (f := 84) rfl ?_); refine gl (some 44) Try.func84 #[.pointer (some ⟨g0, 0, none⟩), .agg #[.int .i8 ((rd_T36 x8_2 x9_2).f0), .int .i8 ((rd_T36 x8_2 x9_2).f1)]] ?_; (with_reducible refine (spec_l01Beside.calls k2 g0 s0_0 s0_1 s0_2 ((rd_T36 x8_2 x9_2).f0) ((rd_T36 x8_2 x9_2).f1) t150 _ ?side1 A29.out).mono ?_); (case side1 => exact (pk BK0)); rintro e w31 ⟨v151, rfl, ho0, hb⟩; refine ⟨_, rfl, ?_⟩; have n0_ := Aside0.mk (Kd.R_elder' (by (with_reducible repeat (first | apply Kd.R_alloc | apply Kd.R_drewN | apply Kd.R_drew)); exact HO_8.out) (Kd.R_base ho0) hb); have n1_ := Aside0.mk (Kd.R_lower (Kd.R_newB (Kd.R_new' ho0 (Kd.R_lt (by (with_reducible repeat (first | apply Kd.R_alloc | apply Kd.R_drewN | apply Kd.R_drew)); exact HO_8.out))) (g := gb143) (o := .cells #[.int .i8 a1_0, .int .i8 a1_1] 36 (0, 0)) (pk BK143)) (below_size (by repeat (first | (with_reducible first | exact HB.out | apply below_alloc | apply pw_below_drewN | apply below_drew1 | refine below_set ?_ GE0.out | refine below_set ?_ GE143.out | refine below_set ?_ GE144.out | refine below_set ?_ GE145.out) | exact HB.out)))); have n2_ := bkb BK0 hb; have n3_ := bkb BK143 hb; have n4_ := bkb BK144 hb; have n5_ := bkb BK145 hb; have n6_ := bst HB hb; clear HO_8; clear BK0; clear BK143; clear BK144; clear BK145; clear HB; have HO_8 := n0_; have HO152 := n1_; have BK0 := n2_; have BK143 := n3_; have BK144 := n4_; have BK145 := n5_; have HB := n6_; clear n0_ n1_ n2_ n3_ n4_ n5_ n6_; (try clear hb); (try clear hb2); (try clear hk); (try clear hi); (try clear ho0)))
            go_loopg [8, 11] k2 (fun kq v8 v11 w' => ∃ (x8_3 : List (S36)) (x11_3 : Int) (x146000_3 : LA 100), v11 = .int .i64 x11_3 ∧ Aside0 (spec_l01Steps.l3 kq x8_3 x9_2 t150 x11_3 s0_0 s0_1 s0_2 x146000_3 = some r) ∧ Aside0 (kq ≤ k2) ∧ Aside0 (Kd.R k36 36 w' w.heap.size (fun k_ => some k_ ≠ (v151 : Value).ownBlock ∧ k_ ≠ gb143) v8 x8_3) ∧ Aside0 (Kd.R k36 36 w' w.heap.size (fun k_ => some k_ ≠ (v8 : Value).ownBlock ∧ k_ ≠ gb143) v151 t150) ∧ Aside0 (w'.heap[g0]? = some (.cells (mixA (Value.int .u16) [.int .i8 s0_0, .int .i8 s0_1] s0_2) 34 (0, 0))) ∧ Aside0 (w'.heap[gb143]? = some (.cells #[.int .i8 a1_0, .int .i8 a1_1] 36 (0, 0))) ∧ Aside0 (w'.heap[gb144]? = some (.cells (mixA (Value.int .i64) [] (LA.zero 100)) 94 (0, 0))) ∧ Aside0 (w'.heap[gb145]? = some (.cells (mixA (Value.int .i64) [] x146000_3) 94 (0, 0))) ∧ Aside0 (Below w.heap.size w w'))
            case atStart => exact ⟨(x8_2), (0), (x146000_2), (by first | rfl | (simp; done) | (simp [*]; done)), H', ⟨Nat.le_refl _⟩, ⟨by (with_reducible repeat (first | apply Kd.R_alloc | apply Kd.R_drewN | apply Kd.R_drew)); exact Kd.R_mono HO_8.out (fun _ hk => ⟨hk.2, hk.1⟩)⟩, ⟨by (with_reducible repeat (first | apply Kd.R_alloc | apply Kd.R_drewN | apply Kd.R_drew)); exact Kd.R_mono HO152.out (fun _ hk => ⟨hk.1.2, hk.2⟩)⟩, ⟨pk BK0⟩, ⟨pk BK143⟩, ⟨pk BK144⟩, ⟨pk BK145⟩, ⟨pbs HB⟩⟩
            case round =>
             clear H'
             try clear c1
             try clear p1
             try clear q1
             try clear hx1
             try clear c2
             try clear p2
             try clear c6
             try clear p6
             try clear c7
             try clear c7b0
             try clear c8
             try clear c8b0
             try clear c9
             try clear c9b0
             try clear c10
             try clear c10b0
             try clear c11
             try clear c11b0
             try clear c14
             try clear c14b0
             try clear p14
             try clear q14
             try clear hx14
             try clear c15
             try clear c15b0
             try clear c16
             try clear c16b0
             try clear c17
             try clear c17b0
             try clear c21
             try clear c22
             try clear c23
             try clear c27
             try clear c27b0
             try clear c28
             try clear c28b0
             try clear hcz24_0
             try clear hcz24_1
             try clear hfz24_0
             try clear hfz24_1
             try clear hx149_0
             try clear hx149_1
             try clear p149
             try clear p2
             try clear p6
             try clear q149
             obtain ⟨x8_3, x11_3, x146000_3, rfl, HA, HK3, HO_8, HO_10, BK0, BK143, BK144, BK145, HB⟩ := hrel
             cases gk with
             | zero => exact absurd HA.out (by simp [spec_l01Steps.l3])
             | succ k3 =>
              have H := HA.out; clear HA; simp only [spec_l01Steps.l3] at H
              by_cases c32 : x11_3 < (t150.length : Int)
              ·rw [if_pos c32] at H
               have c32b0 : decide (x11_3 < (t150.length : Int)) = true := decide_eq_true c32; clear c32
               by_cases c33 : 0 ≤ x11_3
               ·rw [if_pos c33] at H
                have c33b0 : decide (0 ≤ x11_3) = true := decide_eq_true c33; clear c33
                by_cases c34 : 0 ≤ ((rd_T36 t150 x11_3).f1)
                ·rw [if_pos c34] at H
                 have c34b0 : decide (0 ≤ ((rd_T36 t150 x11_3).f1)) = true := decide_eq_true c34; clear c34
                 by_cases c35 : ((rd_T36 t150 x11_3).f1) < 10
                 ·rw [if_pos c35] at H
                  have c35b0 : decide (((rd_T36 t150 x11_3).f1) < 10) = true := decide_eq_true c35; clear c35
                  by_cases c36 : 0 ≤ ((rd_T36 t150 x11_3).f0)
                  ·rw [if_pos c36] at H
                   have c36b0 : decide (0 ≤ ((rd_T36 t150 x11_3).f0)) = true := decide_eq_true c36; clear c36
                   by_cases c37 : ((rd_T36 t150 x11_3).f0) < 10
                   ·rw [if_pos c37] at H
                    have c37b0 : decide (((rd_T36 t150 x11_3).f0) < 10) = true := decide_eq_true c37; clear c37
                    by_cases c38 : (rd x146000_3.l (((rd_T36 t150 x11_3).f1) * 10 + ((rd_T36 t150 x11_3).f0))) < 0
                    ·rw [if_pos c38] at H
                     have c38b0 : decide ((rd x146000_3.l (((rd_T36 t150 x11_3).f1) * 10 + ((rd_T36 t150 x11_3).f0))) < 0) = true := decide_eq_true c38; clear c38
                     by_cases c39 : 0 ≤ x9_2
                     ·rw [if_pos c39] at H
                      have c39b0 : decide (0 ≤ x9_2) = true := decide_eq_true c39; clear c39
                      by_cases c40 : x9_2 < (x8_3.length : Int)
                      ·rw [if_pos c40] at H
                       have c40b0 : decide (x9_2 < (x8_3.length : Int)) = true := decide_eq_true c40; clear c40
                       by_cases c41 : 0 ≤ ((rd_T36 x8_3 x9_2).f1)
                       ·rw [if_pos c41] at H
                        have c41b0 : decide (0 ≤ ((rd_T36 x8_3 x9_2).f1)) = true := decide_eq_true c41; clear c41
                        by_cases c42 : ((rd_T36 x8_3 x9_2).f1) < 10
                        ·rw [if_pos c42] at H
                         have c42b0 : decide (((rd_T36 x8_3 x9_2).f1) < 10) = true := decide_eq_true c42; clear c42
                         by_cases c43 : 0 ≤ ((rd_T36 x8_3 x9_2).f0)
                         ·rw [if_pos c43] at H
                          have c43b0 : decide (0 ≤ ((rd_T36 x8_3 x9_2).f0)) = true := decide_eq_true c43; clear c43
                          by_cases c44 : ((rd_T36 x8_3 x9_2).f0) < 10
                          ·rw [if_pos c44] at H
                           have c44b0 : decide (((rd_T36 x8_3 x9_2).f0) < 10) = true := decide_eq_true c44; clear c44
                           by_cases c45 : x8_3.length < 70368744177664
                           ·rw [if_pos c45] at H
                            have LMc45 := Aside0.mk c45; clear c45; obtain ⟨y160, hy160⟩ : ∃ y_ : List (S36), y_ = (x8_3 ++ [(⟨(rd_T36 t150 x11_3).f0, (rd_T36 t150 x11_3).f1⟩ : S36)]) := ⟨_, rfl⟩
                            replace H : (spec_l01Steps.l3 k3 y160 x9_2 t150 (wrap64 (x11_3 + 1)) s0_0 s0_1 s0_2 (LA.set x146000_3 (((rd_T36 t150 x11_3).f1) * 10 + ((rd_T36 t150 x11_3).f0)) (wrap64 ((rd x146000_3.l (((rd_T36 x8_3 x9_2).f1) * 10 + ((rd_T36 x8_3 x9_2).f0))) + 1)))) = some r := by first | (rw [hy160]; with_reducible exact H) | (have H2_ := (Option.bind_some _ _).symm.trans H; rw [hy160]; with_reducible exact H2_) | (have H2_ := (Option.bind_some _ _).symm.trans H; with_reducible exact H2_) | with_reducible exact H | (rw [hy160]; exact H) | exact H
                            have Ny160 := Aside0.mk hy160; clear hy160; have H' := Aside0.mk H; clear H; obtain ⟨Ao46, co46, eo46⟩ := Kd.R_slice HO_10.out; subst eo46
                            try go_wp2
                            replace HO_8 := Aside0.mk (Kd.R_drew HO_8.out); replace HO_10 := Aside0.mk (Kd.R_drew HO_10.out); replace BK0 := Aside0.mk (blk_drew BK0.out); replace BK143 := Aside0.mk (blk_drew BK143.out); replace BK144 := Aside0.mk (blk_drew BK144.out); replace BK145 := Aside0.mk (blk_drew BK145.out); replace HB := Aside0.mk (below_drew1 HB.out); have p153 : 0 ≤ (x11_3 : Int) := oda; have q153 : x11_3 < (t150.length : Int) := oda; obtain ⟨ad153, e153, hx153_0, hx153_1⟩ := at_T36 (Kd.R_reads' HO_10.out).2.2 x11_3 p153 q153; cases e153; replace p153 := eq_true p153; replace q153 := eq_true q153; have p154 : 0 ≤ (x11_3 : Int) := oda; have q154 : x11_3 < (t150.length : Int) := oda; obtain ⟨ad154, e154, hx154_0, hx154_1⟩ := at_T36 (Kd.R_reads' HO_10.out).2.2 x11_3 p154 q154; obtain rfl : ad153 = ad154 := (by injection e154); replace p154 := eq_true p154; replace q154 := eq_true q154; have hpd48 : (0 ≤ ((rd_T36 t150 x11_3).f1)) = True := eq_true (by first | omega | exact oda); have hqd48 : (((rd_T36 t150 x11_3).f1) < 10) = True := eq_true (by first | omega | exact oda); have hrd48 : (((rd_T36 t150 x11_3).f1) < ((10 : Nat) : Int)) = True := eq_true (by first | omega | exact oda); have hpbd48 : (0 ≤ ((rd_T36 t150 x11_3).f0)) = True := eq_true (by first | omega | exact oda); have hqbd48 : (((rd_T36 t150 x11_3).f0) < 10) = True := eq_true (by first | omega | exact oda); have hrbd48 : (((rd_T36 t150 x11_3).f0) < ((10 : Nat) : Int)) = True := eq_true (by first | omega | exact oda)
                            refine start_ (n := 14) (S := fun w' => w'.cell? ⟨gb145, ((rd_T36 t150 x11_3).f1).toNat * 10 + ((rd_T36 t150 x11_3).f0).toNat, none⟩ = some (.int .i64 (rd x146000_3.l (((rd_T36 t150 x11_3).f1) * 10 + ((rd_T36 t150 x11_3).f0)))) ∧ w'.cell? (ad153.add ((x11_3).toNat * 2)) = some (.int .i8 ((rd_T36 t150 x11_3).f0)) ∧ w'.cell? ⟨(ad153.add ((x11_3).toNat * 2)).block, (ad153.add ((x11_3).toNat * 2)).off + 1, none⟩ = some (.int .i8 ((rd_T36 t150 x11_3).f1)) ∧ w'.cell? (ad153.add ((x11_3).toNat * 2)) = some (.int .i8 ((rd_T36 t150 x11_3).f0)) ∧ w'.cell? ⟨(ad153.add ((x11_3).toNat * 2)).block, (ad153.add ((x11_3).toNat * 2)).off + 1, none⟩ = some (.int .i8 ((rd_T36 t150 x11_3).f1))) (ds := []) (bA 14 0) (by kernel_rfl) rfl rfl ⟨mix_at2z 10 BK145.out ((rd_T36 t150 x11_3).f1) ((rd_T36 t150 x11_3).f0) (of_eq_true hpd48) (of_eq_true hpbd48) (by have := of_eq_true hqd48; have := of_eq_true hqbd48; omega), hx153_0, hx153_1, hx154_0, hx154_1⟩ (fun hHeld => ?_); refine with_tabW spec_l01Steps.tab18 spec_l01Steps.bits18 (fun HT_ HW_ => ?_)
                            generalize wr.drew = w47 at HO_8 HO_10 BK0 BK143 BK144 BK145 HB hx153_0 hx153_1 hx154_0 hx154_1 hHeld ⊢; refine pu 0 51 14 1 HT_ ?_; refine pu 1 52 14 3 HT_ ?_; refine pu 2 53 14 7 HT_ ?_; refine pu 3 54 14 15 HT_ ?_; refine pu 5 56 14 47 HT_ ?_; refine pu 6 57 14 111 HT_ ?_; refine pu 7 58 14 239 HT_ ?_; refine pu 8 59 14 495 HT_ ?_; refine tk 4 55 14 511 HT_ HW_ hHeld ?_; refine pu 10 61 14 1535 HT_ ?_; refine tk 9 60 14 2047 HT_ HW_ hHeld ?_; refine pu 11 62 14 4095 HT_ ?_; refine tk 12 63 14 8191 HT_ HW_ hHeld ?_; refine pu 13 64 14 16383 HT_ ?_; refine done_ (done_of HT_.out (by kernel_rfl)) ?_
                            try go_wp2
                            replace HO_8 := Aside0.mk (Kd.R_drew HO_8.out); replace HO_10 := Aside0.mk (Kd.R_drew HO_10.out); replace BK0 := Aside0.mk (blk_drew BK0.out); replace BK143 := Aside0.mk (blk_drew BK143.out); replace BK144 := Aside0.mk (blk_drew BK144.out); replace BK145 := Aside0.mk (blk_drew BK145.out); replace HB := Aside0.mk (below_drew1 HB.out); have p155 : 0 ≤ (x11_3 : Int) := oda; have q155 : x11_3 < (t150.length : Int) := oda; obtain ⟨ad155, e155, hx155_0, hx155_1⟩ := at_T36 (Kd.R_reads' HO_10.out).2.2 x11_3 p155 q155; obtain rfl : ad153 = ad155 := (by injection e155); replace p155 := eq_true p155; replace q155 := eq_true q155; have p156 : 0 ≤ (x11_3 : Int) := oda; have q156 : x11_3 < (t150.length : Int) := oda; obtain ⟨ad156, e156, hx156_0, hx156_1⟩ := at_T36 (Kd.R_reads' HO_10.out).2.2 x11_3 p156 q156; obtain rfl : ad153 = ad156 := (by injection e156); replace p156 := eq_true p156; replace q156 := eq_true q156; obtain ⟨Ao50, co50, eo50⟩ := Kd.R_slice HO_8.out; (first | subst eo50 | (injection eo50 with f1_ f2_ f3_; have f4_ := f1_.symm; have f5_ := f3_.symm; clear f1_ f2_ f3_; subst f4_; subst f5_)); have p157 : 0 ≤ (x9_2 : Int) := oda; have q157 : x9_2 < (x8_3.length : Int) := oda; obtain ⟨ad157, e157, hx157_0, hx157_1⟩ := at_T36 (Kd.R_reads' HO_8.out).2.2 x9_2 p157 q157; cases e157; replace p157 := eq_true p157; replace q157 := eq_true q157; have p158 : 0 ≤ (x9_2 : Int) := oda; have q158 : x9_2 < (x8_3.length : Int) := oda; obtain ⟨ad158, e158, hx158_0, hx158_1⟩ := at_T36 (Kd.R_reads' HO_8.out).2.2 x9_2 p158 q158; obtain rfl : ad157 = ad158 := (by injection e158); replace p158 := eq_true p158; replace q158 := eq_true q158; have hpd51 : (0 ≤ ((rd_T36 t150 x11_3).f1)) = True := eq_true (by first | omega | exact oda); have hqd51 : (((rd_T36 t150 x11_3).f1) < 10) = True := eq_true (by first | omega | exact oda); have hrd51 : (((rd_T36 t150 x11_3).f1) < ((10 : Nat) : Int)) = True := eq_true (by first | omega | exact oda); have hpbd51 : (0 ≤ ((rd_T36 t150 x11_3).f0)) = True := eq_true (by first | omega | exact oda); have hqbd51 : (((rd_T36 t150 x11_3).f0) < 10) = True := eq_true (by first | omega | exact oda); have hrbd51 : (((rd_T36 t150 x11_3).f0) < ((10 : Nat) : Int)) = True := eq_true (by first | omega | exact oda); have hpd53 : (0 ≤ ((rd_T36 x8_3 x9_2).f1)) = True := eq_true (by first | omega | exact oda); have hqd53 : (((rd_T36 x8_3 x9_2).f1) < 10) = True := eq_true (by first | omega | exact oda); have hrd53 : (((rd_T36 x8_3 x9_2).f1) < ((10 : Nat) : Int)) = True := eq_true (by first | omega | exact oda); have hpbd53 : (0 ≤ ((rd_T36 x8_3 x9_2).f0)) = True := eq_true (by first | omega | exact oda); have hqbd53 : (((rd_T36 x8_3 x9_2).f0) < 10) = True := eq_true (by first | omega | exact oda); have hrbd53 : (((rd_T36 x8_3 x9_2).f0) < ((10 : Nat) : Int)) = True := eq_true (by first | omega | exact oda)
                            refine start_ (n := 27) (S := fun w' => w'.cell? ⟨gb145, ((rd_T36 x8_3 x9_2).f1).toNat * 10 + ((rd_T36 x8_3 x9_2).f0).toNat, none⟩ = some (.int .i64 (rd x146000_3.l (((rd_T36 x8_3 x9_2).f1) * 10 + ((rd_T36 x8_3 x9_2).f0)))) ∧ w'.cell? (ad153.add ((x11_3).toNat * 2)) = some (.int .i8 ((rd_T36 t150 x11_3).f0)) ∧ w'.cell? ⟨(ad153.add ((x11_3).toNat * 2)).block, (ad153.add ((x11_3).toNat * 2)).off + 1, none⟩ = some (.int .i8 ((rd_T36 t150 x11_3).f1)) ∧ w'.cell? (ad153.add ((x11_3).toNat * 2)) = some (.int .i8 ((rd_T36 t150 x11_3).f0)) ∧ w'.cell? ⟨(ad153.add ((x11_3).toNat * 2)).block, (ad153.add ((x11_3).toNat * 2)).off + 1, none⟩ = some (.int .i8 ((rd_T36 t150 x11_3).f1)) ∧ w'.cell? (ad157.add ((x9_2).toNat * 2)) = some (.int .i8 ((rd_T36 x8_3 x9_2).f0)) ∧ w'.cell? ⟨(ad157.add ((x9_2).toNat * 2)).block, (ad157.add ((x9_2).toNat * 2)).off + 1, none⟩ = some (.int .i8 ((rd_T36 x8_3 x9_2).f1)) ∧ w'.cell? (ad157.add ((x9_2).toNat * 2)) = some (.int .i8 ((rd_T36 x8_3 x9_2).f0)) ∧ w'.cell? ⟨(ad157.add ((x9_2).toNat * 2)).block, (ad157.add ((x9_2).toNat * 2)).off + 1, none⟩ = some (.int .i8 ((rd_T36 x8_3 x9_2).f1))) (ds := [26]) (bA 27 0) (by kernel_rfl) rfl rfl ⟨mix_at2z 10 BK145.out ((rd_T36 x8_3 x9_2).f1) ((rd_T36 x8_3 x9_2).f0) (of_eq_true hpd53) (of_eq_true hpbd53) (by have := of_eq_true hqd53; have := of_eq_true hqbd53; omega), hx155_0, hx155_1, hx156_0, hx156_1, hx157_0, hx157_1, hx158_0, hx158_1⟩ (fun hHeld => ?_); refine with_tabW spec_l01Steps.tab19 spec_l01Steps.bits19 (fun HT_ HW_ => ?_)
                            generalize w47.drew = w49 at HO_8 HO_10 BK0 BK143 BK144 BK145 HB hx155_0 hx155_1 hx156_0 hx156_1 hx157_0 hx157_1 hx158_0 hx158_1 hHeld ⊢; refine pu 0 65 27 1 HT_ ?_; refine pu 1 66 27 3 HT_ ?_; refine pu 2 67 27 7 HT_ ?_; refine pu 3 68 27 15 HT_ ?_; refine pu 5 70 27 47 HT_ ?_; refine pu 6 71 27 111 HT_ ?_; refine pu 7 72 27 239 HT_ ?_; refine pu 8 73 27 495 HT_ ?_; refine pu 10 75 27 1519 HT_ ?_; refine pu 11 76 27 3567 HT_ ?_; refine pu 12 77 27 7663 HT_ ?_; refine pu 13 78 27 15855 HT_ ?_; refine pu 15 80 27 48623 HT_ ?_; refine pu 16 81 27 114159 HT_ ?_; refine pu 17 82 27 245231 HT_ ?_; refine pu 18 83 27 507375 HT_ ?_; refine take_ (i := 4) (N := some 69) (v := ?_) (a' := ?_) (bA 27 507391) rfl rfl (take_ofW HT_.out HW_.out (by kernel_rfl)) (fun _ _ _ h => h) (Or.inl ⟨by rfl, ?_⟩) hHeld ?_ ?_; rotate_left
                            ·rintro w' ⟨s0, s1, s2, s3, s4, s5, s6, s7, s8⟩
                             go_simp; with_reducible rfl
                            rotate_left
                            ·simp only [Act.put, List.setIfInBounds_toArray, List.set_cons_zero, List.set_cons_succ, i64_w, i32_w]
                             rfl
                            refine pu 24 89 27 17284607 HT_ ?_; refine take_ (i := 9) (N := some 74) (v := ?_) (a' := ?_) (bA 27 17285119) rfl rfl (take_ofW HT_.out HW_.out (by kernel_rfl)) (fun _ _ _ h => h) (Or.inl ⟨by rfl, ?_⟩) hHeld ?_ ?_; rotate_left
                            ·rintro w' ⟨s0, s1, s2, s3, s4, s5, s6, s7, s8⟩
                             go_simp; with_reducible rfl
                            rotate_left
                            ·simp only [Act.put, List.setIfInBounds_toArray, List.set_cons_zero, List.set_cons_succ, i64_w, i32_w]
                             rfl
                            refine take_ (i := 14) (N := some 79) (v := ?_) (a' := ?_) (bA 27 17301503) rfl rfl (take_ofW HT_.out HW_.out (by kernel_rfl)) (fun _ _ _ h => h) (Or.inl ⟨by rfl, ?_⟩) hHeld ?_ ?_; rotate_left
                            ·rintro w' ⟨s0, s1, s2, s3, s4, s5, s6, s7, s8⟩
                             go_simp; with_reducible rfl
                            rotate_left
                            ·simp only [Act.put, List.setIfInBounds_toArray, List.set_cons_zero, List.set_cons_succ, i64_w, i32_w]
                             rfl
                            refine pu 20 85 27 18350079 HT_ ?_; refine take_ (i := 19) (N := some 84) (v := ?_) (a' := ?_) (bA 27 18874367) rfl rfl (take_ofW HT_.out HW_.out (by kernel_rfl)) (fun _ _ _ h => h) (Or.inl ⟨by rfl, ?_⟩) hHeld ?_ ?_; rotate_left
                            ·rintro w' ⟨s0, s1, s2, s3, s4, s5, s6, s7, s8⟩
                             go_simp; with_reducible rfl
                            rotate_left
                            ·simp only [Act.put, List.setIfInBounds_toArray, List.set_cons_zero, List.set_cons_succ, i64_w, i32_w]
                             rfl
                            refine pu 21 86 27 20971519 HT_ ?_; refine take_ (i := 22) (N := some 87) (v := ?_) (a' := ?_) (bA 27 25165823) rfl rfl (take_ofW HT_.out HW_.out (by kernel_rfl)) (fun _ _ _ h => h) (Or.inl ⟨by rfl, ?_⟩) hHeld ?_ ?_; rotate_left
                            ·rintro w' ⟨s0, s1, s2, s3, s4, s5, s6, s7, s8⟩
                             go_simp; with_reducible rfl
                            rotate_left
                            ·simp only [Act.put, List.setIfInBounds_toArray, List.set_cons_zero, List.set_cons_succ, i64_w, i32_w]
                             rfl
                            refine pu 23 88 27 33554431 HT_ ?_; refine pu 25 90 27 67108863 HT_ ?_; refine last_ (i := 26) (N := none) (bA 27 134217727) rfl rfl (one_of HT_.out (by kernel_rfl)) (by decide) (fun K hK => ?_); have hdd51 : w49.cell? ⟨gb145, ((rd_T36 t150 x11_3).f1).toNat * 10 + ((rd_T36 t150 x11_3).f0).toNat, none⟩ = some (.int .i64 (rd x146000_3.l (((rd_T36 t150 x11_3).f1) * 10 + ((rd_T36 t150 x11_3).f0)))) := mix_at2z 10 BK145.out ((rd_T36 t150 x11_3).f1) ((rd_T36 t150 x11_3).f0) (of_eq_true hpd51) (of_eq_true hpbd51) (by have := of_eq_true hqd51; have := of_eq_true hqbd51; omega); have hfdd51 := blk_frozen BK145.out (((rd_T36 t150 x11_3).f1).toNat * 10 + ((rd_T36 t150 x11_3).f0).toNat)
                            refine storel_step (w1 := (w49.setCell ⟨gb145, ((rd_T36 t150 x11_3).f1).toNat * 10 + ((rd_T36 t150 x11_3).f0).toNat, none⟩ (.int .i64 (wrap64 ((rd x146000_3.l (((rd_T36 x8_3 x9_2).f1) * 10 + ((rd_T36 x8_3 x9_2).f0))) + 1))))) ?hg ?hn ?hr ?_; (case hg => rfl); (case hn => rfl); (case hr => first | (go_simp; done) | (go_simp; rfl))
                            intro w52 hw; have hi : w52.heap[gb145]? = some (.cells (mixA (Value.int .i64) [] (LA.set x146000_3 (((rd_T36 t150 x11_3).f1) * 10 + ((rd_T36 t150 x11_3).f0)) (wrap64 ((rd x146000_3.l (((rd_T36 x8_3 x9_2).f1) * 10 + ((rd_T36 x8_3 x9_2).f0))) + 1)))) 94 (0, 0)) := (by rw [hw]; exact mix_set2z 10 BK145.out ((rd_T36 t150 x11_3).f1) ((rd_T36 t150 x11_3).f0) (wrap64 ((rd x146000_3.l (((rd_T36 x8_3 x9_2).f1) * 10 + ((rd_T36 x8_3 x9_2).f0))) + 1)) (of_eq_true hpd51) (of_eq_true hpbd51) (by have := of_eq_true hqd51; have := of_eq_true hqbd51; omega)); have hk : KeepBut w49 w52 gb145 none := (by rw [hw]; exact setcell_keep _ _ _ _); have hbl : ∀ B_ a_, Below B_ a_ w49 → B_ ≤ gb145 → Below B_ a_ w52 := (by rw [hw]; exact setcell_below _ _ _ _); clear hw; replace HO_8 := Aside0.mk (Kd.R_mono (Kd.R_keep (Kd.R_types (by (with_reducible repeat (first | apply Kd.R_alloc | apply Kd.R_drewN | apply Kd.R_drew)); exact HO_8.out) (pk BK145) (by decide)) hk (fun _ h => h.2)) (fun _ h => h.1)); replace HO_10 := Aside0.mk (Kd.R_mono (Kd.R_keep (Kd.R_types (by (with_reducible repeat (first | apply Kd.R_alloc | apply Kd.R_drewN | apply Kd.R_drew)); exact HO_10.out) (pk BK145) (by decide)) hk (fun _ h => h.2)) (fun _ h => h.1)); replace BK0 := Aside0.mk (KeepBut.blk hk (g' := g0) (o := .cells (mixA (Value.int .u16) [.int .i8 s0_0, .int .i8 s0_1] s0_2) 34 (0, 0)) (pk BK0) NB0_145.out (by simp)); replace BK143 := Aside0.mk (KeepBut.blk hk (g' := gb143) (o := .cells #[.int .i8 a1_0, .int .i8 a1_1] 36 (0, 0)) (pk BK143) NB143_145.out (by simp)); replace BK144 := Aside0.mk (KeepBut.blk hk (g' := gb144) (o := .cells (mixA (Value.int .i64) [] (LA.zero 100)) 94 (0, 0)) (pk BK144) NB144_145.out (by simp)); replace HB := Aside0.mk (hbl _ _ (pbs HB) GE145.out); replace BK145 := Aside0.mk (hi); clear hi hk hbl; refine hK.out _ _ ?_; clear hK K; refine done_ (done_of HT_.out (by kernel_rfl)) ?_; have p159 : 0 ≤ (x11_3 : Int) := oda; have q159 : x11_3 < (t150.length : Int) := oda; obtain ⟨ad159, e159, hx159_0, hx159_1⟩ := at_T36 (Kd.R_reads' HO_10.out).2.2 x11_3 p159 q159; obtain rfl : ad153 = ad159 := (by injection e159); replace p159 := eq_true p159; replace q159 := eq_true q159
                            try go_wp2_with (first | ((with_reducible refine gate_builtin (b := .append) (xs := #[.tmp 91, .tmp 96]) rfl ?_); at_builtin; refine Kd.R_append k36 (w0 := w) w.heap.size rfl (.tmp 91) (.tmp 96) 38 36 (.agg #[(.int .i8 0), (.int .i8 0)]) 2 rfl Try.underlying38 info36 rfl (by decide) (by omega) (.slice (some ad157) x8_3.length co50) x8_3 (⟨(rd_T36 t150 x11_3).f0, (rd_T36 t150 x11_3).f1⟩ : S36) [.int .i8 ((rd_T36 t150 x11_3).f0), .int .i8 ((rd_T36 t150 x11_3).f1)] (fun k_ => some k_ ≠ (.slice (some ad153) t150.length co46 : Value).ownBlock ∧ k_ ≠ gb143) (fun _ => False) rfl rfl ?aP (fun _ hk => hk.elim) ?aF ?aO ?aB ?aS ?aL ?_; (case aP => exact k36_mkM _ _ _ (⟨(rd_T36 t150 x11_3).f0, (rd_T36 t150 x11_3).f1⟩ : S36)); (case aB => exact (pbs HB)); (case aF => exact (fun k_ hk => ⟨Kd.fresh' (Kd.R_lt (by (with_reducible repeat (first | apply Kd.R_alloc | apply Kd.R_drewN | apply Kd.R_drew)); exact HO_10.out)) k_ hk, Kd.freshB (g := gb143) (o := .cells #[.int .i8 a1_0, .int .i8 a1_1] 36 (0, 0)) (pk BK143) k_ hk⟩)); (case aO => exact (by (with_reducible repeat (first | apply Kd.R_alloc | apply Kd.R_drewN | apply Kd.R_drew)); exact HO_8.out)); (case aS => exact (below_size (by repeat (first | (with_reducible first | exact HB.out | apply below_alloc | apply pw_below_drewN | apply below_drew1 | refine below_set ?_ GE0.out | refine below_set ?_ GE143.out | refine below_set ?_ GE144.out | refine below_set ?_ GE145.out) | exact HB.out)))); (case aL => have := LMc45.out; omega); intro v161 w54 ho hb hg hat; rw [← Ny160.out] at ho; have n0_ := Aside0.mk (Kd.R_after (ok := (fun k_ => k_ ≠ gb143)) (by (with_reducible repeat (first | apply Kd.R_alloc | apply Kd.R_drewN | apply Kd.R_drew)); exact Kd.R_mono HO_10.out (fun _ hk => ⟨hk.2, hk.1⟩)) hg hat); have n1_ := Aside0.mk (blk_grown (g := g0) (o := .cells (mixA (Value.int .u16) [.int .i8 s0_0, .int .i8 s0_1] s0_2) 34 (0, 0)) (pk BK0) hg (Kd.R_ne HO_8.out BK0.out (by decide))); have n2_ := Aside0.mk (blk_grown (g := gb143) (o := .cells #[.int .i8 a1_0, .int .i8 a1_1] 36 (0, 0)) (pk BK143) hg (Kd.R_away HO_8.out (fun _ hk => hk.2))); have n3_ := Aside0.mk (blk_grown (g := gb144) (o := .cells (mixA (Value.int .i64) [] (LA.zero 100)) 94 (0, 0)) (pk BK144) hg (Kd.R_ne HO_8.out BK144.out (by decide))); have n4_ := Aside0.mk (blk_grown (g := gb145) (o := .cells (mixA (Value.int .i64) [] (LA.set x146000_3 (((rd_T36 t150 x11_3).f1) * 10 + ((rd_T36 t150 x11_3).f0)) (wrap64 ((rd x146000_3.l (((rd_T36 x8_3 x9_2).f1) * 10 + ((rd_T36 x8_3 x9_2).f0))) + 1)))) 94 (0, 0)) (pk BK145) hg (Kd.R_ne HO_8.out BK145.out (by decide))); have n5_ := Aside0.mk (hb); have n6_ := Aside0.mk (ho); clear HO_10; clear BK0; clear BK143; clear BK144; clear BK145; clear HB; clear HO_8; have HO_10 := n0_; have BK0 := n1_; have BK143 := n2_; have BK144 := n3_; have BK145 := n4_; have HB := n5_; have HO162 := n6_; clear n0_ n1_ n2_ n3_ n4_ n5_ n6_; clear ho hb hg hat))
                            go_roundg k3
                            case measure => have := HK1.out; have := HK2.out; have := HK3.out; omega
                            case rel => exact ⟨(y160), (wrap64 (x11_3 + 1)), ((LA.set x146000_3 (((rd_T36 t150 x11_3).f1) * 10 + ((rd_T36 t150 x11_3).f0)) (wrap64 ((rd x146000_3.l (((rd_T36 x8_3 x9_2).f1) * 10 + ((rd_T36 x8_3 x9_2).f0))) + 1)))), (by first | rfl | (simp; done) | (simp [*]; done)), H', ⟨by have := HK1.out; have := HK2.out; have := HK3.out; omega⟩, ⟨by (with_reducible repeat (first | apply Kd.R_alloc | apply Kd.R_drewN | apply Kd.R_drew)); exact HO162.out⟩, ⟨by (with_reducible repeat (first | apply Kd.R_alloc | apply Kd.R_drewN | apply Kd.R_drew)); exact Kd.R_mono HO_10.out (fun _ hk => ⟨hk.2, hk.1⟩)⟩, ⟨pk BK0⟩, ⟨pk BK143⟩, ⟨pk BK144⟩, ⟨pk BK145⟩, ⟨pbs HB⟩⟩
                           ·rw [if_neg c45] at H
                            exact absurd H (by simp)
                          ·rw [if_neg c44] at H
                           exact absurd H (by simp)
                         ·rw [if_neg c43] at H
                          exact absurd H (by simp)
                        ·rw [if_neg c42] at H
                         exact absurd H (by simp)
                       ·rw [if_neg c41] at H
                        exact absurd H (by simp)
                      ·rw [if_neg c40] at H
                       exact absurd H (by simp)
                     ·rw [if_neg c39] at H
                      exact absurd H (by simp)
                    ·rw [if_neg c38] at H
                     have c38b0 : decide ((rd x146000_3.l (((rd_T36 t150 x11_3).f1) * 10 + ((rd_T36 t150 x11_3).f0))) < 0) = false := decide_eq_false c38; clear c38; have H' := Aside0.mk H; clear H; obtain ⟨Ao55, co55, eo55⟩ := Kd.R_slice HO_10.out; subst eo55
                     try go_wp2
                     replace HO_8 := Aside0.mk (Kd.R_drew HO_8.out); replace HO_10 := Aside0.mk (Kd.R_drew HO_10.out); replace BK0 := Aside0.mk (blk_drew BK0.out); replace BK143 := Aside0.mk (blk_drew BK143.out); replace BK144 := Aside0.mk (blk_drew BK144.out); replace BK145 := Aside0.mk (blk_drew BK145.out); replace HB := Aside0.mk (below_drew1 HB.out); have p153 : 0 ≤ (x11_3 : Int) := oda; have q153 : x11_3 < (t150.length : Int) := oda; obtain ⟨ad153, e153, hx153_0, hx153_1⟩ := at_T36 (Kd.R_reads' HO_10.out).2.2 x11_3 p153 q153; cases e153; replace p153 := eq_true p153; replace q153 := eq_true q153; have p154 : 0 ≤ (x11_3 : Int) := oda; have q154 : x11_3 < (t150.length : Int) := oda; obtain ⟨ad154, e154, hx154_0, hx154_1⟩ := at_T36 (Kd.R_reads' HO_10.out).2.2 x11_3 p154 q154; obtain rfl : ad153 = ad154 := (by injection e154); replace p154 := eq_true p154; replace q154 := eq_true q154; have hpd57 : (0 ≤ ((rd_T36 t150 x11_3).f1)) = True := eq_true (by first | omega | exact oda); have hqd57 : (((rd_T36 t150 x11_3).f1) < 10) = True := eq_true (by first | omega | exact oda); have hrd57 : (((rd_T36 t150 x11_3).f1) < ((10 : Nat) : Int)) = True := eq_true (by first | omega | exact oda); have hpbd57 : (0 ≤ ((rd_T36 t150 x11_3).f0)) = True := eq_true (by first | omega | exact oda); have hqbd57 : (((rd_T36 t150 x11_3).f0) < 10) = True := eq_true (by first | omega | exact oda); have hrbd57 : (((rd_T36 t150 x11_3).f0) < ((10 : Nat) : Int)) = True := eq_true (by first | omega | exact oda)
                     refine start_ (n := 14) (S := fun w' => w'.cell? ⟨gb145, ((rd_T36 t150 x11_3).f1).toNat * 10 + ((rd_T36 t150 x11_3).f0).toNat, none⟩ = some (.int .i64 (rd x146000_3.l (((rd_T36 t150 x11_3).f1) * 10 + ((rd_T36 t150 x11_3).f0)))) ∧ w'.cell? (ad153.add ((x11_3).toNat * 2)) = some (.int .i8 ((rd_T36 t150 x11_3).f0)) ∧ w'.cell? ⟨(ad153.add ((x11_3).toNat * 2)).block, (ad153.add ((x11_3).toNat * 2)).off + 1, none⟩ = some (.int .i8 ((rd_T36 t150 x11_3).f1)) ∧ w'.cell? (ad153.add ((x11_3).toNat * 2)) = some (.int .i8 ((rd_T36 t150 x11_3).f0)) ∧ w'.cell? ⟨(ad153.add ((x11_3).toNat * 2)).block, (ad153.add ((x11_3).toNat * 2)).off + 1, none⟩ = some (.int .i8 ((rd_T36 t150 x11_3).f1))) (ds := []) (bA 14 0) (by kernel_rfl) rfl rfl ⟨mix_at2z 10 BK145.out ((rd_T36 t150 x11_3).f1) ((rd_T36 t150 x11_3).f0) (of_eq_true hpd57) (of_eq_true hpbd57) (by have := of_eq_true hqd57; have := of_eq_true hqbd57; omega), hx153_0, hx153_1, hx154_0, hx154_1⟩ (fun hHeld => ?_); refine with_tabW spec_l01Steps.tab18 spec_l01Steps.bits18 (fun HT_ HW_ => ?_)
                     generalize wr.drew = w56 at HO_8 HO_10 BK0 BK143 BK144 BK145 HB hx153_0 hx153_1 hx154_0 hx154_1 hHeld ⊢; refine pu 0 51 14 1 HT_ ?_; refine pu 1 52 14 3 HT_ ?_; refine pu 2 53 14 7 HT_ ?_; refine pu 3 54 14 15 HT_ ?_; refine pu 5 56 14 47 HT_ ?_; refine pu 6 57 14 111 HT_ ?_; refine pu 7 58 14 239 HT_ ?_; refine pu 8 59 14 495 HT_ ?_; refine tk 4 55 14 511 HT_ HW_ hHeld ?_; refine pu 10 61 14 1535 HT_ ?_; refine tk 9 60 14 2047 HT_ HW_ hHeld ?_; refine pu 11 62 14 4095 HT_ ?_; refine tk 12 63 14 8191 HT_ HW_ hHeld ?_; refine pu 13 64 14 16383 HT_ ?_; refine done_ (done_of HT_.out (by kernel_rfl)) ?_
                     try go_wp2
                     go_roundg k3
                     case measure => have := HK1.out; have := HK2.out; have := HK3.out; omega
                     case rel => exact ⟨(x8_3), (wrap64 (x11_3 + 1)), (x146000_3), (by first | rfl | (simp; done) | (simp [*]; done)), H', ⟨by have := HK1.out; have := HK2.out; have := HK3.out; omega⟩, ⟨by (with_reducible repeat (first | apply Kd.R_alloc | apply Kd.R_drewN | apply Kd.R_drew)); exact HO_8.out⟩, ⟨by (with_reducible repeat (first | apply Kd.R_alloc | apply Kd.R_drewN | apply Kd.R_drew)); exact HO_10.out⟩, ⟨pk BK0⟩, ⟨pk BK143⟩, ⟨pk BK144⟩, ⟨pk BK145⟩, ⟨pbs HB⟩⟩
                   ·rw [if_neg c37] at H
                    exact absurd H (by simp)
                  ·rw [if_neg c36] at H
                   exact absurd H (by simp)
                 ·rw [if_neg c35] at H
                  exact absurd H (by simp)
                ·rw [if_neg c34] at H
                 exact absurd H (by simp)
               ·rw [if_neg c33] at H
                exact absurd H (by simp)
              ·rw [if_neg c32] at H
               have c32b0 : decide (x11_3 < (t150.length : Int)) = false := decide_eq_false c32; clear c32; have H' := Aside0.mk H; clear H; obtain ⟨Ao58, co58, eo58⟩ := Kd.R_slice HO_10.out; subst eo58
               go_wp2
               go_roundg k3
               case measure => have := HK1.out; have := HK2.out; have := HK3.out; omega
               case rel => exact ⟨(x8_3), (wrap64 (x9_2 + 1)), (x146000_3), (by first | rfl | (simp; done) | (simp [*]; done)), H', ⟨by have := HK1.out; have := HK2.out; have := HK3.out; omega⟩, ⟨by (with_reducible repeat (first | apply Kd.R_alloc | apply Kd.R_drewN | apply Kd.R_drew)); exact Kd.R_mono HO_8.out (fun _ hk => hk.2)⟩, ⟨pk BK0⟩, ⟨pk BK143⟩, ⟨pk BK144⟩, ⟨pk BK145⟩, ⟨pbs HB⟩⟩
           ·rw [if_neg c28] at H
            exact absurd H (by simp)
          ·rw [if_neg c27] at H
           have c27b0 : decide (x9_2 < (x8_2.length : Int)) = false := decide_eq_false c27; clear c27; obtain rfl := Option.some.inj H; obtain ⟨Ao59, co59, eo59⟩ := Kd.R_slice HO_8.out; subst eo59
           go_wp2_with (first | ((with_reducible refine gate_dst (N := 98) rfl ?_); refine wpList_run0 (v := .agg (mixA (Value.int .i64) [] x146000_2)) rfl (load_mix_run (P := Try.prog) 94 (.tmp 5) rfl gb145 rfl (show World.rangeAt _ gb145 0 ([] ++ x146000_2.l.map (Value.int .i64)) from mix_range (show (World.heap _)[gb145]? = some (.cells (mixA (Value.int .i64) [] x146000_2) 94 (0, 0)) from by (with_reducible repeat (first | refine blk_drewN ?_ _ | refine blk_drew ?_ | refine blk_alloc ?_ _)); exact BK145.out)) Try.underlying94 rfl (by kernel_rfl) rfl) ?_) | ((with_reducible refine gate_store (p := 4) rfl ?_); refine wpList_store_lmix rfl 94 _ _ rfl gb144 (e := (Value.int .i64)) (cs' := []) (W' := x146000_2) (cs := []) (W := (LA.zero 100)) (T := 94) rfl rfl (pk BK144) rfl (by kernel_rfl) rfl (fun _ => rfl) rfl ?_; intro w61 hi hk hbl; replace HO_8 := Aside0.mk (Kd.R_mono (Kd.R_keep (Kd.R_types (by (with_reducible repeat (first | apply Kd.R_alloc | apply Kd.R_drewN | apply Kd.R_drew)); exact HO_8.out) (pk BK144) (by decide)) hk (fun _ h => h.2)) (fun _ h => h.1)); replace BK0 := Aside0.mk (KeepBut.blk hk (g' := g0) (o := .cells (mixA (Value.int .u16) [.int .i8 s0_0, .int .i8 s0_1] s0_2) 34 (0, 0)) (pk BK0) NB0_144.out (by simp)); replace BK143 := Aside0.mk (KeepBut.blk hk (g' := gb143) (o := .cells #[.int .i8 a1_0, .int .i8 a1_1] 36 (0, 0)) (pk BK143) NB143_144.out (by simp)); replace BK145 := Aside0.mk (KeepBut.blk hk (g' := gb145) (o := .cells (mixA (Value.int .i64) [] x146000_2) 94 (0, 0)) (pk BK145) NB145_144.out (by simp)); replace HB := Aside0.mk (hbl _ _ (pbs HB) GE144.out); replace BK144 := Aside0.mk (hi); clear hi hk hbl))
           refine bodyPost_ret (results_cell_row rfl _ _ gb144 94 (mixA (Value.int .i64) [] x146000_2) (0, 0) _ rfl (pk BK144) Try.underlying94 rfl (by rw [mix_size]; kernel_rfl)) rfl ?_; exact ⟨by first | rfl | (simp [errW_none, errW_some] <;> rfl) | (simp [*, errW_none, errW_some] <;> rfl), pbs HB⟩
       ·rw [if_neg c17] at H
        exact absurd H (by simp)
      ·rw [if_neg c16] at H
       exact absurd H (by simp)
     ·rw [if_neg c15] at H
      exact absurd H (by simp)
    ·rw [if_neg c14] at H
     exact absurd H (by simp)
end Go.Proofs.Ytanobaoaelhebaa.PB
end
section
namespace Go.Proofs.Ytanobaoaelhebaa.PB
open Go.RowKit Go.Proofs.YtanobaoaelhebaaW.PrintWords Go.Proofs.YtanobaoaelhebaaW.PrintLast Go.Proofs.YtanobaoaelhebaaW.PrintMore Go.Proofs.Ytanobaoaelhebaa.La Go.Proofs.Ytanobaoaelhebaa.Mp
attribute [local go_sem] max2_int min2_int max_two min_two max_three min_three max_four min_four   -- for this text's walks alone
set_option linter.unusedVariables false
set_option linter.unusedSimpArgs false
mutual
def spec_l01Ok.j0 : Nat → Bool → Int → Int → LA 10 → Option (Bool)
 | 0, _, _, _, _ => none
 | k + 1, x19, x1000, x1001, x1002 => if x19 = true then (some false) else (spec_l01Ok.l0 k 0 x1000 x1001 x1002)
def spec_l01Ok.l0 : Nat → Int → Int → Int → LA 10 → Option (Bool)
 | 0, _, _, _, _ => none
 | k + 1, x3, x1000, x1001, x1002 => if x3 < 10 then (if 0 ≤ x3 then (if 0 ≤ (IntKind.u64.wrap (x1000)) then (if (shr .u16 (rd x1002.l x3) (IntKind.u64.wrap (x1000))) = 0 then (if x3 ≥ (wrap64 (x1001)) then (if (rd x1002.l x3) = 0 then (spec_l01Ok.l0 k (wrap64 (x3 + 1)) x1000 x1001 x1002) else (some false)) else (spec_l01Ok.l0 k (wrap64 (x3 + 1)) x1000 x1001 x1002)) else (some false)) else (none)) else (none)) else (some true)
end
def spec_l01Ok.f (k : Nat) (s0_0 : Int) (s0_1 : Int) (s0_2 : LA 10) : Option (Bool) := (spec_l00In.f (wrap64 (s0_0)) 1 10).bind fun t163 => (if t163 = true then ((spec_l00In.f (wrap64 (s0_1)) 1 10).bind fun t164 => (spec_l01Ok.j0 k (!t164) s0_0 s0_1 s0_2)) else (spec_l01Ok.j0 k true s0_0 s0_1 s0_2))
theorem spec_l01Ok.mono_l : ∀ k, (∀ y0 y1 y2 y3, LeO (spec_l01Ok.j0 k y0 y1 y2 y3) (spec_l01Ok.j0 (k + 1) y0 y1 y2 y3)) ∧ (∀ y0 y1 y2 y3, LeO (spec_l01Ok.l0 k y0 y1 y2 y3) (spec_l01Ok.l0 (k + 1) y0 y1 y2 y3))
 | 0 => ⟨fun _ _ _ _ r h => by simp [spec_l01Ok.j0] at h, fun _ _ _ _ r h => by simp [spec_l01Ok.l0] at h⟩
 | k + 1 => by
  obtain ⟨ih0, ih1⟩ := spec_l01Ok.mono_l k; refine ⟨?_, ?_⟩
  ·intro y0 y1 y2 y3
   unfold spec_l01Ok.j0
   repeat' first
   | (with_reducible exact ih0 _ _ _ _)
   | (with_reducible exact ih1 _ _ _ _)
   | (with_reducible exact LeO.refl _)
   | (with_reducible exact LeO.none _)
   | (with_reducible refine LeO.ite ?_ ?_)
   | (with_reducible refine LeO.bind ?_ (fun _ => ?_))
   | exact ih0 _ _ _ _
   | exact ih1 _ _ _ _
   | exact LeO.none _
   | refine LeO.ite ?_ ?_
   | refine LeO.bind ?_ (fun _ => ?_)
  ·intro y0 y1 y2 y3
   unfold spec_l01Ok.l0
   repeat' first
   | (with_reducible exact ih0 _ _ _ _)
   | (with_reducible exact ih1 _ _ _ _)
   | (with_reducible exact LeO.refl _)
   | (with_reducible exact LeO.none _)
   | (with_reducible refine LeO.ite ?_ ?_)
   | (with_reducible refine LeO.bind ?_ (fun _ => ?_))
   | exact ih0 _ _ _ _
   | exact ih1 _ _ _ _
   | exact LeO.none _
   | refine LeO.ite ?_ ?_
   | refine LeO.bind ?_ (fun _ => ?_)
theorem spec_l01Ok.mono : ∀ a0 a1 a2 k, LeO (spec_l01Ok.f k a0 a1 a2) (spec_l01Ok.f (k + 1) a0 a1 a2) := by
 intro a0 a1 a2 k
 obtain ⟨ih0, ih1⟩ := spec_l01Ok.mono_l k
 unfold spec_l01Ok.f
 repeat' first
   | (with_reducible exact ih0 _ _ _ _)
   | (with_reducible exact ih1 _ _ _ _)
   | (with_reducible exact LeO.refl _)
   | (with_reducible exact LeO.none _)
   | (with_reducible refine LeO.ite ?_ ?_)
   | (with_reducible refine LeO.bind ?_ (fun _ => ?_))
   | exact ih0 _ _ _ _
   | exact ih1 _ _ _ _
   | exact LeO.none _
   | refine LeO.ite ?_ ?_
   | refine LeO.bind ?_ (fun _ => ?_)
set_option maxHeartbeats 8000000 in
set_option maxRecDepth 100000 in
theorem spec_l01Ok.calls (k : Nat) (g0 : Nat) (s0_0 : Int) (s0_1 : Int) (s0_2 : LA 10) (r : Bool) (w : World) (hb0 : w.heap[g0]? = some (.cells (mixA (Value.int .u16) [.int .i8 s0_0, .int .i8 s0_1] s0_2) 34 (0, 0))) (h : spec_l01Ok.f k s0_0 s0_1 s0_2 = some r) :
  Calls Try.prog 94 #[.pointer (some ⟨g0, 0, none⟩)] w fun e w' => e = .returned (.bool r) ∧ Below w.heap.size w w' := by
 have BK0 := Aside0.mk hb0
 clear hb0
 have HB := Aside0.mk (Below.refl w.heap.size w)
 have H : ((spec_l00In.f (wrap64 (s0_0)) 1 10).bind fun t163 => (if t163 = true then ((spec_l00In.f (wrap64 (s0_1)) 1 10).bind fun t164 => (spec_l01Ok.j0 k (!t164) s0_0 s0_1 s0_2)) else (spec_l01Ok.j0 k true s0_0 s0_1 s0_2))) = some r := h
 clear h
 have HC2 := Aside0.mk H
 clear H
 go_enter Try.func94, Try.ntmps94
 go_upto_region 1 with (fail)
 repeat (go_quiet (fail); go_upto_region 1 with (fail))
 go_cut [19] (fun v19 wc => ∃ (kq : Nat) (x19_1 : Bool), v19 = .bool x19_1 ∧ Aside0 (spec_l01Ok.j0 kq x19_1 s0_0 s0_1 s0_2 = some r) ∧ Aside0 (kq ≤ k) ∧ Aside0 (wc.heap[g0]? = some (.cells (mixA (Value.int .u16) [.int .i8 s0_0, .int .i8 s0_1] s0_2) 34 (0, 0))) ∧ Aside0 (Below w.heap.size w wc))
 case first =>
  have H := HC2.out; clear HC2; obtain ⟨t163, A3, H⟩ := obn H
  by_cases c4 : t163 = true
  ·subst c4
   have H1 : ((spec_l00In.f (wrap64 (s0_1)) 1 10).bind fun t164 => (spec_l01Ok.j0 k (!t164) s0_0 s0_1 s0_2)) = some r := by rw [if_pos rfl] at H; exact H
   clear H; have H := H1; clear H1; obtain ⟨t164, A5, H⟩ := obn H; have H' := Aside0.mk H; clear H; have hcz6_0 : w.cell? ⟨g0, 0, none⟩ = some (.int .i8 s0_0) := mix_cell0 BK0.out 0; have hcz6_1 : w.cell? ⟨g0, 1, none⟩ = some (.int .i8 s0_1) := mix_cell0 BK0.out 1; have hfz6_0 := blk_frozen BK0.out 0; have hfz6_1 := blk_frozen BK0.out 1
   go_wp2_with (first | (go_at_call 51; (with_reducible refine (spec_l00In.calls (wrap64 (s0_0)) 1 10 true _ A3.out).mono ?_); rintro e w' ⟨rfl, ⟨nd, rfl⟩⟩; (try first | exact ⟨rfl, _, World.drewN_drewN _ _ _⟩ | exact ⟨rfl, _, Eq.trans (World.drewN_drewN _ _ _) (congrArg (World.drewN _) (Nat.add_assoc _ _ _))⟩)) | (go_at_call 51; (with_reducible refine (spec_l00In.calls (wrap64 (s0_1)) 1 10 t164 _ A5.out).mono ?_); rintro e w' ⟨rfl, ⟨nd, rfl⟩⟩; (try first | exact ⟨rfl, _, World.drewN_drewN _ _ _⟩ | exact ⟨rfl, _, Eq.trans (World.drewN_drewN _ _ _) (congrArg (World.drewN _) (Nat.add_assoc _ _ _))⟩)))
   repeat (go_quiet (first | (go_at_call 51; (with_reducible refine (spec_l00In.calls (wrap64 (s0_0)) 1 10 true _ A3.out).mono ?_); rintro e w' ⟨rfl, ⟨nd, rfl⟩⟩; (try first | exact ⟨rfl, _, World.drewN_drewN _ _ _⟩ | exact ⟨rfl, _, Eq.trans (World.drewN_drewN _ _ _) (congrArg (World.drewN _) (Nat.add_assoc _ _ _))⟩)) | (go_at_call 51; (with_reducible refine (spec_l00In.calls (wrap64 (s0_1)) 1 10 t164 _ A5.out).mono ?_); rintro e w' ⟨rfl, ⟨nd, rfl⟩⟩; (try first | exact ⟨rfl, _, World.drewN_drewN _ _ _⟩ | exact ⟨rfl, _, Eq.trans (World.drewN_drewN _ _ _) (congrArg (World.drewN _) (Nat.add_assoc _ _ _))⟩))); try go_wp2_with (first | (go_at_call 51; (with_reducible refine (spec_l00In.calls (wrap64 (s0_0)) 1 10 true _ A3.out).mono ?_); rintro e w' ⟨rfl, ⟨nd, rfl⟩⟩; (try first | exact ⟨rfl, _, World.drewN_drewN _ _ _⟩ | exact ⟨rfl, _, Eq.trans (World.drewN_drewN _ _ _) (congrArg (World.drewN _) (Nat.add_assoc _ _ _))⟩)) | (go_at_call 51; (with_reducible refine (spec_l00In.calls (wrap64 (s0_1)) 1 10 t164 _ A5.out).mono ?_); rintro e w' ⟨rfl, ⟨nd, rfl⟩⟩; (try first | exact ⟨rfl, _, World.drewN_drewN _ _ _⟩ | exact ⟨rfl, _, Eq.trans (World.drewN_drewN _ _ _) (congrArg (World.drewN _) (Nat.add_assoc _ _ _))⟩))))
   go_meet
   case rel => exact ⟨_, (!t164), (by first | rfl | (simp; done) | (simp [*]; done)), H', ⟨by first | omega | exact Nat.le_refl _⟩, ⟨pk BK0⟩, ⟨pbs HB⟩⟩
  ·replace c4 := Bool.eq_false_iff.mpr c4
   subst c4
   have H1 : (spec_l01Ok.j0 k true s0_0 s0_1 s0_2) = some r := by rw [if_neg (show ¬ (false = true) by decide)] at H; exact H
   clear H; have H := H1; clear H1; have H' := Aside0.mk H; clear H; have hcz7_0 : w.cell? ⟨g0, 0, none⟩ = some (.int .i8 s0_0) := mix_cell0 BK0.out 0; have hcz7_1 : w.cell? ⟨g0, 1, none⟩ = some (.int .i8 s0_1) := mix_cell0 BK0.out 1; have hfz7_0 := blk_frozen BK0.out 0; have hfz7_1 := blk_frozen BK0.out 1
   go_wp2_with (first | (go_at_call 51; (with_reducible refine (spec_l00In.calls (wrap64 (s0_0)) 1 10 false _ A3.out).mono ?_); rintro e w' ⟨rfl, ⟨nd, rfl⟩⟩; (try first | exact ⟨rfl, _, World.drewN_drewN _ _ _⟩ | exact ⟨rfl, _, Eq.trans (World.drewN_drewN _ _ _) (congrArg (World.drewN _) (Nat.add_assoc _ _ _))⟩)))
   repeat (go_quiet (first | (go_at_call 51; (with_reducible refine (spec_l00In.calls (wrap64 (s0_0)) 1 10 false _ A3.out).mono ?_); rintro e w' ⟨rfl, ⟨nd, rfl⟩⟩; (try first | exact ⟨rfl, _, World.drewN_drewN _ _ _⟩ | exact ⟨rfl, _, Eq.trans (World.drewN_drewN _ _ _) (congrArg (World.drewN _) (Nat.add_assoc _ _ _))⟩))); try go_wp2_with (first | (go_at_call 51; (with_reducible refine (spec_l00In.calls (wrap64 (s0_0)) 1 10 false _ A3.out).mono ?_); rintro e w' ⟨rfl, ⟨nd, rfl⟩⟩; (try first | exact ⟨rfl, _, World.drewN_drewN _ _ _⟩ | exact ⟨rfl, _, Eq.trans (World.drewN_drewN _ _ _) (congrArg (World.drewN _) (Nat.add_assoc _ _ _))⟩))))
   go_meet
   case rel => exact ⟨_, (true), (by first | rfl | (simp; done) | (simp [*]; done)), H', ⟨by first | omega | exact Nat.le_refl _⟩, ⟨pk BK0⟩, ⟨pbs HB⟩⟩
 case rest =>
  clear HC2
  try clear p2
  try clear c4
  try clear p6
  try clear hcz6_0
  try clear hcz6_1
  try clear hcz7_0
  try clear hcz7_1
  try clear hfz6_0
  try clear hfz6_1
  try clear hfz7_0
  try clear hfz7_1
  obtain ⟨kq, x19_1, rfl, HA, HJ1, BK0, HB⟩ := hcut
  cases kq with
  | zero => exact absurd HA.out (by simp [spec_l01Ok.j0])
  | succ kj1 =>
   have H := HA.out; clear HA; simp only [spec_l01Ok.j0] at H
   by_cases c8 : x19_1 = true
   ·subst c8
    have H1 : (some false) = some r := by rw [if_pos rfl] at H; exact H
    clear H; have H := H1; clear H1; obtain rfl := Option.some.inj H
    go_wp2
    repeat (go_quiet (fail); try go_wp2)
    go_ret
    exact ⟨by first | rfl | (simp [errW_none, errW_some] <;> rfl) | (simp [*, errW_none, errW_some] <;> rfl), pbs HB⟩
   ·replace c8 := Bool.eq_false_iff.mpr c8
    subst c8
    have H1 : (spec_l01Ok.l0 kj1 0 s0_0 s0_1 s0_2) = some r := by rw [if_neg (show ¬ (false = true) by decide)] at H; exact H
    clear H; have H := H1; clear H1; have H' := Aside0.mk H; clear H
    go_wp2
    repeat (go_quiet (fail); try go_wp2)
    go_loopg [3] kj1 (fun kq v3 w' => ∃ (x3_2 : Int), v3 = .int .i64 x3_2 ∧ Aside0 (spec_l01Ok.l0 kq x3_2 s0_0 s0_1 s0_2 = some r) ∧ Aside0 (kq ≤ kj1) ∧ Aside0 (w'.heap[g0]? = some (.cells (mixA (Value.int .u16) [.int .i8 s0_0, .int .i8 s0_1] s0_2) 34 (0, 0))) ∧ Aside0 (Below w.heap.size w w'))
    case atStart => exact ⟨(0), (by first | rfl | (simp; done) | (simp [*]; done)), H', ⟨Nat.le_refl _⟩, ⟨pk BK0⟩, ⟨pbs HB⟩⟩
    case round =>
     clear H'
     try clear p2
     try clear c4
     try clear p6
     try clear c8
     try clear hcz6_0
     try clear hcz6_1
     try clear hcz7_0
     try clear hcz7_1
     try clear hfz6_0
     try clear hfz6_1
     try clear hfz7_0
     try clear hfz7_1
     try clear p2
     try clear p6
     obtain ⟨x3_2, rfl, HA, HK2, BK0, HB⟩ := hrel
     cases gk with
     | zero => exact absurd HA.out (by simp [spec_l01Ok.l0])
     | succ k2 =>
      have H := HA.out; clear HA; simp only [spec_l01Ok.l0] at H
      by_cases c9 : x3_2 < 10
      ·rw [if_pos c9] at H
       have c9b0 : decide (x3_2 < 10) = true := decide_eq_true c9; clear c9
       by_cases c10 : 0 ≤ x3_2
       ·rw [if_pos c10] at H
        have c10b0 : decide (0 ≤ x3_2) = true := decide_eq_true c10; clear c10; obtain ⟨ji11, hji11⟩ : ∃ j_ : Int, (IntKind.u64.wrap (s0_0)) = j_ := ⟨_, rfl⟩
        replace H : (if 0 ≤ (ji11) then (if (shr .u16 (rd s0_2.l x3_2) (ji11)) = 0 then (if x3_2 ≥ (wrap64 (s0_1)) then (if (rd s0_2.l x3_2) = 0 then (spec_l01Ok.l0 k2 (wrap64 (x3_2 + 1)) s0_0 s0_1 s0_2) else (some false)) else (spec_l01Ok.l0 k2 (wrap64 (x3_2 + 1)) s0_0 s0_1 s0_2)) else (some false)) else (none)) = some r := by first | (rw [hji11] at H; exact H) | (simp only [hji11] at H ⊢; exact H)
        by_cases c12 : 0 ≤ (ji11)
        ·rw [if_pos c12] at H
         have c12b0 := eq_true c12; have c12b1 : decide (0 ≤ (ji11)) = true := decide_eq_true c12; clear c12; obtain ⟨ji13, hji13⟩ : ∃ j_ : Int, (shr .u16 (rd s0_2.l x3_2) (ji11)) = j_ := ⟨_, rfl⟩
         replace H : (if (ji13) = 0 then (if x3_2 ≥ (wrap64 (s0_1)) then (if (rd s0_2.l x3_2) = 0 then (spec_l01Ok.l0 k2 (wrap64 (x3_2 + 1)) s0_0 s0_1 s0_2) else (some false)) else (spec_l01Ok.l0 k2 (wrap64 (x3_2 + 1)) s0_0 s0_1 s0_2)) else (some false)) = some r := by first | (rw [hji13] at H; exact H) | (simp only [hji13] at H ⊢; exact H)
         have hji13_ : ((rd s0_2.l x3_2) / 2 ^ min (ji11).toNat 16) = ji13 := hji13; have hji13z : (ji11) ≤ 16 → ((rd s0_2.l x3_2) / 2 ^ (ji11).toNat) = ji13 := shr_small hji13
         by_cases c14 : (ji13) = 0
         ·rw [if_pos c14] at H
          have c14b0 : ((ji13) == 0) = true := beq_iff_eq.mpr c14; have c14b1 : ((ji13) != 0) = false := bne_eq_false_iff_eq.mpr c14; clear c14
          by_cases c15 : x3_2 ≥ (wrap64 (s0_1))
          ·rw [if_pos c15] at H
           have c15b0 : decide ((wrap64 (s0_1)) ≤ x3_2) = true := decide_eq_true c15; clear c15
           by_cases c16 : (rd s0_2.l x3_2) = 0
           ·rw [if_pos c16] at H
            have c16b0 : ((rd s0_2.l x3_2) == 0) = true := beq_iff_eq.mpr c16; have c16b1 : ((rd s0_2.l x3_2) != 0) = false := bne_eq_false_iff_eq.mpr c16; clear c16; have H' := Aside0.mk H; clear H; have hcz17_0 : wr.cell? ⟨g0, 0, none⟩ = some (.int .i8 s0_0) := mix_cell0 BK0.out 0; have hcz17_1 : wr.cell? ⟨g0, 1, none⟩ = some (.int .i8 s0_1) := mix_cell0 BK0.out 1; have hfz17_0 := blk_frozen BK0.out 0; have hfz17_1 := blk_frozen BK0.out 1; have hpd18 : (0 ≤ x3_2) = True := eq_true (by first | omega | exact oda); have hqd18 : (x3_2 < 10) = True := eq_true (by first | omega | exact oda); have hrd18 : (x3_2 < ((10 : Nat) : Int)) = True := eq_true (by first | omega | exact oda); have hdd18 : wr.cell? ⟨g0, 2 + x3_2.toNat, none⟩ = some (.int .u16 (rd s0_2.l x3_2)) := mix_at BK0.out 2 rfl x3_2 (of_eq_true hpd18) (of_eq_true hqd18); have hfdd18 := blk_frozen BK0.out (2 + x3_2.toNat); have hpd19 : (0 ≤ x3_2) = True := eq_true (by first | omega | exact oda); have hqd19 : (x3_2 < 10) = True := eq_true (by first | omega | exact oda); have hrd19 : (x3_2 < ((10 : Nat) : Int)) = True := eq_true (by first | omega | exact oda); have hdd19 : wr.cell? ⟨g0, 2 + x3_2.toNat, none⟩ = some (.int .u16 (rd s0_2.l x3_2)) := mix_at BK0.out 2 rfl x3_2 (of_eq_true hpd19) (of_eq_true hqd19); have hfdd19 := blk_frozen BK0.out (2 + x3_2.toNat)
            go_wp2
            repeat (go_quiet (fail); try go_wp2)
            go_roundg k2
            case measure => have := HJ1.out; have := HK2.out; omega
            case rel => exact ⟨(wrap64 (x3_2 + 1)), (by first | rfl | (simp; done) | (simp [*]; done)), H', ⟨by have := HJ1.out; have := HK2.out; omega⟩, ⟨pk BK0⟩, ⟨pbs HB⟩⟩
           ·rw [if_neg c16] at H
            have c16b0 : ((rd s0_2.l x3_2) == 0) = false := beq_eq_false_iff_ne.mpr c16; have c16b1 : ((rd s0_2.l x3_2) != 0) = true := bne_iff_ne.mpr c16; obtain rfl := Option.some.inj H; have hcz20_0 : wr.cell? ⟨g0, 0, none⟩ = some (.int .i8 s0_0) := mix_cell0 BK0.out 0; have hcz20_1 : wr.cell? ⟨g0, 1, none⟩ = some (.int .i8 s0_1) := mix_cell0 BK0.out 1; have hfz20_0 := blk_frozen BK0.out 0; have hfz20_1 := blk_frozen BK0.out 1; have hpd21 : (0 ≤ x3_2) = True := eq_true (by first | omega | exact oda); have hqd21 : (x3_2 < 10) = True := eq_true (by first | omega | exact oda); have hrd21 : (x3_2 < ((10 : Nat) : Int)) = True := eq_true (by first | omega | exact oda); have hdd21 : wr.cell? ⟨g0, 2 + x3_2.toNat, none⟩ = some (.int .u16 (rd s0_2.l x3_2)) := mix_at BK0.out 2 rfl x3_2 (of_eq_true hpd21) (of_eq_true hqd21); have hfdd21 := blk_frozen BK0.out (2 + x3_2.toNat); have hpd22 : (0 ≤ x3_2) = True := eq_true (by first | omega | exact oda); have hqd22 : (x3_2 < 10) = True := eq_true (by first | omega | exact oda); have hrd22 : (x3_2 < ((10 : Nat) : Int)) = True := eq_true (by first | omega | exact oda); have hdd22 : wr.cell? ⟨g0, 2 + x3_2.toNat, none⟩ = some (.int .u16 (rd s0_2.l x3_2)) := mix_at BK0.out 2 rfl x3_2 (of_eq_true hpd22) (of_eq_true hqd22); have hfdd22 := blk_frozen BK0.out (2 + x3_2.toNat)
            go_wp2
            repeat (go_quiet (fail); try go_wp2)
            go_ret
            exact ⟨by first | rfl | (simp [errW_none, errW_some] <;> rfl) | (simp only [← hji11, ← hji13]; first | rfl | (simp [errW_none, errW_some] <;> rfl)) | (simp [*, errW_none, errW_some] <;> rfl), pbs HB⟩
          ·rw [if_neg c15] at H
           have c15b0 : decide ((wrap64 (s0_1)) ≤ x3_2) = false := decide_eq_false c15; clear c15; have H' := Aside0.mk H; clear H; have hcz23_0 : wr.cell? ⟨g0, 0, none⟩ = some (.int .i8 s0_0) := mix_cell0 BK0.out 0; have hcz23_1 : wr.cell? ⟨g0, 1, none⟩ = some (.int .i8 s0_1) := mix_cell0 BK0.out 1; have hfz23_0 := blk_frozen BK0.out 0; have hfz23_1 := blk_frozen BK0.out 1; have hpd24 : (0 ≤ x3_2) = True := eq_true (by first | omega | exact oda); have hqd24 : (x3_2 < 10) = True := eq_true (by first | omega | exact oda); have hrd24 : (x3_2 < ((10 : Nat) : Int)) = True := eq_true (by first | omega | exact oda); have hdd24 : wr.cell? ⟨g0, 2 + x3_2.toNat, none⟩ = some (.int .u16 (rd s0_2.l x3_2)) := mix_at BK0.out 2 rfl x3_2 (of_eq_true hpd24) (of_eq_true hqd24); have hfdd24 := blk_frozen BK0.out (2 + x3_2.toNat)
           go_wp2
           repeat (go_quiet (fail); try go_wp2)
           go_roundg k2
           case measure => have := HJ1.out; have := HK2.out; omega
           case rel => exact ⟨(wrap64 (x3_2 + 1)), (by first | rfl | (simp; done) | (simp [*]; done)), H', ⟨by have := HJ1.out; have := HK2.out; omega⟩, ⟨pk BK0⟩, ⟨pbs HB⟩⟩
         ·rw [if_neg c14] at H
          have c14b0 : ((ji13) == 0) = false := beq_eq_false_iff_ne.mpr c14; have c14b1 : ((ji13) != 0) = true := bne_iff_ne.mpr c14; obtain rfl := Option.some.inj H; have hcz25_0 : wr.cell? ⟨g0, 0, none⟩ = some (.int .i8 s0_0) := mix_cell0 BK0.out 0; have hcz25_1 : wr.cell? ⟨g0, 1, none⟩ = some (.int .i8 s0_1) := mix_cell0 BK0.out 1; have hfz25_0 := blk_frozen BK0.out 0; have hfz25_1 := blk_frozen BK0.out 1; have hpd26 : (0 ≤ x3_2) = True := eq_true (by first | omega | exact oda); have hqd26 : (x3_2 < 10) = True := eq_true (by first | omega | exact oda); have hrd26 : (x3_2 < ((10 : Nat) : Int)) = True := eq_true (by first | omega | exact oda); have hdd26 : wr.cell? ⟨g0, 2 + x3_2.toNat, none⟩ = some (.int .u16 (rd s0_2.l x3_2)) := mix_at BK0.out 2 rfl x3_2 (of_eq_true hpd26) (of_eq_true hqd26); have hfdd26 := blk_frozen BK0.out (2 + x3_2.toNat)
          go_wp2
          repeat (go_quiet (fail); try go_wp2)
          go_ret
          exact ⟨by first | rfl | (simp [errW_none, errW_some] <;> rfl) | (simp only [← hji11, ← hji13]; first | rfl | (simp [errW_none, errW_some] <;> rfl)) | (simp [*, errW_none, errW_some] <;> rfl), pbs HB⟩
        ·rw [if_neg c12] at H
         exact absurd H (by simp)
       ·rw [if_neg c10] at H
        exact absurd H (by simp)
      ·rw [if_neg c9] at H
       have c9b0 : decide (x3_2 < 10) = false := decide_eq_false c9; clear c9; obtain rfl := Option.some.inj H
       go_wp2
       repeat (go_quiet (fail); try go_wp2)
       go_ret
       exact ⟨by first | rfl | (simp [errW_none, errW_some] <;> rfl) | (simp [*, errW_none, errW_some] <;> rfl), pbs HB⟩
def spec_l03Cells.l0 : Nat → List (S36) → Int → Int → Int → LA 10 → Option (Bool)
 | 0, _, _, _, _, _ => none
 | k + 1, x1, x5, x1000, x1001, x1002 => if x5 < (x1.length : Int) then (if 0 ≤ x5 then ((spec_l01Is.f x1000 x1001 x1002 ((rd_T36 x1 x5).f0) ((rd_T36 x1 x5).f1)).bind fun t166 => (if t166 = true then (spec_l03Cells.l0 k x1 (wrap64 (x5 + 1)) x1000 x1001 x1002) else (some false))) else (none)) else (some true)
def spec_l03Cells.f (k : Nat) (s0_0 : Int) (s0_1 : Int) (s0_2 : LA 10) (l1 : List (S36)) : Option (Bool) := spec_l03Cells.l0 k l1 0 s0_0 s0_1 s0_2
theorem spec_l03Cells.mono_l : ∀ k, (∀ y0 y1 y2 y3 y4, LeO (spec_l03Cells.l0 k y0 y1 y2 y3 y4) (spec_l03Cells.l0 (k + 1) y0 y1 y2 y3 y4))
 | 0 => fun _ _ _ _ _ r h => by simp [spec_l03Cells.l0] at h
 | k + 1 => by
  have ih0 := spec_l03Cells.mono_l k
  ·intro y0 y1 y2 y3 y4
   unfold spec_l03Cells.l0
   repeat' first
   | (with_reducible exact ih0 _ _ _ _ _)
   | (with_reducible exact LeO.refl _)
   | (with_reducible exact LeO.none _)
   | (with_reducible refine LeO.ite ?_ ?_)
   | (with_reducible refine LeO.bind ?_ (fun _ => ?_))
   | exact ih0 _ _ _ _ _
   | exact LeO.none _
   | refine LeO.ite ?_ ?_
   | refine LeO.bind ?_ (fun _ => ?_)
theorem spec_l03Cells.mono : ∀ a0 a1 a2 a3 k, LeO (spec_l03Cells.f k a0 a1 a2 a3) (spec_l03Cells.f (k + 1) a0 a1 a2 a3) := by
 intro a0 a1 a2 a3 k
 have ih0 := spec_l03Cells.mono_l k
 unfold spec_l03Cells.f
 repeat' first
   | (with_reducible exact ih0 _ _ _ _ _)
   | (with_reducible exact LeO.refl _)
   | (with_reducible exact LeO.none _)
   | (with_reducible refine LeO.ite ?_ ?_)
   | (with_reducible refine LeO.bind ?_ (fun _ => ?_))
   | exact ih0 _ _ _ _ _
   | exact LeO.none _
   | refine LeO.ite ?_ ?_
   | refine LeO.bind ?_ (fun _ => ?_)
set_option maxHeartbeats 8000000 in
set_option maxRecDepth 100000 in
theorem spec_l03Cells.calls (k : Nat) (g0 : Nat) (s0_0 : Int) (s0_1 : Int) (s0_2 : LA 10) (A1 : Option Addr) (c1 : Nat) (l1 : List (S36)) (r : Bool) (w : World) (hb0 : w.heap[g0]? = some (.cells (mixA (Value.int .u16) [.int .i8 s0_0, .int .i8 s0_1] s0_2) 34 (0, 0))) (hr1 : Kd.C k36 w A1 l1.length l1) (hc1 : l1.length ≤ c1) (h : spec_l03Cells.f k s0_0 s0_1 s0_2 l1 = some r) :
  Calls Try.prog 95 #[.pointer (some ⟨g0, 0, none⟩), .slice A1 l1.length c1] w fun e w' => e = .returned (.bool r) ∧ Below w.heap.size w w' := by
 have hu36 := Try.underlying36
 have HR1 := Aside0.mk hr1
 have HC1 := Aside0.mk hc1
 clear hr1 hc1
 have BK0 := Aside0.mk hb0
 clear hb0
 have HB := Aside0.mk (Below.refl w.heap.size w)
 have H : (spec_l03Cells.l0 k l1 0 s0_0 s0_1 s0_2) = some r := h
 clear h
 have H' := Aside0.mk H
 clear H
 go_enter Try.func95, Try.ntmps95
 go_wp2
 go_loopg [5] k (fun kq v5 w' => ∃ (x5_1 : Int), v5 = .int .i64 x5_1 ∧ Aside0 (spec_l03Cells.l0 kq l1 x5_1 s0_0 s0_1 s0_2 = some r) ∧ Aside0 (kq ≤ k) ∧ Aside0 (w'.heap[g0]? = some (.cells (mixA (Value.int .u16) [.int .i8 s0_0, .int .i8 s0_1] s0_2) 34 (0, 0))) ∧ Aside0 (Below w.heap.size w w'))
 case atStart => exact ⟨(0), (by first | rfl | (simp; done) | (simp [*]; done)), H', ⟨Nat.le_refl _⟩, ⟨pk BK0⟩, ⟨pbs HB⟩⟩
 case round =>
  clear H'
  try clear c1
  try clear p2
  obtain ⟨x5_1, rfl, HA, HK1, BK0, HB⟩ := hrel
  cases gk with
  | zero => exact absurd HA.out (by simp [spec_l03Cells.l0])
  | succ k1 =>
   have H := HA.out; clear HA; simp only [spec_l03Cells.l0] at H
   by_cases c3 : x5_1 < (l1.length : Int)
   ·rw [if_pos c3] at H
    have c3b0 : decide (x5_1 < (l1.length : Int)) = true := decide_eq_true c3; clear c3
    by_cases c4 : 0 ≤ x5_1
    ·rw [if_pos c4] at H
     have c4b0 : decide (0 ≤ x5_1) = true := decide_eq_true c4; clear c4; obtain ⟨t166, A5, H⟩ := obn H
     by_cases c6 : t166 = true
     ·subst c6
      have H1 : (spec_l03Cells.l0 k1 l1 (wrap64 (x5_1 + 1)) s0_0 s0_1 s0_2) = some r := by rw [if_pos rfl] at H; exact H
      clear H; have H := H1; clear H1; have H' := Aside0.mk H; clear H; have p165 : 0 ≤ (x5_1 : Int) := oda; have q165 : x5_1 < (l1.length : Int) := oda; obtain ⟨ad165, e165, hx165_0, hx165_1⟩ := at_T36 HR1.out x5_1 p165 q165; cases e165
      try replace hx165_0 := cb HB hx165_0
      try replace hx165_1 := cb HB hx165_1
      replace p165 := eq_true p165; replace q165 := eq_true q165
      go_wp2_with (first | ((with_reducible refine gate_callee (f := 97) rfl ?_); refine gl (some 17) Try.func97 #[.pointer (some ⟨g0, 0, none⟩), .agg #[.int .i8 ((rd_T36 l1 x5_1).f0), .int .i8 ((rd_T36 l1 x5_1).f1)]] ?_; (with_reducible refine (spec_l01Is.calls g0 s0_0 s0_1 s0_2 ((rd_T36 l1 x5_1).f0) ((rd_T36 l1 x5_1).f1) true _ ?side1 A5.out).mono ?_); (case side1 => exact (pk BK0)); rintro e w7 ⟨rfl, hb⟩; refine ⟨_, rfl, ?_⟩; replace BK0 := bkb BK0 hb; replace HB := bst HB hb; (try clear hb); (try clear hb2); (try clear hk); (try clear hi)))
      go_roundg k1
      case measure => have := HK1.out; omega
      case rel => exact ⟨(wrap64 (x5_1 + 1)), (by first | rfl | (simp; done) | (simp [*]; done)), H', ⟨by have := HK1.out; omega⟩, ⟨pk BK0⟩, ⟨pbs HB⟩⟩
     ·replace c6 := Bool.eq_false_iff.mpr c6
      subst c6
      have H1 : (some false) = some r := by rw [if_neg (show ¬ (false = true) by decide)] at H; exact H
      clear H; have H := H1; clear H1; obtain rfl := Option.some.inj H; have p165 : 0 ≤ (x5_1 : Int) := oda; have q165 : x5_1 < (l1.length : Int) := oda; obtain ⟨ad165, e165, hx165_0, hx165_1⟩ := at_T36 HR1.out x5_1 p165 q165; cases e165
      try replace hx165_0 := cb HB hx165_0
      try replace hx165_1 := cb HB hx165_1
      replace p165 := eq_true p165; replace q165 := eq_true q165
      go_wp2_with (first | ((with_reducible refine gate_callee (f := 97) rfl ?_); refine gl (some 17) Try.func97 #[.pointer (some ⟨g0, 0, none⟩), .agg #[.int .i8 ((rd_T36 l1 x5_1).f0), .int .i8 ((rd_T36 l1 x5_1).f1)]] ?_; (with_reducible refine (spec_l01Is.calls g0 s0_0 s0_1 s0_2 ((rd_T36 l1 x5_1).f0) ((rd_T36 l1 x5_1).f1) false _ ?side1 A5.out).mono ?_); (case side1 => exact (pk BK0)); rintro e w8 ⟨rfl, hb⟩; refine ⟨_, rfl, ?_⟩; replace BK0 := bkb BK0 hb; replace HB := bst HB hb; (try clear hb); (try clear hb2); (try clear hk); (try clear hi)))
      go_ret
      exact ⟨by first | rfl | (simp [errW_none, errW_some] <;> rfl) | (simp [*, errW_none, errW_some] <;> rfl), pbs HB⟩
    ·rw [if_neg c4] at H
     exact absurd H (by simp)
   ·rw [if_neg c3] at H
    have c3b0 : decide (x5_1 < (l1.length : Int)) = false := decide_eq_false c3; clear c3; obtain rfl := Option.some.inj H
    go_wp2
    go_ret
    exact ⟨by first | rfl | (simp [errW_none, errW_some] <;> rfl) | (simp [*, errW_none, errW_some] <;> rfl), pbs HB⟩
mutual
def spec_l06Asked.j0 : Nat → List (S36) → Bool → Int → Int → LA 10 → Option (Int)
 | 0, _, _, _, _, _ => none
 | k + 1, x1, x18, x1000, x1001, x1002 => if x18 = true then (some 2) else (spec_l06Asked.l0 k x1 0 x1000 x1001 x1002)
def spec_l06Asked.l0 : Nat → List (S36) → Int → Int → Int → LA 10 → Option (Int)
 | 0, _, _, _, _, _ => none
 | k + 1, x1, x7, x1000, x1001, x1002 => if x7 < (x1.length : Int) then (if 0 ≤ x7 then ((spec_l01Free.f x1000 x1001 x1002 ((rd_T36 x1 x7).f0) ((rd_T36 x1 x7).f1)).bind fun t170 => (if t170 = true then (spec_l06Asked.l0 k x1 (wrap64 (x7 + 1)) x1000 x1001 x1002) else (some 4))) else (none)) else (some 0)
end
def spec_l06Asked.f (k : Nat) (s0_0 : Int) (s0_1 : Int) (s0_2 : LA 10) (l1 : List (S36)) (a2 : Bool) : Option (Int) := (spec_l01Ok.f k s0_0 s0_1 s0_2).bind fun t167 => (if t167 = true then ((spec_l03Cells.f k s0_0 s0_1 s0_2 l1).bind fun t168 => (if t168 = true then (spec_l06Asked.j0 k l1 (!a2) s0_0 s0_1 s0_2) else (spec_l06Asked.j0 k l1 true s0_0 s0_1 s0_2))) else (some 1))
theorem spec_l06Asked.mono_l : ∀ k, (∀ y0 y1 y2 y3 y4, LeO (spec_l06Asked.j0 k y0 y1 y2 y3 y4) (spec_l06Asked.j0 (k + 1) y0 y1 y2 y3 y4)) ∧ (∀ y0 y1 y2 y3 y4, LeO (spec_l06Asked.l0 k y0 y1 y2 y3 y4) (spec_l06Asked.l0 (k + 1) y0 y1 y2 y3 y4))
 | 0 => ⟨fun _ _ _ _ _ r h => by simp [spec_l06Asked.j0] at h, fun _ _ _ _ _ r h => by simp [spec_l06Asked.l0] at h⟩
 | k + 1 => by
  obtain ⟨ih0, ih1⟩ := spec_l06Asked.mono_l k; refine ⟨?_, ?_⟩
  ·intro y0 y1 y2 y3 y4
   unfold spec_l06Asked.j0
   repeat' first
   | (with_reducible exact ih0 _ _ _ _ _)
   | (with_reducible exact ih1 _ _ _ _ _)
   | (with_reducible exact spec_l01Ok.mono _ _ _ _)
   | (with_reducible exact spec_l03Cells.mono _ _ _ _ _)
   | (with_reducible exact LeO.refl _)
   | (with_reducible exact LeO.none _)
   | (with_reducible refine LeO.ite ?_ ?_)
   | (with_reducible refine LeO.bind ?_ (fun _ => ?_))
   | exact ih0 _ _ _ _ _
   | exact ih1 _ _ _ _ _
   | exact spec_l01Ok.mono _ _ _ _
   | exact spec_l03Cells.mono _ _ _ _ _
   | exact LeO.none _
   | refine LeO.ite ?_ ?_
   | refine LeO.bind ?_ (fun _ => ?_)
  ·intro y0 y1 y2 y3 y4
   unfold spec_l06Asked.l0
   repeat' first
   | (with_reducible exact ih0 _ _ _ _ _)
   | (with_reducible exact ih1 _ _ _ _ _)
   | (with_reducible exact spec_l01Ok.mono _ _ _ _)
   | (with_reducible exact spec_l03Cells.mono _ _ _ _ _)
   | (with_reducible exact LeO.refl _)
   | (with_reducible exact LeO.none _)
   | (with_reducible refine LeO.ite ?_ ?_)
   | (with_reducible refine LeO.bind ?_ (fun _ => ?_))
   | exact ih0 _ _ _ _ _
   | exact ih1 _ _ _ _ _
   | exact spec_l01Ok.mono _ _ _ _
   | exact spec_l03Cells.mono _ _ _ _ _
   | exact LeO.none _
   | refine LeO.ite ?_ ?_
   | refine LeO.bind ?_ (fun _ => ?_)
theorem spec_l06Asked.mono : ∀ a0 a1 a2 a3 a4 k, LeO (spec_l06Asked.f k a0 a1 a2 a3 a4) (spec_l06Asked.f (k + 1) a0 a1 a2 a3 a4) := by
 intro a0 a1 a2 a3 a4 k
 obtain ⟨ih0, ih1⟩ := spec_l06Asked.mono_l k
 unfold spec_l06Asked.f
 repeat' first
   | (with_reducible exact ih0 _ _ _ _ _)
   | (with_reducible exact ih1 _ _ _ _ _)
   | (with_reducible exact spec_l01Ok.mono _ _ _ _)
   | (with_reducible exact spec_l03Cells.mono _ _ _ _ _)
   | (with_reducible exact LeO.refl _)
   | (with_reducible exact LeO.none _)
   | (with_reducible refine LeO.ite ?_ ?_)
   | (with_reducible refine LeO.bind ?_ (fun _ => ?_))
   | exact ih0 _ _ _ _ _
   | exact ih1 _ _ _ _ _
   | exact spec_l01Ok.mono _ _ _ _
   | exact spec_l03Cells.mono _ _ _ _ _
   | exact LeO.none _
   | refine LeO.ite ?_ ?_
   | refine LeO.bind ?_ (fun _ => ?_)
set_option maxHeartbeats 8000000 in
set_option maxRecDepth 100000 in
theorem spec_l06Asked.calls (k : Nat) (g0 : Nat) (s0_0 : Int) (s0_1 : Int) (s0_2 : LA 10) (A1 : Option Addr) (c1 : Nat) (l1 : List (S36)) (a2 : Bool) (r : Int) (w : World) (hb0 : w.heap[g0]? = some (.cells (mixA (Value.int .u16) [.int .i8 s0_0, .int .i8 s0_1] s0_2) 34 (0, 0))) (hr1 : Kd.C k36 w A1 l1.length l1) (hc1 : l1.length ≤ c1) (h : spec_l06Asked.f k s0_0 s0_1 s0_2 l1 a2 = some r) :
  Calls Try.prog 75 #[.pointer (some ⟨g0, 0, none⟩), .slice A1 l1.length c1, .bool a2] w fun e w' => e = .returned (.int .i64 r) ∧ Below w.heap.size w w' := by
 have hu36 := Try.underlying36
 have HR1 := Aside0.mk hr1
 have HC1 := Aside0.mk hc1
 clear hr1 hc1
 have BK0 := Aside0.mk hb0
 clear hb0
 have HB := Aside0.mk (Below.refl w.heap.size w)
 have H : ((spec_l01Ok.f k s0_0 s0_1 s0_2).bind fun t167 => (if t167 = true then ((spec_l03Cells.f k s0_0 s0_1 s0_2 l1).bind fun t168 => (if t168 = true then (spec_l06Asked.j0 k l1 (!a2) s0_0 s0_1 s0_2) else (spec_l06Asked.j0 k l1 true s0_0 s0_1 s0_2))) else (some 1))) = some r := h
 clear h
 obtain ⟨t167, A4, H⟩ := obn H
 by_cases c5 : t167 = true
 ·subst c5
  have H1 : ((spec_l03Cells.f k s0_0 s0_1 s0_2 l1).bind fun t168 => (if t168 = true then (spec_l06Asked.j0 k l1 (!a2) s0_0 s0_1 s0_2) else (spec_l06Asked.j0 k l1 true s0_0 s0_1 s0_2))) = some r := by rw [if_pos rfl] at H; exact H
  clear H; have H := H1; clear H1; have HC6 := Aside0.mk H; clear H
  go_enter Try.func75, Try.ntmps75
  go_upto_region 3 with (first | ((with_reducible refine gate_callee (f := 94) rfl ?_); refine gl (some 9) Try.func94 #[.pointer (some ⟨g0, 0, none⟩)] ?_; (with_reducible refine (spec_l01Ok.calls k g0 s0_0 s0_1 s0_2 true _ ?side1 A4.out).mono ?_); (case side1 => exact (pk BK0)); rintro e w7 ⟨rfl, hb⟩; refine ⟨_, rfl, ?_⟩; replace BK0 := bkb BK0 hb; replace HB := bst HB hb; (try clear hb); (try clear hb2); (try clear hk); (try clear hi)))
  (try simp only [Act.put, List.setIfInBounds_toArray, List.set_cons_zero, List.set_cons_succ])
  go_cut [18] (fun v18 wc => ∃ (kq : Nat) (x18_5 : Bool), v18 = .bool x18_5 ∧ Aside0 (spec_l06Asked.j0 kq l1 x18_5 s0_0 s0_1 s0_2 = some r) ∧ Aside0 (kq ≤ k) ∧ Aside0 (wc.heap[g0]? = some (.cells (mixA (Value.int .u16) [.int .i8 s0_0, .int .i8 s0_1] s0_2) 34 (0, 0))) ∧ Aside0 (Below w.heap.size w wc))
  case first =>
   have H := HC6.out; clear HC6; obtain ⟨t168, A8, H⟩ := obn H
   by_cases c9 : t168 = true
   ·subst c9
    have H1 : (spec_l06Asked.j0 k l1 (!a2) s0_0 s0_1 s0_2) = some r := by rw [if_pos rfl] at H; exact H
    clear H; have H := H1; clear H1; have H' := Aside0.mk H; clear H
    go_wp2_with (first | ((with_reducible refine gate_callee (f := 95) rfl ?_); refine gl (some 13) Try.func95 #[.pointer (some ⟨g0, 0, none⟩), .slice A1 l1.length c1] ?_; (with_reducible refine (spec_l03Cells.calls k g0 s0_0 s0_1 s0_2 _ _ l1 true _ ?side1 ?side2 ?side3 A8.out).mono ?_); (case side1 => exact (pk BK0)); (case side2 => repeat (first | exact (Kd.C_below HR1.out HB.out) | (with_reducible refine Kd.C_alloc ?_ _) | (with_reducible refine Kd.C_drewN ?_ _) | (with_reducible refine Kd.C_drew ?_))); (case side3 => exact HC1.out); rintro e w10 ⟨rfl, hb⟩; refine ⟨_, rfl, ?_⟩; replace BK0 := bkb BK0 hb; replace HB := bst HB hb; (try clear hb); (try clear hb2); (try clear hk); (try clear hi)))
    go_meet
    case rel => exact ⟨_, (!a2), (by first | rfl | (simp; done) | (simp [*]; done)), H', ⟨by first | omega | exact Nat.le_refl _⟩, ⟨pk BK0⟩, ⟨pbs HB⟩⟩
   ·replace c9 := Bool.eq_false_iff.mpr c9
    subst c9
    have H1 : (spec_l06Asked.j0 k l1 true s0_0 s0_1 s0_2) = some r := by rw [if_neg (show ¬ (false = true) by decide)] at H; exact H
    clear H; have H := H1; clear H1; have H' := Aside0.mk H; clear H
    go_wp2_with (first | ((with_reducible refine gate_callee (f := 95) rfl ?_); refine gl (some 13) Try.func95 #[.pointer (some ⟨g0, 0, none⟩), .slice A1 l1.length c1] ?_; (with_reducible refine (spec_l03Cells.calls k g0 s0_0 s0_1 s0_2 _ _ l1 false _ ?side1 ?side2 ?side3 A8.out).mono ?_); (case side1 => exact (pk BK0)); (case side2 => repeat (first | exact (Kd.C_below HR1.out HB.out) | (with_reducible refine Kd.C_alloc ?_ _) | (with_reducible refine Kd.C_drewN ?_ _) | (with_reducible refine Kd.C_drew ?_))); (case side3 => exact HC1.out); rintro e w11 ⟨rfl, hb⟩; refine ⟨_, rfl, ?_⟩; replace BK0 := bkb BK0 hb; replace HB := bst HB hb; (try clear hb); (try clear hb2); (try clear hk); (try clear hi)))
    go_meet
    case rel => exact ⟨_, (true), (by first | rfl | (simp; done) | (simp [*]; done)), H', ⟨by first | omega | exact Nat.le_refl _⟩, ⟨pk BK0⟩, ⟨pbs HB⟩⟩
  case rest =>
   clear HC6
   try clear c1
   try clear p2
   try clear c5
   try clear c7
   try clear c9
   obtain ⟨kq, x18_5, rfl, HA, HJ5, BK0, HB⟩ := hcut
   cases kq with
   | zero => exact absurd HA.out (by simp [spec_l06Asked.j0])
   | succ kj5 =>
    have H := HA.out; clear HA; simp only [spec_l06Asked.j0] at H
    by_cases c12 : x18_5 = true
    ·subst c12
     have H1 : (some 2) = some r := by rw [if_pos rfl] at H; exact H
     clear H; have H := H1; clear H1; obtain rfl := Option.some.inj H
     go_wp2
     go_ret
     exact ⟨by first | rfl | (simp [errW_none, errW_some] <;> rfl) | (simp [*, errW_none, errW_some] <;> rfl), pbs HB⟩
    ·replace c12 := Bool.eq_false_iff.mpr c12
     subst c12
     have H1 : (spec_l06Asked.l0 kj5 l1 0 s0_0 s0_1 s0_2) = some r := by rw [if_neg (show ¬ (false = true) by decide)] at H; exact H
     clear H; have H := H1; clear H1; have H' := Aside0.mk H; clear H
     go_wp2
     go_loopg [7] kj5 (fun kq v7 w' => ∃ (x7_2 : Int), v7 = .int .i64 x7_2 ∧ Aside0 (spec_l06Asked.l0 kq l1 x7_2 s0_0 s0_1 s0_2 = some r) ∧ Aside0 (kq ≤ kj5) ∧ Aside0 (w'.heap[g0]? = some (.cells (mixA (Value.int .u16) [.int .i8 s0_0, .int .i8 s0_1] s0_2) 34 (0, 0))) ∧ Aside0 (Below w.heap.size w w'))
     case atStart => exact ⟨(0), (by first | rfl | (simp; done) | (simp [*]; done)), H', ⟨Nat.le_refl _⟩, ⟨pk BK0⟩, ⟨pbs HB⟩⟩
     case round =>
      clear H'
      try clear c1
      try clear p2
      try clear c5
      try clear c7
      try clear c9
      try clear c12
      try clear p2
      obtain ⟨x7_2, rfl, HA, HK2, BK0, HB⟩ := hrel
      cases gk with
      | zero => exact absurd HA.out (by simp [spec_l06Asked.l0])
      | succ k2 =>
       have H := HA.out; clear HA; simp only [spec_l06Asked.l0] at H
       by_cases c13 : x7_2 < (l1.length : Int)
       ·rw [if_pos c13] at H
        have c13b0 : decide (x7_2 < (l1.length : Int)) = true := decide_eq_true c13; clear c13
        by_cases c14 : 0 ≤ x7_2
        ·rw [if_pos c14] at H
         have c14b0 : decide (0 ≤ x7_2) = true := decide_eq_true c14; clear c14; obtain ⟨t170, A15, H⟩ := obn H
         by_cases c16 : t170 = true
         ·subst c16
          have H1 : (spec_l06Asked.l0 k2 l1 (wrap64 (x7_2 + 1)) s0_0 s0_1 s0_2) = some r := by rw [if_pos rfl] at H; exact H
          clear H; have H := H1; clear H1; have H' := Aside0.mk H; clear H; have p169 : 0 ≤ (x7_2 : Int) := oda; have q169 : x7_2 < (l1.length : Int) := oda; obtain ⟨ad169, e169, hx169_0, hx169_1⟩ := at_T36 HR1.out x7_2 p169 q169; cases e169
          try replace hx169_0 := cb HB hx169_0
          try replace hx169_1 := cb HB hx169_1
          replace p169 := eq_true p169; replace q169 := eq_true q169
          go_wp2_with (first | ((with_reducible refine gate_callee (f := 82) rfl ?_); refine gl (some 30) Try.func82 #[.pointer (some ⟨g0, 0, none⟩), .agg #[.int .i8 ((rd_T36 l1 x7_2).f0), .int .i8 ((rd_T36 l1 x7_2).f1)]] ?_; (with_reducible refine (spec_l01Free.calls g0 s0_0 s0_1 s0_2 ((rd_T36 l1 x7_2).f0) ((rd_T36 l1 x7_2).f1) true _ ?side1 A15.out).mono ?_); (case side1 => exact (pk BK0)); rintro e w17 ⟨rfl, hb⟩; refine ⟨_, rfl, ?_⟩; replace BK0 := bkb BK0 hb; replace HB := bst HB hb; (try clear hb); (try clear hb2); (try clear hk); (try clear hi)))
          go_roundg k2
          case measure => have := HJ5.out; have := HK2.out; omega
          case rel => exact ⟨(wrap64 (x7_2 + 1)), (by first | rfl | (simp; done) | (simp [*]; done)), H', ⟨by have := HJ5.out; have := HK2.out; omega⟩, ⟨pk BK0⟩, ⟨pbs HB⟩⟩
         ·replace c16 := Bool.eq_false_iff.mpr c16
          subst c16
          have H1 : (some 4) = some r := by rw [if_neg (show ¬ (false = true) by decide)] at H; exact H
          clear H; have H := H1; clear H1; obtain rfl := Option.some.inj H; have p169 : 0 ≤ (x7_2 : Int) := oda; have q169 : x7_2 < (l1.length : Int) := oda; obtain ⟨ad169, e169, hx169_0, hx169_1⟩ := at_T36 HR1.out x7_2 p169 q169; cases e169
          try replace hx169_0 := cb HB hx169_0
          try replace hx169_1 := cb HB hx169_1
          replace p169 := eq_true p169; replace q169 := eq_true q169
          go_wp2_with (first | ((with_reducible refine gate_callee (f := 82) rfl ?_); refine gl (some 30) Try.func82 #[.pointer (some ⟨g0, 0, none⟩), .agg #[.int .i8 ((rd_T36 l1 x7_2).f0), .int .i8 ((rd_T36 l1 x7_2).f1)]] ?_; (with_reducible refine (spec_l01Free.calls g0 s0_0 s0_1 s0_2 ((rd_T36 l1 x7_2).f0) ((rd_T36 l1 x7_2).f1) false _ ?side1 A15.out).mono ?_); (case side1 => exact (pk BK0)); rintro e w18 ⟨rfl, hb⟩; refine ⟨_, rfl, ?_⟩; replace BK0 := bkb BK0 hb; replace HB := bst HB hb; (try clear hb); (try clear hb2); (try clear hk); (try clear hi)))
          go_ret
          exact ⟨by first | rfl | (simp [errW_none, errW_some] <;> rfl) | (simp [*, errW_none, errW_some] <;> rfl), pbs HB⟩
        ·rw [if_neg c14] at H
         exact absurd H (by simp)
       ·rw [if_neg c13] at H
        have c13b0 : decide (x7_2 < (l1.length : Int)) = false := decide_eq_false c13; clear c13; obtain rfl := Option.some.inj H
        go_wp2
        go_ret
        exact ⟨by first | rfl | (simp [errW_none, errW_some] <;> rfl) | (simp [*, errW_none, errW_some] <;> rfl), pbs HB⟩
 ·replace c5 := Bool.eq_false_iff.mpr c5
  subst c5
  have H1 : (some 1) = some r := by rw [if_neg (show ¬ (false = true) by decide)] at H; exact H
  clear H; have H := H1; clear H1; obtain rfl := Option.some.inj H
  go_enter Try.func75, Try.ntmps75
  go_wp2_with (first | ((with_reducible refine gate_callee (f := 94) rfl ?_); refine gl (some 9) Try.func94 #[.pointer (some ⟨g0, 0, none⟩)] ?_; (with_reducible refine (spec_l01Ok.calls k g0 s0_0 s0_1 s0_2 false _ ?side1 A4.out).mono ?_); (case side1 => exact (pk BK0)); rintro e w19 ⟨rfl, hb⟩; refine ⟨_, rfl, ?_⟩; replace BK0 := bkb BK0 hb; replace HB := bst HB hb; (try clear hb); (try clear hb2); (try clear hk); (try clear hi)))
  go_ret
  exact ⟨by first | rfl | (simp [errW_none, errW_some] <;> rfl) | (simp [*, errW_none, errW_some] <;> rfl), pbs HB⟩
end Go.Proofs.Ytanobaoaelhebaa.PB
end
