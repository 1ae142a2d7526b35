/- The statement FnExactLateBy of this program: what its proof uses, part 3 of 12. The call returns true for all arguments. No condition of its own. -/
import Derived.Test.YtanobaoaelhebaaProg
import Derived.Deep.MidRow
import Derived.Test.YtanobaoaelhebaaZFnExactLateBy1
section
namespace Go.Proofs.Ytanobaoaelhebaa.La
open Go.RowKit Go.Proofs.YtanobaoaelhebaaW.PrintWords Go.Proofs.YtanobaoaelhebaaW.PrintLast Go.Proofs.YtanobaoaelhebaaW.PrintMore
set_option linter.unusedVariables false
set_option linter.unusedSimpArgs false
structure LA (n : Nat) where
  l : List Int
  h : l.length = n
theorem LA.ext_l {n : Nat} {a b : LA n} (h : a.l = b.l) : a = b := by
  cases a; cases b; cases h; rfl
instance LA.dec (n : Nat) : DecidableEq (LA n) := fun a b => if h : a.l = b.l then isTrue (LA.ext_l h) else isFalse (fun e => h (by rw [e]))
def LA.zero (n : Nat) : LA n := ⟨List.replicate n 0, List.length_replicate⟩
def LA.set {n : Nat} (W : LA n) (i v : Int) : LA n := ⟨W.l.set i.toNat v, by rw [List.length_set]; exact W.h⟩
def LA.row {n : Nat} (W : LA n) (m : Nat) (a : Int) : LA m := ⟨(List.range m).map (fun j : Nat => rd W.l (a * m + (j : Int))), by simp⟩
def mixA (e : Int → Value) (cs : List Value) {n : Nat} (W : LA n) : Array Value := (cs ++ W.l.map e).toArray
theorem toNat2 (m : Nat) (a b : Int) (ha : 0 ≤ a) (hb : 0 ≤ b) : (a * (m : Int) + b).toNat = a.toNat * m + b.toNat := by
  obtain ⟨p, rfl⟩ : ∃ p : Nat, a = p := ⟨a.toNat, by omega⟩
  obtain ⟨q, rfl⟩ : ∃ q : Nat, b = q := ⟨b.toNat, by omega⟩
  have e1 : ((p : Int) * (m : Int) + (q : Int)) = ((p * m + q : Nat) : Int) := by push_cast; rfl
  have e2 : ((p : Int)).toNat = p := by omega
  have e3 : ((q : Int)).toNat = q := by omega
  rw [e1, e2, e3]
  omega
theorem rd_set_same {n : Nat} (W : LA n) (i v : Int) (h0 : 0 ≤ i) (h1 : i < n) : rd (W.set i v).l i = v := by
  have h : i.toNat < W.l.length := by rw [W.h]; omega
  simp [LA.set, rd, List.getD_eq_getElem?_getD, List.getElem?_set, h]
theorem rd_set_other {n : Nat} (W : LA n) (i j v : Int) (h0 : 0 ≤ i) (h1 : 0 ≤ j) (h : i ≠ j) : rd (W.set i v).l j = rd W.l j := by
  have hne : i.toNat ≠ j.toNat := by omega
  simp [LA.set, rd, List.getD_eq_getElem?_getD, List.getElem?_set, hne]
theorem setCells_list {α : Type} (cs : List α) (v : α) (vs : List α) (o : Nat) (hl : o + (vs.length + 1) ≤ cs.length) : (cs.set o v).take (o+1) ++ vs ++ (cs.set o v).drop (o+1+vs.length) = cs.take o ++ v :: vs ++ cs.drop (o + (vs.length + 1)) := by
  have t1 : (cs.set o v).take (o + 1) = cs.take o ++ [v] := by
    rw [List.take_add_one, List.take_set_of_le (Nat.le_refl _), List.getElem?_set_self (by omega)]
    rfl
  have t2 : (cs.set o v).drop (o + 1 + vs.length) = cs.drop (o + (vs.length + 1)) := by
    rw [List.drop_set_of_lt (by omega), show o + 1 + vs.length = o + (vs.length + 1) by omega]
  rw [t1, t2, List.append_assoc, List.append_assoc, List.append_assoc]
  rfl
theorem blk_setCells {g : Nat} {T : TypeId} : ∀ (vs : List Value) (cs : List Value) (o : Nat) (w : World), w.heap[g]? = some (.cells cs.toArray T (0, 0)) → o + vs.length ≤ cs.length →
    (w.setCells g o vs).heap[g]? = some (.cells (cs.take o ++ vs ++ cs.drop (o + vs.length)).toArray T (0, 0))
  | [], cs, o, w, h, _ => by simpa [World.setCells] using h
  | v :: vs, cs, o, w, h, hl => by
    have h1 := blk_set h o v
    have e : cs.toArray.setIfInBounds o v = (cs.set o v).toArray := by simp
    rw [e] at h1
    have h2 := blk_setCells vs (cs.set o v) (o + 1) _ h1 (by simp at hl ⊢; omega)
    rw [World.setCells, h2, setCells_list cs v vs o (by simpa using hl)]
    rfl
theorem blk_whole {g : Nat} {T : TypeId} {vs cs : List Value} {w : World} (h : w.heap[g]? = some (.cells cs.toArray T (0, 0))) (hl : vs.length = cs.length) : (w.setCells g 0 vs).heap[g]? = some (.cells vs.toArray T (0, 0)) := by
  have := blk_setCells vs cs 0 w h (by omega)
  rw [this, Nat.zero_add, hl, List.drop_length, List.take_zero]
  simp
theorem below_setCells {B b : Nat} {a : World} (hb : B ≤ b) : ∀ (vs : List Value) (o : Nat) (w : World), Below B a w → Below B a (w.setCells b o vs)
  | [], _, _, h => h
  | v :: vs, o, w, h => below_setCells hb vs (o + 1) _ (h.setCell (p := ⟨b, o, none⟩) hb v)
theorem there_blk {w : World} {g T : Nat} {cs : List Value} (h : w.heap[g]? = some (.cells cs.toArray T (0, 0))) (o n : Nat) (hl : o + n ≤ cs.length) : w.there g o n := by
  intro j hj
  rw [blk_cell h (o + j), List.getElem?_toArray]
  exact ⟨by rw [List.getElem?_eq_getElem (by omega)]; rfl, blk_frozen h _⟩
theorem heap_setCells_far {i b : Nat} (hne : i ≠ b) : ∀ (vs : List Value) (o : Nat) (w : World), (w.setCells b o vs).heap[i]? = w.heap[i]?
  | [], _, _ => rfl
  | v :: vs, o, w => (heap_setCells_far hne vs (o + 1) _).trans (Below.heap_setCell w ⟨b, o, none⟩ v i hne)
section
variable {e : Int → Value} {cs : List Value} {n : Nat} {W : LA n} {w : World} {g T : Nat}
theorem mix_size : (mixA e cs W).size = cs.length + n := by simp [mixA, W.h]
theorem mix_get0 {j : Nat} {v : Value} (h : cs[j]? = some v) : (mixA e cs W)[j]? = some v := by
  have hj : j < cs.length := (List.getElem?_eq_some_iff.1 h).1
  simp only [mixA, List.getElem?_toArray]
  rw [List.getElem?_append_left hj, h]
theorem mix_geti {i : Nat} (h : i < n) : (mixA e cs W)[cs.length + i]? = some (e (W.l.getD i 0)) := by
  have hi : i < W.l.length := by rw [W.h]; exact h
  simp only [mixA, List.getElem?_toArray]
  rw [List.getElem?_append_right (by omega), List.getElem?_map, show cs.length + i - cs.length = i by omega, List.getElem?_eq_getElem hi, List.getD_eq_getElem?_getD, List.getElem?_eq_getElem hi]
  rfl
theorem mix_cell0 (h : w.heap[g]? = some (.cells (mixA e cs W) T (0, 0))) (j : Nat) {v : Value} (hv : cs[j]? = some v := by rfl) : w.cell? ⟨g, j, none⟩ = some v := by
  rw [blk_cell h j]; exact mix_get0 hv
theorem mix_at (h : w.heap[g]? = some (.cells (mixA e cs W) T (0, 0))) (o : Nat) (ho : cs.length = o) (i : Int) (h0 : 0 ≤ i) (h1 : i < n) : w.cell? ⟨g, o + i.toNat, none⟩ = some (e (rd W.l i)) := by
  subst ho
  rw [blk_cell h, mix_geti (by omega)]
  rfl
theorem mix_atz (h : w.heap[g]? = some (.cells (mixA e [] W) T (0, 0))) (i : Int) (h0 : 0 ≤ i) (h1 : i < n) : w.cell? ⟨g, i.toNat, none⟩ = some (e (rd W.l i)) := by
  have := mix_at h 0 rfl i h0 h1
  rwa [Nat.zero_add] at this
theorem mix_at2 (m : Nat) (h : w.heap[g]? = some (.cells (mixA e cs W) T (0, 0))) (o : Nat) (ho : cs.length = o) (a b : Int) (ha : 0 ≤ a) (hb : 0 ≤ b) (hl : a * m + b < n) : w.cell? ⟨g, o + a.toNat * m + b.toNat, none⟩ = some (e (rd W.l (a * m + b))) := by
  have hn : 0 ≤ a * (m : Int) := Int.mul_nonneg ha (by omega)
  have := mix_at h o ho (a * m + b) (by omega) hl
  rw [show o + a.toNat * m + b.toNat = o + (a * m + b).toNat from ?_]
  · exact this
  · rw [toNat2 m a b ha hb]
    omega
theorem mix_at2z (m : Nat) (h : w.heap[g]? = some (.cells (mixA e [] W) T (0, 0))) (a b : Int) (ha : 0 ≤ a) (hb : 0 ≤ b) (hl : a * m + b < n) : w.cell? ⟨g, a.toNat * m + b.toNat, none⟩ = some (e (rd W.l (a * m + b))) := by
  have := mix_at2 m h 0 rfl a b ha hb hl
  rwa [Nat.zero_add] at this
theorem mix_set (h : w.heap[g]? = some (.cells (mixA e cs W) T (0, 0))) (o : Nat) (ho : cs.length = o) (i v : Int) (h0 : 0 ≤ i) (h1 : i < n) : (w.setCell ⟨g, o + i.toNat, none⟩ (e v)).heap[g]? = some (.cells (mixA e cs (W.set i v)) T (0, 0)) := by
  subst ho
  rw [blk_set h]
  congr 2
  simp only [mixA, LA.set, List.setIfInBounds_toArray, List.map_set]
  rw [List.set_append_right _ _ (by omega), show cs.length + i.toNat - cs.length = i.toNat by omega]
theorem mix_setz (h : w.heap[g]? = some (.cells (mixA e [] W) T (0, 0))) (i v : Int) (h0 : 0 ≤ i) (h1 : i < n) : (w.setCell ⟨g, i.toNat, none⟩ (e v)).heap[g]? = some (.cells (mixA e [] (W.set i v)) T (0, 0)) := by
  have := mix_set h 0 rfl i v h0 h1
  rwa [Nat.zero_add] at this
theorem mix_set2z (m : Nat) (h : w.heap[g]? = some (.cells (mixA e [] W) T (0, 0))) (a b v : Int) (ha : 0 ≤ a) (hb : 0 ≤ b) (hl : a * m + b < n) : (w.setCell ⟨g, a.toNat * m + b.toNat, none⟩ (e v)).heap[g]? = some (.cells (mixA e [] (W.set (a * m + b) v)) T (0, 0)) := by
  have hn : 0 ≤ a * (m : Int) := Int.mul_nonneg ha (by omega)
  have := mix_setz h (a * m + b) v (by omega) hl
  rwa [toNat2 m a b ha hb] at this
theorem mix_put0 (h : w.heap[g]? = some (.cells (mixA e cs W) T (0, 0))) (j : Nat) (v : Value) (hj : j < cs.length) : (w.setCell ⟨g, j, none⟩ v).heap[g]? = some (.cells (mixA e (cs.set j v) W) T (0, 0)) := by
  rw [blk_set h]
  congr 2
  simp only [mixA, List.setIfInBounds_toArray]
  rw [List.set_append_left _ _ hj]
theorem mix_range (h : w.heap[g]? = some (.cells (mixA e cs W) T (0, 0))) : w.rangeAt g 0 (cs ++ W.l.map e) := by
  intro j v hj
  rw [Nat.zero_add, blk_cell h j]
  simp only [mixA, List.getElem?_toArray]
  exact hj
theorem mix_range_arr (h : w.heap[g]? = some (.cells (mixA e cs W) T (0, 0))) (o : Nat) (ho : cs.length = o) : w.rangeAt g o (W.l.map e) := by
  subst ho
  intro j v hj
  rw [blk_cell h]
  have hjn : j < n := by have := (List.getElem?_eq_some_iff.1 hj).1; rw [List.length_map, W.h] at this; exact this
  rw [mix_geti hjn]
  rw [List.getElem?_map, Option.map_eq_some_iff] at hj
  obtain ⟨x, hx, rfl⟩ := hj
  rw [List.getD_eq_getElem?_getD, hx]
  rfl
theorem mix_there (h : w.heap[g]? = some (.cells (mixA e cs W) T (0, 0))) (o k : Nat) (hk : o + k ≤ cs.length + n) : w.there g o k := by
  intro j hj
  have hlt : o + j < (mixA e cs W).size := by rw [mix_size]; omega
  rw [blk_cell h]
  exact ⟨by rw [Array.getElem?_eq_getElem hlt]; rfl, blk_frozen h _⟩
theorem mix_all (he : ∀ x, (e x).oneCell' = true) (hc : cs.all (·.oneCell') = true) : (mixA e cs W).all (·.oneCell') = true := by
  apply all_oneCell_toArray
  intro v hv
  rw [List.mem_append] at hv
  rcases hv with hv | hv
  · exact List.all_eq_true.1 hc v hv
  · obtain ⟨x, _, rfl⟩ := List.mem_map.1 hv; exact he x
end
section
variable {P : Program} {e : Int → Value} {cs : List Value} {n : Nat} {W : LA n}
theorem idx_la {T E : TypeId} (hu : P.underlying T = some (.array n E)) (hA : ∀ w, (isAgg E).run P w = .ok false w) (hS : ∀ w, (sizeOf E).run P w = .ok 1 w) (i : Int) (h0 : 0 ≤ i) (h1 : i < n) (w : World) :
    (Instr.index T (.agg (mixA e [] W)) (.int .i64 i)).run P w = .ok (e (rd W.l i)) w := by
  have h2 : (mixA e [] W)[i.toNat]? = some (e (rd W.l i)) := by
    have := mix_geti (e := e) (cs := []) (W := W) (i := i.toNat) (by omega)
    rw [List.length_nil, Nat.zero_add] at this
    exact this
  have hr : (underlying T).run P w = .ok (.array n E) w := by simp [underlying, hu]
  simp [Instr.index, asIntOf, hr, h0, h1, part, hA, hS, h2]
end
section
variable {P : Program} {ops : Array Oper} {rest : List Oper} {op : Oper} {a : Act} {w : World} {Q : Exit → Act → World → Prop} {e : Int → Value} {cs : List Value} {n : Nat} {W : LA n}
theorem load_run {P : Program} {o : Oper} {a : Act} {w : World} (ty : TypeId) (x : Operand) (ho : o.op = .load ty x) (b k : Nat) (hx : a.eval x = .pointer (some ⟨b, k, none⟩)) (cs : List Value) (d : TypeDesc) (hc : w.rangeAt b k cs)
    (hu : P.underlying ty = some d) (hd : d.isRow = true) {A : Array Value} (hA : A = cs.toArray) (hi : (P.info? ty).map (·.size) = some cs.length) : (execOp a.eval o).run P w = .ok (.value (.agg A)) w := by
  subst hA
  unfold execOp
  simp only [ho, hx, Instr.loadAt, Instr.sureAddr, Sem.run_bind, Sem.run_pure, Result.andThen_ok, run_loadVar_mid w b k ty cs d hc hu hd hi]
theorem load_mix_run {o : Oper} (ty : TypeId) (x : Operand) (ho : o.op = .load ty x) (b : Nat) (hx : a.eval x = .pointer (some ⟨b, 0, none⟩)) (h : w.rangeAt b 0 (cs ++ W.l.map e)) {d : TypeDesc}
    (hu : P.underlying ty = some d) (hd : d.isRow = true) {N : Nat} (hi : (P.info? ty).map (·.size) = some N) (hN : cs.length + n = N) : (execOp a.eval o).run P w = .ok (.value (.agg (mixA e cs W))) w :=
  load_run ty x ho b 0 hx _ d h hu hd rfl (by rw [hi]; congr 1; rw [List.length_append, List.length_map, W.h, hN])
theorem load_arr_run {o : Oper} (ty : TypeId) (x : Operand) (ho : o.op = .load ty x) (b k : Nat) (hx : a.eval x = .pointer (some ⟨b, k, none⟩)) {m : Nat} {L : LA m} (h : w.rangeAt b k (L.l.map e)) {d : TypeDesc}
    (hu : P.underlying ty = some d) (hd : d.isRow = true) (hi : (P.info? ty).map (·.size) = some m) : (execOp a.eval o).run P w = .ok (.value (.agg (mixA e [] L))) w :=
  load_run ty x ho b k hx _ d h hu hd rfl (by rw [hi]; congr 1; rw [List.length_map, L.h])
theorem wpList_run0 (hg : op.guard = none) {v : Value} (hr : (execOp a.eval op).run P w = .ok (.value v) w) (h : wpList P ops Q rest (a.put op.dst v) w) : wpList P ops Q (op :: rest) a w :=
  wpList_plain hg fun K hK => by
    unfold Oper.wp
    rw [hr]
    exact hK _ _ h
theorem wp_store_lmix {K : Act → World → Prop} (ty : TypeId) (x y : Operand) (ho : op.op = .store ty x y)
    (b : Nat) {T : TypeId} {cs' : List Value} {W' : LA n} (hx : a.eval x = .pointer (some ⟨b, 0, none⟩)) (hy : a.eval y = .agg (mixA e cs' W')) (hb : w.heap[b]? = some (.cells (mixA e cs W) T (0, 0))) (hl : cs'.length = cs.length)
    {N : Nat} (hi : (P.info? ty).map (·.size) = some N) (hN : cs.length + n = N) (he : ∀ x, (e x).oneCell' = true) (h1 : cs'.all (·.oneCell') = true)
    (h : ∀ w1, w1.heap[b]? = some (.cells (mixA e cs' W') T (0, 0)) → KeepBut w w1 b none → (∀ B a, Below B a w → B ≤ b → Below B a w1) → K (a.put op.dst undef) w1) : op.wp P a w K Q := by
  have hsz : (mixA e cs' W').size = N := by rw [mix_size, hl, hN]
  refine wp_store_mid ty x y ho b 0 _ hx hy (mix_there hb 0 _ (by rw [hsz, hN]; omega)) (by rw [hi, hsz]) (mix_all he h1) (h _ ?_ ?_ (fun B a hB hle => below_setCells hle _ _ _ hB))
  · have := blk_whole (vs := (mixA e cs' W').toList) (cs := (mixA e cs W).toList) (by simpa using hb) (by simp only [Array.length_toList, mix_size, hl])
    simpa using this
  · refine ⟨?_, fun i _ hne _ => ?_⟩
    · exact (below_setCells (B := 0) (b := b) (by omega) (mixA e cs' W').toList 0 w (Below.refl 0 w)).size
    · exact heap_setCells_far hne (mixA e cs' W').toList 0 w
theorem wpList_store_lmix (hgd : op.guard = none) (ty : TypeId) (x y : Operand) (ho : op.op = .store ty x y)
    (b : Nat) {T : TypeId} {cs' : List Value} {W' : LA n} (hx : a.eval x = .pointer (some ⟨b, 0, none⟩)) (hy : a.eval y = .agg (mixA e cs' W')) (hb : w.heap[b]? = some (.cells (mixA e cs W) T (0, 0))) (hl : cs'.length = cs.length)
    {N : Nat} (hi : (P.info? ty).map (·.size) = some N) (hN : cs.length + n = N) (he : ∀ x, (e x).oneCell' = true) (h1 : cs'.all (·.oneCell') = true)
    (h : ∀ w1, w1.heap[b]? = some (.cells (mixA e cs' W') T (0, 0)) → KeepBut w w1 b none → (∀ B a, Below B a w → B ≤ b → Below B a w1) → wpList P ops Q rest (a.put op.dst undef) w1) : wpList P ops Q (op :: rest) a w :=
  wpList_plain hgd fun _ hK => wp_store_lmix ty x y ho b hx hy hb hl hi hN he h1 (fun w1 h1_ h2_ h3_ => hK _ _ (h w1 h1_ h2_ h3_))
theorem wp_store_larr {K : Act → World → Prop} (ty : TypeId) (x y : Operand) (ho : op.op = .store ty x y)
    (b o : Nat) {T : TypeId} {W' : LA n} (hx : a.eval x = .pointer (some ⟨b, o, none⟩)) (hy : a.eval y = .agg (mixA e [] W')) (hb : w.heap[b]? = some (.cells (mixA e cs W) T (0, 0))) (hl : cs.length = o)
    (hi : (P.info? ty).map (·.size) = some n) (he : ∀ x, (e x).oneCell' = true)
    (h : ∀ w1, w1.heap[b]? = some (.cells (mixA e cs W') T (0, 0)) → KeepBut w w1 b none → (∀ B a, Below B a w → B ≤ b → Below B a w1) → K (a.put op.dst undef) w1) : op.wp P a w K Q := by
  subst hl
  have hsz : (mixA e [] W').size = n := by rw [mix_size]; simp
  refine wp_store_mid ty x y ho b cs.length _ hx hy (mix_there hb _ _ (by rw [hsz]; omega)) (by rw [hi, hsz]) (mix_all he rfl) (h _ ?_ ?_ (fun B a hB hle => below_setCells hle _ _ _ hB))
  · have := blk_setCells (mixA e [] W').toList (mixA e cs W).toList cs.length w (by simpa using hb) (by simp only [Array.length_toList, mix_size]; simp)
    rw [this]
    congr 2
    simp only [mixA, List.nil_append, List.length_map, W'.h, List.take_left']
    rw [List.drop_of_length_le (by simp [W.h]), List.append_nil]
  · refine ⟨?_, fun i _ hne _ => ?_⟩
    · exact (below_setCells (B := 0) (b := b) (by omega) (mixA e [] W').toList cs.length w (Below.refl 0 w)).size
    · exact heap_setCells_far hne (mixA e [] W').toList cs.length w
theorem wpList_store_larr (hgd : op.guard = none) (ty : TypeId) (x y : Operand) (ho : op.op = .store ty x y)
    (b o : Nat) {T : TypeId} {W' : LA n} (hx : a.eval x = .pointer (some ⟨b, o, none⟩)) (hy : a.eval y = .agg (mixA e [] W')) (hb : w.heap[b]? = some (.cells (mixA e cs W) T (0, 0))) (hl : cs.length = o)
    (hi : (P.info? ty).map (·.size) = some n) (he : ∀ x, (e x).oneCell' = true)
    (h : ∀ w1, w1.heap[b]? = some (.cells (mixA e cs W') T (0, 0)) → KeepBut w w1 b none → (∀ B a, Below B a w → B ≤ b → Below B a w1) → wpList P ops Q rest (a.put op.dst undef) w1) : wpList P ops Q (op :: rest) a w :=
  wpList_plain hgd fun _ hK => wp_store_larr ty x y ho b o hx hy hb hl hi he (fun w1 h1_ h2_ h3_ => hK _ _ (h w1 h1_ h2_ h3_))
theorem setcell_keep (w : World) (b o : Nat) (v : Value) : KeepBut w (w.setCell ⟨b, o, none⟩ v) b none :=
  ⟨((Below.refl 0 w).setCell (p := ⟨b, o, none⟩) (by omega) v).size, fun i _ hne _ => Below.heap_setCell w ⟨b, o, none⟩ v i hne⟩
theorem setcell_below (w : World) (b o : Nat) (v : Value) : ∀ B a, Below B a w → B ≤ b → Below B a (w.setCell ⟨b, o, none⟩ v) := fun B a h hle => h.setCell (p := ⟨b, o, none⟩) hle v
end
theorem bc_ {w : World} {g : Nat} {t : TypeId} {cs : Array Value} {v : Value} (h : w.heap[g]? = some (.cells cs t (0, 0))) (i : Nat) (e : cs[i]? = some v := by rfl) : w.cell? ⟨g, i, none⟩ = some v := (blk_cell h i).trans e
section
variable {p q : Prop} {w w' w0 w1 w2 w3 : World} {g g2 : Nat} {o : Obj}
theorem pk (a : Aside0 q) (h : q → p := by (intro h_; (with_reducible repeat (first | refine blk_drewN ?_ _ | refine blk_drew ?_ | refine blk_alloc ?_ _)); exact h_)) : p := h a.out
theorem pb (a : Aside0 q) (h : q → p := by (intro h_; repeat (first | (with_reducible first | exact h_ | apply below_alloc | apply pw_below_drewN | apply below_drew1) | exact h_))) : p := h a.out
theorem pbs (a : Aside0 q) (h : q → p := by (intro h_; repeat (first | (with_reducible first | exact h_ | apply below_alloc | apply pw_below_drewN | apply below_drew1) | exact h_ | (refine below_set ?_ ?_; rotate_left; (exact (Aside0.out (by assumption)))))) ) : p := h a.out
theorem bkb (a : Aside0 (w.heap[g]? = some o)) (hb : Below w'.heap.size w' w1) (h : w.heap[g]? = some o → w'.heap[g]? = some o := by (intro h_; (with_reducible repeat (first | refine blk_drewN ?_ _ | refine blk_drew ?_ | refine blk_alloc ?_ _)); exact h_)) : Aside0 (w1.heap[g]? = some o) := ⟨blk_below (h a.out) hb⟩
theorem bst (a : Aside0 (Below w0.heap.size w0 w1)) (hb : Below w2.heap.size w2 w3) (h : Below w0.heap.size w0 w1 → Below w0.heap.size w0 w2 := by (intro h_; repeat (first | (with_reducible first | exact h_ | apply below_alloc | apply pw_below_drewN | apply below_drew1) | exact h_ | (refine below_set ?_ ?_; rotate_left; (exact (Aside0.out (by assumption))))))) : Aside0 (Below w0.heap.size w0 w3) := ⟨below_step (h a.out) hb⟩
theorem gwl (a : Aside0 (Below w0.heap.size w0 w1)) (hg : g = w2.heap.size) (h : Below w0.heap.size w0 w1 → Below w0.heap.size w0 w2 := by (intro h_; repeat (first | (with_reducible first | exact h_ | apply below_alloc | apply pw_below_drewN | apply below_drew1) | exact h_ | (refine below_set ?_ ?_; rotate_left; (exact (Aside0.out (by assumption))))))) : Aside0 (w0.heap.size ≤ g) := ⟨by rw [hg]; exact below_size (h a.out)⟩
theorem nbl (a : Aside0 (w.heap[g]? = some o)) (hg : g2 = w2.heap.size) (h : w.heap[g]? = some o → w2.heap[g]? = some o := by (intro h_; (with_reducible repeat (first | refine blk_drewN ?_ _ | refine blk_drew ?_ | refine blk_alloc ?_ _)); exact h_)) : Aside0 (g ≠ g2) := ⟨by rw [hg]; exact Nat.ne_of_lt (blk_lt (h a.out))⟩
theorem nbg (a : Aside0 (w.heap[g]? = some o)) (hg : g2 = w2.heap.size) (h : w.heap[g]? = some o → w2.heap[g]? = some o := by (intro h_; (with_reducible repeat (first | refine blk_drewN ?_ _ | refine blk_drew ?_ | refine blk_alloc ?_ _)); exact h_)) : Aside0 (g2 ≠ g) := ⟨by rw [hg]; exact Nat.ne_of_gt (blk_lt (h a.out))⟩
theorem krb {α : Type} {d : Kd α} {e base : Nat} {ok : Nat → Prop} {v : Value} {xs : List α} (a : Aside0 (d.R e w base ok v xs)) (hb : Below w'.heap.size w' w1) (h : d.R e w base ok v xs → d.R e w' base ok v xs := by (intro h_; (with_reducible repeat (first | apply Kd.R_alloc | apply Kd.R_drewN | apply Kd.R_drew)); exact h_)) : Aside0 (d.R e w1 base ok v xs) := ⟨Kd.R_below (h a.out) hb⟩
end
end Go.Proofs.Ytanobaoaelhebaa.La
end
section
namespace Go.Proofs.YtanobaoaelhebaaW.PrintLast
open Go.Proofs.YtanobaoaelhebaaW.PrintWords (Aside0)
def needsOf (md : Region.Mode) (o : Oper) : List Nat := (o.after.toList.filter (fun e => Region.binds md e)).map (fun e => e.on)
def clashOf (md : Region.Mode) (ops : Array Oper) (i : Nat) (oi : Oper) : List Nat := (List.range ops.size).filter fun j => !(j == i) && match ops[j]? with
  | some oj => !(oj.after.any (fun e => Region.binds md e && e.on == i) || oi.apart ops oj)
  | none => false
def rtab (md : Region.Mode) (ops : Array Oper) : Bool × List (List Nat × List Nat) := (Region.noSelect ops, (List.range ops.size).map fun i => match ops[i]? with
  | some o => (needsOf md o, clashOf md ops i o)
  | none => ([], []))
def readyAt (T : List (List Nat × List Nat)) (l : List Bool) (i : Nat) : Bool := !l.getD i true && match T[i]? with
  | some r => r.1.all (fun j => l.getD j false)
  | none => false
def readyT (T : List (List Nat × List Nat)) (l : List Bool) : List Nat := (List.range T.length).filter (readyAt T l)
def freeT (T : List (List Nat × List Nat)) (l : List Bool) (i : Nat) : Bool := match T[i]? with
  | some r => r.2.all (fun j => l.getD j true)
  | none => false
def closedT (T : List (List Nat × List Nat)) (l : List Bool) : Bool := (List.range T.length).all fun j => !l.getD j false || match T[j]? with
  | some r => r.1.all (fun k => l.getD k false)
  | none => true
def reachT (T : List (List Nat × List Nat)) (i : Nat) : Nat → Nat → Bool
  | 0, _ => false
  | fuel + 1, d => match T[d]? with
    | some r => r.1.any fun j => j == i || reachT T i fuel j
    | none => false
def lastT (T : List (List Nat × List Nat)) (l : List Bool) (ds : List Nat) (i : Nat) : Bool := ds.all fun d => l.getD d true || reachT T i T.length d
section
variable {md : Region.Mode} {ops : Array Oper} {T : Bool × List (List Nat × List Nat)} {l l' li lj lk : Array Bool} {ds : List Nat} {i j k : Nat}
theorem gd (l : Array Bool) (j : Nat) (b : Bool) : l.getD j b = l.toList.getD j b := by simp [Array.getD_eq_getD_getElem?, List.getD_eq_getElem?_getD]
theorem needs_all (o : Oper) (p : Nat → Bool) : o.after.all (fun e => !Region.binds md e || p e.on) = (needsOf md o).all p := by
  unfold needsOf
  rw [← Array.all_toList]
  induction o.after.toList with
  | nil => rfl
  | cons e r ih =>
    rw [List.all_cons, ih, List.filter_cons]
    cases h : Region.binds md e <;> simp
theorem needs_any (o : Oper) (p : Nat → Bool) : o.after.any (fun e => Region.binds md e && p e.on) = (needsOf md o).any p := by
  unfold needsOf
  rw [← Array.any_toList]
  induction o.after.toList with
  | nil => rfl
  | cons e r ih =>
    rw [List.any_cons, ih, List.filter_cons]
    cases h : Region.binds md e <;> simp
theorem rtab_length : (rtab md ops).2.length = ops.size := by simp [rtab]
theorem rtab_some {o : Oper} (h : ops[i]? = some o) : (rtab md ops).2[i]? = some (needsOf md o, clashOf md ops i o) := by
  have hi := (Array.getElem?_eq_some_iff.1 h).1
  unfold rtab
  rw [List.getElem?_map, List.getElem?_range hi, Option.map_some, h]
theorem rtab_none (h : ops[i]? = none) : (rtab md ops).2[i]? = none := by
  have hi : ops.size ≤ i := Array.getElem?_eq_none_iff.1 h
  exact List.getElem?_eq_none (by rw [rtab_length]; exact hi)
theorem readyAt_eq : readyAt (rtab md ops).2 l.toList i = (!l.getD i true && ((ops[i]?).map (·.after.all fun e => !Region.binds md e || l.getD e.on false)).getD false) := by
  unfold readyAt
  rw [gd]
  cases h : ops[i]? with
  | none => rw [rtab_none h]; rfl
  | some o =>
    rw [rtab_some h]
    simp only [Option.map_some, Option.getD_some]
    rw [← needs_all]
    simp only [gd]
theorem ready_eq : Region.ready md ops l = readyT (rtab md ops).2 l.toList := by
  unfold Region.ready readyT
  rw [rtab_length]
  refine List.filter_congr (fun i _ => ?_)
  rw [readyAt_eq]
theorem free_eq : Region.free md ops l i = freeT (rtab md ops).2 l.toList i := by
  unfold Region.free freeT
  cases h : ops[i]? with
  | none => rw [rtab_none h]
  | some oi =>
    rw [rtab_some h]
    simp only [clashOf]
    rw [List.all_filter]
    congr 1
    funext j
    rw [gd]
    cases hj : ops[j]? with
    | none => cases (j == i) <;> cases (l.toList.getD j true) <;> simp
    | some oj =>
      cases (j == i) <;> cases (l.toList.getD j true) <;> cases (oj.after.any (fun e => Region.binds md e && e.on == i) || oi.apart ops oj) <;> simp_all
theorem closed_eq : Region.closedB md ops l = closedT (rtab md ops).2 l.toList := by
  unfold Region.closedB closedT
  rw [rtab_length]
  congr 1
  funext j
  rw [gd]
  cases h : ops[j]? with
  | none => rw [rtab_none h]
  | some o =>
    rw [rtab_some h]
    simp only
    rw [← needs_all]
    simp only [gd]
theorem reach_eq : ∀ (fuel d : Nat), Region.reachB md ops i fuel d = reachT (rtab md ops).2 i fuel d
  | 0, _ => rfl
  | fuel + 1, d => by
    unfold Region.reachB reachT
    cases h : ops[d]? with
    | none => rw [rtab_none h]
    | some o =>
      rw [rtab_some h]
      simp only
      rw [← needs_any]
      congr 1
      funext e
      rw [reach_eq fuel]
theorem last_eq : Region.lastB md ops l ds i = lastT (rtab md ops).2 l.toList ds i := by
  unfold Region.lastB lastT
  rw [rtab_length]
  congr 1
  funext d
  rw [gd, reach_eq]
theorem readyAt_mem (h : readyAt T.2 l.toList i = true) (hT : rtab md ops = T) : (Region.ready md ops l).contains i = true := by
  subst hT
  rw [ready_eq]
  unfold readyT
  rw [List.contains_iff_mem, List.mem_filter, List.mem_range]
  refine ⟨?_, h⟩
  unfold readyAt at h
  rw [Bool.and_eq_true] at h
  cases hq : (rtab md ops).2[i]? with
  | none => rw [hq] at h; simp at h
  | some r => exact (List.getElem?_eq_some_iff.1 hq).1
theorem set_of (h : (l.toList.set i true == l'.toList) = true) : (l.setIfInBounds i true == l') = true := by
  rw [beq_iff_eq] at h ⊢
  apply Array.ext'
  rw [Array.toList_setIfInBounds]
  exact h
def anyT (T : Bool × List (List Nat × List Nat)) (l l' : List Bool) (i : Nat) : Bool := T.1 && freeT T.2 l i && readyAt T.2 l i && (l.set i true == l')
theorem any_of (hT : rtab md ops = T) (h : anyT T l.toList l'.toList i = true) : anyB md ops l l' i = true := by
  simp only [anyT, Bool.and_eq_true] at h
  obtain ⟨⟨⟨h1, h2⟩, h3⟩, h4⟩ := h
  have h5 := readyAt_mem h3 hT
  have h6 := set_of h4
  subst hT
  simp only [anyB, Bool.and_eq_true]
  exact ⟨⟨⟨h1, by rw [free_eq]; exact h2⟩, h5⟩, h6⟩
def takeT (T : Bool × List (List Nat × List Nat)) (ds : List Nat) (l l' : List Bool) (i : Nat) : Bool := T.1 && freeT T.2 l i && readyAt T.2 l i && closedT T.2 l && lastT T.2 l ds i && (l.set i true == l')
theorem take_of (hT : rtab md ops = T) (h : takeT T ds l.toList l'.toList i = true) : takeB md ops ds l l' i = true := by
  simp only [takeT, Bool.and_eq_true] at h
  obtain ⟨⟨⟨⟨⟨h1, h2⟩, h3⟩, h4⟩, h5⟩, h6⟩ := h
  have h7 := readyAt_mem h3 hT
  have h8 := set_of h6
  subst hT
  simp only [takeB, Bool.and_eq_true]
  exact ⟨⟨⟨⟨⟨h1, by rw [free_eq]; exact h2⟩, h7⟩, by rw [closed_eq]; exact h4⟩, by rw [last_eq]; exact h5⟩, h8⟩
theorem one_of (hT : rtab md ops = T) (h : (readyT T.2 l.toList == [i] && l.toList.set i true == l'.toList) = true) : readyB md ops l l' i = true := by
  simp only [Bool.and_eq_true] at h
  obtain ⟨h1, h2⟩ := h
  subst hT
  simp only [readyB, Bool.and_eq_true]
  exact ⟨by rw [ready_eq]; exact h1, set_of h2⟩
theorem done_of (hT : rtab md ops = T) (h : (readyT T.2 l.toList == []) = true) : (Region.ready md ops l == []) = true := by
  subst hT
  rw [ready_eq]
  exact h
def upM (B : List Nat) (d : Nat) : List Nat → Nat
  | [] => 0
  | n :: r => (2 ^ n ||| (if n < d then B.getD n 0 else 0)) ||| upM B d r
def waitsOk (T : List (List Nat × List Nat)) (B : List Nat) : Bool := (List.range T.length).all fun d => match T[d]? with
  | some r => (B.getD d 0 ||| upM B d r.1) == upM B d r.1
  | none => false
theorem upM_bit {B : List Nat} {d i : Nat} : ∀ {ns : List Nat}, (upM B d ns).testBit i = true → ∃ n ∈ ns, n = i ∨ (n < d ∧ (B.getD n 0).testBit i = true)
  | [], h => by simp [upM] at h
  | n :: r, h => by
    unfold upM at h
    rw [Nat.testBit_or, Nat.testBit_or, Bool.or_eq_true, Bool.or_eq_true] at h
    rcases h with (h | h) | h
    · rw [Nat.testBit_two_pow] at h
      exact ⟨n, List.mem_cons_self, .inl (by simpa using h)⟩
    · by_cases hn : n < d
      · rw [if_pos hn] at h
        exact ⟨n, List.mem_cons_self, .inr ⟨hn, h⟩⟩
      · rw [if_neg hn] at h
        simp at h
    · obtain ⟨m, hm, h2⟩ := upM_bit h
      exact ⟨m, List.mem_cons_of_mem _ hm, h2⟩
theorem reach_bit {T : List (List Nat × List Nat)} {B : List Nat} (hB : waitsOk T B = true) : ∀ (fuel d : Nat), d < fuel → d < T.length → (B.getD d 0).testBit i = true → reachT T i fuel d = true
  | 0, d, h, _, _ => by omega
  | fuel + 1, d, h, hd, hb => by
    have h1 := List.all_eq_true.1 hB d (List.mem_range.2 hd)
    cases hr : T[d]? with
    | none => rw [hr] at h1; simp at h1
    | some r =>
      rw [hr] at h1
      simp only [beq_iff_eq] at h1
      have h2 : (upM B d r.1).testBit i = true := by rw [← h1, Nat.testBit_or, hb, Bool.true_or]
      obtain ⟨n, hn, h3⟩ := upM_bit h2
      unfold reachT
      rw [hr]
      simp only
      rw [List.any_eq_true]
      refine ⟨n, hn, ?_⟩
      rcases h3 with rfl | ⟨h4, h5⟩
      · simp
      · rw [reach_bit hB fuel n (by omega) (by omega) h5, Bool.or_true]
def lastW (T : List (List Nat × List Nat)) (B : List Nat) (l : List Bool) (ds : List Nat) (i : Nat) : Bool := ds.all fun d => l.getD d true || (decide (d < T.length) && (B.getD d 0).testBit i)
def takeW (T : Bool × List (List Nat × List Nat)) (B : List Nat) (ds : List Nat) (l l' : List Bool) (i : Nat) : Bool := T.1 && freeT T.2 l i && readyAt T.2 l i && closedT T.2 l && lastW T.2 B l ds i && (l.set i true == l')
theorem take_ofW {B : List Nat} (hT : rtab md ops = T) (hB : waitsOk T.2 B = true) (h : takeW T B ds l.toList l'.toList i = true) : takeB md ops ds l l' i = true := by
  refine take_of hT ?_
  simp only [takeW, takeT, Bool.and_eq_true] at h ⊢
  obtain ⟨⟨⟨⟨⟨h1, h2⟩, h3⟩, h4⟩, h5⟩, h6⟩ := h
  refine ⟨⟨⟨⟨⟨h1, h2⟩, h3⟩, h4⟩, ?_⟩, h6⟩
  unfold lastW at h5
  unfold lastT
  rw [List.all_eq_true] at h5 ⊢
  intro d hd
  have h7 := h5 d hd
  rw [Bool.or_eq_true, Bool.and_eq_true, decide_eq_true_eq] at h7
  rcases h7 with h7 | ⟨h8, h9⟩
  · rw [h7, Bool.true_or]
  · rw [reach_bit hB _ d h8 h8 h9, Bool.or_true]
theorem with_tabW {P : Program} {Q : Exit → Act → World → Prop} {S : World → Prop} {n : Nat} {a : Act} {w : World} {B : List Nat} (hT : rtab md ops = T) (hB : waitsOk T.2 B = true) (h : Aside0 (rtab md ops = T) → Aside0 (waitsOk T.2 B = true) → wpAnyLast P md ops Q S ds n l a w) : wpAnyLast P md ops Q S ds n l a w := h ⟨hT⟩ ⟨hB⟩
end
def opsIn : Code → Nat → Option (Array Oper)
  | .region id ops _, k => if id == k then some ops else none
  | .seq a b, k => match opsIn a k with
    | some o => some o
    | none => opsIn b k
  | .cond _ a b, k => match opsIn a k with
    | some o => some o
    | none => opsIn b k
  | .block _ c, k => opsIn c k
  | .loop c, k => opsIn c k
  | .scope c, k => opsIn c k
  | .rangeFunc _ _ a b, k => match opsIn a k with
    | some o => some o
    | none => opsIn b k
  | _, _ => none
def opsOf (f : Func) (k : Nat) : Array Oper := ((f.body.bind fun c => opsIn c k)).getD #[]
end Go.Proofs.YtanobaoaelhebaaW.PrintLast
end
section
namespace Go.Proofs.Ytanobaoaelhebaa.La
open Go.RowKit Go.Proofs.YtanobaoaelhebaaW.PrintWords Go.Proofs.YtanobaoaelhebaaW.PrintLast Go.Proofs.YtanobaoaelhebaaW.PrintMore
set_option linter.unusedVariables false
set_option linter.unusedSimpArgs false
def bl : Nat → Nat → List Bool
  | 0, _ => []
  | n + 1, x => (x % 2 == 1) :: bl n (x / 2)
def bA (n x : Nat) : Array Bool := ⟨bl n x⟩
section
variable {P : Program} {md : Region.Mode} {ops : Array Oper} {Q : Exit → Act → World → Prop} {S : World → Prop} {ds : List Nat} {N : Option Tmp} {oi : Oper} {v : Value} {fuel : Nat} {l : Array Bool} {a a' : Act} {w : World} {T : Bool × List (List Nat × List Nat)} {B : List Nat}
theorem pu (i N n x : Nat) (HT : Aside0 (rtab md ops = T)) (h : wpAnyLast P md ops Q S ds fuel (bA n x) a' w) (hi : ops[i]? = some oi := by exact rfl) (hN : oi.dst = some N := by exact rfl) (hc : anyT T l.toList (bA n x).toList i = true := by kernel_rfl)
    (hQ : ∀ c a w, Q (.panic c) (a.put oi.dst v) w → Q (.panic c) a w := by exact fun _ _ _ h => h) (hw : Region.wanted oi (yielded ops a.tmps) = true := by rfl) (hy : ∀ w, (execOp a.eval oi).run P w = .ok (.value v) w := by (intro w'; go_simp; with_reducible rfl))
    (ha : a.put (some N) v = a' := by (simp only [Act.put, List.setIfInBounds_toArray, List.set_cons_zero, List.set_cons_succ, i64_w, i32_w]; rfl)) : wpAnyLast P md ops Q S ds (fuel + 1) l a w :=
  pure_ (bA n x) hi hN (any_of HT.out hc) hQ (Or.inl ⟨hw, hy⟩) ha h
theorem pn (i N n x : Nat) (HT : Aside0 (rtab md ops = T)) (h : wpAnyLast P md ops Q S ds fuel (bA n x) a' w) (hi : ops[i]? = some oi := by exact rfl) (hN : oi.dst = some N := by exact rfl) (hc : anyT T l.toList (bA n x).toList i = true := by kernel_rfl)
    (hQ : ∀ c a w, Q (.panic c) (a.put oi.dst undef) w → Q (.panic c) a w := by exact fun _ _ _ h => h) (hw : Region.wanted oi (yielded ops a.tmps) = false := by rfl)
    (ha : a.put (some N) undef = a' := by (simp only [Act.put, List.setIfInBounds_toArray, List.set_cons_zero, List.set_cons_succ, i64_w, i32_w]; rfl)) : wpAnyLast P md ops Q S ds (fuel + 1) l a w :=
  pure_ (bA n x) hi hN (any_of HT.out hc) hQ (Or.inr ⟨hw, rfl⟩) ha h
theorem tk (i N n x : Nat) (HT : Aside0 (rtab md ops = T)) (HW : Aside0 (waitsOk T.2 B = true)) (hS : S w) (h : wpAnyLast P md ops Q S ds fuel (bA n x) a' w) (hi : ops[i]? = some oi := by exact rfl) (hN : oi.dst = some N := by exact rfl) (hc : takeW T B ds l.toList (bA n x).toList i = true := by kernel_rfl)
    (hQ : ∀ c a w, Q (.panic c) (a.put oi.dst v) w → Q (.panic c) a w := by exact fun _ _ _ h => h) (hw : Region.wanted oi (yielded ops a.tmps) = true := by rfl)
    (hy : ∀ w, S w → (execOp a.eval oi).run P w = .ok (.value v) w := by first | (rintro w' s0; go_simp; with_reducible rfl) | (rintro w' ⟨s0, s1⟩; go_simp; with_reducible rfl) | (rintro w' ⟨s0, s1, s2⟩; go_simp; with_reducible rfl) | (rintro w' ⟨s0, s1, s2, s3⟩; go_simp; with_reducible rfl) | (rintro w' ⟨s0, s1, s2, s3, s4⟩; go_simp; with_reducible rfl) | (rintro w' ⟨s0, s1, s2, s3, s4, s5⟩; go_simp; with_reducible rfl) | (rintro w' ⟨s0, s1, s2, s3, s4, s5, s6⟩; go_simp; with_reducible rfl) | (rintro w' ⟨s0, s1, s2, s3, s4, s5, s6, s7⟩; go_simp; with_reducible rfl))
    (ha : a.put (some N) v = a' := by (simp only [Act.put, List.setIfInBounds_toArray, List.set_cons_zero, List.set_cons_succ, i64_w, i32_w]; rfl)) : wpAnyLast P md ops Q S ds (fuel + 1) l a w :=
  take_ (bA n x) hi hN (take_ofW HT.out HW.out hc) hQ (Or.inl ⟨hw, hy⟩) hS ha h
theorem nm (N : Nat) (h : wpAnyLast P md ops Q S ds fuel l a' w) (ha : a.put (some N) v = a' := by (simp only [Act.put, List.setIfInBounds_toArray, List.set_cons_zero, List.set_cons_succ, i64_w, i32_w]; rfl)) : wpAnyLast P md ops Q S ds fuel l (a.put (some N) v) w := norm_ ha h
theorem gs {K : Act → World → Prop} {f : FuncId} {fn : Func} {aa : Array Operand} {ts : Array TypeId} (hf : P.funcs[f]? = some fn) (args : Array Value) (h : Calls P f args w fun e w' => ∃ v, e = .returned v ∧ K (a.put N v) w') (hname : (fn.name == "runtime.NumGoroutine") = false := by kernel_rfl) (hb : fn.body.isSome = true := by exact rfl)
    (hw : Region.wanted oi (yielded ops a.tmps) = true := by rfl) (hN : oi.dst = N := by exact rfl) (hop : oi.op = .call { callee := .value (.func f), args := aa, argTypes := ts } := by exact rfl)
    (hargs : aa.map a.eval = args := by (try simp only [List.map_toArray, List.map_cons, List.map_nil]); first | done | rfl | (simp only [List.length_drop, List.length_take]; rfl)) : if Region.wanted oi (yielded ops a.tmps) = true then Oper.wp P oi a w K Q else K (a.put N undef) w :=
  goes_ hf hname hb args hw hN hop hargs h
theorem gl {rest : List Oper} (N : Option Tmp) {f : FuncId} {fn : Func} {aa : Array Operand} {ts : Array TypeId} (hf : P.funcs[f]? = some fn) (args : Array Value)
    (h : Calls P f args w fun e w' => ∃ v, e = .returned v ∧ wpList P ops Q rest (a.put N v) w') (hd : oi.dst = N := by exact rfl) (hg : oi.guard = none := by exact rfl) (hname : (fn.name == "runtime.NumGoroutine") = false := by kernel_rfl) (hb : fn.body.isSome = true := by exact rfl)
    (hop : oi.op = .call { callee := .value (.func f), args := aa, argTypes := ts } := by exact rfl)
    (hargs : aa.map a.eval = args := by (try simp only [List.map_toArray, List.map_cons, List.map_nil]); first | done | rfl | (simp only [List.length_drop, List.length_take]; rfl)) : wpList P ops Q (oi :: rest) a w :=
  goesL_ N hd hg hf hname hb args hop hargs h
end
theorem obn {α β : Type} {x : Option α} {f : α → Option β} {b : β} (h : x.bind f = some b) : ∃ y, Aside0 (x = some y) ∧ f y = some b := by
  obtain ⟨y, h1, h2⟩ := Option.bind_eq_some_iff.mp h
  exact ⟨y, ⟨h1⟩, h2⟩
theorem cb {w w' : World} {p : Addr} {v : Value} (HB : Aside0 (Below w.heap.size w w')) (hx : w.cell? p = some v) : w'.cell? p = some v := (HB.out.cell (World.block_lt_of_cell? w _ hx)).trans hx
theorem oda {p : Prop} [Decidable p] (h : decide p = true := by first | (with_reducible assumption) | assumption) : p := of_decide_eq_true h
end Go.Proofs.Ytanobaoaelhebaa.La
end
