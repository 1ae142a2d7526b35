/- The statement FnExactSeenAlong of this program: what its proof uses, part 3 of 18. The call returns true for all arguments. No condition of its own. -/
import Derived.Test.YtjogemppgdeomaaProg
import Derived.Deep.MidRow
import Derived.Test.YtjogemppgdeomaaZFnExactSeenAlong1
section
namespace Go.Proofs.Ytjogemppgdeomaa.La
open Go.RowKit Go.Proofs.YtjogemppgdeomaaW.PrintWords Go.Proofs.YtjogemppgdeomaaW.PrintLast Go.Proofs.YtjogemppgdeomaaW.PrintMore
set_option linter.unusedVariables false
set_option linter.unusedSimpArgs false
structure LA (n : Nat) where
  l : List Int
  h : l.length = n
theorem LA.ext_l {n : Nat} {a b : LA n} (h : a.l = b.l) : a = b := by
  cases a; cases b; cases h; rfl
instance LA.dec (n : Nat) : DecidableEq (LA n) := fun a b => if h : a.l = b.l then isTrue (LA.ext_l h) else isFalse (fun e => h (by rw [e]))
def LA.zero (n : Nat) : LA n := ⟨List.replicate n 0, List.length_replicate⟩
def LA.set {n : Nat} (W : LA n) (i v : Int) : LA n := ⟨W.l.set i.toNat v, by rw [List.length_set]; exact W.h⟩
def LA.row {n : Nat} (W : LA n) (m : Nat) (a : Int) : LA m := ⟨(List.range m).map (fun j : Nat => rd W.l (a * m + (j : Int))), by simp⟩
def mixA (e : Int → Value) (cs : List Value) {n : Nat} (W : LA n) : Array Value := (cs ++ W.l.map e).toArray
theorem rd_set_same {n : Nat} (W : LA n) (i v : Int) (h0 : 0 ≤ i) (h1 : i < n) : rd (W.set i v).l i = v := by
  have h : i.toNat < W.l.length := by rw [W.h]; omega
  simp [LA.set, rd, List.getD_eq_getElem?_getD, List.getElem?_set, h]
theorem rd_set_other {n : Nat} (W : LA n) (i j v : Int) (h0 : 0 ≤ i) (h1 : 0 ≤ j) (h : i ≠ j) : rd (W.set i v).l j = rd W.l j := by
  have hne : i.toNat ≠ j.toNat := by omega
  simp [LA.set, rd, List.getD_eq_getElem?_getD, List.getElem?_set, hne]
theorem setCells_list {α : Type} (cs : List α) (v : α) (vs : List α) (o : Nat) (hl : o + (vs.length + 1) ≤ cs.length) : (cs.set o v).take (o+1) ++ vs ++ (cs.set o v).drop (o+1+vs.length) = cs.take o ++ v :: vs ++ cs.drop (o + (vs.length + 1)) := by
  have t1 : (cs.set o v).take (o + 1) = cs.take o ++ [v] := by
    rw [List.take_add_one, List.take_set_of_le (Nat.le_refl _), List.getElem?_set_self (by omega)]; rfl
  have t2 : (cs.set o v).drop (o + 1 + vs.length) = cs.drop (o + (vs.length + 1)) := by
    rw [List.drop_set_of_lt (by omega), show o + 1 + vs.length = o + (vs.length + 1) by omega]
  rw [t1, t2, List.append_assoc, List.append_assoc, List.append_assoc]; rfl
theorem blk_setCells {g : Nat} {T : TypeId} : ∀ (vs : List Value) (cs : List Value) (o : Nat) (w : World), w.heap[g]? = some (.cells cs.toArray T (0, 0)) → o + vs.length ≤ cs.length →
    (w.setCells g o vs).heap[g]? = some (.cells (cs.take o ++ vs ++ cs.drop (o + vs.length)).toArray T (0, 0))
  | [], cs, o, w, h, _ => by simpa [World.setCells] using h
  | v :: vs, cs, o, w, h, hl => by
    have h1 := blk_set h o v
    have e : cs.toArray.setIfInBounds o v = (cs.set o v).toArray := by simp
    rw [e] at h1; have h2 := blk_setCells vs (cs.set o v) (o + 1) _ h1 (by simp at hl ⊢; omega); rw [World.setCells, h2, setCells_list cs v vs o (by simpa using hl)]; rfl
theorem blk_whole {g : Nat} {T : TypeId} {vs cs : List Value} {w : World} (h : w.heap[g]? = some (.cells cs.toArray T (0, 0))) (hl : vs.length = cs.length) : (w.setCells g 0 vs).heap[g]? = some (.cells vs.toArray T (0, 0)) := by
  have := blk_setCells vs cs 0 w h (by omega); rw [this, Nat.zero_add, hl, List.drop_length, List.take_zero]
  simp
theorem below_setCells {B b : Nat} {a : World} (hb : B ≤ b) : ∀ (vs : List Value) (o : Nat) (w : World), Below B a w → Below B a (w.setCells b o vs)
  | [], _, _, h => h
  | v :: vs, o, w, h => below_setCells hb vs (o + 1) _ (h.setCell (p := ⟨b, o, none⟩) hb v)
theorem heap_setCells_far {i b : Nat} (hne : i ≠ b) : ∀ (vs : List Value) (o : Nat) (w : World), (w.setCells b o vs).heap[i]? = w.heap[i]?
  | [], _, _ => rfl
  | v :: vs, o, w => (heap_setCells_far hne vs (o + 1) _).trans (Below.heap_setCell w ⟨b, o, none⟩ v i hne)
section
variable {e : Int → Value} {cs : List Value} {n : Nat} {W : LA n} {w : World} {g T : Nat}
theorem mix_size : (mixA e cs W).size = cs.length + n := by simp [mixA, W.h]
theorem mix_get0 {j : Nat} {v : Value} (h : cs[j]? = some v) : (mixA e cs W)[j]? = some v := by
  have hj : j < cs.length := (List.getElem?_eq_some_iff.1 h).1; simp only [mixA, List.getElem?_toArray]; rw [List.getElem?_append_left hj, h]
theorem mix_geti {i : Nat} (h : i < n) : (mixA e cs W)[cs.length + i]? = some (e (W.l.getD i 0)) := by
  have hi : i < W.l.length := by rw [W.h]; exact h
  simp only [mixA, List.getElem?_toArray]; rw [List.getElem?_append_right (by omega), List.getElem?_map, show cs.length + i - cs.length = i by omega, List.getElem?_eq_getElem hi, List.getD_eq_getElem?_getD, List.getElem?_eq_getElem hi]; rfl
theorem mix_cell0 (h : w.heap[g]? = some (.cells (mixA e cs W) T (0, 0))) (j : Nat) {v : Value} (hv : cs[j]? = some v := by rfl) : w.cell? ⟨g, j, none⟩ = some v := by
  rw [blk_cell h j]; exact mix_get0 hv
theorem mix_at (h : w.heap[g]? = some (.cells (mixA e cs W) T (0, 0))) (o : Nat) (ho : cs.length = o) (i : Int) (h0 : 0 ≤ i) (h1 : i < n) : w.cell? ⟨g, o + i.toNat, none⟩ = some (e (rd W.l i)) := by
  subst ho; rw [blk_cell h, mix_geti (by omega)]; rfl
theorem mix_atz (h : w.heap[g]? = some (.cells (mixA e [] W) T (0, 0))) (i : Int) (h0 : 0 ≤ i) (h1 : i < n) : w.cell? ⟨g, i.toNat, none⟩ = some (e (rd W.l i)) := by
  have := mix_at h 0 rfl i h0 h1
  rwa [Nat.zero_add] at this
theorem mix_set (h : w.heap[g]? = some (.cells (mixA e cs W) T (0, 0))) (o : Nat) (ho : cs.length = o) (i v : Int) (h0 : 0 ≤ i) (h1 : i < n) : (w.setCell ⟨g, o + i.toNat, none⟩ (e v)).heap[g]? = some (.cells (mixA e cs (W.set i v)) T (0, 0)) := by
  subst ho; rw [blk_set h]
  congr 2
  simp only [mixA, LA.set, List.setIfInBounds_toArray, List.map_set]; rw [List.set_append_right _ _ (by omega), show cs.length + i.toNat - cs.length = i.toNat by omega]
theorem mix_setz (h : w.heap[g]? = some (.cells (mixA e [] W) T (0, 0))) (i v : Int) (h0 : 0 ≤ i) (h1 : i < n) : (w.setCell ⟨g, i.toNat, none⟩ (e v)).heap[g]? = some (.cells (mixA e [] (W.set i v)) T (0, 0)) := by
  have := mix_set h 0 rfl i v h0 h1
  rwa [Nat.zero_add] at this
theorem mix_put0 (h : w.heap[g]? = some (.cells (mixA e cs W) T (0, 0))) (j : Nat) (v : Value) (hj : j < cs.length) : (w.setCell ⟨g, j, none⟩ v).heap[g]? = some (.cells (mixA e (cs.set j v) W) T (0, 0)) := by
  rw [blk_set h]
  congr 2
  simp only [mixA, List.setIfInBounds_toArray]; rw [List.set_append_left _ _ hj]
theorem mix_range (h : w.heap[g]? = some (.cells (mixA e cs W) T (0, 0))) : w.rangeAt g 0 (cs ++ W.l.map e) := by
  intro j v hj; rw [Nat.zero_add, blk_cell h j]; simp only [mixA, List.getElem?_toArray]; exact hj
theorem mix_range_arr (h : w.heap[g]? = some (.cells (mixA e cs W) T (0, 0))) (o : Nat) (ho : cs.length = o) : w.rangeAt g o (W.l.map e) := by
  subst ho; intro j v hj; rw [blk_cell h]
  have hjn : j < n := by have := (List.getElem?_eq_some_iff.1 hj).1; rw [List.length_map, W.h] at this; exact this
  rw [mix_geti hjn]; rw [List.getElem?_map, Option.map_eq_some_iff] at hj; obtain ⟨x, hx, rfl⟩ := hj; rw [List.getD_eq_getElem?_getD, hx]; rfl
theorem mix_there (h : w.heap[g]? = some (.cells (mixA e cs W) T (0, 0))) (o k : Nat) (hk : o + k ≤ cs.length + n) : w.there g o k := by
  intro j hj
  have hlt : o + j < (mixA e cs W).size := by rw [mix_size]; omega
  rw [blk_cell h]; exact ⟨by rw [Array.getElem?_eq_getElem hlt]; rfl, blk_frozen h _⟩
theorem mix_all (he : ∀ x, (e x).oneCell' = true) (hc : cs.all (·.oneCell') = true) : (mixA e cs W).all (·.oneCell') = true := by
  apply all_oneCell_toArray
  intro v hv; rw [List.mem_append] at hv
  rcases hv with hv | hv
  · exact List.all_eq_true.1 hc v hv
  · obtain ⟨x, _, rfl⟩ := List.mem_map.1 hv; exact he x
end
section
variable {P : Program} {e : Int → Value} {cs : List Value} {n : Nat} {W : LA n}
theorem idx_la {T E : TypeId} (hu : P.underlying T = some (.array n E)) (hA : ∀ w, (isAgg E).run P w = .ok false w) (hS : ∀ w, (sizeOf E).run P w = .ok 1 w) (i : Int) (h0 : 0 ≤ i) (h1 : i < n) (w : World) :
    (Instr.index T (.agg (mixA e [] W)) (.int .i64 i)).run P w = .ok (e (rd W.l i)) w := by
  have h2 : (mixA e [] W)[i.toNat]? = some (e (rd W.l i)) := by
    have := mix_geti (e := e) (cs := []) (W := W) (i := i.toNat) (by omega); rw [List.length_nil, Nat.zero_add] at this; exact this
  have hr : (underlying T).run P w = .ok (.array n E) w := by simp [underlying, hu]
  simp [Instr.index, asIntOf, hr, h0, h1, part, hA, hS, h2]
end
section
variable {P : Program} {ops : Array Oper} {rest : List Oper} {op : Oper} {a : Act} {w : World} {Q : Exit → Act → World → Prop} {e : Int → Value} {cs : List Value} {n : Nat} {W : LA n}
theorem load_run {P : Program} {o : Oper} {a : Act} {w : World} (ty : TypeId) (x : Operand) (ho : o.op = .load ty x) (b k : Nat) (hx : a.eval x = .pointer (some ⟨b, k, none⟩)) (cs : List Value) (d : TypeDesc) (hc : w.rangeAt b k cs)
    (hu : P.underlying ty = some d) (hd : d.isRow = true) {A : Array Value} (hA : A = cs.toArray) (hi : (P.info? ty).map (·.size) = some cs.length) : (execOp a.eval o).run P w = .ok (.value (.agg A)) w := by
  subst hA; unfold execOp; simp only [ho, hx, Instr.loadAt, Instr.sureAddr, Sem.run_bind, Sem.run_pure, Result.andThen_ok, run_loadVar_mid w b k ty cs d hc hu hd hi]
theorem load_mix_run {o : Oper} (ty : TypeId) (x : Operand) (ho : o.op = .load ty x) (b : Nat) (hx : a.eval x = .pointer (some ⟨b, 0, none⟩)) (h : w.rangeAt b 0 (cs ++ W.l.map e)) {d : TypeDesc}
    (hu : P.underlying ty = some d) (hd : d.isRow = true) {N : Nat} (hi : (P.info? ty).map (·.size) = some N) (hN : cs.length + n = N) : (execOp a.eval o).run P w = .ok (.value (.agg (mixA e cs W))) w :=
  load_run ty x ho b 0 hx _ d h hu hd rfl (by rw [hi]; congr 1; rw [List.length_append, List.length_map, W.h, hN])
theorem load_arr_run {o : Oper} (ty : TypeId) (x : Operand) (ho : o.op = .load ty x) (b k : Nat) (hx : a.eval x = .pointer (some ⟨b, k, none⟩)) {m : Nat} {L : LA m} (h : w.rangeAt b k (L.l.map e)) {d : TypeDesc}
    (hu : P.underlying ty = some d) (hd : d.isRow = true) (hi : (P.info? ty).map (·.size) = some m) : (execOp a.eval o).run P w = .ok (.value (.agg (mixA e [] L))) w :=
  load_run ty x ho b k hx _ d h hu hd rfl (by rw [hi]; congr 1; rw [List.length_map, L.h])
theorem wpList_run1 (hw : Region.wanted op (yielded ops a.tmps) = true) {v : Value} (hr : (execOp a.eval op).run P w = .ok (.value v) w) (h : wpList P ops Q rest (a.put op.dst v) w) : wpList P ops Q (op :: rest) a w :=
  wpList_step fun K hK => by
    rw [if_pos hw]; unfold Oper.wp; rw [hr]; exact hK _ _ h
theorem wpList_run0 (hg : op.guard = none) {v : Value} (hr : (execOp a.eval op).run P w = .ok (.value v) w) (h : wpList P ops Q rest (a.put op.dst v) w) : wpList P ops Q (op :: rest) a w :=
  wpList_plain hg fun K hK => by
    unfold Oper.wp; rw [hr]; exact hK _ _ h
theorem wp_store_lmix {K : Act → World → Prop} (ty : TypeId) (x y : Operand) (ho : op.op = .store ty x y)
    (b : Nat) {T : TypeId} {cs' : List Value} {W' : LA n} (hx : a.eval x = .pointer (some ⟨b, 0, none⟩)) (hy : a.eval y = .agg (mixA e cs' W')) (hb : w.heap[b]? = some (.cells (mixA e cs W) T (0, 0))) (hl : cs'.length = cs.length)
    {N : Nat} (hi : (P.info? ty).map (·.size) = some N) (hN : cs.length + n = N) (he : ∀ x, (e x).oneCell' = true) (h1 : cs'.all (·.oneCell') = true)
    (h : ∀ w1, w1.heap[b]? = some (.cells (mixA e cs' W') T (0, 0)) → KeepBut w w1 b none → (∀ B a, Below B a w → B ≤ b → Below B a w1) → K (a.put op.dst undef) w1) : op.wp P a w K Q := by
  have hsz : (mixA e cs' W').size = N := by rw [mix_size, hl, hN]
  refine wp_store_mid ty x y ho b 0 _ hx hy (mix_there hb 0 _ (by rw [hsz, hN]; omega)) (by rw [hi, hsz]) (mix_all he h1) (h _ ?_ ?_ (fun B a hB hle => below_setCells hle _ _ _ hB))
  · have := blk_whole (vs := (mixA e cs' W').toList) (cs := (mixA e cs W).toList) (by simpa using hb) (by simp only [Array.length_toList, mix_size, hl])
    simpa using this
  · refine ⟨?_, fun i _ hne _ => ?_⟩
    · exact (below_setCells (B := 0) (b := b) (by omega) (mixA e cs' W').toList 0 w (Below.refl 0 w)).size
    · exact heap_setCells_far hne (mixA e cs' W').toList 0 w
theorem wpList_store_lmix (hgd : op.guard = none) (ty : TypeId) (x y : Operand) (ho : op.op = .store ty x y)
    (b : Nat) {T : TypeId} {cs' : List Value} {W' : LA n} (hx : a.eval x = .pointer (some ⟨b, 0, none⟩)) (hy : a.eval y = .agg (mixA e cs' W')) (hb : w.heap[b]? = some (.cells (mixA e cs W) T (0, 0))) (hl : cs'.length = cs.length)
    {N : Nat} (hi : (P.info? ty).map (·.size) = some N) (hN : cs.length + n = N) (he : ∀ x, (e x).oneCell' = true) (h1 : cs'.all (·.oneCell') = true)
    (h : ∀ w1, w1.heap[b]? = some (.cells (mixA e cs' W') T (0, 0)) → KeepBut w w1 b none → (∀ B a, Below B a w → B ≤ b → Below B a w1) → wpList P ops Q rest (a.put op.dst undef) w1) : wpList P ops Q (op :: rest) a w :=
  wpList_plain hgd fun _ hK => wp_store_lmix ty x y ho b hx hy hb hl hi hN he h1 (fun w1 h1_ h2_ h3_ => hK _ _ (h w1 h1_ h2_ h3_))
theorem wp_store_larr {K : Act → World → Prop} (ty : TypeId) (x y : Operand) (ho : op.op = .store ty x y)
    (b o : Nat) {T : TypeId} {W' : LA n} (hx : a.eval x = .pointer (some ⟨b, o, none⟩)) (hy : a.eval y = .agg (mixA e [] W')) (hb : w.heap[b]? = some (.cells (mixA e cs W) T (0, 0))) (hl : cs.length = o)
    (hi : (P.info? ty).map (·.size) = some n) (he : ∀ x, (e x).oneCell' = true)
    (h : ∀ w1, w1.heap[b]? = some (.cells (mixA e cs W') T (0, 0)) → KeepBut w w1 b none → (∀ B a, Below B a w → B ≤ b → Below B a w1) → K (a.put op.dst undef) w1) : op.wp P a w K Q := by
  subst hl
  have hsz : (mixA e [] W').size = n := by rw [mix_size]; simp
  refine wp_store_mid ty x y ho b cs.length _ hx hy (mix_there hb _ _ (by rw [hsz]; omega)) (by rw [hi, hsz]) (mix_all he rfl) (h _ ?_ ?_ (fun B a hB hle => below_setCells hle _ _ _ hB))
  · have := blk_setCells (mixA e [] W').toList (mixA e cs W).toList cs.length w (by simpa using hb) (by simp only [Array.length_toList, mix_size]; simp)
    rw [this]
    congr 2
    simp only [mixA, List.nil_append, List.length_map, W'.h, List.take_left']; rw [List.drop_of_length_le (by simp [W.h]), List.append_nil]
  · refine ⟨?_, fun i _ hne _ => ?_⟩
    · exact (below_setCells (B := 0) (b := b) (by omega) (mixA e [] W').toList cs.length w (Below.refl 0 w)).size
    · exact heap_setCells_far hne (mixA e [] W').toList cs.length w
theorem wpList_store_larr (hgd : op.guard = none) (ty : TypeId) (x y : Operand) (ho : op.op = .store ty x y)
    (b o : Nat) {T : TypeId} {W' : LA n} (hx : a.eval x = .pointer (some ⟨b, o, none⟩)) (hy : a.eval y = .agg (mixA e [] W')) (hb : w.heap[b]? = some (.cells (mixA e cs W) T (0, 0))) (hl : cs.length = o)
    (hi : (P.info? ty).map (·.size) = some n) (he : ∀ x, (e x).oneCell' = true)
    (h : ∀ w1, w1.heap[b]? = some (.cells (mixA e cs W') T (0, 0)) → KeepBut w w1 b none → (∀ B a, Below B a w → B ≤ b → Below B a w1) → wpList P ops Q rest (a.put op.dst undef) w1) : wpList P ops Q (op :: rest) a w :=
  wpList_plain hgd fun _ hK => wp_store_larr ty x y ho b o hx hy hb hl hi he (fun w1 h1_ h2_ h3_ => hK _ _ (h w1 h1_ h2_ h3_))
theorem setcell_keep (w : World) (b o : Nat) (v : Value) : KeepBut w (w.setCell ⟨b, o, none⟩ v) b none :=
  ⟨((Below.refl 0 w).setCell (p := ⟨b, o, none⟩) (by omega) v).size, fun i _ hne _ => Below.heap_setCell w ⟨b, o, none⟩ v i hne⟩
theorem setcell_below (w : World) (b o : Nat) (v : Value) : ∀ B a, Below B a w → B ≤ b → Below B a (w.setCell ⟨b, o, none⟩ v) := fun B a h hle => h.setCell (p := ⟨b, o, none⟩) hle v
end
section
variable {p q : Prop} {w w' w0 w1 w2 w3 : World} {g g2 : Nat} {o : Obj}
theorem pk (a : Aside0 q) (h : q → p := by (intro h_; (with_reducible repeat (first | refine blk_drewN ?_ _ | refine blk_drew ?_ | refine blk_alloc ?_ _)); exact h_)) : p := h a.out
theorem pb (a : Aside0 q) (h : q → p := by (intro h_; repeat (first | (with_reducible first | exact h_ | apply below_alloc | apply pw_below_drewN | apply below_drew1) | exact h_))) : p := h a.out
theorem pbs (a : Aside0 q) (h : q → p := by (intro h_; repeat (first | (with_reducible first | exact h_ | apply below_alloc | apply pw_below_drewN | apply below_drew1) | exact h_ | (refine below_set ?_ ?_; rotate_left; (exact (Aside0.out (by assumption)))))) ) : p := h a.out
theorem bkb (a : Aside0 (w.heap[g]? = some o)) (hb : Below w'.heap.size w' w1) (h : w.heap[g]? = some o → w'.heap[g]? = some o := by (intro h_; (with_reducible repeat (first | refine blk_drewN ?_ _ | refine blk_drew ?_ | refine blk_alloc ?_ _)); exact h_)) : Aside0 (w1.heap[g]? = some o) := ⟨blk_below (h a.out) hb⟩
theorem bst (a : Aside0 (Below w0.heap.size w0 w1)) (hb : Below w2.heap.size w2 w3) (h : Below w0.heap.size w0 w1 → Below w0.heap.size w0 w2 := by (intro h_; repeat (first | (with_reducible first | exact h_ | apply below_alloc | apply pw_below_drewN | apply below_drew1) | exact h_ | (refine below_set ?_ ?_; rotate_left; (exact (Aside0.out (by assumption))))))) : Aside0 (Below w0.heap.size w0 w3) := ⟨below_step (h a.out) hb⟩
theorem gwl (a : Aside0 (Below w0.heap.size w0 w1)) (hg : g = w2.heap.size) (h : Below w0.heap.size w0 w1 → Below w0.heap.size w0 w2 := by (intro h_; repeat (first | (with_reducible first | exact h_ | apply below_alloc | apply pw_below_drewN | apply below_drew1) | exact h_ | (refine below_set ?_ ?_; rotate_left; (exact (Aside0.out (by assumption))))))) : Aside0 (w0.heap.size ≤ g) := ⟨by rw [hg]; exact below_size (h a.out)⟩
theorem nbl (a : Aside0 (w.heap[g]? = some o)) (hg : g2 = w2.heap.size) (h : w.heap[g]? = some o → w2.heap[g]? = some o := by (intro h_; (with_reducible repeat (first | refine blk_drewN ?_ _ | refine blk_drew ?_ | refine blk_alloc ?_ _)); exact h_)) : Aside0 (g ≠ g2) := ⟨by rw [hg]; exact Nat.ne_of_lt (blk_lt (h a.out))⟩
theorem nbg (a : Aside0 (w.heap[g]? = some o)) (hg : g2 = w2.heap.size) (h : w.heap[g]? = some o → w2.heap[g]? = some o := by (intro h_; (with_reducible repeat (first | refine blk_drewN ?_ _ | refine blk_drew ?_ | refine blk_alloc ?_ _)); exact h_)) : Aside0 (g2 ≠ g) := ⟨by rw [hg]; exact Nat.ne_of_gt (blk_lt (h a.out))⟩
theorem krb {α : Type} {d : Kd α} {e base : Nat} {ok : Nat → Prop} {v : Value} {xs : List α} (a : Aside0 (d.R e w base ok v xs)) (hb : Below w'.heap.size w' w1) (h : d.R e w base ok v xs → d.R e w' base ok v xs := by (intro h_; (with_reducible repeat (first | apply Kd.R_alloc | apply Kd.R_drewN | apply Kd.R_drew)); exact h_)) : Aside0 (d.R e w1 base ok v xs) := ⟨Kd.R_below (h a.out) hb⟩
end
end Go.Proofs.Ytjogemppgdeomaa.La
end
