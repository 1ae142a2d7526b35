/- The statement FnExactSeenAlong of this program: what its proof uses, part 8 of 18. The call returns true for all arguments. No condition of its own. -/
import Derived.Laws.AppendOwn
import Derived.Test.YtjogemppgdeomaaZFnExactSeenAlong6
section
namespace Go.Proofs
open Go.RowKit Go.Lib Go.Sort
set_option linter.unusedVariables false
set_option linter.unusedSimpArgs false
def flat8 (d : List S8) : List Value := (flatK encS8 2 d.toArray).toList
def sort8 (d : List S8) : List S8 := d.mergeSort fun x y => !(ltOf cfS8) y x
def comp8 (d : List S8) : List S8 := compactUpTo d.toArray d.length
def mk8 (x y : Int) : S8 := if h : (-128 ≤ x ∧ x < 128) ∧ (-128 ≤ y ∧ y < 128) then ⟨(x, y), h⟩ else default
theorem sort8_length (d : List S8) : (sort8 d).length = d.length := List.length_mergeSort _
theorem flat8_length (d : List S8) : (flat8 d).length = d.length * 2 := by simp [flat8]
theorem flat8_get (d : List S8) (t : Nat) (ht : t < d.length * 2) : (flat8 d)[t]? = some (encS8 d[t / 2]!)[t % 2]! := by
  have h := get_flatK encS8 2 d.toArray t (by simpa using ht); unfold flat8; rw [Array.getElem?_toList, Array.getElem?_eq_getElem (by simpa using ht)]; rw [getElem!_pos _ t (by simpa using ht)] at h; rw [h]
  congr 3
  simp
theorem reps_flat {inner : List Value} {d : List S8} (h1 : inner.length = d.length * 2) (h2 : ∀ j x, d[j]? = some x → (inner.drop (j * 2)).take 2 = encS8 x) : inner = flat8 d := by
  apply List.ext_getElem?
  intro t
  by_cases ht : t < d.length * 2
  · rw [flat8_get d t ht]
    have hj : t / 2 < d.length := by omega
    have h := h2 (t / 2) d[t / 2] (List.getElem?_eq_getElem hj)
    have e : ((inner.drop (t / 2 * 2)).take 2)[t % 2]? = inner[t]? := by
      rw [List.getElem?_take_of_lt (by omega), List.getElem?_drop, show t / 2 * 2 + t % 2 = t by omega]
    rw [← e, h]
    have e2 : d[t / 2]! = d[t / 2] := by simp [hj]
    rw [e2]
    have hl : t % 2 < (encS8 d[t / 2]).length := by show t % 2 < 2; omega
    rw [List.getElem?_eq_getElem hl, getElem!_pos (encS8 d[t / 2]) (t % 2) hl]
  · rw [List.getElem?_eq_none (by omega), List.getElem?_eq_none (by rw [flat8_length]; omega)]
theorem flat_reps (d : List S8) (j : Nat) (x : S8) (hj : d[j]? = some x) : ((flat8 d).drop (j * 2)).take 2 = encS8 x := by
  have hjl := (List.getElem?_eq_some_iff.1 hj).1; have hx := (List.getElem?_eq_some_iff.1 hj).2
  apply List.ext_getElem?
  intro t
  by_cases ht : t < 2
  · rw [List.getElem?_take_of_lt ht, List.getElem?_drop, flat8_get d _ (by omega)]
    rw [show (j * 2 + t) / 2 = j by omega, show (j * 2 + t) % 2 = t by omega]
    have e2 : d[j]! = x := by simp [hjl, hx]
    rw [e2]; have hl : t < (encS8 x).length := ht; rw [List.getElem?_eq_getElem hl, getElem!_pos (encS8 x) t hl]
  · rw [List.getElem?_eq_none (by rw [List.length_take]; omega), List.getElem?_eq_none (by show 2 ≤ t; omega)]
theorem row_holds {w : World} {g : Nat} {d : List S8} {cur : Array Value} (hh : w.heap[g]? = some (.cells cur 55 (0, 0))) (ht : cur.toList.take (d.length * 2) = flat8 d) : HoldsK encS8 2 w g 0 d.toArray := by
  intro t hlt
  have hlt' : t < d.length * 2 := by simpa using hlt
  have hc : cur[t]? = (flat8 d)[t]? := by
    rw [← ht, List.getElem?_take_of_lt hlt', Array.getElem?_toList]
  refine ⟨?_, by simp [World.frozen?, hh]⟩; rw [Nat.zero_add, cell_of_row w g t cur 55 (0, 0) hh, hc, flat8_get d t hlt', get_flatK _ _ _ t (by simpa using hlt')]
  simp
theorem put_heap {w : World} {g : Nat} {cur : Array Value} (hh : w.heap[g]? = some (.cells cur 55 (0, 0))) (D : Array S8) : (putRowK encS8 2 w g 0 D).heap[g]? = some (.cells (putCells id 0 (flatK encS8 2 D) cur) 55 (0, 0)) := by
  unfold putRowK putRow mapBlock
  simp [Array.getElem?_modify, hh, onCells]
theorem put_far (w : World) (g : Nat) (D : Array S8) (k : Nat) (hk : k ≠ g) : (putRowK encS8 2 w g 0 D).heap[k]? = w.heap[k]? := by
  unfold putRowK putRow mapBlock
  simp [Array.getElem?_modify, Ne.symm hk]
theorem put_own {w : World} {base g cap : Nat} {cur : Array Value} (hh : w.heap[g]? = some (.cells cur 55 (0, 0))) (hg : base ≤ g) (hs : cur.size = cap * 2) (hx : cap ≤ maxLen) (D : Array S8) (hD : D.size ≤ cap) (m : Nat) (hm : m ≤ D.size) :
    (putRowK encS8 2 w g 0 D).ownsRow base 55 2 (.slice (some ⟨g, 0, none⟩) m cap) m (flat8 (D.toList.take m)) := by
  have hl : (D.toList.take m).length = m := by simp; omega
  refine ⟨by rw [flat8_length, hl], .inr ⟨g, cap, _, rfl, hg, put_heap hh D, by omega, hx, by simp [putCells, hs], ?_⟩⟩
  apply List.ext_getElem?
  intro t
  by_cases ht : t < m * 2
  · rw [List.getElem?_take_of_lt ht, flat8_get _ t (by rw [hl]; exact ht), Array.getElem?_toList]
    unfold putCells; rw [Array.getElem?_mapIdx, Array.getElem?_eq_getElem (by omega)]; simp only [Option.map_some, Nat.zero_le, true_and, Nat.zero_add, size_flatK, Nat.sub_zero, id]; rw [if_pos (by omega), get_flatK _ _ _ t (by omega)]
    have e : (D.toList.take m)[t / 2]! = D[t / 2]! := by
      rw [getElem!_pos _ _ (by rw [hl]; omega), getElem!_pos _ _ (by omega), List.getElem_take, Array.getElem_toList]
    rw [e]
  · rw [List.getElem?_eq_none (by rw [List.length_take]; omega), List.getElem?_eq_none (by rw [flat8_length, hl]; omega)]
theorem grow_own {w : World} {base n : Nat} {v : Value} {xs : List Value} (h : w.ownsRow base 55 2 v n xs) (os : Array Obj) : (Sort.grow w os).ownsRow base 55 2 v n xs := by
  obtain ⟨h1, h2⟩ := h; refine ⟨h1, ?_⟩
  rcases h2 with h2 | ⟨g, cap, cur, rfl, hg, hh, r⟩
  · exact .inl h2
  · exact .inr ⟨g, cap, cur, rfl, hg, (heap_grow_old w os (Array.getElem?_eq_some_iff.1 hh).1).trans hh, r⟩
theorem below_put {w : World} {base g : Nat} (hg : base ≤ g) (hgl : g < w.heap.size) (n : Nat) (D : Array S8) (os : Array Obj) : Below base w (Sort.grow (putRowK encS8 2 (Sort.ahead w n) g 0 D) os) :=
  ⟨rfl, rfl, rfl, by
    show w.heap.size ≤ ((putRowK encS8 2 (Sort.ahead w n) g 0 D).heap ++ os).size
    rw [Array.size_append, size_putRowK]
    show w.heap.size ≤ w.heap.size + os.size
    omega, fun k hk => by
    rw [heap_grow_old _ os (by rw [size_putRowK]; show k < w.heap.size; omega), put_far _ g D k (by omega)]
    rfl⟩
theorem sortNone (w : World) : Calls Try.prog 102 #[.slice none 0 0, .func (.func 103) #[] #[]] w fun e w' => e = .returned (.tuple #[]) ∧ w' = w :=
  AnyF.slices_SortFunc_none Try.sortSpot none 0 _ w
theorem sortOwn (base : Nat) (v : Value) (d : List S8) (w : World) (ho : w.ownsRow base 55 2 v d.length (flat8 d)) (hsz : d.length < 4611686018427387904) :
    Calls Try.prog 102 #[v, .func (.func 103) #[] #[]] w fun e w' => e = .returned (.tuple #[]) ∧ w'.ownsRow base 55 2 v (sort8 d).length (flat8 (sort8 d)) ∧ Below base w w' := by
  have hlen : (sort8 d).length = d.length := List.length_mergeSort _; rw [hlen]
  rcases ho.2 with ⟨rfl, h0⟩ | ⟨g, cap, cur, rfl, hg, hh, hnc, hx, hs, ht⟩
  · have hd : d = [] := List.eq_nil_of_length_eq_zero h0
    subst hd; refine (sortNone w).mono ?_
    rintro e w' ⟨rfl, rfl⟩
    exact ⟨rfl, by simpa [sort8] using ho, Below.refl _ _⟩
  · have hgl : g < w.heap.size := (Array.getElem?_eq_some_iff.1 hh).1
    have h := sortSpots g 0 cap d.toArray w (row_holds hh ht) hgl (by simpa using hsz); rw [show d.toArray.size = d.length by simp] at h; refine h.mono ?_
    rintro e w' ⟨rfl, n, os, rfl⟩
    refine ⟨rfl, ?_, below_put hg hgl n _ os⟩; have hp := put_own (w := Sort.ahead w n) (base := base) hh hg hs hx (sort8 d).toArray (by simpa [hlen] using hnc) d.length (by simp [hlen])
    have e : (sort8 d).toArray.toList.take d.length = sort8 d := by rw [← hlen]; simp
    rw [e] at hp; exact grow_own hp os
theorem compactEmpty8 (a : Option Addr) (cap : Nat) (w : World) : Calls Try.prog 104 #[.slice a 0 cap] w fun e w' => e = .returned (.slice a 0 cap) ∧ w' = w := by
  go_enter Try.func104, Try.ntmps104
  go_wp2
  go_ret
  exact ⟨rfl, rfl⟩
theorem comp8_le (d : List S8) : (comp8 d).length ≤ d.length := by
  unfold comp8 compactUpTo; rw [List.length_map]; exact Nat.le_trans (List.length_filter_le _ _) (by simp)
theorem compactOwn (base : Nat) (v : Value) (d : List S8) (w : World) (ho : w.ownsRow base 55 2 v d.length (flat8 d)) (hsz : d.length < 4611686018427387904) :
    Calls Try.prog 104 #[v] w fun e w' => ∃ v', e = .returned v' ∧ w'.ownsRow base 55 2 v' (comp8 d).length (flat8 (comp8 d)) ∧ Below base w w' := by
  rcases ho.2 with ⟨rfl, h0⟩ | ⟨g, cap, cur, rfl, hg, hh, hnc, hx, hs, ht⟩
  · have hd : d = [] := List.eq_nil_of_length_eq_zero h0
    subst hd; refine (compactEmpty8 none 0 w).mono ?_
    rintro e w' ⟨rfl, rfl⟩
    have e : comp8 [] = [] := rfl; rw [e]; exact ⟨_, rfl, ho, Below.refl _ _⟩
  · have hgl : g < w.heap.size := (Array.getElem?_eq_some_iff.1 hh).1
    have h := compactS8 g 0 cap d.toArray w (row_holds hh ht) (by simp; omega) (by simpa using hnc); rw [show d.toArray.size = d.length by simp] at h; refine h.mono ?_
    rintro e w' ⟨rfl, q, z, rfl⟩
    have hc := comp8_le d; refine ⟨_, rfl, ?_, ?_⟩
    · have hp := put_own (w := Sort.ahead w q) (base := base) hh hg hs hx (comp8 d ++ List.replicate (d.length - (comp8 d).length) z).toArray (by simp; omega) (comp8 d).length (by simp)
      have e : (comp8 d ++ List.replicate (d.length - (comp8 d).length) z).toArray.toList.take (comp8 d).length = comp8 d := by simp
      rw [e] at hp; exact hp
    · have := below_put hg hgl q (comp8 d ++ List.replicate (d.length - (comp8 d).length) z).toArray #[]
      rwa [Sort.grow_empty] at this
end Go.Proofs
end
section
namespace Go.Proofs.YtjogemppgdeomaaW.PrintLast
open Go.Proofs.YtjogemppgdeomaaW.PrintWords (Aside0)
def needsOf (md : Region.Mode) (o : Oper) : List Nat := (o.after.toList.filter (fun e => Region.binds md e)).map (fun e => e.on)
def clashOf (md : Region.Mode) (ops : Array Oper) (i : Nat) (oi : Oper) : List Nat := (List.range ops.size).filter fun j => !(j == i) && match ops[j]? with
  | some oj => !(oj.after.any (fun e => Region.binds md e && e.on == i) || oi.apart ops oj)
  | none => false
def rtab (md : Region.Mode) (ops : Array Oper) : Bool × List (List Nat × List Nat) := (Region.noSelect ops, (List.range ops.size).map fun i => match ops[i]? with
  | some o => (needsOf md o, clashOf md ops i o)
  | none => ([], []))
def readyAt (T : List (List Nat × List Nat)) (l : List Bool) (i : Nat) : Bool := !l.getD i true && match T[i]? with
  | some r => r.1.all (fun j => l.getD j false)
  | none => false
def readyT (T : List (List Nat × List Nat)) (l : List Bool) : List Nat := (List.range T.length).filter (readyAt T l)
def freeT (T : List (List Nat × List Nat)) (l : List Bool) (i : Nat) : Bool := match T[i]? with
  | some r => r.2.all (fun j => l.getD j true)
  | none => false
def closedT (T : List (List Nat × List Nat)) (l : List Bool) : Bool := (List.range T.length).all fun j => !l.getD j false || match T[j]? with
  | some r => r.1.all (fun k => l.getD k false)
  | none => true
def reachT (T : List (List Nat × List Nat)) (i : Nat) : Nat → Nat → Bool
  | 0, _ => false
  | fuel + 1, d => match T[d]? with
    | some r => r.1.any fun j => j == i || reachT T i fuel j
    | none => false
def lastT (T : List (List Nat × List Nat)) (l : List Bool) (ds : List Nat) (i : Nat) : Bool := ds.all fun d => l.getD d true || reachT T i T.length d
section
variable {md : Region.Mode} {ops : Array Oper} {T : Bool × List (List Nat × List Nat)} {l l' li lj lk : Array Bool} {ds : List Nat} {i j k : Nat}
theorem gd (l : Array Bool) (j : Nat) (b : Bool) : l.getD j b = l.toList.getD j b := by simp [Array.getD_eq_getD_getElem?, List.getD_eq_getElem?_getD]
theorem needs_all (o : Oper) (p : Nat → Bool) : o.after.all (fun e => !Region.binds md e || p e.on) = (needsOf md o).all p := by
  unfold needsOf; rw [← Array.all_toList]
  induction o.after.toList with
  | nil => rfl
  | cons e r ih =>
    rw [List.all_cons, ih, List.filter_cons]
    cases h : Region.binds md e <;> simp
theorem needs_any (o : Oper) (p : Nat → Bool) : o.after.any (fun e => Region.binds md e && p e.on) = (needsOf md o).any p := by
  unfold needsOf; rw [← Array.any_toList]
  induction o.after.toList with
  | nil => rfl
  | cons e r ih =>
    rw [List.any_cons, ih, List.filter_cons]
    cases h : Region.binds md e <;> simp
theorem rtab_length : (rtab md ops).2.length = ops.size := by simp [rtab]
theorem rtab_some {o : Oper} (h : ops[i]? = some o) : (rtab md ops).2[i]? = some (needsOf md o, clashOf md ops i o) := by
  have hi := (Array.getElem?_eq_some_iff.1 h).1; unfold rtab; rw [List.getElem?_map, List.getElem?_range hi, Option.map_some, h]
theorem rtab_none (h : ops[i]? = none) : (rtab md ops).2[i]? = none := by
  have hi : ops.size ≤ i := Array.getElem?_eq_none_iff.1 h; exact List.getElem?_eq_none (by rw [rtab_length]; exact hi)
theorem readyAt_eq : readyAt (rtab md ops).2 l.toList i = (!l.getD i true && ((ops[i]?).map (·.after.all fun e => !Region.binds md e || l.getD e.on false)).getD false) := by
  unfold readyAt; rw [gd]
  cases h : ops[i]? with
  | none => rw [rtab_none h]; rfl
  | some o =>
    rw [rtab_some h]; simp only [Option.map_some, Option.getD_some]; rw [← needs_all]; simp only [gd]
theorem ready_eq : Region.ready md ops l = readyT (rtab md ops).2 l.toList := by
  unfold Region.ready readyT; rw [rtab_length]; refine List.filter_congr (fun i _ => ?_); rw [readyAt_eq]
theorem free_eq : Region.free md ops l i = freeT (rtab md ops).2 l.toList i := by
  unfold Region.free freeT
  cases h : ops[i]? with
  | none => rw [rtab_none h]
  | some oi =>
    rw [rtab_some h]; simp only [clashOf]; rw [List.all_filter]
    congr 1
    funext j
    rw [gd]
    cases hj : ops[j]? with
    | none => cases (j == i) <;> cases (l.toList.getD j true) <;> simp
    | some oj =>
      cases (j == i) <;> cases (l.toList.getD j true) <;> cases (oj.after.any (fun e => Region.binds md e && e.on == i) || oi.apart ops oj) <;> simp_all
theorem closed_eq : Region.closedB md ops l = closedT (rtab md ops).2 l.toList := by
  unfold Region.closedB closedT; rw [rtab_length]
  congr 1
  funext j
  rw [gd]
  cases h : ops[j]? with
  | none => rw [rtab_none h]
  | some o =>
    rw [rtab_some h]
    simp only
    rw [← needs_all]; simp only [gd]
theorem reach_eq : ∀ (fuel d : Nat), Region.reachB md ops i fuel d = reachT (rtab md ops).2 i fuel d
  | 0, _ => rfl
  | fuel + 1, d => by
    unfold Region.reachB reachT
    cases h : ops[d]? with
    | none => rw [rtab_none h]
    | some o =>
      rw [rtab_some h]
      simp only
      rw [← needs_any]
      congr 1
      funext e
      rw [reach_eq fuel]
theorem last_eq : Region.lastB md ops l ds i = lastT (rtab md ops).2 l.toList ds i := by
  unfold Region.lastB lastT; rw [rtab_length]
  congr 1
  funext d
  rw [gd, reach_eq]
theorem readyAt_mem (h : readyAt T.2 l.toList i = true) (hT : rtab md ops = T) : (Region.ready md ops l).contains i = true := by
  subst hT; rw [ready_eq]; unfold readyT; rw [List.contains_iff_mem, List.mem_filter, List.mem_range]; refine ⟨?_, h⟩; unfold readyAt at h; rw [Bool.and_eq_true] at h
  cases hq : (rtab md ops).2[i]? with
  | none => rw [hq] at h; simp at h
  | some r => exact (List.getElem?_eq_some_iff.1 hq).1
theorem set_of (h : (l.toList.set i true == l'.toList) = true) : (l.setIfInBounds i true == l') = true := by
  rw [beq_iff_eq] at h ⊢
  apply Array.ext'
  rw [Array.toList_setIfInBounds]; exact h
def anyT (T : Bool × List (List Nat × List Nat)) (l l' : List Bool) (i : Nat) : Bool := T.1 && freeT T.2 l i && readyAt T.2 l i && (l.set i true == l')
theorem any_of (hT : rtab md ops = T) (h : anyT T l.toList l'.toList i = true) : anyB md ops l l' i = true := by
  simp only [anyT, Bool.and_eq_true] at h; obtain ⟨⟨⟨h1, h2⟩, h3⟩, h4⟩ := h; have h5 := readyAt_mem h3 hT; have h6 := set_of h4; subst hT; simp only [anyB, Bool.and_eq_true]; exact ⟨⟨⟨h1, by rw [free_eq]; exact h2⟩, h5⟩, h6⟩
def takeT (T : Bool × List (List Nat × List Nat)) (ds : List Nat) (l l' : List Bool) (i : Nat) : Bool := T.1 && freeT T.2 l i && readyAt T.2 l i && closedT T.2 l && lastT T.2 l ds i && (l.set i true == l')
theorem take_of (hT : rtab md ops = T) (h : takeT T ds l.toList l'.toList i = true) : takeB md ops ds l l' i = true := by
  simp only [takeT, Bool.and_eq_true] at h; obtain ⟨⟨⟨⟨⟨h1, h2⟩, h3⟩, h4⟩, h5⟩, h6⟩ := h; have h7 := readyAt_mem h3 hT; have h8 := set_of h6; subst hT; simp only [takeB, Bool.and_eq_true]; exact ⟨⟨⟨⟨⟨h1, by rw [free_eq]; exact h2⟩, h7⟩, by rw [closed_eq]; exact h4⟩, by rw [last_eq]; exact h5⟩, h8⟩
theorem one_of (hT : rtab md ops = T) (h : (readyT T.2 l.toList == [i] && l.toList.set i true == l'.toList) = true) : readyB md ops l l' i = true := by
  simp only [Bool.and_eq_true] at h; obtain ⟨h1, h2⟩ := h; subst hT; simp only [readyB, Bool.and_eq_true]; exact ⟨by rw [ready_eq]; exact h1, set_of h2⟩
theorem done_of (hT : rtab md ops = T) (h : (readyT T.2 l.toList == []) = true) : (Region.ready md ops l == []) = true := by
  subst hT; rw [ready_eq]; exact h
def upM (B : List Nat) (d : Nat) : List Nat → Nat
  | [] => 0
  | n :: r => (2 ^ n ||| (if n < d then B.getD n 0 else 0)) ||| upM B d r
def waitsOk (T : List (List Nat × List Nat)) (B : List Nat) : Bool := (List.range T.length).all fun d => match T[d]? with
  | some r => (B.getD d 0 ||| upM B d r.1) == upM B d r.1
  | none => false
theorem upM_bit {B : List Nat} {d i : Nat} : ∀ {ns : List Nat}, (upM B d ns).testBit i = true → ∃ n ∈ ns, n = i ∨ (n < d ∧ (B.getD n 0).testBit i = true)
  | [], h => by simp [upM] at h
  | n :: r, h => by
    unfold upM at h; rw [Nat.testBit_or, Nat.testBit_or, Bool.or_eq_true, Bool.or_eq_true] at h
    rcases h with (h | h) | h
    · rw [Nat.testBit_two_pow] at h
      exact ⟨n, List.mem_cons_self, .inl (by simpa using h)⟩
    · by_cases hn : n < d
      · rw [if_pos hn] at h
        exact ⟨n, List.mem_cons_self, .inr ⟨hn, h⟩⟩
      · rw [if_neg hn] at h
        simp at h
    · obtain ⟨m, hm, h2⟩ := upM_bit h
      exact ⟨m, List.mem_cons_of_mem _ hm, h2⟩
theorem reach_bit {T : List (List Nat × List Nat)} {B : List Nat} (hB : waitsOk T B = true) : ∀ (fuel d : Nat), d < fuel → d < T.length → (B.getD d 0).testBit i = true → reachT T i fuel d = true
  | 0, d, h, _, _ => by omega
  | fuel + 1, d, h, hd, hb => by
    have h1 := List.all_eq_true.1 hB d (List.mem_range.2 hd)
    cases hr : T[d]? with
    | none => rw [hr] at h1; simp at h1
    | some r =>
      rw [hr] at h1; simp only [beq_iff_eq] at h1
      have h2 : (upM B d r.1).testBit i = true := by rw [← h1, Nat.testBit_or, hb, Bool.true_or]
      obtain ⟨n, hn, h3⟩ := upM_bit h2; unfold reachT; rw [hr]
      simp only
      rw [List.any_eq_true]; refine ⟨n, hn, ?_⟩
      rcases h3 with rfl | ⟨h4, h5⟩
      · simp
      · rw [reach_bit hB fuel n (by omega) (by omega) h5, Bool.or_true]
def lastW (T : List (List Nat × List Nat)) (B : List Nat) (l : List Bool) (ds : List Nat) (i : Nat) : Bool := ds.all fun d => l.getD d true || (decide (d < T.length) && (B.getD d 0).testBit i)
def takeW (T : Bool × List (List Nat × List Nat)) (B : List Nat) (ds : List Nat) (l l' : List Bool) (i : Nat) : Bool := T.1 && freeT T.2 l i && readyAt T.2 l i && closedT T.2 l && lastW T.2 B l ds i && (l.set i true == l')
theorem take_ofW {B : List Nat} (hT : rtab md ops = T) (hB : waitsOk T.2 B = true) (h : takeW T B ds l.toList l'.toList i = true) : takeB md ops ds l l' i = true := by
  refine take_of hT ?_; simp only [takeW, takeT, Bool.and_eq_true] at h ⊢; obtain ⟨⟨⟨⟨⟨h1, h2⟩, h3⟩, h4⟩, h5⟩, h6⟩ := h; refine ⟨⟨⟨⟨⟨h1, h2⟩, h3⟩, h4⟩, ?_⟩, h6⟩; unfold lastW at h5; unfold lastT; rw [List.all_eq_true] at h5 ⊢; intro d hd; have h7 := h5 d hd; rw [Bool.or_eq_true, Bool.and_eq_true, decide_eq_true_eq] at h7
  rcases h7 with h7 | ⟨h8, h9⟩
  · rw [h7, Bool.true_or]
  · rw [reach_bit hB _ d h8 h8 h9, Bool.or_true]
theorem with_tabW {P : Program} {Q : Exit → Act → World → Prop} {S : World → Prop} {n : Nat} {a : Act} {w : World} {B : List Nat} (hT : rtab md ops = T) (hB : waitsOk T.2 B = true) (h : Aside0 (rtab md ops = T) → Aside0 (waitsOk T.2 B = true) → wpAnyLast P md ops Q S ds n l a w) : wpAnyLast P md ops Q S ds n l a w := h ⟨hT⟩ ⟨hB⟩
end
def opsIn : Code → Nat → Option (Array Oper)
  | .region id ops _, k => if id == k then some ops else none
  | .seq a b, k => match opsIn a k with
    | some o => some o
    | none => opsIn b k
  | .cond _ a b, k => match opsIn a k with
    | some o => some o
    | none => opsIn b k
  | .block _ c, k => opsIn c k
  | .loop c, k => opsIn c k
  | .scope c, k => opsIn c k
  | .rangeFunc _ _ a b, k => match opsIn a k with
    | some o => some o
    | none => opsIn b k
  | _, _ => none
def opsOf (f : Func) (k : Nat) : Array Oper := ((f.body.bind fun c => opsIn c k)).getD #[]
end Go.Proofs.YtjogemppgdeomaaW.PrintLast
end
