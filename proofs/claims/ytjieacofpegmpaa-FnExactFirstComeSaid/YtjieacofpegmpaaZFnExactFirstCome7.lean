/- The statement FnExactFirstCome of this program: what its proof uses, part 8 of 8. The call returns true for all arguments. No condition of its own. -/
import Derived.IntWalk
import Derived.Test.YtjieacofpegmpaaZFnExactFirstCome6
section
namespace Go.Proofs.Ytjieacofpegmpaa.Q
open Go.RowKit Go.Proofs.YtjieacofpegmpaaW.PrintWords Go.Proofs.YtjieacofpegmpaaW.PrintLast
set_option linter.unusedVariables false
set_option linter.unusedSimpArgs false
theorem wnat (i n : Nat) (h : i < n) (hn : n ≤ 9223372036854775807) : wrap64 ((i : Int) + 1) = ((i + 1 : Nat) : Int) := by unfold wrap64; omega
theorem wint (a : Int) (h0 : -9223372036854775808 ≤ a) (h1 : a ≤ 9223372036854775807) : wrap64 a = a := by unfold wrap64; omega
theorem rd_nat (xs : List Int) (i : Nat) : rd xs (i : Int) = xs.getD i 0 := by simp [rd]
theorem Ev.round {α : Type} {g f : Nat → Option α} {r : α} (k : Ev f r) (h : ∀ k, g (k + 1) = f k) : Ev g r := Ev.step h k
theorem Ev.eq {α : Type} {g : Nat → Option α} {r r' : α} (h : Ev g r) (e : r = r') : Ev g r' := e ▸ h
theorem Ev.uniq {α : Type} {g : Nat → Option α} {r r' : α} (h : Ev g r) (h' : Ev g r') : r = r' := by
  obtain ⟨K, h⟩ := h
  obtain ⟨K', h'⟩ := h'
  have a := h (max K K') (by omega)
  have b := h' (max K K') (by omega)
  rw [a] at b
  exact Option.some.inj b
theorem Ev.ite {α : Type} {c : Prop} [Decidable c] {f g : Nat → Option α} {r : α} (h : c → Ev f r) (h' : ¬ c → Ev g r) : Ev (fun k => if c then f k else g k) r := by
  by_cases hc : c
  · simp only [hc, if_true]; exact h hc
  · simp only [hc, if_false]; exact h' hc
theorem Ev.pos {α : Type} {c : Prop} [Decidable c] {f g : Nat → Option α} {r : α} (hc : c) (h : Ev f r) : Ev (fun k => if c then f k else g k) r := by simp only [hc, if_true]; exact h
theorem Ev.neg {α : Type} {c : Prop} [Decidable c] {f g : Nat → Option α} {r : α} (hc : ¬ c) (h : Ev g r) : Ev (fun k => if c then f k else g k) r := by simp only [hc, if_false]; exact h
theorem take_set {α : Type} (xs : List α) (i : Nat) (a : α) (h : i < xs.length) : (xs.set i a).take (i + 1) = xs.take i ++ [a] := by
  rw [List.take_succ_eq_append_getElem (by simpa using h)]
  simp [List.take_set]
  rw [List.set_eq_of_length_le (by simp; omega)]
theorem take_get {α : Type} (xs : List α) (i : Nat) (d : α) (h : i < xs.length) : xs.take (i + 1) = xs.take i ++ [xs.getD i d] := by
  rw [List.take_succ_eq_append_getElem h]
  simp [List.getD_eq_getElem?_getD, List.getElem?_eq_getElem h]
theorem Ev.map_loop {α β : Type} (L : Nat → List β → Int → Option (List β)) (g : α → β) (d : α) (x0 : List α) (hn : x0.length ≤ 9223372036854775807)
    (hstep : ∀ (i : Nat) (x3 : List β) (r : List β), i < x0.length → x3.length = x0.length → Ev (fun k => L k (x3.set i (g (x0.getD i d))) ((i + 1 : Nat) : Int)) r → Ev (fun k => L k x3 (i : Int)) r)
    (hend : ∀ x3 : List β, x3.length = x0.length → Ev (fun k => L k x3 (x0.length : Int)) x3) :
    ∀ x3 : List β, x3.length = x0.length → Ev (fun k => L k x3 0) (x0.map g) := by
  have key : ∀ (n i : Nat) (x3 : List β), i + n = x0.length → x3.length = x0.length → x3.take i = (x0.take i).map g → Ev (fun k => L k x3 (i : Int)) (x0.map g) := by
    intro n
    induction n with
    | zero =>
      intro i x3 hi hl ht
      obtain rfl : i = x0.length := by omega
      have : x3 = x0.map g := by
        rw [List.take_of_length_le (by omega), List.take_of_length_le (by omega)] at ht
        exact ht
      rw [← this]
      exact hend x3 hl
    | succ n ih =>
      intro i x3 hi hl ht
      refine hstep i x3 _ (by omega) hl (ih (i + 1) _ (by omega) (by simpa using hl) ?_)
      rw [take_set _ _ _ (by omega), take_get _ _ d (by omega), ht, List.map_append]
      rfl
  intro x3 hl
  exact key x0.length 0 x3 (by omega) hl (by simp)
theorem Ev.all_loop {ρ : Type} (L : Nat → Int → Option ρ) (n : Nat) (r : ρ)
    (hstep : ∀ i : Nat, i < n → Ev (fun k => L k ((i + 1 : Nat) : Int)) r → Ev (fun k => L k (i : Int)) r)
    (hend : Ev (fun k => L k (n : Int)) r) : Ev (fun k => L k 0) r := by
  have key : ∀ (m i : Nat), i + m = n → Ev (fun k => L k (i : Int)) r := by
    intro m
    induction m with
    | zero => intro i hi; obtain rfl : i = n := by omega
              exact hend
    | succ m ih => intro i hi; exact hstep i (by omega) (ih (i + 1) (by omega))
  exact key n 0 (by omega)
def upFrom (k : Int) : Nat → List Int
  | 0 => []
  | n + 1 => k :: upFrom (k + 1) n
theorem upFrom_length (k : Int) (n : Nat) : (upFrom k n).length = n := by
  induction n generalizing k with
  | zero => rfl
  | succ n ih => simp [upFrom, ih]
theorem upFrom_snoc (k : Int) (n : Nat) : upFrom k (n + 1) = upFrom k n ++ [k + n] := by
  induction n generalizing k with
  | zero => simp [upFrom]
  | succ n ih =>
    rw [upFrom, ih (k + 1)]
    simp [upFrom]
    omega
theorem upFrom_get (k : Int) : ∀ (n i : Nat), i < n → (upFrom k n).getD i 0 = k + i
  | n + 1, 0, _ => by simp [upFrom]
  | n + 1, i + 1, h => by
    have := upFrom_get (k + 1) n i (by omega)
    simp only [upFrom, List.getD_cons_succ]
    rw [this]; omega
end Go.Proofs.Ytjieacofpegmpaa.Q
end
section
namespace Go.Proofs.Ytjieacofpegmpaa.Q
open Go.RowKit Go.Proofs.YtjieacofpegmpaaW.PrintWords Go.Proofs.YtjieacofpegmpaaW.PrintLast Go.Proofs.YtjieacofpegmpaaW.PrintMore Go.Proofs.Ytjieacofpegmpaa.La Go.Proofs.Ytjieacofpegmpaa.PB
set_option linter.unusedVariables false
set_option linter.unusedSimpArgs false
def inC (a lo hi : Int) : Bool := decide (lo ≤ a) && decide (a ≤ hi)
theorem In_c (a lo hi : Int) : spec_l00In.f a lo hi = some (inC a lo hi) := by
  unfold spec_l00In.f inC
  split
  · rename_i h; simp [h]
  · rename_i h; simp [h]
theorem Ev.const {α : Type} {x : Option α} {a : α} (h : x = some a) : Ev (fun _ => x) a := by subst h; exact Ev.now a
theorem Ev.succ {α : Type} {g : Nat → Option α} {r : α} (h : Ev (fun k => g (k + 1)) r) : Ev g r := Ev.step (fun _ => rfl) h
theorem getD_mem {α : Type} (l : List α) (i : Nat) (d : α) (h : i < l.length) : l.getD i d ∈ l := by
  simp [List.getD_eq_getElem?_getD, List.getElem?_eq_getElem h]
theorem drop_get {α : Type} (xs : List α) (i : Nat) (d : α) (h : i < xs.length) : xs.drop i = xs.getD i d :: xs.drop (i + 1) := by
  rw [List.drop_eq_getElem_cons h]
  simp [List.getD_eq_getElem?_getD, List.getElem?_eq_getElem h]
theorem Within_c (a lo hi : Int) : impl_within.f a lo hi = some (inC a lo hi) := by
  unfold impl_within.f inC
  split
  · rename_i h; simp [h]
  · rename_i h; simp [h]
theorem Ev.find_idx (L : Nat → Int → Option Int) (p : Nat → Bool) (n : Nat) (hyes : ∀ i : Nat, i < n → p i = true → Ev (fun k => L k (i : Int)) (i : Int))
    (hno : ∀ i : Nat, i < n → p i = false → ∀ r, Ev (fun k => L k ((i + 1 : Nat) : Int)) r → Ev (fun k => L k (i : Int)) r) (hend : Ev (fun k => L k (n : Int)) (-1)) :
    ∃ r : Int, Ev (fun k => L k 0) r ∧ decide (r ≥ 0) = (List.range n).any p := by
  have key : ∀ (m i : Nat), i + m = n → (∀ j, j < i → p j = false) → ∃ r : Int, Ev (fun k => L k (i : Int)) r ∧ decide (r ≥ 0) = (List.range n).any p := by
    intro m
    induction m with
    | zero =>
      intro i hi hf
      obtain rfl : i = n := by omega
      refine ⟨-1, hend, ?_⟩
      rw [show ((List.range i).any p) = false from ?_]
      · rfl
      · rw [List.any_eq_false]
        intro j hj
        rw [hf j (by simpa using hj)]
        exact Bool.false_ne_true
    | succ m ih =>
      intro i hi hf
      cases hp : p i with
      | true =>
        refine ⟨(i : Int), hyes i (by omega) hp, ?_⟩
        rw [show ((List.range n).any p) = true from List.any_eq_true.2 ⟨i, by simp; omega, hp⟩]
        exact decide_eq_true (by omega)
      | false =>
        obtain ⟨r, hr, hd⟩ := ih (i + 1) (by omega) (fun j hj => by
          by_cases e : j = i
          · subst e; exact hp
          · exact hf j (by omega))
        exact ⟨r, hno i (by omega) hp r hr, hd⟩
  exact key n 0 (by omega) (fun j hj => by omega)
theorem range_any {α : Type} (J : List α) (d : α) (p : α → Bool) : (List.range J.length).any (fun i => p (J.getD i d)) = J.any p := by
  cases h : J.any p with
  | true =>
    obtain ⟨x, hx, hp⟩ := List.any_eq_true.1 h
    obtain ⟨a, ha, hae⟩ := List.mem_iff_getElem.1 hx
    refine List.any_eq_true.2 ⟨a, List.mem_range.2 ha, ?_⟩
    rw [List.getD_eq_getElem?_getD, List.getElem?_eq_getElem ha, Option.getD_some, hae]
    exact hp
  | false =>
    rw [List.any_eq_false] at h ⊢
    intro i hi
    exact h _ (getD_mem J i d (List.mem_range.1 hi))
def cParty (x : S59) : S55 := ⟨x.f0, x.f1⟩
theorem toPartyS_ev (l : List S59) (h : l.length ≤ 1048576) : Ev (fun k => laws_toPartyS.f k l) (l.map cParty) := by
  unfold laws_toPartyS.f
  refine Ev.pos (by omega) (Ev.pos (by omega) ?_)
  refine Ev.map_loop (fun k x3 i => laws_toPartyS.l0 k l x3 i) cParty z59 l (by omega) ?_ ?_ (List.replicate ((l.length : Int)).toNat z55) (by simp)
  · intro i x3 r hi hl hr
    refine Ev.round hr fun k => ?_
    simp only [laws_toPartyS.l0, laws_toParty.f, Option.bind_some]
    rw [if_pos (by omega), if_pos (by omega), if_pos (by omega), wnat i l.length hi (by omega)]
    simp [rd_T59, cParty]
  · intro x3 hl
    refine Ev.round (Ev.now x3) fun k => ?_
    simp only [laws_toPartyS.l0]
    rw [if_neg (by omega)]
theorem eqPartyS_ev (l : List S55) (h : l.length ≤ 1048576) : Ev (fun k => laws_eqPartyS.f k l l) true := by
  unfold laws_eqPartyS.f
  refine Ev.pos rfl ?_
  refine Ev.all_loop (fun k i => laws_eqPartyS.l0 k l l i) l.length true (fun i hi hr => ?_) ?_
  · refine Ev.round hr fun k => ?_
    simp only [laws_eqPartyS.l0, laws_eqParty.f, if_true, Option.bind_some]
    rw [if_pos (by omega), if_pos (by omega), if_pos (by omega), wnat i l.length hi (by omega)]
  · refine Ev.round (Ev.now true) fun k => ?_
    simp only [laws_eqPartyS.l0]
    rw [if_neg (by omega)]
theorem szPartyS_small (l : List S59) (h : l.length ≤ 1048576) : laws_szPartyS.f l 1048576 = some (1048576 - (l.length : Int)) := by
  unfold laws_szPartyS.f
  rw [wint _ (by omega) (by omega), if_neg (by omega)]
theorem szPartyS_big (l : List S59) (h : 1048576 < l.length) (hm : l.length ≤ maxLen) : laws_szPartyS.f l 1048576 = some (-1) := by
  unfold maxLen at hm
  unfold laws_szPartyS.f
  rw [wint _ (by omega) (by omega), if_pos (by omega)]
theorem markPartyS_ev (l : List S55) (a : Int) (h : l.length ≤ 1048576) (h0 : 0 ≤ a) (h1 : a ≤ 1000000000000) : ∃ l', Ev (fun k => laws_markPartyS.f k l a) (a + 2 * l.length, l') := by
  unfold laws_markPartyS.f
  have key : ∀ (m i : Nat) (x : List S55), i + m = l.length → x.length = l.length → ∃ l', Ev (fun k => laws_markPartyS.l0 k x (a + 2 * i) (i : Int)) (a + 2 * l.length, l') := by
    intro m
    induction m with
    | zero =>
      intro i x hi hl
      obtain rfl : i = l.length := by omega
      refine ⟨x, Ev.round (Ev.now _) fun k => ?_⟩
      simp only [laws_markPartyS.l0]
      rw [if_neg (by omega)]
    | succ m ih =>
      intro i x hi hl
      have key1 : ∀ x' : List S55, x'.length = l.length → ∃ l', Ev (fun k => laws_markPartyS.l0 k x' (a + 2 * ((i + 1 : Nat) : Int)) ((i + 1 : Nat) : Int)) (a + 2 * l.length, l') := fun x' hx' => ih (i + 1) x' (by omega) hx'
      obtain ⟨l', hl'⟩ := key1 ((x.set (i : Int).toNat (⟨IntKind.i16.wrap (a + 2 * (i : Int)), (rd_T55 x (i : Int)).f1⟩ : S55)).set (i : Int).toNat (⟨(rd_T55 (x.set (i : Int).toNat (⟨IntKind.i16.wrap (a + 2 * (i : Int)), (rd_T55 x (i : Int)).f1⟩ : S55)) (i : Int)).f0, IntKind.i16.wrap (a + 2 * (i : Int) + 1)⟩ : S55)) (by simpa using hl)
      refine ⟨l', Ev.round hl' fun k => ?_⟩
      simp only [laws_markPartyS.l0, Option.bind_some]
      rw [if_pos (by omega), if_pos (by omega), wnat i l.length (by omega) (by omega)]
      rw [wint (a + 2 * (i : Int) + 1) (by omega) (by omega), wint (a + 2 * (i : Int) + 1 + 1) (by omega) (by omega)]
      have e : (a + 2 * (i : Int) + 1 + 1) = a + 2 * ((i + 1 : Nat) : Int) := by omega
      rw [e]
  obtain ⟨l', hl'⟩ := key l.length 0 l (by omega) rfl
  exact ⟨l', by simpa using hl'⟩
theorem eqInt64S_ev (l : List Int) (h : l.length ≤ 1048576) : Ev (fun k => laws_eqInt64S.f k l l) true := by
  unfold laws_eqInt64S.f
  refine Ev.pos rfl ?_
  refine Ev.all_loop (fun k i => laws_eqInt64S.l0 k l l i) l.length true (fun i hi hr => ?_) ?_
  · refine Ev.round hr fun k => ?_
    simp only [laws_eqInt64S.l0]
    rw [if_pos (by omega), if_pos (by omega), if_pos (by omega), if_pos trivial, wnat i l.length hi (by omega)]
  · refine Ev.round (Ev.now true) fun k => ?_
    simp only [laws_eqInt64S.l0]
    rw [if_neg (by omega)]
theorem markInt64S_ev (l : List Int) (a : Int) (h : l.length ≤ 1048576) (h0 : 0 ≤ a) (h1 : a ≤ 1000000000000) : Ev (fun k => laws_markInt64S.f k l a) (a + l.length, upFrom a l.length) := by
  unfold laws_markInt64S.f
  have key : ∀ (n i : Nat) (x : List Int), i + n = l.length → x.length = l.length → x.take i = upFrom a i → Ev (fun k => laws_markInt64S.l0 k x (a + i) (i : Int)) (a + l.length, upFrom a l.length) := by
    intro n
    induction n with
    | zero =>
      intro i x hi hl ht
      obtain rfl : i = l.length := by omega
      refine Ev.round (Ev.now _) fun k => ?_
      simp only [laws_markInt64S.l0]
      rw [if_neg (by omega), ← ht, List.take_of_length_le (by omega)]
    | succ n ih =>
      intro i x hi hl ht
      refine Ev.round (ih (i + 1) (x.set i (a + i)) (by omega) (by simpa using hl) (by rw [take_set _ _ _ (by omega), ht, upFrom_snoc])) fun k => ?_
      simp only [laws_markInt64S.l0]
      rw [if_pos (by omega), if_pos (by omega), wnat i l.length (by omega) (by omega), wint _ (by omega) (by omega)]
      simp [Int.add_assoc]
  simpa using key l.length 0 l (by omega) rfl (by simp [upFrom])
theorem heldInt64S_ev (a : Int) (n : Nat) (h : n ≤ 1048576) (h0 : 0 ≤ a) (h1 : a ≤ 1000000000000) : Ev (fun k => laws_heldInt64S.f k (upFrom a n) a) (a + n) := by
  unfold laws_heldInt64S.f
  have key : ∀ (m i : Nat), i + m = n → Ev (fun k => laws_heldInt64S.l0 k (upFrom a n) (a + i) (i : Int)) (a + n) := by
    intro m
    induction m with
    | zero =>
      intro i hi
      obtain rfl : i = n := by omega
      refine Ev.round (Ev.now _) fun k => ?_
      simp only [laws_heldInt64S.l0, upFrom_length]
      rw [if_neg (by omega)]
    | succ m ih =>
      intro i hi
      refine Ev.round (ih (i + 1) (by omega)) fun k => ?_
      simp only [laws_heldInt64S.l0, upFrom_length]
      rw [if_pos (by omega), if_pos (by omega), rd_nat, upFrom_get a n i (by omega), if_pos rfl, wnat i n (by omega) (by omega), wint _ (by omega) (by omega)]
      simp [Int.add_assoc]
  simpa using key n 0 (by omega)
end Go.Proofs.Ytjieacofpegmpaa.Q
end
section
namespace Go.Proofs.Ytjieacofpegmpaa.Q
open Go.RowKit Go.Proofs.YtjieacofpegmpaaW.PrintWords Go.Proofs.YtjieacofpegmpaaW.PrintLast Go.Proofs.YtjieacofpegmpaaW.PrintMore Go.Proofs.Ytjieacofpegmpaa.La Go.Proofs.Ytjieacofpegmpaa.PB
set_option linter.unusedVariables false
set_option linter.unusedSimpArgs false
theorem w16 (a : Int) (h : -32768 ≤ a ∧ a ≤ 32767) : wrap64 a = a := by unfold wrap64; omega
def badP (q : S55) : Bool := !(inC q.f0 0 1000 && inC q.f1 1 100)
def PB16 (q : S55) : Prop := (-32768 ≤ q.f0 ∧ q.f0 ≤ 32767) ∧ (-32768 ≤ q.f1 ∧ q.f1 ≤ 32767)
theorem rdP_get (l : List S55) (i : Nat) : rd_T55 l (i : Int) = l.getD i z55 := by simp [rd_T55]
theorem Parties_s (l : List S55) (hl : l.length ≤ 1073741824) (hb : ∀ q ∈ l, PB16 q) : Ev (fun k => spec_l07Parties.f k l) (!(l.any badP) && decide ((l.length : Int) ≤ 6)) := by
  have key : ∀ n i : Nat, i + n = l.length → Ev (fun k => spec_l07Parties.l0 k l (i : Int)) (!((l.drop i).any badP) && decide ((l.length : Int) ≤ 6)) := by
    intro n
    induction n with
    | zero =>
      intro i hi
      obtain rfl : i = l.length := by omega
      refine Ev.succ ?_
      simp only [spec_l07Parties.l0]
      rw [List.drop_length]
      exact Ev.neg (by omega) (Ev.eq (Ev.now _) (by simp))
    | succ n ih =>
      intro i hi
      have hil : i < l.length := by omega
      have e := ih (i + 1) (by omega)
      have hm := hb _ (getD_mem l i z55 hil)
      refine Ev.succ ?_
      simp only [spec_l07Parties.l0]
      rw [rdP_get, wnat i 1073741825 (by omega) (by omega), drop_get l i z55 hil, List.any_cons, w16 _ hm.1, w16 _ hm.2]
      refine Ev.pos (by omega) (Ev.pos (by omega) (Ev.bind (Ev.const (In_c _ 0 1000)) ?_))
      unfold badP at e ⊢
      cases hc : inC (l.getD i z55).f0 0 1000 with
      | false => exact Ev.neg Bool.false_ne_true (Ev.eq (Ev.now false) (by simp))
      | true =>
        refine Ev.pos rfl (Ev.bind (Ev.const (In_c _ 1 100)) ?_)
        cases hd : inC (l.getD i z55).f1 1 100 with
        | false => exact Ev.neg Bool.false_ne_true (Ev.eq (Ev.now false) (by simp))
        | true => exact Ev.pos rfl (Ev.eq e (by simp))
  unfold spec_l07Parties.f
  exact key l.length 0 (Nat.zero_add _)
theorem Parties_i (l : List S55) (hl : l.length ≤ 1073741824) (hb : ∀ q ∈ l, PB16 q) : Ev (fun k => impl_ValidParties.f k l) (!(l.any badP) && decide ((l.length : Int) ≤ 6)) := by
  have h1 : Ev (fun k => impl_Party_66__67.f k l) (l.any badP) := by
    unfold impl_Party_66__67.f impl_Party_88__67.f
    have h1f : ∀ i : Nat, i < l.length → impl_ValidParties_1.f (l.getD i z55).f0 (l.getD i z55).f1 = some (badP (l.getD i z55)) := fun i hi => by
      have hm := hb _ (getD_mem l i z55 hi)
      unfold impl_ValidParties_1.f badP
      rw [w16 _ hm.1, w16 _ hm.2, Within_c, Within_c]
      cases inC (l.getD i z55).f0 0 1000 <;> simp
    obtain ⟨r, hr, hd⟩ := Ev.find_idx (fun k i => impl_Party_88__67.l0 k l (l.length : Int) i) (fun i => badP (l.getD i z55)) l.length
      (fun i hi h => by
        refine Ev.succ ?_
        simp only [impl_Party_88__67.l0]
        rw [rdP_get]
        exact Ev.pos (by omega) (Ev.pos (by omega) (Ev.pos (by omega) (Ev.bind (Ev.const (h1f i hi)) (Ev.pos h (Ev.now _))))))
      (fun i hi h r hr => by
        refine Ev.succ ?_
        simp only [impl_Party_88__67.l0]
        rw [rdP_get, wnat i 1073741825 (by omega) (by omega)]
        exact Ev.pos (by omega) (Ev.pos (by omega) (Ev.pos (by omega) (Ev.bind (Ev.const (h1f i hi)) (Ev.neg (by rw [h]; exact Bool.false_ne_true) hr)))))
      (by
        refine Ev.succ ?_
        simp only [impl_Party_88__67.l0]
        exact Ev.neg (by omega) (Ev.now _))
    refine Ev.bind hr (Ev.eq (Ev.now _) (hd.trans ?_))
    exact range_any l z55 badP
  unfold impl_ValidParties.f
  by_cases h6 : (l.length : Int) ≤ 6
  · exact Ev.pos h6 (Ev.bind h1 (Ev.eq (Ev.now _) (by simp [h6])))
  · exact Ev.neg h6 (Ev.eq (Ev.now _) (by simp [h6]))
theorem rd_app (L R : List Int) (x : Int) : rd (L ++ x :: R) (L.length : Int) = x := by
  rw [rd_nat, List.getD_eq_getElem?_getD, List.getElem?_append_right (Nat.le_refl _), Nat.sub_self]
  rfl
theorem swap_at (x y : Int) (R : List Int) : ∀ L : List Int, ((L ++ y :: x :: R).set (L.length + 1) y).set L.length x = L ++ x :: y :: R
  | [] => rfl
  | a :: L => by
    have h := swap_at x y R L
    simp only [List.cons_append, List.length_cons, List.set_cons_succ, h]
theorem own_f (l : List Int) (h : l.length ≤ 100) : spec_l00Own.f l = some l := by
  unfold spec_l00Own.f
  simp
  omega
theorem Inner (Q : List S55) (hQ : Q.length ≤ 6) (hv : ∀ q ∈ Q, 0 ≤ q.f0 ∧ q.f0 ≤ 1000) (i : Nat) (hi : i < Q.length) (rest : List Int) : ∀ (m : Nat) (L R : List Int), L.length = m → L.length + R.length = i → (∀ y ∈ L, 0 ≤ y ∧ y < (Q.length : Int)) → 1 + i + rest.length = Q.length →
    ∃ (A B : List Int), A ++ B = L ++ R ∧ (∀ r, Ev (fun k => spec_FirstCome.l0 k Q (A ++ ((i : Int) :: B)) ((i + 1 : Nat) : Int)) r → Ev (fun k => spec_FirstCome.l1 k Q (L ++ R) (i : Int) (L.length : Int)) r) ∧
      (∀ r, Ev (fun k => slices_insertionSortCmpFunc_int64__41.l0 k (A ++ ((i : Int) :: (B ++ rest))) 0 (Q.length : Int) ((i + 1 : Nat) : Int) Q) r → Ev (fun k => slices_insertionSortCmpFunc_int64__41.l1 k (L ++ (i : Int) :: (R ++ rest)) 0 (Q.length : Int) (i : Int) (L.length : Int) Q) r) := by
  intro m
  induction m with
  | zero =>
    intro L R hL hLR hin hr
    obtain rfl : L = [] := List.eq_nil_of_length_eq_zero hL
    have hR : R.length = i := by simpa using hLR
    have w := wnat i 100 (by omega) (by omega)
    refine ⟨[], R, rfl, fun r h => ?_, fun r h => ?_⟩
    · refine Ev.succ ?_
      simp only [spec_FirstCome.l1]
      simp only [List.length_nil, List.nil_append, Int.toNat_zero, List.drop_zero, List.take_zero, Int.natCast_zero]
      rw [own_f R (by omega), w]
      refine Ev.neg (by omega) (Ev.pos (by omega) (Ev.pos (by omega) (Ev.bind (a := R) (Ev.now _) (Ev.bind (a := []) (Ev.now _) (Ev.pos (by decide) (Ev.bind (a := [(i : Int)]) (Ev.now _) (Ev.pos (by simp; omega) h)))))))
    · refine Ev.succ ?_
      simp only [slices_insertionSortCmpFunc_int64__41.l1]
      rw [w]
      exact Ev.neg (by simp) h
  | succ m ih =>
    intro L R hL hLR hin hr
    obtain ⟨L', y, rfl⟩ : ∃ L' y, L = L' ++ [y] := ⟨L.dropLast, L.getLast (by intro h; rw [h] at hL; simp at hL), (List.dropLast_concat_getLast _).symm⟩
    have hL' : L'.length = m := by simpa using hL
    have hyin := hin y (by simp)
    have hlen : ((L' ++ [y]).length : Int) = (L'.length : Int) + 1 := by simp
    have w := wnat i 100 (by omega) (by omega)
    have wd : wrap64 (((L' ++ [y]).length : Int) - 1) = (L'.length : Int) := by rw [hlen]; unfold wrap64; simp at hL hLR; omega
    have e0 : L' ++ [y] ++ R = L' ++ y :: R := by simp
    have r1 : rd (L' ++ y :: R) (L'.length : Int) = y := rd_app L' R y
    have hy2 : y = ((y.toNat : Nat) : Int) := by omega
    have hyl : y.toNat < Q.length := by omega
    have q1 := hv _ (getD_mem Q i z55 hi)
    have q2 := hv _ (getD_mem Q y.toNat z55 hyl)
    have g1 : rd_T55 Q (i : Int) = Q.getD i z55 := rdP_get Q i
    have g2 : rd_T55 Q y = Q.getD y.toNat z55 := rfl
    have hall : (L' ++ y :: R).length = i := by rw [← e0, List.length_append]; exact hLR
    have d1 : L' ++ [y] ++ (i : Int) :: (R ++ rest) = L' ++ y :: (i : Int) :: (R ++ rest) := by simp
    have d2 : L' ++ y :: (i : Int) :: (R ++ rest) = (L' ++ [y]) ++ (i : Int) :: (R ++ rest) := by simp
    have s1 : rd (L' ++ y :: (i : Int) :: (R ++ rest)) ((L' ++ [y]).length : Int) = (i : Int) := by rw [d2]; exact rd_app _ _ _
    have s2 : rd (L' ++ y :: (i : Int) :: (R ++ rest)) (L'.length : Int) = y := rd_app L' _ y
    have hdl : (L' ++ y :: (i : Int) :: (R ++ rest)).length = Q.length := by simp at hall ⊢; omega
    have hcmp : impl_FirstCome_2.f (i : Int) y Q = some ((Q.getD i z55).f0 - (Q.getD y.toNat z55).f0) := by
      unfold impl_FirstCome_2.f
      rw [g1, g2, if_pos (by omega), if_pos (by omega), if_pos hyin.1, if_pos hyin.2, w16 (Q.getD i z55).f0 (by omega), w16 (Q.getD y.toNat z55).f0 (by omega), wint _ (by omega) (by omega)]
    by_cases hlt : (Q.getD i z55).f0 < (Q.getD y.toNat z55).f0
    · obtain ⟨A, B, hAB, hs, hp⟩ := ih L' (y :: R) hL' (by simp at hLR ⊢; omega) (fun z hz => hin z (by simp [hz])) hr
      refine ⟨A, B, by rw [hAB, e0], fun r h => ?_, fun r h => ?_⟩
      · have h2 := hs r h
        refine Ev.succ ?_
        simp only [spec_FirstCome.l1]
        rw [wd, e0, r1, g1, g2]
        exact Ev.pos (by omega) (Ev.pos (by omega) (Ev.pos (by omega) (Ev.pos (by omega) (Ev.pos (by omega) (Ev.pos hyin.1 (Ev.pos hyin.2 (Ev.pos hlt h2)))))))
      · have h2 := hp r h
        refine Ev.succ ?_
        simp only [slices_insertionSortCmpFunc_int64__41.l1]
        rw [wd, d1, s1, s2, hcmp]
        have e3 : ((L' ++ y :: (i : Int) :: (R ++ rest)).set (((L' ++ [y]).length : Int)).toNat y).set ((L'.length : Int)).toNat (i : Int) = L' ++ (i : Int) :: (y :: R ++ rest) := by
          rw [Int.toNat_natCast, Int.toNat_natCast, List.length_append, List.length_singleton]
          exact swap_at (i : Int) y (R ++ rest) L'
        rw [e3]
        exact Ev.pos (by omega) (Ev.pos (by omega) (Ev.pos (by rw [hdl, hlen]; omega) (Ev.pos (by omega) (Ev.pos (by rw [hdl]; omega) (Ev.bind (Ev.now _) (Ev.pos (by omega) h2))))))
    · refine ⟨L' ++ [y], R, rfl, fun r h => ?_, fun r h => ?_⟩
      · have t1 : (L' ++ y :: R).drop (((L' ++ [y]).length : Int)).toNat = R := by rw [Int.toNat_natCast, ← e0, List.drop_left]
        have t2 : (L' ++ y :: R).take (((L' ++ [y]).length : Int)).toNat = L' ++ [y] := by rw [Int.toNat_natCast, ← e0, List.take_left]
        have h3 : Ev (fun k => spec_FirstCome.l0 k Q (L' ++ [y] ++ [(i : Int)] ++ R) ((i + 1 : Nat) : Int)) r := by simpa using h
        have hRl : R.length ≤ 100 := by simp at hLR; omega
        have hLl : (L' ++ [y]).length ≤ 100 := by omega
        refine Ev.succ ?_
        simp only [spec_FirstCome.l1]
        rw [wd, e0, r1, g1, g2, t1, t2, own_f R hRl, w]
        exact Ev.pos (by omega) (Ev.pos (by omega) (Ev.pos (by omega) (Ev.pos (by omega) (Ev.pos (by omega) (Ev.pos hyin.1 (Ev.pos hyin.2 (Ev.neg hlt (Ev.pos (by omega) (Ev.pos (by omega) (Ev.bind (a := R) (Ev.now _) (Ev.bind (a := L' ++ [y]) (Ev.now _) (Ev.pos (by omega) (Ev.bind (a := L' ++ [y] ++ [(i : Int)]) (Ev.now _) (Ev.pos (by simp at hLl ⊢; omega) h3))))))))))))))
      · refine Ev.succ ?_
        simp only [slices_insertionSortCmpFunc_int64__41.l1]
        rw [wd, d1, s1, s2, hcmp, w]
        rw [← d2] at h
        exact Ev.pos (by omega) (Ev.pos (by omega) (Ev.pos (by rw [hdl, hlen]; omega) (Ev.pos (by omega) (Ev.pos (by rw [hdl]; omega) (Ev.bind (Ev.now _) (Ev.neg (by omega) h))))))
def fromTo (i : Nat) : Nat → List Int
  | 0 => []
  | m + 1 => (i : Int) :: fromTo (i + 1) m
theorem fromTo_len : ∀ (m i : Nat), (fromTo i m).length = m
  | 0, _ => rfl
  | m + 1, i => by simp [fromTo, fromTo_len m]
theorem Outer (Q : List S55) (hQ : Q.length ≤ 6) (hv : ∀ q ∈ Q, 0 ≤ q.f0 ∧ q.f0 ≤ 1000) : ∀ (m i : Nat) (o : List Int), i + m = Q.length → o.length = i → (∀ y ∈ o, 0 ≤ y ∧ y < (Q.length : Int)) →
    ∃ r : List Int, r.length = Q.length ∧ (∀ y ∈ r, 0 ≤ y ∧ y < (Q.length : Int)) ∧ Ev (fun k => spec_FirstCome.l0 k Q o (i : Int)) (r, 0) ∧ Ev (fun k => slices_insertionSortCmpFunc_int64__41.l0 k (o ++ fromTo i m) 0 (Q.length : Int) (i : Int) Q) r := by
  intro m
  induction m with
  | zero =>
    intro i o hi ho hin
    refine ⟨o, by omega, hin, ?_, ?_⟩
    · refine Ev.succ ?_
      simp only [spec_FirstCome.l0]
      exact Ev.neg (by omega) (Ev.now _)
    · refine Ev.succ ?_
      simp only [slices_insertionSortCmpFunc_int64__41.l0]
      exact Ev.neg (by omega) (Ev.eq (Ev.now _) (by simp [fromTo]))
  | succ m ih =>
    intro i o hi ho hin
    obtain ⟨A, B, hAB, hs, hp⟩ := Inner Q hQ hv i (by omega) (fromTo (i + 1) m) o.length o [] rfl (by simpa using ho) hin (by rw [fromTo_len]; omega)
    rw [List.append_nil] at hAB
    have hmem : ∀ y ∈ A ++ ((i : Int) :: B), 0 ≤ y ∧ y < (Q.length : Int) := fun y hy => by
      rcases List.mem_append.1 hy with h | h
      · exact hin y (by rw [← hAB]; exact List.mem_append_left _ h)
      · rcases List.mem_cons.1 h with rfl | h
        · omega
        · exact hin y (by rw [← hAB]; exact List.mem_append_right _ h)
    have hl2 : (A ++ ((i : Int) :: B)).length = i + 1 := by
      have := congrArg List.length hAB
      simp at this ⊢
      omega
    obtain ⟨r, hrl, hrm, r1, r2⟩ := ih (i + 1) (A ++ ((i : Int) :: B)) (by omega) hl2 hmem
    have e1 := hs _ r1
    have e2 := hp r (by simpa using r2)
    rw [List.append_nil, ho] at e1
    rw [List.nil_append, ho] at e2
    refine ⟨r, hrl, hrm, ?_, ?_⟩
    · refine Ev.succ ?_
      simp only [spec_FirstCome.l0]
      rw [ho]
      exact Ev.pos (by omega) e1
    · refine Ev.succ ?_
      simp only [slices_insertionSortCmpFunc_int64__41.l0, fromTo]
      exact Ev.pos (by omega) e2
theorem Indices (n : Nat) (hn : n ≤ 6) : Ev (fun k => impl_indices__39.f k (n : Int)) (fromTo 0 n) := by
  have key : ∀ (m i : Nat) (x : List Int), i + m = n → x.length = i → Ev (fun k => impl_indices__39.l0 k x (n : Int) (i : Int)) (x ++ fromTo i m) := by
    intro m
    induction m with
    | zero =>
      intro i x hi hx
      refine Ev.succ ?_
      simp only [impl_indices__39.l0]
      exact Ev.neg (by omega) (Ev.eq (Ev.now _) (by simp [fromTo]))
    | succ m ih =>
      intro i x hi hx
      have e := ih (i + 1) (x ++ [(i : Int)]) (by omega) (by simp [hx])
      refine Ev.succ ?_
      simp only [impl_indices__39.l0]
      rw [wnat i 100 (by omega) (by omega)]
      exact Ev.pos (by omega) (Ev.bind (a := true) (Ev.now _) (Ev.pos rfl (Ev.pos (by omega) (Ev.eq e (by simp [fromTo])))))
  unfold impl_indices__39.f
  exact key n 0 [] (Nat.zero_add _) rfl
theorem FirstCome_both (l : List S55) (hl : l.length ≤ 1073741824) (hb : ∀ q ∈ l, PB16 q) : ∃ r : List Int × Int, r.1.length ≤ 6 ∧ Ev (fun k => spec_FirstCome.f k l) r ∧ Ev (fun k => impl_FirstCome.f k l) r := by
  have hs := Parties_s l hl hb
  have hi := Parties_i l hl hb
  cases hc : (!(l.any badP) && decide ((l.length : Int) ≤ 6)) with
  | false =>
    rw [hc] at hs hi
    refine ⟨([], 1), by simp, ?_, ?_⟩
    · unfold spec_FirstCome.f
      exact Ev.bind hs (Ev.neg Bool.false_ne_true (Ev.now _))
    · unfold impl_FirstCome.f
      exact Ev.bind hi (Ev.neg Bool.false_ne_true (Ev.now _))
  | true =>
    rw [hc] at hs hi
    rw [Bool.and_eq_true] at hc
    have h6 : l.length ≤ 6 := by have := of_decide_eq_true hc.2; omega
    have hv : ∀ q ∈ l, 0 ≤ q.f0 ∧ q.f0 ≤ 1000 := fun q hq => by
      have h1 : l.any badP = false := by simpa using hc.1
      have h2 := List.any_eq_false.1 h1 q hq
      unfold badP inC at h2
      simp at h2
      omega
    obtain ⟨r, hrl, _, r1, r2⟩ := Outer l h6 hv l.length 0 [] (Nat.zero_add _) rfl (fun y hy => absurd hy (by simp))
    refine ⟨(r, 0), by show r.length ≤ 6; omega, ?_, ?_⟩
    · unfold spec_FirstCome.f
      exact Ev.bind hs (Ev.pos rfl r1)
    · have e1 : Ev (fun k => slices_insertionSortCmpFunc_int64__41.f k (fromTo 0 l.length) 0 (l.length : Int) l) r := by
        unfold slices_insertionSortCmpFunc_int64__41.f
        by_cases h0 : l.length = 0
        · have hq : l = [] := List.eq_nil_of_length_eq_zero h0
          subst hq
          have : r = [] := List.eq_nil_of_length_eq_zero hrl
          subst this
          refine Ev.succ ?_
          simp only [slices_insertionSortCmpFunc_int64__41.l0]
          exact Ev.neg (by unfold wrap64; simp) (Ev.eq (Ev.now _) rfl)
        · obtain ⟨m, hm⟩ : ∃ m, l.length = m + 1 := ⟨l.length - 1, by omega⟩
          obtain ⟨r', h1l, _, h1, h2⟩ := Outer l h6 hv m 1 [0] (by omega) rfl (fun y hy => by simp at hy; omega)
          have e2 : Ev (fun k => slices_insertionSortCmpFunc_int64__41.l0 k (fromTo 0 l.length) 0 (l.length : Int) (wrap64 (0 + 1)) l) r' := by
            have e0 : fromTo 0 (m + 1) = [0] ++ fromTo 1 m := rfl
            have w1 : wrap64 (0 + 1) = ((1 : Nat) : Int) := by unfold wrap64; omega
            rw [hm] at h2
            rw [hm, e0, w1]
            exact h2
          have e3 : Ev (fun k => spec_FirstCome.l0 k l [] ((0 : Nat) : Int)) (r', 0) := by
            refine Ev.succ ?_
            simp only [spec_FirstCome.l0]
            refine Ev.pos (by omega) (Ev.succ ?_)
            simp only [spec_FirstCome.l1]
            have w2 : wrap64 (((0 : Nat) : Int) + 1) = ((1 : Nat) : Int) := wnat 0 100 (by omega) (by omega)
            rw [w2]
            exact Ev.neg (by decide) (Ev.pos (by decide) (Ev.pos (by decide) (Ev.bind (a := []) (Ev.now _) (Ev.bind (a := []) (Ev.now _) (Ev.pos (by decide) (Ev.bind (a := [((0 : Nat) : Int)]) (Ev.now _) (Ev.pos (by decide) h1)))))))
          have := Ev.uniq r1 e3
          obtain rfl : r = r' := by injection this
          exact e2
      unfold impl_FirstCome.f slices_SortStableFunc_int64_int64__41.f slices_stableCmpFunc_int64__41.f
      refine Ev.bind hi (Ev.pos rfl (Ev.bind (Indices l.length h6) (Ev.bind (Ev.bind (a := r) ?_ (Ev.now _)) (Ev.now _))))
      rw [fromTo_len]
      refine Ev.succ ?_
      simp only [slices_stableCmpFunc_int64__41.l0]
      refine Ev.neg (by omega) (Ev.bind e1 (Ev.succ ?_))
      simp only [slices_stableCmpFunc_int64__41.l1]
      exact Ev.neg (by omega) (Ev.now _)
end Go.Proofs.Ytjieacofpegmpaa.Q
end
section
namespace Go.Proofs.Ytjieacofpegmpaa.Q
open Go.RowKit Go.Proofs.YtjieacofpegmpaaW.PrintWords Go.Proofs.YtjieacofpegmpaaW.PrintLast Go.Proofs.YtjieacofpegmpaaW.PrintMore Go.Proofs.Ytjieacofpegmpaa.La Go.Proofs.Ytjieacofpegmpaa.PB
set_option linter.unusedVariables false
set_option linter.unusedSimpArgs false
theorem FnExactFirstCome (l0 : List S59) (hm0 : l0.length ≤ maxLen) (hw0 : ∀ x ∈ l0, (Lit.int .i16 x.f0).wf = true ∧ (Lit.int .i16 x.f1).wf = true) : Ev (fun k => laws_FnExactFirstCome.f k l0) true := by
  unfold laws_FnExactFirstCome.f
  by_cases hl : l0.length ≤ 1048576
  rotate_left
  · exact Ev.bind (Ev.const (szPartyS_big l0 (by omega) hm0)) (Ev.pos (by decide) (Ev.now _))
  refine Ev.bind (Ev.const (szPartyS_small l0 hl)) (Ev.neg (by omega) ?_)
  have hw16 : ∀ a : Int, (Lit.int .i16 a).wf = true → -32768 ≤ a ∧ a ≤ 32767 := fun a h => by
    simp [Lit.wf, IntKind.min, IntKind.max, IntKind.signed, IntKind.bits] at h
    omega
  have hb : ∀ q ∈ l0.map cParty, PB16 q := fun q hq => by
    obtain ⟨x, hx, rfl⟩ := List.mem_map.1 hq
    exact ⟨hw16 _ (hw0 x hx).1, hw16 _ (hw0 x hx).2⟩
  have hlm : (l0.map cParty).length ≤ 1048576 := by simpa using hl
  obtain ⟨r, hrl, h1, h2⟩ := FirstCome_both (l0.map cParty) (by omega) hb
  have e1 := toPartyS_ev l0 hl
  have q1 := eqPartyS_ev (l0.map cParty) hlm
  have q := eqInt64S_ev r.1 (by omega)
  obtain ⟨l', m1⟩ := markPartyS_ev (l0.map cParty) 1 hlm (by omega) (by omega)
  have m2 := markInt64S_ev r.1 1 (by omega) (by omega) (by omega)
  have hd := heldInt64S_ev 1 r.1.length (by omega) (by omega) (by omega)
  refine Ev.bind e1 (Ev.bind h1 (Ev.bind e1 (Ev.bind h2 (Ev.bind q (Ev.pos rfl (Ev.succ ?_))))))
  simp only [laws_FnExactFirstCome.j0]
  refine Ev.neg (by simp) (Ev.bind e1 (Ev.bind q1 (Ev.pos rfl (Ev.bind m1 (Ev.neg (by omega) (Ev.bind q (Ev.pos rfl (Ev.succ ?_))))))))
  simp only [laws_FnExactFirstCome.j1]
  refine Ev.neg (by simp) (Ev.bind m2 (Ev.bind hd (Ev.neg (by omega) (Ev.pos rfl (Ev.bind e1 (Ev.bind h2 (Ev.bind q (Ev.pos rfl (Ev.succ ?_)))))))))
  simp only [laws_FnExactFirstCome.j2]
  exact Ev.neg (by simp) (Ev.bind hd (Ev.neg (by omega) (Ev.pos rfl (Ev.now _))))
end Go.Proofs.Ytjieacofpegmpaa.Q
end
section
namespace Go.Proofs.Ytjieacofpegmpaa.fnExactFirstCome
open Go.ChangeShapes Go.WideShapes Go.ChangeAt Go.RowKit Go.Proofs.YtjieacofpegmpaaW.PrintWords Go.Proofs.YtjieacofpegmpaaW.PrintLast Go.Proofs.Ytjieacofpegmpaa.La Go.Proofs.Ytjieacofpegmpaa.Rw Go.Proofs.Ytjieacofpegmpaa.PB
open Go.ChangeMaps (open_string shut_string)
set_option linter.unusedVariables false
set_option maxRecDepth 100000 in
set_option maxHeartbeats 1000000 in
theorem lifted (os : Os) (started : os.Started) (H : Type) (enc : TypeId × Value → H) :
    ReturnsInHanded {} Try.checked os 3 .any (Rows.fnExactFirstComeSpec.pre6 enc Try.prog Try.f3 Rows.fnExactFirstComeRow.domain false) (Rows.fnExactFirstComeSpec.post enc Try.prog Try.f3 false true false false) := by
  refine returnsInHanded_of_change_sized (C := Try.checked) own started (by kernel_rfl) Try.func3
    (ChangeSpec.witness6 (enc := enc) (C := Try.checked) false ⟨#[], #[.slice none 0 0], []⟩ 8 (by kernel_rfl) (by kernel_rfl) (by kernel_rfl) (by kernel_rfl)) ?_
  intro W base args ds gs before hval0 hW hcnd hsz0 _
  have hval : ∀ (j : Nat) t v, Try.f3.params[j]? = some t → args[j]? = some v → Value.okWide Try.prog W .any base t v := hval0
  have hW' := hW
  obtain ⟨p, q, hA0, hV, rfl, hfz, hnd⟩ := hW
  have hA : DataW.TrodAll enc Try.prog W 0 (fun _ => true) true Try.f3.params.toList args.toList ds p := hA0
  rw [Try.params3] at hA hval
  obtain ⟨v0, vs0, d0, ds0, p0, q0, hargs, rfl, rfl, h0, r0⟩ := trodAll_cons hA
  obtain ⟨rfl, rfl, rfl⟩ := trodAll_nil r0
  obtain rfl : args = #[v0] := by cases args; simp_all
  obtain ⟨rfl, rfl⟩ := trodVars_none hV
  have k0 := h0
  have lt0 : ∀ x ∈ p0, x.block < W.heap.size := by obtain ⟨m, hm⟩ := k0; exact DataW.trod_lt m _ _ _ hm
  obtain ⟨a0, len0, cap0, rfl⟩ := okWide_slice Try.underlying22 (hval 0 22 v0 rfl rfl)
  obtain ⟨l0, rfl, hc0, hm0, hr0, hw0⟩ := openS59 h0
  clear hA0 hval0 hsz0
  obtain ⟨k, hk⟩ := Ev.rounds (Q.FnExactFirstCome l0 hm0 hw0)
  refine (laws_FnExactFirstCome.calls k _ _ l0 true W hr0 hc0 hk).mono fun e W' ⟨he, bel0⟩ => ?_
  subst he
  have bel : Below W.heap.size W W' := by first | exact bel0 | exact bel0.below
  exact ⟨_, rfl, _, _, _, [], _, [], hW', trodAll_mk1 (shut_bool Try.underlying4 _), (trodAll_cons_mk (Below.trod laidOut (by kernel_rfl) (of_decide_eq_true (by kernel_rfl)) k0 bel lt0) trodAll_mk0), rfl, bel.frame _, fun h => by cases h⟩
theorem over : Rows.fnExactFirstComeRow.holds Try.pinned (OpenSpec.ofChange Rows.fnExactFirstComeSpec) :=
  OpenClaim.holds_of_wide 3 Try.f3 rfl rfl rfl rfl rfl rfl rfl ⟨rfl, rfl, rfl, rfl, rfl⟩ rfl rfl rfl rfl rfl (by kernel_rfl) Try.func3 (by kernel_rfl)
    (of_decide_eq_true (by kernel_rfl)) (by unfold Func.isWrapper; first | (rw [if_pos (by decide +kernel)]; kernel_rfl) | (rw [if_neg (by decide +kernel)]; exact ⟨rfl, rfl⟩))
    (fun os started H enc _ => lifted os started H enc)
end Go.Proofs.Ytjieacofpegmpaa.fnExactFirstCome
namespace Go.Proofs.Ytjieacofpegmpaa
theorem fnExactFirstCome_holds : Rows.FnExactFirstComeSaid := fnExactFirstCome.over
end Go.Proofs.Ytjieacofpegmpaa
end
