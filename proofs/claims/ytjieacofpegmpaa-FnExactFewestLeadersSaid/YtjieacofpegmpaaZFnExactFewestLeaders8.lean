/- The statement FnExactFewestLeaders of this program: what its proof uses, part 9 of 9. The call returns true for all arguments. No condition of its own. -/
import Derived.IntWalk
import Derived.Test.YtjieacofpegmpaaZFnExactFewestLeaders7
section
namespace Go.Proofs.Ytjieacofpegmpaa.Q
open Go.RowKit Go.Proofs.YtjieacofpegmpaaW.PrintWords Go.Proofs.YtjieacofpegmpaaW.PrintLast
set_option linter.unusedVariables false
set_option linter.unusedSimpArgs false
theorem wnat (i n : Nat) (h : i < n) (hn : n ≤ 9223372036854775807) : wrap64 ((i : Int) + 1) = ((i + 1 : Nat) : Int) := by unfold wrap64; omega
theorem wint (a : Int) (h0 : -9223372036854775808 ≤ a) (h1 : a ≤ 9223372036854775807) : wrap64 a = a := by unfold wrap64; omega
theorem rd_nat (xs : List Int) (i : Nat) : rd xs (i : Int) = xs.getD i 0 := by simp [rd]
theorem Ev.round {α : Type} {g f : Nat → Option α} {r : α} (k : Ev f r) (h : ∀ k, g (k + 1) = f k) : Ev g r := Ev.step h k
theorem Ev.eq {α : Type} {g : Nat → Option α} {r r' : α} (h : Ev g r) (e : r = r') : Ev g r' := e ▸ h
theorem Ev.fn {α : Type} {g f : Nat → Option α} {r : α} (h : Ev f r) (e : ∀ k, g k = f k) : Ev g r := Ev.congr e h
theorem Ev.ite {α : Type} {c : Prop} [Decidable c] {f g : Nat → Option α} {r : α} (h : c → Ev f r) (h' : ¬ c → Ev g r) : Ev (fun k => if c then f k else g k) r := by
  by_cases hc : c
  · simp only [hc, if_true]; exact h hc
  · simp only [hc, if_false]; exact h' hc
theorem Ev.pos {α : Type} {c : Prop} [Decidable c] {f g : Nat → Option α} {r : α} (hc : c) (h : Ev f r) : Ev (fun k => if c then f k else g k) r := by simp only [hc, if_true]; exact h
theorem Ev.neg {α : Type} {c : Prop} [Decidable c] {f g : Nat → Option α} {r : α} (hc : ¬ c) (h : Ev g r) : Ev (fun k => if c then f k else g k) r := by simp only [hc, if_false]; exact h
theorem take_set {α : Type} (xs : List α) (i : Nat) (a : α) (h : i < xs.length) : (xs.set i a).take (i + 1) = xs.take i ++ [a] := by
  rw [List.take_succ_eq_append_getElem (by simpa using h)]
  simp [List.take_set]
  rw [List.set_eq_of_length_le (by simp; omega)]
theorem take_get {α : Type} (xs : List α) (i : Nat) (d : α) (h : i < xs.length) : xs.take (i + 1) = xs.take i ++ [xs.getD i d] := by
  rw [List.take_succ_eq_append_getElem h]
  simp [List.getD_eq_getElem?_getD, List.getElem?_eq_getElem h]
theorem Ev.map_loop {α β : Type} (L : Nat → List β → Int → Option (List β)) (g : α → β) (d : α) (x0 : List α) (hn : x0.length ≤ 9223372036854775807)
    (hstep : ∀ (i : Nat) (x3 : List β) (r : List β), i < x0.length → x3.length = x0.length → Ev (fun k => L k (x3.set i (g (x0.getD i d))) ((i + 1 : Nat) : Int)) r → Ev (fun k => L k x3 (i : Int)) r)
    (hend : ∀ x3 : List β, x3.length = x0.length → Ev (fun k => L k x3 (x0.length : Int)) x3) :
    ∀ x3 : List β, x3.length = x0.length → Ev (fun k => L k x3 0) (x0.map g) := by
  have key : ∀ (n i : Nat) (x3 : List β), i + n = x0.length → x3.length = x0.length → x3.take i = (x0.take i).map g → Ev (fun k => L k x3 (i : Int)) (x0.map g) := by
    intro n
    induction n with
    | zero =>
      intro i x3 hi hl ht
      obtain rfl : i = x0.length := by omega
      have : x3 = x0.map g := by
        rw [List.take_of_length_le (by omega), List.take_of_length_le (by omega)] at ht
        exact ht
      rw [← this]
      exact hend x3 hl
    | succ n ih =>
      intro i x3 hi hl ht
      refine hstep i x3 _ (by omega) hl (ih (i + 1) _ (by omega) (by simpa using hl) ?_)
      rw [take_set _ _ _ (by omega), take_get _ _ d (by omega), ht, List.map_append]
      rfl
  intro x3 hl
  exact key x0.length 0 x3 (by omega) hl (by simp)
theorem Ev.all_loop {ρ : Type} (L : Nat → Int → Option ρ) (n : Nat) (r : ρ)
    (hstep : ∀ i : Nat, i < n → Ev (fun k => L k ((i + 1 : Nat) : Int)) r → Ev (fun k => L k (i : Int)) r)
    (hend : Ev (fun k => L k (n : Int)) r) : Ev (fun k => L k 0) r := by
  have key : ∀ (m i : Nat), i + m = n → Ev (fun k => L k (i : Int)) r := by
    intro m
    induction m with
    | zero => intro i hi; obtain rfl : i = n := by omega
              exact hend
    | succ m ih => intro i hi; exact hstep i (by omega) (ih (i + 1) (by omega))
  exact key n 0 (by omega)
theorem Ev.all_or {α : Type} (L : Nat → Int → Option Bool) (ok : α → Bool) (d : α) (e : Bool) (xs : List α)
    (hyes : ∀ i : Nat, i < xs.length → ok (xs.getD i d) = true → ∀ r, Ev (fun k => L k ((i + 1 : Nat) : Int)) r → Ev (fun k => L k (i : Int)) r)
    (hno : ∀ i : Nat, i < xs.length → ok (xs.getD i d) = false → Ev (fun k => L k (i : Int)) false)
    (hend : Ev (fun k => L k (xs.length : Int)) e) : Ev (fun k => L k 0) (xs.all ok && e) := by
  have key : ∀ (m i : Nat), i + m = xs.length → Ev (fun k => L k (i : Int)) ((xs.drop i).all ok && e) := by
    intro m
    induction m with
    | zero =>
      intro i hi
      obtain rfl : i = xs.length := by omega
      simpa using hend
    | succ m ih =>
      intro i hi
      have hx : xs.drop i = xs.getD i d :: xs.drop (i + 1) := by
        rw [List.drop_eq_getElem_cons (by omega)]
        simp [List.getD_eq_getElem?_getD, List.getElem?_eq_getElem (show i < xs.length by omega)]
      rw [hx, List.all_cons]
      cases ho : ok (xs.getD i d) with
      | true => simpa using hyes i (by omega) ho _ (ih (i + 1) (by omega))
      | false => simpa using hno i (by omega) ho
  simpa using key xs.length 0 (by omega)
def upFrom (k : Int) : Nat → List Int
  | 0 => []
  | n + 1 => k :: upFrom (k + 1) n
theorem upFrom_length (k : Int) (n : Nat) : (upFrom k n).length = n := by
  induction n generalizing k with
  | zero => rfl
  | succ n ih => simp [upFrom, ih]
theorem upFrom_snoc (k : Int) (n : Nat) : upFrom k (n + 1) = upFrom k n ++ [k + n] := by
  induction n generalizing k with
  | zero => simp [upFrom]
  | succ n ih =>
    rw [upFrom, ih (k + 1)]
    simp [upFrom]
    omega
theorem upFrom_get (k : Int) : ∀ (n i : Nat), i < n → (upFrom k n).getD i 0 = k + i
  | n + 1, 0, _ => by simp [upFrom]
  | n + 1, i + 1, h => by
    have := upFrom_get (k + 1) n i (by omega)
    simp only [upFrom, List.getD_cons_succ]
    rw [this]; omega
end Go.Proofs.Ytjieacofpegmpaa.Q
end
section
namespace Go.Proofs.Ytjieacofpegmpaa.Q
open Go.RowKit Go.Proofs.YtjieacofpegmpaaW.PrintWords Go.Proofs.YtjieacofpegmpaaW.PrintLast Go.Proofs.YtjieacofpegmpaaW.PrintMore Go.Proofs.Ytjieacofpegmpaa.La Go.Proofs.Ytjieacofpegmpaa.PC
set_option linter.unusedVariables false
set_option linter.unusedSimpArgs false
def inC (a lo hi : Int) : Bool := decide (lo ≤ a) && decide (a ≤ hi)
theorem In_c (a lo hi : Int) : spec_l00In.f a lo hi = some (inC a lo hi) := by
  unfold spec_l00In.f inC
  split
  · rename_i h; simp [h]
  · rename_i h; simp [h]
theorem Ev.const {α : Type} {x : Option α} {a : α} (h : x = some a) : Ev (fun _ => x) a := by subst h; exact Ev.now a
theorem Ev.succ {α : Type} {g : Nat → Option α} {r : α} (h : Ev (fun k => g (k + 1)) r) : Ev g r := Ev.step (fun _ => rfl) h
theorem getD_mem {α : Type} (l : List α) (i : Nat) (d : α) (h : i < l.length) : l.getD i d ∈ l := by
  simp [List.getD_eq_getElem?_getD, List.getElem?_eq_getElem h]
theorem drop_get {α : Type} (xs : List α) (i : Nat) (d : α) (h : i < xs.length) : xs.drop i = xs.getD i d :: xs.drop (i + 1) := by
  rw [List.drop_eq_getElem_cons h]
  simp [List.getD_eq_getElem?_getD, List.getElem?_eq_getElem h]
end Go.Proofs.Ytjieacofpegmpaa.Q
end
section
namespace Go.Proofs.Ytjieacofpegmpaa.Q
open Go.RowKit Go.Proofs.YtjieacofpegmpaaW.PrintWords Go.Proofs.YtjieacofpegmpaaW.PrintLast Go.Proofs.YtjieacofpegmpaaW.PrintMore Go.Proofs.Ytjieacofpegmpaa.La Go.Proofs.Ytjieacofpegmpaa.PC
set_option linter.unusedVariables false
set_option linter.unusedSimpArgs false
def VV (l : List Int) : Nat := (if (0 : Int) ∈ l then 1 else 0) + (if (1 : Int) ∈ l then 1 else 0) + (if (2 : Int) ∈ l then 1 else 0) + (if (3 : Int) ∈ l then 1 else 0) + (if (4 : Int) ∈ l then 1 else 0)
theorem VV_le (l : List Int) : VV l ≤ 5 := by
  have h : ∀ (p : Prop) [Decidable p], (if p then 1 else 0 : Nat) ≤ 1 := fun p _ => by split <;> omega
  have h0 := h ((0 : Int) ∈ l); have h1 := h ((1 : Int) ∈ l); have h2 := h ((2 : Int) ∈ l); have h3 := h ((3 : Int) ∈ l); have h4 := h ((4 : Int) ∈ l)
  unfold VV
  omega
theorem VV_add (l : List Int) (x : Int) (h0 : 0 ≤ x) (h1 : x < 5) : VV (l ++ [x]) = VV l + (if x ∈ l then 0 else 1) := by
  have hx : x = 0 ∨ x = 1 ∨ x = 2 ∨ x = 3 ∨ x = 4 := by omega
  unfold VV
  by_cases hm : x ∈ l
  · rcases hx with rfl | rfl | rfl | rfl | rfl <;> simp [hm]
  · rcases hx with rfl | rfl | rfl | rfl | rfl <;> simp [hm] <;> omega
theorem VV_same (l l' : List Int) (h : ∀ v, v ∈ l ↔ v ∈ l') : VV l = VV l' := by unfold VV; simp only [h]
theorem VV_take (l : List Int) (hx : ∀ x ∈ l, 0 ≤ x ∧ x < 5) (i : Nat) (hi : i < l.length) : VV (l.take (i + 1)) = VV (l.take i) + (if l.getD i 0 ∈ l.take i then 0 else 1) := by
  have e : l.getD i 0 = l[i] := by simp [hi]
  have hb := hx l[i] (List.getElem_mem hi)
  rw [← List.take_append_getElem hi, VV_add _ _ hb.1 hb.2, e]
theorem Has_ev (l : List Int) (x : Int) (hn : l.length ≤ 1048576) : Ev (fun k => spec_l00Has.f k l x) (decide (x ∈ l)) := by
  unfold spec_l00Has.f
  have key : ∀ (m i : Nat), i + m = l.length → Ev (fun k => spec_l00Has.l0 k l x (i : Int)) (decide (x ∈ l.drop i)) := by
    intro m
    induction m with
    | zero =>
      intro i hi
      refine Ev.succ ?_
      simp only [spec_l00Has.l0]
      exact Ev.neg (by omega) (Ev.eq (Ev.now _) (by rw [List.drop_of_length_le (by omega)]; simp))
    | succ m ih =>
      intro i hi
      have hil : i < l.length := by omega
      have e : l.getD i 0 = l[i] := by simp [hil]
      refine Ev.succ ?_
      simp only [spec_l00Has.l0, rd_nat]
      refine Ev.pos (by omega) (Ev.pos (by omega) ?_)
      by_cases hx : l.getD i 0 = x
      · exact Ev.pos hx (Ev.eq (Ev.now _) (by rw [List.drop_eq_getElem_cons hil, ← e, hx]; simp))
      · refine Ev.neg hx ?_
        rw [wnat i l.length hil (by omega)]
        refine Ev.eq (ih (i + 1) (by omega)) ?_
        rw [List.drop_eq_getElem_cons hil, ← e]
        simp [List.mem_cons, show ¬ x = l.getD i 0 from fun h => hx h.symm]
        all_goals (try (intro h; exact absurd h.symm (by simpa [hil] using hx)))
  simpa using key l.length 0 (by omega)
theorem Diff_ev (l : List Int) (hn : l.length ≤ 1048576) (hx : ∀ x ∈ l, 0 ≤ x ∧ x < 5) : Ev (fun k => spec_l07Different.f k l) (VV l : Int) := by
  unfold spec_l07Different.f
  have key : ∀ (m i : Nat), i + m = l.length → Ev (fun k => spec_l07Different.l0 k l (VV (l.take i) : Int) (i : Int)) (VV l : Int) := by
    intro m
    induction m with
    | zero =>
      intro i hi
      refine Ev.succ ?_
      simp only [spec_l07Different.l0]
      exact Ev.neg (by omega) (Ev.eq (Ev.now _) (by rw [List.take_of_length_le (by omega)]))
    | succ m ih =>
      intro i hi
      have hil : i < l.length := by omega
      have hv := VV_take l hx i hil
      have h5 := VV_le (l.take i)
      refine Ev.succ ?_
      simp only [spec_l07Different.l0, rd_nat, Int.toNat_natCast]
      refine Ev.pos (by omega) (Ev.pos (by omega) (Ev.pos (by omega) (Ev.bind (Has_ev _ _ (by rw [List.length_take]; omega)) ?_)))
      rw [wnat i l.length hil (by omega)]
      by_cases hm : l.getD i 0 ∈ l.take i
      · rw [if_pos hm] at hv
        refine Ev.pos (decide_eq_true hm) ?_
        rw [← Nat.add_zero (VV (l.take i)), ← hv]
        exact ih (i + 1) (by omega)
      · rw [if_neg hm] at hv
        refine Ev.neg (by simpa using hm) ?_
        rw [wint _ (by omega) (by omega), show ((VV (l.take i) : Nat) : Int) + 1 = ((VV (l.take i) + 1 : Nat) : Int) by omega, ← hv]
        exact ih (i + 1) (by omega)
  have := key l.length 0 (by omega)
  simpa [VV] using this
theorem Less_f (a b : Int) : cmp_Less_int64.f a b = some (decide (a < b)) := by
  unfold cmp_Less_int64.f cmp_isNaN_int64.f
  simp
theorem mem_getD (x : List Int) (v : Int) : v ∈ x ↔ ∃ a, a < x.length ∧ x.getD a 0 = v := by
  rw [List.mem_iff_getElem]
  constructor
  · rintro ⟨a, h, e⟩
    exact ⟨a, h, by rw [← e]; simp [h]⟩
  · rintro ⟨a, h, e⟩
    exact ⟨a, h, by rw [← e]; simp [h]⟩
theorem getD_set (x : List Int) (i a : Nat) (v : Int) (hi : i < x.length) : (x.set i v).getD a 0 = if a = i then v else x.getD a 0 := by
  simp only [List.getD_eq_getElem?_getD, List.getElem?_set]
  by_cases h : i = a
  · subst h
    simp [hi]
  · rw [if_neg h, if_neg (fun e => h e.symm)]
def sw (x : List Int) (j : Nat) : List Int := (x.set (j + 1) (x.getD j 0)).set j (x.getD (j + 1) 0)
theorem sw_len (x : List Int) (j : Nat) : (sw x j).length = x.length := by simp [sw]
theorem sw_get (x : List Int) (j a : Nat) (hj : j + 1 < x.length) : (sw x j).getD a 0 = if a = j then x.getD (j + 1) 0 else if a = j + 1 then x.getD j 0 else x.getD a 0 := by
  unfold sw
  rw [getD_set _ _ _ _ (by simp; omega), getD_set _ _ _ _ hj]
theorem sw_mem (x : List Int) (j : Nat) (hj : j + 1 < x.length) (v : Int) : v ∈ sw x j ↔ v ∈ x := by
  rw [mem_getD, mem_getD, sw_len]
  constructor
  · rintro ⟨a, h, e⟩
    rw [sw_get x j a hj] at e
    by_cases h1 : a = j
    · rw [if_pos h1] at e; exact ⟨j + 1, hj, e⟩
    · rw [if_neg h1] at e
      by_cases h2 : a = j + 1
      · rw [if_pos h2] at e; exact ⟨j, by omega, e⟩
      · rw [if_neg h2] at e; exact ⟨a, h, e⟩
  · rintro ⟨a, h, e⟩
    by_cases h1 : a = j
    · exact ⟨j + 1, hj, by rw [sw_get x j _ hj, if_neg (by omega), if_pos rfl, ← h1]; exact e⟩
    · by_cases h2 : a = j + 1
      · exact ⟨j, by omega, by rw [sw_get x j _ hj, if_pos rfl, ← h2]; exact e⟩
      · exact ⟨a, h, by rw [sw_get x j _ hj, if_neg h1, if_neg h2]; exact e⟩
theorem Sort_ev (l : List Int) (hl : l.length ≤ 12) : ∃ r, Ev (fun k => slices_insertionSortOrdered_int64.f k l 0 (l.length : Int)) r ∧ r.length = l.length ∧ (∀ v, v ∈ r ↔ v ∈ l) ∧ ∀ a b, a < b → b < l.length → r.getD a 0 ≤ r.getD b 0 := by
  unfold slices_insertionSortOrdered_int64.f
  have outer : ∀ (m i : Nat) (x : List Int), l.length ≤ i + m → 1 ≤ i → i ≤ 13 → x.length = l.length → (∀ v, v ∈ x ↔ v ∈ l) → (∀ a b, a < b → b < i → b < l.length → x.getD a 0 ≤ x.getD b 0) →
      ∃ r, Ev (fun k => slices_insertionSortOrdered_int64.l0 k x 0 (l.length : Int) (i : Int)) r ∧ r.length = l.length ∧ (∀ v, v ∈ r ↔ v ∈ l) ∧ ∀ a b, a < b → b < l.length → r.getD a 0 ≤ r.getD b 0 := by
    intro m
    induction m with
    | zero =>
      intro i x hi h1 h13 hx hm hs
      refine ⟨x, Ev.succ ?_, hx, hm, fun a b h h' => hs a b h (by omega) h'⟩
      simp only [slices_insertionSortOrdered_int64.l0]
      exact Ev.neg (by omega) (Ev.now _)
    | succ m ih =>
      intro i x hi h1 h13 hx hm hs
      by_cases hlt : i < l.length
      case neg =>
        refine ⟨x, Ev.succ ?_, hx, hm, fun a b h h' => hs a b h (by omega) h'⟩
        simp only [slices_insertionSortOrdered_int64.l0]
        exact Ev.neg (by omega) (Ev.now _)
      have inner : ∀ (j : Nat) (x : List Int), j ≤ i → x.length = l.length → (∀ v, v ∈ x ↔ v ∈ l) → (∀ a b, a < b → b ≤ i → b ≠ j → x.getD a 0 ≤ x.getD b 0) →
          ∃ r, Ev (fun k => slices_insertionSortOrdered_int64.l1 k x 0 (l.length : Int) (i : Int) (j : Int)) r ∧ r.length = l.length ∧ (∀ v, v ∈ r ↔ v ∈ l) ∧ ∀ a b, a < b → b < l.length → r.getD a 0 ≤ r.getD b 0 := by
        intro j
        induction j with
        | zero =>
          intro x hj hx hm hp
          obtain ⟨r, g1, g2⟩ := ih (i + 1) x (by omega) (by omega) (by omega) hx hm (fun a b h h' _ => hp a b h (by omega) (by omega))
          refine ⟨r, Ev.succ ?_, g2⟩
          simp only [slices_insertionSortOrdered_int64.l1]
          refine Ev.neg (by simp) ?_
          rw [wnat i 13 (by omega) (by omega)]
          exact g1
        | succ j ihj =>
          intro x hj hx hm hp
          have hw : wrap64 (((j + 1 : Nat) : Int) - 1) = (j : Int) := by unfold wrap64; omega
          by_cases hc : x.getD (j + 1) 0 < x.getD j 0
          · obtain ⟨r, g1, g2⟩ := ihj (sw x j) (by omega) (by rw [sw_len, hx]) (fun v => by rw [sw_mem x j (by omega), hm]) (fun a b hab hb hbj => by
              rw [sw_get x j a (by omega), sw_get x j b (by omega), if_neg hbj]
              by_cases hb1 : b = j + 1
              · rw [if_pos hb1]
                by_cases ha : a = j
                · rw [if_pos ha]; omega
                · rw [if_neg ha, if_neg (by omega)]
                  exact hp a j (by omega) (by omega) (by omega)
              · rw [if_neg hb1]
                by_cases ha : a = j
                · rw [if_pos ha]; exact hp (j + 1) b (by omega) hb hb1
                · rw [if_neg ha]
                  by_cases ha1 : a = j + 1
                  · rw [if_pos ha1]; exact hp j b (by omega) hb hb1
                  · rw [if_neg ha1]; exact hp a b hab hb hb1)
            refine ⟨r, Ev.succ ?_, g2⟩
            simp only [slices_insertionSortOrdered_int64.l1, hw, rd_nat, Int.toNat_natCast, Less_f]
            refine Ev.pos (by omega) (Ev.pos (by omega) (Ev.pos (by omega) (Ev.pos (by omega) (Ev.pos (by omega) (Ev.bind (Ev.now _) (Ev.pos (by simpa using hc) ?_))))))
            exact g1
          · obtain ⟨r, g1, g2⟩ := ih (i + 1) x (by omega) (by omega) (by omega) hx hm (fun a b hab hb _ => by
              by_cases hb1 : b = j + 1
              · subst hb1
                by_cases ha : a = j
                · subst ha; omega
                · have := hp a j (by omega) (by omega) (by omega); omega
              · exact hp a b hab (by omega) hb1)
            refine ⟨r, Ev.succ ?_, g2⟩
            simp only [slices_insertionSortOrdered_int64.l1, hw, rd_nat, Int.toNat_natCast, Less_f]
            refine Ev.pos (by omega) (Ev.pos (by omega) (Ev.pos (by omega) (Ev.pos (by omega) (Ev.pos (by omega) (Ev.bind (Ev.now _) (Ev.neg (by simpa using hc) ?_))))))
            rw [wnat i 13 (by omega) (by omega)]
            exact g1
      obtain ⟨r, g1, g2⟩ := inner i x (Nat.le_refl _) hx hm (fun a b hab hb hbi => hs a b hab (by omega) (by omega))
      refine ⟨r, Ev.succ ?_, g2⟩
      simp only [slices_insertionSortOrdered_int64.l0]
      exact Ev.pos (by omega) g1
  have hw : wrap64 ((0 : Int) + 1) = ((1 : Nat) : Int) := by unfold wrap64; omega
  rw [hw]
  exact outer 12 1 l (by omega) (by omega) (by omega) rfl (fun _ => Iff.rfl) (fun a b hab hb _ => by omega)
theorem cl_sorted (r : List Int) (hx : ∀ x ∈ r, 0 ≤ x ∧ x < 5) (hs : ∀ a b, a < b → b < r.length → r.getD a 0 ≤ r.getD b 0) : clN r = VV r := by
  unfold clN Lib.compactUpTo
  rw [List.length_map]
  have key : ∀ m, m ≤ r.length → ((List.range m).filter (Lib.keeps r.toArray)).length = VV (r.take m) := by
    intro m
    induction m with
    | zero => intro _; simp [VV]
    | succ m ih =>
      intro hm
      have hml : m < r.length := by omega
      rw [List.range_succ, List.filter_append, List.length_append, ih (by omega), VV_take r hx m hml]
      have hk : Lib.keeps r.toArray m = decide (r.getD m 0 ∉ r.take m) := by
        unfold Lib.keeps
        refine decide_eq_decide.2 ?_
        have e1 : r.toArray[m]! = r.getD m 0 := by simp [hml]
        have e2 : r.toArray[m - 1]! = r.getD (m - 1) 0 := by simp [show m - 1 < r.length by omega]
        rw [e1, e2]
        constructor
        · intro h hmem
          rw [mem_getD] at hmem
          obtain ⟨a, ha, hv⟩ := hmem
          rw [List.length_take] at ha
          have hv' : r.getD a 0 = r.getD m 0 := by
            rw [← hv]
            simp [List.getD_eq_getElem?_getD, List.getElem?_take, show a < m by omega]
          rcases h with h | h
          · omega
          · have h1 := hs (m - 1) m (by omega) hml
            by_cases ham : a = m - 1
            · subst ham; exact h hv'.symm
            · have h2 := hs a (m - 1) (by omega) (by omega)
              omega
        · intro h
          by_cases h0 : m = 0
          · exact .inl h0
          · refine .inr (fun he => h ?_)
            rw [mem_getD]
            refine ⟨m - 1, by rw [List.length_take]; omega, ?_⟩
            rw [he]
            simp [List.getD_eq_getElem?_getD, List.getElem?_take, show m - 1 < m by omega]
      by_cases hm2 : r.getD m 0 ∈ r.take m
      · rw [if_pos hm2, List.filter_cons_of_neg (by rw [hk]; simpa using hm2)]
        simp
      · rw [if_neg hm2, List.filter_cons_of_pos (by rw [hk]; simpa using hm2)]
        simp
  have := key r.length (Nat.le_refl _)
  rw [List.take_of_length_le (Nat.le_refl _)] at this
  simpa using this
theorem j0_small (x : Int) (h0 : 0 ≤ x) (h1 : x ≤ 12) : ∃ v, ∀ k, bits_Len64.j0 (k + 1) x 0 = some v := by
  apply Exists.intro
  intro k
  rw [bits_Len64.j0, if_neg (show ¬ x ≥ 65536 by omega), if_neg (show ¬ x ≥ 256 by omega), if_pos (show 0 ≤ x % 256 by omega), if_pos (show x % 256 < 256 by omega)]
theorem Bits_ev (n : Nat) (hn : n ≤ 12) : ∃ v, Ev (fun k => bits_Len.f k (n : Int)) v := by
  obtain ⟨v, hv⟩ := j0_small (n : Int) (by omega) (by omega)
  have h1 : Ev (fun k => bits_Len64.f k (n : Int)) v := by
    unfold bits_Len64.f
    exact Ev.neg (by omega) (Ev.succ (Ev.fn (Ev.now v) hv))
  exact ⟨v, Ev.bind h1 (Ev.now v)⟩
theorem few_both (p : List Int) (hl : p.length ≤ 12) (hx : ∀ x ∈ p, 0 ≤ x ∧ x < 5) : Ev (fun k => spec_l07Different.f k p) (VV p : Int) ∧ Ev (fun k => fewN k p) (VV p : Int) := by
  refine ⟨Diff_ev p (by omega) hx, ?_⟩
  obtain ⟨r, h1, h2, h3, h4⟩ := Sort_ev p hl
  obtain ⟨v, hv⟩ := Bits_ev p.length hl
  have hc := cl_sorted r (fun x h => hx x ((h3 x).1 h)) (fun a b hab hb => h4 a b hab (by omega))
  have he := VV_same r p h3
  have h5 := VV_le p
  unfold fewN
  refine Ev.pos hl (Ev.bind h1 (Ev.bind hv (Ev.pos ⟨by omega, by omega⟩ ?_)))
  rw [hc, he]
  exact Ev.now _
end Go.Proofs.Ytjieacofpegmpaa.Q
end
section
namespace Go.Proofs.Ytjieacofpegmpaa.Q
open Go.RowKit Go.Proofs.YtjieacofpegmpaaW.PrintWords Go.Proofs.YtjieacofpegmpaaW.PrintLast Go.Proofs.YtjieacofpegmpaaW.PrintMore Go.Proofs.Ytjieacofpegmpaa.La Go.Proofs.Ytjieacofpegmpaa.PC
set_option linter.unusedVariables false
set_option linter.unusedSimpArgs false
def mayG (l0 : List S71) (l1 l2 : List Int) (a : Int) (n : Nat) : Bool :=
  decide (l1.getD l2.length 0 ≤ wrap64 (rd_T71 l0 a).f0) && !(decide (0 < l2.length) && decide (rd l2 ((l2.length : Int) - 1) = a)) && decide ((n : Int) < wrap64 (rd_T71 l0 a).f1)
def mayV (l0 : List S71) (l1 l2 : List Int) (a : Int) : Bool := mayG l0 l1 l2 a (l2.count a)
theorem may_loop (l0 : List S71) (l2 : List Int) (a : Int) (h0 : 0 ≤ a) (h1 : a < l0.length) (h : l2.length ≤ 1048576) : ∀ (m i c : Nat), i + m = l2.length → c ≤ i → Ev (fun k => spec_l07May.l0 k l0 l2 a (l2.length : Int) (c : Int) (i : Int)) (decide (((c + (l2.drop i).count a : Nat) : Int) < wrap64 (rd_T71 l0 a).f1)) := by
  intro m
  induction m with
  | zero =>
    intro i c hi hc
    obtain rfl : i = l2.length := by omega
    refine Ev.eq (Ev.round (Ev.now (decide ((c : Int) < wrap64 (rd_T71 l0 a).f1))) fun k => ?_) (by simp)
    simp only [spec_l07May.l0]
    rw [if_neg (by omega), if_pos h0, if_pos h1]
  | succ m ih =>
    intro i c hi hc
    by_cases he : l2.getD i 0 = a
    · have hcnt : (l2.drop i).count a = (l2.drop (i + 1)).count a + 1 := by rw [drop_get l2 i 0 (by omega), he, List.count_cons_self]
      refine Ev.eq (Ev.round (ih (i + 1) (c + 1) (by omega) (by omega)) fun k => ?_) ?_
      · simp only [spec_l07May.l0, rd_nat]
        rw [if_pos (by omega), if_pos (by omega), if_pos (by omega), if_pos he, wnat c l2.length (by omega) (by omega), wnat i l2.length (by omega) (by omega)]
      · rw [hcnt, show c + 1 + (l2.drop (i + 1)).count a = c + ((l2.drop (i + 1)).count a + 1) by omega]
    · have hcnt : (l2.drop i).count a = (l2.drop (i + 1)).count a := by rw [drop_get l2 i 0 (by omega), List.count_cons_of_ne he]
      refine Ev.eq (Ev.round (ih (i + 1) c (by omega) (by omega)) fun k => ?_) ?_
      · simp only [spec_l07May.l0, rd_nat]
        rw [if_pos (by omega), if_pos (by omega), if_pos (by omega), if_neg he, wnat i l2.length (by omega) (by omega)]
      · rw [hcnt]
theorem May_ev (l0 : List S71) (l1 l2 : List Int) (a : Int) (h2 : l2.length < l1.length) (hl : l1.length ≤ 1048576) (h0 : 0 ≤ a) (h1 : a < l0.length) : Ev (fun k => spec_l07May.f k l0 l1 l2 a) (mayV l0 l1 l2 a) := by
  unfold spec_l07May.f mayV mayG
  have hloop := may_loop l0 l2 a h0 h1 (by omega) l2.length 0 0 (by omega) (by omega)
  have hj : Ev (fun k => spec_l07May.j0 k l0 l2 a (l2.length : Int) false) (decide ((l2.count a : Int) < wrap64 (rd_T71 l0 a).f1)) := by
    refine Ev.succ ?_
    simp only [spec_l07May.j0]
    refine Ev.neg (by simp) ?_
    simpa using hloop
  have ht : Ev (fun k => spec_l07May.j0 k l0 l2 a (l2.length : Int) true) false := by
    refine Ev.succ ?_
    simp only [spec_l07May.j0, if_true]
    exact Ev.now _
  refine Ev.pos (by omega) (Ev.pos (by omega) (Ev.pos h0 (Ev.pos h1 ?_)))
  rw [rd_nat]
  by_cases hw : l1.getD l2.length 0 > wrap64 (rd_T71 l0 a).f0
  · rw [decide_eq_false (show ¬ l1.getD l2.length 0 ≤ wrap64 (rd_T71 l0 a).f0 by omega)]
    exact Ev.eq (Ev.pos hw ht) (by simp)
  · rw [decide_eq_true (show l1.getD l2.length 0 ≤ wrap64 (rd_T71 l0 a).f0 by omega)]
    refine Ev.neg hw ?_
    by_cases hp : 0 < l2.length
    · rw [decide_eq_true hp]
      refine Ev.pos (by omega) (Ev.pos (by rw [wint _ (by omega) (by omega)]; omega) (Ev.pos (by rw [wint _ (by omega) (by omega)]; omega) ?_))
      rw [wint ((l2.length : Int) - 1) (by omega) (by omega)]
      by_cases he : rd l2 ((l2.length : Int) - 1) = a
      · rw [show (rd l2 ((l2.length : Int) - 1) == a) = true by simpa using he, decide_eq_true he]
        exact Ev.eq ht (by simp)
      · rw [show (rd l2 ((l2.length : Int) - 1) == a) = false by simpa using he, decide_eq_false he]
        exact Ev.eq hj (by simp)
    · rw [decide_eq_false hp]
      exact Ev.neg (by omega) (Ev.eq hj (by simp))
theorem bit_f (b : Bool) : impl_bit.f b = some (if b = true then 1 else 0) := by
  unfold impl_bit.f
  split <;> rfl
theorem goes_loop (l0 : List S71) (l1 l2 : List Int) (a : Int) (h2 : l2.length < l1.length) (hl : l1.length ≤ 1048576) (h0 : 0 ≤ a) (h1 : a < l0.length) : ∀ (m i c : Nat), i + m = l2.length → c ≤ i → Ev (fun k => impl_goesOn.l0 k l0 l1 l2 a (l2.length : Int) (((c + 1 : Nat) : Int)) l2 (l2.length : Int) (i : Int)) (mayG l0 l1 l2 a (c + (l2.drop i).count a)) := by
  intro m
  induction m with
  | zero =>
    intro i c hi hc
    obtain rfl : i = l2.length := by omega
    have hd : decide (((c + 1 : Nat) : Int) ≤ wrap64 (rd_T71 l0 a).f1) = decide ((c : Int) < wrap64 (rd_T71 l0 a).f1) := decide_eq_decide.2 (by omega)
    refine Ev.eq (r := mayG l0 l1 l2 a c) ?_ (by simp)
    refine Ev.succ ?_
    simp only [impl_goesOn.l0]
    refine Ev.neg (by omega) (Ev.pos (by omega) (Ev.pos (by omega) (Ev.pos h0 (Ev.pos h1 ?_))))
    rw [rd_nat, hd]
    unfold mayG
    by_cases hw : l1.getD l2.length 0 ≤ wrap64 (rd_T71 l0 a).f0
    · rw [decide_eq_true hw]
      refine Ev.pos hw ?_
      by_cases hp : 0 < l2.length
      · rw [decide_eq_true hp]
        refine Ev.neg (by omega) (Ev.pos (by rw [wint _ (by omega) (by omega)]; omega) (Ev.pos (by rw [wint _ (by omega) (by omega)]; omega) ?_))
        rw [wint ((l2.length : Int) - 1) (by omega) (by omega)]
        by_cases he : rd l2 ((l2.length : Int) - 1) = a
        · rw [decide_eq_true he]
          exact Ev.pos he (Ev.eq (Ev.now false) (by simp))
        · rw [decide_eq_false he]
          exact Ev.neg he (Ev.eq (Ev.now _) (by simp))
      · rw [decide_eq_false hp]
        exact Ev.pos (by omega) (Ev.eq (Ev.now _) (by simp))
    · rw [decide_eq_false hw]
      exact Ev.neg hw (Ev.eq (Ev.now false) (by simp))
  | succ m ih =>
    intro i c hi hc
    by_cases he : l2.getD i 0 = a
    · have hcnt : (l2.drop i).count a = (l2.drop (i + 1)).count a + 1 := by rw [drop_get l2 i 0 (by omega), he, List.count_cons_self]
      have hb : (l2.getD i 0 == a) = true := by simpa using he
      refine Ev.eq (Ev.round (ih (i + 1) (c + 1) (by omega) (by omega)) fun k => ?_) ?_
      · simp only [impl_goesOn.l0, rd_nat, hb, bit_f, if_true, Option.bind_some]
        rw [if_pos (by omega), if_pos (by omega), if_pos (by omega), wnat (c + 1) 1048578 (by omega) (by omega), wnat i l2.length (by omega) (by omega)]
      · rw [hcnt, show c + 1 + (l2.drop (i + 1)).count a = c + ((l2.drop (i + 1)).count a + 1) by omega]
    · have hcnt : (l2.drop i).count a = (l2.drop (i + 1)).count a := by rw [drop_get l2 i 0 (by omega), List.count_cons_of_ne he]
      have hb : (l2.getD i 0 == a) = false := by simpa using he
      refine Ev.eq (Ev.round (ih (i + 1) c (by omega) (by omega)) fun k => ?_) ?_
      · simp only [impl_goesOn.l0, rd_nat, hb, bit_f, Bool.false_eq_true, if_false, Option.bind_some, Int.add_zero]
        rw [if_pos (by omega), if_pos (by omega), if_pos (by omega), wint ((c + 1 : Nat) : Int) (by omega) (by omega), wnat i l2.length (by omega) (by omega)]
      · rw [hcnt]
theorem goesOn_ev (l0 : List S71) (l1 l2 : List Int) (a : Int) (h2 : l2.length < l1.length) (hl : l1.length ≤ 1048576) (h0 : 0 ≤ a) (h1 : a < l0.length) : Ev (fun k => impl_goesOn.f k l0 l1 l2 a) (mayV l0 l1 l2 a) := by
  unfold impl_goesOn.f mayV
  simpa using goes_loop l0 l1 l2 a h2 hl h0 h1 l2.length 0 0 (by omega) (by omega)
end Go.Proofs.Ytjieacofpegmpaa.Q
end
section
namespace Go.Proofs.Ytjieacofpegmpaa.Q
open Go.RowKit Go.Proofs.YtjieacofpegmpaaW.PrintWords Go.Proofs.YtjieacofpegmpaaW.PrintLast Go.Proofs.YtjieacofpegmpaaW.PrintMore Go.Proofs.Ytjieacofpegmpaa.La Go.Proofs.Ytjieacofpegmpaa.PC
set_option linter.unusedVariables false
set_option linter.unusedSimpArgs false
theorem In_g (a lo hi : Int) : spec_l00In.f a lo hi = some (inB a lo hi) := In_c a lo hi
def okGuides (l : List S71) : Bool := inB (l.length : Int) 1 5 && l.all impl_ValidGuides.ok
theorem rd_G_nat (xs : List S71) (i : Nat) : rd_T71 xs (i : Int) = xs.getD i z71 := by simp [rd_T71]
theorem l07Guides_ev (l : List S71) (h : l.length ≤ 9223372036854775806) : Ev (fun k => spec_l07Guides.f k l) (okGuides l) := by
  unfold spec_l07Guides.f okGuides
  rw [Bool.and_comm]
  refine Ev.all_or (fun k i => spec_l07Guides.l0 k l i) impl_ValidGuides.ok z71 _ l (fun i hi ho r hr => ?_) (fun i hi ho => ?_) ?_
  · simp only [impl_ValidGuides.ok, Bool.and_eq_true] at ho
    refine Ev.round hr fun k => ?_
    simp only [spec_l07Guides.l0, In_g, Option.bind_some, rd_G_nat]
    rw [if_pos (by omega), if_pos (by omega), if_pos ho.1.1, if_pos ho.1.2, if_pos ho.2, wnat i l.length hi (by omega)]
  · simp only [impl_ValidGuides.ok, Bool.and_eq_false_iff] at ho
    refine Ev.round (Ev.now false) fun k => ?_
    simp only [spec_l07Guides.l0, In_g, Option.bind_some, rd_G_nat]
    rw [if_pos (by omega), if_pos (by omega)]
    rcases ho with (ho | ho) | ho
    · rw [if_neg (by rw [ho]; simp)]
    · rw [if_neg (c := inB (wrap64 (l.getD i z71).f1) 0 8 = true) (by rw [ho]; simp)]
      split <;> rfl
    · rw [if_neg (c := inB (wrap64 (l.getD i z71).f2) 1 20 = true) (by rw [ho]; simp)]
      split
      · split <;> rfl
      · rfl
  · refine Ev.round (Ev.now _) fun k => ?_
    simp only [spec_l07Guides.l0, In_g, Option.bind_some]
    rw [if_neg (by omega)]
theorem ValidGuides_f (l : List S71) : impl_ValidGuides.f l = some (okGuides l) := rfl
theorem okGuides_len {l : List S71} (h : okGuides l = true) : 1 ≤ l.length ∧ l.length ≤ 5 := by
  simp only [okGuides, inB, Bool.and_eq_true, decide_eq_true_eq] at h
  omega
end Go.Proofs.Ytjieacofpegmpaa.Q
end
section
namespace Go.Proofs.Ytjieacofpegmpaa.Q
open Go.RowKit Go.Proofs.YtjieacofpegmpaaW.PrintWords Go.Proofs.YtjieacofpegmpaaW.PrintLast Go.Proofs.YtjieacofpegmpaaW.PrintMore Go.Proofs.Ytjieacofpegmpaa.La Go.Proofs.Ytjieacofpegmpaa.PC
set_option linter.unusedVariables false
set_option linter.unusedSimpArgs false
theorem In_b (a lo hi : Int) : spec_l00In.f a lo hi = some (inB a lo hi) := In_c a lo hi
def okLegs (l : List Int) : Bool := inB (l.length : Int) 1 8 && l.all fun n => inB n 0 20
theorem l07Legs_ev (l : List Int) (h : l.length ≤ 9223372036854775806) : Ev (fun k => spec_l07Legs.f k l) (okLegs l) := by
  unfold spec_l07Legs.f okLegs
  rw [Bool.and_comm]
  refine Ev.all_or (fun k i => spec_l07Legs.l0 k l i) (fun n => inB n 0 20) 0 _ l (fun i hi ho r hr => ?_) (fun i hi ho => ?_) ?_
  · refine Ev.round hr fun k => ?_
    simp only [spec_l07Legs.l0, In_b, Option.bind_some, rd_nat]
    rw [if_pos (by omega), if_pos (by omega), if_pos ho, wnat i l.length hi (by omega)]
  · refine Ev.round (Ev.now false) fun k => ?_
    simp only [spec_l07Legs.l0, In_b, Option.bind_some, rd_nat]
    rw [if_pos (by omega), if_pos (by omega), if_neg (by rw [ho]; simp)]
  · refine Ev.round (Ev.now _) fun k => ?_
    simp only [spec_l07Legs.l0, In_b, Option.bind_some]
    rw [if_neg (by omega)]
theorem ValidLegs_f (l : List Int) : impl_ValidLegs.f l = some (okLegs l) := rfl
end Go.Proofs.Ytjieacofpegmpaa.Q
end
section
namespace Go.Proofs.Ytjieacofpegmpaa.Q
open Go.RowKit Go.Proofs.YtjieacofpegmpaaW.PrintWords Go.Proofs.YtjieacofpegmpaaW.PrintLast Go.Proofs.YtjieacofpegmpaaW.PrintMore Go.Proofs.Ytjieacofpegmpaa.La Go.Proofs.Ytjieacofpegmpaa.PC
set_option linter.unusedVariables false
set_option linter.unusedSimpArgs false
def ledB (l0 : List S71) (l1 : List Int) : Bool := okGuides l0 && okLegs l1
theorem Led_ev (l0 : List S71) (l1 : List Int) (h0 : l0.length ≤ 1048576) (h1 : l1.length ≤ 1048576) : Ev (fun k => spec_l07Led.f k l0 l1) (if ledB l0 l1 = true then 0 else 1) := by
  unfold spec_l07Led.f ledB
  refine Ev.bind (l07Guides_ev l0 (by omega)) ?_
  cases okGuides l0 with
  | false => simpa using Ev.now (1 : Int)
  | true =>
    refine Ev.pos rfl (Ev.bind (l07Legs_ev l1 (by omega)) ?_)
    cases okLegs l1 with
    | false => simpa using Ev.now (1 : Int)
    | true => simpa using Ev.now (0 : Int)
theorem okLegs_len {l : List Int} (h : okLegs l = true) : 1 ≤ l.length ∧ l.length ≤ 8 := by
  simp only [okLegs, inB, Bool.and_eq_true, decide_eq_true_eq] at h
  omega
theorem ledB_len {l0 : List S71} {l1 : List Int} (h : ledB l0 l1 = true) : 1 ≤ l0.length ∧ l0.length ≤ 5 ∧ 1 ≤ l1.length ∧ l1.length ≤ 8 := by
  simp only [ledB, Bool.and_eq_true] at h
  have a := okGuides_len h.1
  have b := okLegs_len h.2
  omega
end Go.Proofs.Ytjieacofpegmpaa.Q
end
section
namespace Go.Proofs.Ytjieacofpegmpaa.Q
open Go.RowKit Go.Proofs.YtjieacofpegmpaaW.PrintWords Go.Proofs.YtjieacofpegmpaaW.PrintLast Go.Proofs.YtjieacofpegmpaaW.PrintMore Go.Proofs.Ytjieacofpegmpaa.La Go.Proofs.Ytjieacofpegmpaa.PC
set_option linter.unusedVariables false
set_option linter.unusedSimpArgs false
theorem toInt64S_ev (l : List Int) (h : l.length ≤ 1048576) : Ev (fun k => laws_toInt64S.f k l) l := by
  unfold laws_toInt64S.f
  refine Ev.pos (by omega) (Ev.pos (by omega) ?_)
  have := Ev.map_loop (fun k x3 i => laws_toInt64S.l0 k l x3 i) (fun x => x) 0 l (by omega) ?_ ?_ (List.replicate ((l.length : Int)).toNat 0) (by simp)
  · simpa using this
  · intro i x3 r hi hl hr
    refine Ev.round hr fun k => ?_
    simp only [laws_toInt64S.l0]
    rw [if_pos (by omega), if_pos (by omega), if_pos (by omega), wnat i l.length hi (by omega)]
    simp [rd]
  · intro x3 hl
    refine Ev.round (Ev.now x3) fun k => ?_
    simp only [laws_toInt64S.l0]
    rw [if_neg (by omega)]
theorem eqInt64S_ev (l : List Int) (h : l.length ≤ 1048576) : Ev (fun k => laws_eqInt64S.f k l l) true := by
  unfold laws_eqInt64S.f
  refine Ev.pos rfl ?_
  refine Ev.all_loop (fun k i => laws_eqInt64S.l0 k l l i) l.length true (fun i hi hr => ?_) ?_
  · refine Ev.round hr fun k => ?_
    simp only [laws_eqInt64S.l0]
    rw [if_pos (by omega), if_pos (by omega), if_pos (by omega), if_pos trivial, wnat i l.length hi (by omega)]
  · refine Ev.round (Ev.now true) fun k => ?_
    simp only [laws_eqInt64S.l0]
    rw [if_neg (by omega)]
end Go.Proofs.Ytjieacofpegmpaa.Q
end
section
namespace Go.Proofs.Ytjieacofpegmpaa.Q
open Go.RowKit Go.Proofs.YtjieacofpegmpaaW.PrintWords Go.Proofs.YtjieacofpegmpaaW.PrintLast Go.Proofs.YtjieacofpegmpaaW.PrintMore Go.Proofs.Ytjieacofpegmpaa.La Go.Proofs.Ytjieacofpegmpaa.PC
set_option linter.unusedVariables false
set_option linter.unusedSimpArgs false
theorem markInt64S_ev (l : List Int) (a : Int) (h : l.length ≤ 1048576) (h0 : 0 ≤ a) (h1 : a ≤ 1000000000000) : Ev (fun k => laws_markInt64S.f k l a) (a + l.length, upFrom a l.length) := by
  unfold laws_markInt64S.f
  have key : ∀ (n i : Nat) (x : List Int), i + n = l.length → x.length = l.length → x.take i = upFrom a i → Ev (fun k => laws_markInt64S.l0 k x (a + i) (i : Int)) (a + l.length, upFrom a l.length) := by
    intro n
    induction n with
    | zero =>
      intro i x hi hl ht
      obtain rfl : i = l.length := by omega
      refine Ev.round (Ev.now _) fun k => ?_
      simp only [laws_markInt64S.l0]
      rw [if_neg (by omega), ← ht, List.take_of_length_le (by omega)]
    | succ n ih =>
      intro i x hi hl ht
      refine Ev.round (ih (i + 1) (x.set i (a + i)) (by omega) (by simpa using hl) (by rw [take_set _ _ _ (by omega), ht, upFrom_snoc])) fun k => ?_
      simp only [laws_markInt64S.l0]
      rw [if_pos (by omega), if_pos (by omega), wnat i l.length (by omega) (by omega), wint _ (by omega) (by omega)]
      simp [Int.add_assoc]
  simpa using key l.length 0 l (by omega) rfl (by simp [upFrom])
theorem heldInt64S_ev (a : Int) (n : Nat) (h : n ≤ 1048576) (h0 : 0 ≤ a) (h1 : a ≤ 1000000000000) : Ev (fun k => laws_heldInt64S.f k (upFrom a n) a) (a + n) := by
  unfold laws_heldInt64S.f
  have key : ∀ (m i : Nat), i + m = n → Ev (fun k => laws_heldInt64S.l0 k (upFrom a n) (a + i) (i : Int)) (a + n) := by
    intro m
    induction m with
    | zero =>
      intro i hi
      obtain rfl : i = n := by omega
      refine Ev.round (Ev.now _) fun k => ?_
      simp only [laws_heldInt64S.l0, upFrom_length]
      rw [if_neg (by omega)]
    | succ m ih =>
      intro i hi
      refine Ev.round (ih (i + 1) (by omega)) fun k => ?_
      simp only [laws_heldInt64S.l0, upFrom_length]
      rw [if_pos (by omega), if_pos (by omega), rd_nat, upFrom_get a n i (by omega), if_pos rfl, wnat i n (by omega) (by omega), wint _ (by omega) (by omega)]
      simp [Int.add_assoc]
  simpa using key n 0 (by omega)
end Go.Proofs.Ytjieacofpegmpaa.Q
end
section
namespace Go.Proofs.Ytjieacofpegmpaa.Q
open Go.RowKit Go.Proofs.YtjieacofpegmpaaW.PrintWords Go.Proofs.YtjieacofpegmpaaW.PrintLast Go.Proofs.YtjieacofpegmpaaW.PrintMore Go.Proofs.Ytjieacofpegmpaa.La Go.Proofs.Ytjieacofpegmpaa.PC
set_option linter.unusedVariables false
set_option linter.unusedSimpArgs false
def cGuide (x : S73) : S71 := ⟨x.f0, x.f1, x.f2⟩
theorem toGuideS_ev (l : List S73) (h : l.length ≤ 1048576) : Ev (fun k => laws_toGuideS.f k l) (l.map cGuide) := by
  unfold laws_toGuideS.f
  refine Ev.pos (by omega) (Ev.pos (by omega) ?_)
  refine Ev.map_loop (fun k x3 i => laws_toGuideS.l0 k l x3 i) cGuide z73 l (by omega) ?_ ?_ (List.replicate ((l.length : Int)).toNat z71) (by simp)
  · intro i x3 r hi hl hr
    refine Ev.round hr fun k => ?_
    simp only [laws_toGuideS.l0, laws_toGuide.f, Option.bind_some]
    rw [if_pos (by omega), if_pos (by omega), if_pos (by omega), wnat i l.length hi (by omega)]
    simp [rd_T73, cGuide]
  · intro x3 hl
    refine Ev.round (Ev.now x3) fun k => ?_
    simp only [laws_toGuideS.l0]
    rw [if_neg (by omega)]
theorem eqGuideS_ev (l : List S71) (h : l.length ≤ 1048576) : Ev (fun k => laws_eqGuideS.f k l l) true := by
  unfold laws_eqGuideS.f
  refine Ev.pos rfl ?_
  refine Ev.all_loop (fun k i => laws_eqGuideS.l0 k l l i) l.length true (fun i hi hr => ?_) ?_
  · refine Ev.round hr fun k => ?_
    simp only [laws_eqGuideS.l0, laws_eqGuide.f, if_true, Option.bind_some]
    rw [if_pos (by omega), if_pos (by omega), if_pos (by omega), wnat i l.length hi (by omega)]
  · refine Ev.round (Ev.now true) fun k => ?_
    simp only [laws_eqGuideS.l0]
    rw [if_neg (by omega)]
theorem szGuideS_small (l : List S73) (h : l.length ≤ 1048576) : laws_szGuideS.f l 1048576 = some (1048576 - (l.length : Int)) := by
  unfold laws_szGuideS.f
  rw [wint _ (by omega) (by omega), if_neg (by omega)]
theorem szGuideS_big (l : List S73) (h : 1048576 < l.length) (hm : l.length ≤ maxLen) : laws_szGuideS.f l 1048576 = some (-1) := by
  unfold maxLen at hm
  unfold laws_szGuideS.f
  rw [wint _ (by omega) (by omega), if_pos (by omega)]
end Go.Proofs.Ytjieacofpegmpaa.Q
end
section
namespace Go.Proofs.Ytjieacofpegmpaa.Q
open Go.RowKit Go.Proofs.YtjieacofpegmpaaW.PrintWords Go.Proofs.YtjieacofpegmpaaW.PrintLast Go.Proofs.YtjieacofpegmpaaW.PrintMore Go.Proofs.Ytjieacofpegmpaa.La Go.Proofs.Ytjieacofpegmpaa.PC
set_option linter.unusedVariables false
set_option linter.unusedSimpArgs false
theorem markGuideS_ev (l : List S71) (a : Int) (h : l.length ≤ 1048576) (h0 : 0 ≤ a) (h1 : a ≤ 1000000000000) : ∃ l', Ev (fun k => laws_markGuideS.f k l a) (a + 3 * l.length, l') := by
  unfold laws_markGuideS.f
  have key : ∀ (m i : Nat) (x : List S71), i + m = l.length → x.length = l.length → ∃ l', Ev (fun k => laws_markGuideS.l0 k x (a + 3 * i) (i : Int)) (a + 3 * l.length, l') := by
    intro m
    induction m with
    | zero =>
      intro i x hi hl
      obtain rfl : i = l.length := by omega
      refine ⟨x, Ev.round (Ev.now _) fun k => ?_⟩
      simp only [laws_markGuideS.l0]
      rw [if_neg (by omega)]
    | succ m ih =>
      intro i x hi hl
      have key1 : ∀ x' : List S71, x'.length = l.length → ∃ l', Ev (fun k => laws_markGuideS.l0 k x' (a + 3 * ((i + 1 : Nat) : Int)) ((i + 1 : Nat) : Int)) (a + 3 * l.length, l') := fun x' hx' => ih (i + 1) x' (by omega) hx'
      obtain ⟨l', hl'⟩ := key1 (((x.set (i : Int).toNat (⟨IntKind.i8.wrap (a + 3 * (i : Int)), (rd_T71 x (i : Int)).f1, (rd_T71 x (i : Int)).f2⟩ : S71)).set (i : Int).toNat (⟨(rd_T71 (x.set (i : Int).toNat (⟨IntKind.i8.wrap (a + 3 * (i : Int)), (rd_T71 x (i : Int)).f1, (rd_T71 x (i : Int)).f2⟩ : S71)) (i : Int)).f0, IntKind.i8.wrap (a + 3 * (i : Int) + 1), (rd_T71 (x.set (i : Int).toNat (⟨IntKind.i8.wrap (a + 3 * (i : Int)), (rd_T71 x (i : Int)).f1, (rd_T71 x (i : Int)).f2⟩ : S71)) (i : Int)).f2⟩ : S71)).set (i : Int).toNat (⟨(rd_T71 ((x.set (i : Int).toNat (⟨IntKind.i8.wrap (a + 3 * (i : Int)), (rd_T71 x (i : Int)).f1, (rd_T71 x (i : Int)).f2⟩ : S71)).set (i : Int).toNat (⟨(rd_T71 (x.set (i : Int).toNat (⟨IntKind.i8.wrap (a + 3 * (i : Int)), (rd_T71 x (i : Int)).f1, (rd_T71 x (i : Int)).f2⟩ : S71)) (i : Int)).f0, IntKind.i8.wrap (a + 3 * (i : Int) + 1), (rd_T71 (x.set (i : Int).toNat (⟨IntKind.i8.wrap (a + 3 * (i : Int)), (rd_T71 x (i : Int)).f1, (rd_T71 x (i : Int)).f2⟩ : S71)) (i : Int)).f2⟩ : S71)) (i : Int)).f0, (rd_T71 ((x.set (i : Int).toNat (⟨IntKind.i8.wrap (a + 3 * (i : Int)), (rd_T71 x (i : Int)).f1, (rd_T71 x (i : Int)).f2⟩ : S71)).set (i : Int).toNat (⟨(rd_T71 (x.set (i : Int).toNat (⟨IntKind.i8.wrap (a + 3 * (i : Int)), (rd_T71 x (i : Int)).f1, (rd_T71 x (i : Int)).f2⟩ : S71)) (i : Int)).f0, IntKind.i8.wrap (a + 3 * (i : Int) + 1), (rd_T71 (x.set (i : Int).toNat (⟨IntKind.i8.wrap (a + 3 * (i : Int)), (rd_T71 x (i : Int)).f1, (rd_T71 x (i : Int)).f2⟩ : S71)) (i : Int)).f2⟩ : S71)) (i : Int)).f1, IntKind.i8.wrap (a + 3 * (i : Int) + 1 + 1)⟩ : S71)) (by simpa using hl)
      refine ⟨l', Ev.round hl' fun k => ?_⟩
      simp only [laws_markGuideS.l0, Option.bind_some]
      rw [if_pos (by omega), if_pos (by omega), wnat i l.length (by omega) (by omega)]
      rw [wint (a + 3 * (i : Int) + 1) (by omega) (by omega), wint (a + 3 * (i : Int) + 1 + 1) (by omega) (by omega), wint (a + 3 * (i : Int) + 1 + 1 + 1) (by omega) (by omega)]
      have e : (a + 3 * (i : Int) + 1 + 1 + 1) = a + 3 * ((i + 1 : Nat) : Int) := by omega
      rw [e]
  obtain ⟨l', hl'⟩ := key l.length 0 l (by omega) rfl
  exact ⟨l', by simpa using hl'⟩
end Go.Proofs.Ytjieacofpegmpaa.Q
end
section
namespace Go.Proofs.Ytjieacofpegmpaa.Q
open Go.RowKit Go.Proofs.YtjieacofpegmpaaW.PrintWords Go.Proofs.YtjieacofpegmpaaW.PrintLast Go.Proofs.YtjieacofpegmpaaW.PrintMore Go.Proofs.Ytjieacofpegmpaa.La Go.Proofs.Ytjieacofpegmpaa.PC
set_option linter.unusedVariables false
set_option linter.unusedSimpArgs false
theorem Ev.foldlM {σ α : Type} (f : Nat → σ → α → Option σ) (g : σ → α → σ) (xs : List α) (h : ∀ x ∈ xs, ∀ s, Ev (fun k => f k s x) (g s x)) : ∀ s, Ev (fun k => xs.foldlM (f k) s) (xs.foldl g s) := by
  induction xs with
  | nil => intro s; simpa using Ev.now s
  | cons x xs ih =>
    intro s
    simp only [List.foldlM_cons, List.foldl_cons]
    exact Ev.bind (h x (by simp) s) (ih (fun y hy => h y (by simp [hy])) _)
theorem foldl_flat {α β σ : Type} (h : α → List β) (g : σ → β → σ) : ∀ (xs : List α) (s : σ), (xs.flatMap h).foldl g s = xs.foldl (fun s x => (h x).foldl g s) s
  | [], s => rfl
  | x :: xs, s => by
    simp only [List.flatMap_cons, List.foldl_append, List.foldl_cons]
    exact foldl_flat h g xs _
theorem Own_f (l : List Int) (h : l.length ≤ 1048576) : spec_l00Own.f l = some l := by
  unfold spec_l00Own.f
  simp only [Option.bind_some, List.nil_append, List.length_nil]
  rw [if_pos (by omega)]
theorem flat_len {α β : Type} (h : α → List β) (c : Nat) : ∀ (xs : List α), (∀ x ∈ xs, (h x).length ≤ c) → (xs.flatMap h).length ≤ xs.length * c
  | [], _ => by simp
  | x :: xs, hb => by
    have h1 := hb x (by simp)
    have h2 := flat_len h c xs (fun y hy => hb y (by simp [hy]))
    simp only [List.flatMap_cons, List.length_append, List.length_cons, Nat.succ_mul]
    omega
end Go.Proofs.Ytjieacofpegmpaa.Q
namespace Go.Proofs.Ytjieacofpegmpaa.Q
open Go.RowKit Go.Proofs.YtjieacofpegmpaaW.PrintWords Go.Proofs.YtjieacofpegmpaaW.PrintLast Go.Proofs.YtjieacofpegmpaaW.PrintMore Go.Proofs.Ytjieacofpegmpaa.La Go.Proofs.Ytjieacofpegmpaa.PC
set_option linter.unusedVariables false
set_option linter.unusedSimpArgs false
def plansL (l0 : List S71) (l1 : List Int) : Nat → List Int → List (List Int)
  | 0, l => [l]
  | m + 1, l => (List.range l0.length).flatMap fun (i : Nat) => if mayV l0 l1 l (i : Int) = true then plansL l0 l1 m (l ++ [(i : Int)]) else []
theorem plansL_len (l0 : List S71) (l1 : List Int) : ∀ (m : Nat) (l : List Int), (plansL l0 l1 m l).length ≤ l0.length ^ m
  | 0, l => by simp [plansL]
  | m + 1, l => by
    simp only [plansL]
    refine Nat.le_trans (flat_len _ (l0.length ^ m) _ (fun i _ => ?_)) (by rw [List.length_range, Nat.pow_succ, Nat.mul_comm]; exact Nat.le_refl _)
    split
    · exact plansL_len l0 l1 m _
    · simp
theorem plansL_in (l0 : List S71) (l1 : List Int) : ∀ (m : Nat) (l : List Int), (∀ x ∈ l, 0 ≤ x ∧ x < l0.length) → ∀ p ∈ plansL l0 l1 m l, p.length = l.length + m ∧ ∀ x : Int, x ∈ p → 0 ≤ x ∧ x < (l0.length : Int)
  | 0, l, h, p, hp => by
    simp only [plansL, List.mem_singleton] at hp
    subst hp
    exact ⟨rfl, h⟩
  | m + 1, l, h, p, hp => by
    simp only [plansL, List.mem_flatMap, List.mem_range] at hp
    obtain ⟨i, hi, hp⟩ := hp
    split at hp
    · have := plansL_in l0 l1 m (l ++ [(i : Int)]) (fun x hx => by
        simp only [List.mem_append, List.mem_singleton] at hx
        rcases hx with hx | rfl
        · exact h x hx
        · omega) p hp
      simp only [List.length_append, List.length_singleton] at this
      exact ⟨by omega, this.2⟩
    · simp at hp
theorem Plans_ev (l0 : List S71) (l1 : List Int) (h0 : l0.length ≤ 5) (h1 : l1.length ≤ 8) : ∀ (m : Nat) (l : List Int), l.length + m = l1.length → Ev (fun k => spec_l07Plans.f k l0 l1 l) (plansL l0 l1 m l) := by
  intro m
  induction m with
  | zero =>
    intro l hl
    refine Ev.succ ?_
    simp only [spec_l07Plans.f]
    exact Ev.pos (by omega) (Ev.bind (Ev.const (Own_f l (by omega))) (Ev.now _))
  | succ m ih =>
    intro l hl
    have hpow : ∀ q : Nat, q ≤ 8 → l0.length ^ q ≤ 390625 := fun q hq => Nat.le_trans (Nat.pow_le_pow_left h0 q) (Nat.le_trans (Nat.pow_le_pow_right (by omega) hq) (by decide))
    refine Ev.succ ?_
    simp only [spec_l07Plans.f]
    refine Ev.neg (by omega) ?_
    have key : ∀ (n i : Nat) (acc : List (List Int)), i + n = l0.length → acc.length ≤ 390625 * i → Ev (fun k => spec_l07Plans.l0 k l0 l1 l acc (i : Int)) (acc ++ ((List.range l0.length).drop i).flatMap fun (i : Nat) => if mayV l0 l1 l (i : Int) = true then plansL l0 l1 m (l ++ [(i : Int)]) else []) := by
      intro n
      induction n with
      | zero =>
        intro i acc hi ha
        obtain rfl : i = l0.length := by omega
        refine Ev.succ ?_
        simp only [spec_l07Plans.l0]
        refine Ev.neg (by omega) (Ev.eq (Ev.now acc) ?_)
        rw [List.drop_of_length_le (by simp)]
        simp
      | succ n ihn =>
        intro i acc hi ha
        have hd : (List.range l0.length).drop i = i :: (List.range l0.length).drop (i + 1) := by
          rw [List.drop_eq_getElem_cons (by simpa using (by omega : i < l0.length))]
          simp
        refine Ev.succ ?_
        simp only [spec_l07Plans.l0]
        refine Ev.pos (by omega) (Ev.bind (May_ev l0 l1 l (i : Int) (by omega) (by omega) (by omega) (by omega)) ?_)
        rw [hd]
        simp only [List.flatMap_cons]
        have hw : wrap64 ((i : Int) + 1) = ((i + 1 : Nat) : Int) := wnat i l0.length (by omega) (by omega)
        cases hm : mayV l0 l1 l (i : Int) with
        | true =>
          have hb := Nat.le_trans (plansL_len l0 l1 m (l ++ [(i : Int)])) (hpow m (by omega))
          refine Ev.pos rfl (Ev.bind (Ev.const (Own_f l (by omega))) (Ev.pos (by omega) (Ev.bind (ih (l ++ [(i : Int)]) (by simp; omega)) (Ev.pos (by omega) ?_))))
          rw [hw]
          refine Ev.eq (ihn (i + 1) (acc ++ plansL l0 l1 m (l ++ [(i : Int)])) (by omega) (by rw [List.length_append]; omega)) ?_
          simp [List.append_assoc]
        | false =>
          refine Ev.neg (by simp) ?_
          rw [hw]
          exact Ev.eq (ihn (i + 1) acc (by omega) (by omega)) (by simp)
    simpa [plansL] using key l0.length 0 [] (by omega) (by simp)
theorem plansM_ev {σ : Type} (l0 : List S71) (l1 : List Int) (h1 : l1.length ≤ 1048576) (step : Nat → σ → List Int → Option σ) (g : σ → List Int → σ) (hs : ∀ s p, p.length = l1.length → (∀ x : Int, x ∈ p → 0 ≤ x ∧ x < (l0.length : Int)) → Ev (fun k => step k s p) (g s p)) :
    ∀ (m : Nat) (l : List Int) (s : σ), l.length + m = l1.length → (∀ x : Int, x ∈ l → 0 ≤ x ∧ x < (l0.length : Int)) → Ev (fun k => plansM k l0 l1 (step k) (m + 1) l s) ((plansL l0 l1 m l).foldl g s) := by
  intro m
  induction m with
  | zero =>
    intro l s hl hin
    simp only [plansM]
    exact Ev.pos (by omega) (by simpa [plansL] using hs s l (by omega) hin)
  | succ m ih =>
    intro l s hl hin
    rw [plansL, foldl_flat]
    unfold plansM
    refine Ev.neg (by omega) (Ev.foldlM _ _ _ (fun i hi s' => ?_) s)
    have hi' : i < l0.length := by simpa using hi
    refine Ev.bind (goesOn_ev l0 l1 l (i : Int) (by omega) h1 (by omega) (by omega)) ?_
    cases mayV l0 l1 l (i : Int) with
    | true =>
      simp only [if_true]
      exact ih (l ++ [(i : Int)]) s' (by simp; omega) (fun x hx => by
        simp only [List.mem_append, List.mem_singleton] at hx
        rcases hx with hx | rfl
        · exact hin x hx
        · omega)
    | false => simpa using Ev.now s'
end Go.Proofs.Ytjieacofpegmpaa.Q
namespace Go.Proofs.Ytjieacofpegmpaa.Q
open Go.RowKit Go.Proofs.YtjieacofpegmpaaW.PrintWords Go.Proofs.YtjieacofpegmpaaW.PrintLast Go.Proofs.YtjieacofpegmpaaW.PrintMore Go.Proofs.Ytjieacofpegmpaa.La Go.Proofs.Ytjieacofpegmpaa.PC
set_option linter.unusedVariables false
set_option linter.unusedSimpArgs false
def lstep (num : List Int → Int) (s : List Int × Int) (p : List Int) : List Int × Int := if s.2 < 0 then (p, num p) else if num p < s.2 then (p, num p) else s
theorem lfold_pos (num : List Int → Int) : ∀ (ps : List (List Int)) (s : List Int × Int), 0 ≤ s.2 → (∀ p ∈ ps, 0 ≤ num p) → 0 ≤ (ps.foldl (lstep num) s).2
  | [], s, h, _ => h
  | p :: ps, s, h, hp => by
    rw [List.foldl_cons]
    refine lfold_pos num ps _ ?_ (fun q hq => hp q (by simp [hq]))
    have := hp p (by simp)
    unfold lstep
    split
    · exact this
    · split
      · exact this
      · exact h
theorem leastStep_ev (num : Nat → List Int → Option Int) (g : List Int → Int) (s : List Int × Int) (p : List Int) (h : Ev (fun k => num k p) (g p)) : Ev (fun k => leastStep (num k) s p) (lstep g s p) := by
  unfold leastStep lstep
  refine Ev.bind h ?_
  by_cases h1 : s.2 < 0
  · rw [if_pos h1, if_pos h1]; exact Ev.now _
  · rw [if_neg h1, if_neg h1]
    by_cases h2 : g p < s.2
    · rw [if_pos h2, if_pos h2]; exact Ev.now _
    · rw [if_neg h2, if_neg h2]; exact Ev.now _
def leastV (g : List Int → Int) (ps : List (List Int)) : List Int × Int × Int :=
  match ps with
  | [] => ([], 0, 6)
  | p :: ps => let r := ps.foldl (lstep g) (p, g p); (r.1, r.2, 0)
theorem leastM_ev (num : Nat → List Int → Option Int) (g : List Int → Int) (l0 : List S71) (l1 : List Int) (hok : ledB l0 l1 = true)
    (hn : ∀ p, p.length = l1.length → (∀ x : Int, x ∈ p → 0 ≤ x ∧ x < (l0.length : Int)) → Ev (fun k => num k p) (g p) ∧ 0 ≤ g p) : Ev (fun k => leastM k (num k) l0 l1) (leastV g (plansL l0 l1 l1.length [])) := by
  have hb := ledB_len hok
  have hok' := hok
  simp only [ledB, Bool.and_eq_true] at hok'
  unfold leastM
  have hm := plansM_ev l0 l1 (by omega) (fun k => leastStep (num k)) (lstep g) (fun s p hp1 hp2 => leastStep_ev num g s p (hn p hp1 hp2).1) l1.length [] (([] : List Int), (-1 : Int)) (by simp) (by simp)
  refine Ev.bind (Ev.const (ValidGuides_f l0)) (Ev.pos hok'.1 (Ev.bind (Ev.const (ValidLegs_f l1)) (Ev.pos hok'.2 (Ev.bind hm ?_))))
  have hin := plansL_in l0 l1 l1.length [] (by simp)
  generalize hps : plansL l0 l1 l1.length [] = ps at *
  cases ps with
  | nil => exact Ev.pos (by simp) (Ev.now _)
  | cons p ps =>
    have e1 : (p :: ps).foldl (lstep g) (([] : List Int), (-1 : Int)) = ps.foldl (lstep g) (p, g p) := by
      rw [List.foldl_cons]
      congr 1
    have hpos := lfold_pos g ps (p, g p) ((hn p (by have := (hin p (by simp)).1; simpa using this) (hin p (by simp)).2).2) (fun q hq => (hn q (by have := (hin q (by simp [hq])).1; simpa using this) (hin q (by simp [hq])).2).2)
    rw [e1]
    exact Ev.neg (by omega) (Ev.now _)
theorem leastM_bad (num : Nat → List Int → Option Int) (l0 : List S71) (l1 : List Int) (hok : ledB l0 l1 = false) : Ev (fun k => leastM k (num k) l0 l1) ([], 0, 1) := by
  unfold leastM
  refine Ev.bind (Ev.const (ValidGuides_f l0)) ?_
  cases hg : okGuides l0 with
  | false => exact Ev.neg (by simp) (Ev.now _)
  | true =>
    refine Ev.pos rfl (Ev.bind (Ev.const (ValidLegs_f l1)) (Ev.neg ?_ (Ev.now _)))
    simp only [ledB, hg, Bool.true_and] at hok
    simp [hok]
end Go.Proofs.Ytjieacofpegmpaa.Q
namespace Go.Proofs.Ytjieacofpegmpaa.Q
open Go.RowKit Go.Proofs.YtjieacofpegmpaaW.PrintWords Go.Proofs.YtjieacofpegmpaaW.PrintLast Go.Proofs.YtjieacofpegmpaaW.PrintMore Go.Proofs.Ytjieacofpegmpaa.La Go.Proofs.Ytjieacofpegmpaa.PC
set_option linter.unusedVariables false
set_option linter.unusedSimpArgs false
theorem rd_L_nat2 (xs : List (List Int)) (i : Nat) : rd_L4 xs (i : Int) = xs.getD i [] := by simp [rd_L4]
theorem fast_loop (l0 : List S71) (l1 : List Int) (g : List Int → Int) (ps : List (List Int)) (hn : ps.length ≤ 1048576) (hm : ∀ p ∈ ps, Ev (fun k => spec_l07Different.f k p) (g p) ∧ 0 ≤ g p) :
    ∀ (m i : Nat) (s : List Int × Int), i + m = ps.length → 0 ≤ s.2 → Ev (fun k => spec_FewestLeaders.l0 k ps s.1 s.2 (i : Int)) (((ps.drop i).foldl (lstep g) s).1, ((ps.drop i).foldl (lstep g) s).2, 0) := by
  intro m
  induction m with
  | zero =>
    intro i s hi hs
    obtain rfl : i = ps.length := by omega
    rw [List.drop_length]
    refine Ev.succ ?_
    simp only [spec_FewestLeaders.l0]
    exact Ev.neg (by omega) (Ev.now _)
  | succ m ih =>
    intro i s hi hs
    have hx := hm _ (getD_mem ps i [] (by omega))
    rw [drop_get ps i [] (by omega), List.foldl_cons]
    refine Ev.succ ?_
    simp only [spec_FewestLeaders.l0, rd_L_nat2]
    refine Ev.pos (by omega) (Ev.pos (by omega) (Ev.bind hx.1 ?_))
    rw [wnat i ps.length (by omega) (by omega)]
    by_cases hc : g (ps.getD i []) < s.2
    · have e : lstep g s (ps.getD i []) = (ps.getD i [], g (ps.getD i [])) := by rw [lstep, if_neg (by omega), if_pos hc]
      rw [e]
      exact Ev.pos hc (ih (i + 1) (ps.getD i [], g (ps.getD i [])) (by omega) hx.2)
    · have e : lstep g s (ps.getD i []) = s := by rw [lstep, if_neg (by omega), if_neg hc]
      rw [e]
      exact Ev.neg hc (ih (i + 1) s (by omega) hs)
theorem FewestLeaders_both (l0 : List S71) (l1 : List Int) (h0 : l0.length ≤ 1048576) (h1 : l1.length ≤ 1048576) : ∃ r : List Int × Int × Int, r.1.length ≤ 1048576 ∧ Ev (fun k => spec_FewestLeaders.f k l0 l1) r ∧ Ev (fun k => impl_FewestLeaders.f k l0 l1) r := by
  have hled := Led_ev l0 l1 h0 h1
  unfold spec_FewestLeaders.f impl_FewestLeaders.f
  cases hb : ledB l0 l1 with
  | false =>
    rw [hb] at hled
    exact ⟨([], 0, 1), by simp, Ev.bind hled (Ev.neg (by simp) (Ev.now _)), leastM_bad (fun k p => fewN k p) l0 l1 hb⟩
  | true =>
    rw [hb] at hled
    have hl := ledB_len hb
    have hb' := hb
    simp only [ledB, Bool.and_eq_true] at hb'
    have hall : ∀ p : List Int, ∃ r : Int, p.length = l1.length → (∀ x : Int, x ∈ p → 0 ≤ x ∧ x < (l0.length : Int)) → Ev (fun k => spec_l07Different.f k p) r ∧ Ev (fun k => fewN k p) r ∧ 0 ≤ r := by
      intro p
      exact ⟨(VV p : Int), fun a b => by
        have h := few_both p (by omega) (fun x hx => by have := b x hx; omega)
        exact ⟨h.1, h.2, by omega⟩⟩
    have hp := Plans_ev l0 l1 (by omega) (by omega) l1.length [] (by simp)
    have hg := fun p => (hall p).choose_spec
    have hm := leastM_ev (fun k p => fewN k p) (fun p => (hall p).choose) l0 l1 hb (fun p a b => ⟨(hg p a b).2.1, (hg p a b).2.2⟩)
    have hin := plansL_in l0 l1 l1.length [] (by simp)
    have hlen := Nat.le_trans (plansL_len l0 l1 l1.length []) (Nat.le_trans (Nat.pow_le_pow_left (show l0.length ≤ 5 by omega) l1.length) (Nat.le_trans (Nat.pow_le_pow_right (by omega) (show l1.length ≤ 8 by omega)) (show 5 ^ 8 ≤ 390625 by decide)))
    generalize hgg : (fun p => (hall p).choose) = g at *
    have hg2 : ∀ p, p.length = l1.length → (∀ x : Int, x ∈ p → 0 ≤ x ∧ x < (l0.length : Int)) → Ev (fun k => spec_l07Different.f k p) (g p) ∧ 0 ≤ g p := fun p a b => by
      subst hgg
      exact ⟨(hg p a b).1, (hg p a b).2.2⟩
    generalize hps : plansL l0 l1 l1.length [] = ps at *
    cases ps with
    | nil => exact ⟨([], 0, 6), by simp, Ev.bind hled (Ev.pos rfl (Ev.bind hp (Ev.pos (by simp) (Ev.now _)))), hm⟩
    | cons p ps =>
      have hq : ∀ q ∈ p :: ps, Ev (fun k => spec_l07Different.f k q) (g q) ∧ 0 ≤ g q := fun q hq => hg2 q (by have := (hin q hq).1; simpa using this) (hin q hq).2
      have hloop := fast_loop l0 l1 g (p :: ps) (by omega) hq ps.length 1 (p, g p) (by simp; omega) (hq p (by simp)).2
      have hbest : ∀ (qs : List (List Int)) (s : List Int × Int), (∀ q ∈ qs, q.length ≤ 8) → s.1.length ≤ 8 → (qs.foldl (lstep g) s).1.length ≤ 8 := by
        intro qs
        induction qs with
        | nil => intro s _ h; exact h
        | cons q qs ihq =>
          intro s hqs h
          rw [List.foldl_cons]
          refine ihq _ (fun z hz => hqs z (by simp [hz])) ?_
          have hq8 := hqs q (by simp)
          unfold lstep
          split
          · exact hq8
          · split
            · exact hq8
            · exact h
      have hl8 : ∀ q ∈ p :: ps, q.length ≤ 8 := fun q hq => by have := (hin q hq).1; simp at this; omega
      refine ⟨leastV g (p :: ps), ?_, Ev.bind hled (Ev.pos rfl (Ev.bind hp (Ev.neg (by simp <;> omega) (Ev.pos (by simp <;> omega) ?_)))), hm⟩
      · have := hbest ps (p, g p) (fun q hq => hl8 q (by simp [hq])) (hl8 p (by simp))
        simp only [leastV]
        omega
      · rw [show rd_L4 (p :: ps) 0 = p by simp [rd_L4]]
        exact Ev.bind (hq p (by simp)).1 hloop
end Go.Proofs.Ytjieacofpegmpaa.Q
namespace Go.Proofs.Ytjieacofpegmpaa.Q
open Go.RowKit Go.Proofs.YtjieacofpegmpaaW.PrintWords Go.Proofs.YtjieacofpegmpaaW.PrintLast Go.Proofs.YtjieacofpegmpaaW.PrintMore Go.Proofs.Ytjieacofpegmpaa.La Go.Proofs.Ytjieacofpegmpaa.PC
set_option linter.unusedVariables false
set_option linter.unusedSimpArgs false
theorem FnExactFewestLeaders
    (l0 : List S73)
    (l1 : List Int)
    (hm0 : l0.length ≤ maxLen) (hw0 : ∀ x ∈ l0, (Lit.int .i8 x.f0).wf = true ∧ (Lit.int .i8 x.f1).wf = true ∧ (Lit.int .i8 x.f2).wf = true)
    (hm1 : l1.length ≤ maxLen) (hw1 : ∀ x ∈ l1, (Lit.int .i64 x).wf = true)
    : Ev (fun k => laws_FnExactFewestLeaders.f k l0 l1) true := by
  unfold laws_FnExactFewestLeaders.f
  by_cases hi1 : (l1.length : Int) > 1048576
  · exact Ev.pos hi1 (Ev.now _)
  refine Ev.neg hi1 ?_
  have hl1 : l1.length ≤ 1048576 := by omega
  by_cases hs0 : l0.length ≤ 1048576
  rotate_left
  · exact Ev.bind (Ev.const (szGuideS_big l0 (by omega) hm0)) (Ev.pos (by decide) (Ev.now _))
  refine Ev.bind (Ev.const (szGuideS_small l0 hs0)) (Ev.neg (by omega) ?_)
  have e0 := toGuideS_ev l0 hs0
  have q0 := eqGuideS_ev (l0.map cGuide) (by simpa using hs0)
  obtain ⟨lm0, mk0⟩ := markGuideS_ev (l0.map cGuide) (1) (by simpa using hs0) (by omega) (by (try simp only [List.length_map] at *); omega)
  have e1 := toInt64S_ev l1 hl1
  have q1 := eqInt64S_ev l1 hl1
  have mk1 := markInt64S_ev l1 (1 + 3 * ((l0.map cGuide).length : Int)) hl1 (by omega) (by (try simp only [List.length_map] at *); omega)
  obtain ⟨r, hrl, hs, hi⟩ := FewestLeaders_both (l0.map cGuide) l1 (by simpa using hs0) hl1
  have qr := eqInt64S_ev r.1 hrl
  have mr := markInt64S_ev r.1 1 hrl (by omega) (by omega)
  have hr := heldInt64S_ev 1 r.1.length hrl (by omega) (by omega)
  refine Ev.bind e0 ?_
  refine Ev.bind e1 ?_
  refine Ev.bind hs ?_
  refine Ev.bind e0 ?_
  refine Ev.bind e1 ?_
  refine Ev.bind hi ?_
  first | refine Ev.bind q1 ?_ | refine Ev.bind qr ?_
  refine Ev.pos (by first | exact rfl | exact trivial) ?_
  refine Ev.pos (by first | exact rfl | exact trivial) ?_
  refine Ev.pos (by first | exact rfl | exact trivial) ?_
  refine Ev.bind e0 ?_
  refine Ev.bind q0 ?_
  refine Ev.pos (by first | exact rfl | exact trivial) ?_
  refine Ev.bind e1 ?_
  first | refine Ev.bind q1 ?_ | refine Ev.bind qr ?_
  refine Ev.pos (by first | exact rfl | exact trivial) ?_
  refine Ev.bind mk0 ?_
  first | refine Ev.bind mk1 ?_ | refine Ev.bind mr ?_
  refine Ev.neg (by (try dsimp only); omega) ?_
  first | refine Ev.bind q1 ?_ | refine Ev.bind qr ?_
  refine Ev.pos (by first | exact rfl | exact trivial) ?_
  first | refine Ev.bind mk1 ?_ | refine Ev.bind mr ?_
  refine Ev.bind hr ?_
  refine Ev.neg (by (try dsimp only); omega) ?_
  refine Ev.pos (by first | exact rfl | exact trivial) ?_
  refine Ev.bind e0 ?_
  refine Ev.bind e1 ?_
  refine Ev.bind hi ?_
  first | refine Ev.bind q1 ?_ | refine Ev.bind qr ?_
  refine Ev.pos (by first | exact rfl | exact trivial) ?_
  refine Ev.pos (by first | exact rfl | exact trivial) ?_
  refine Ev.pos (by first | exact rfl | exact trivial) ?_
  refine Ev.bind hr ?_
  refine Ev.neg (by (try dsimp only); omega) ?_
  refine Ev.pos (by first | exact rfl | exact trivial) ?_
  exact Ev.now _
end Go.Proofs.Ytjieacofpegmpaa.Q
end
section
namespace Go.Proofs.Ytjieacofpegmpaa.fnExactFewestLeaders
open Go.ChangeShapes Go.WideShapes Go.ChangeAt Go.RowKit Go.Proofs.YtjieacofpegmpaaW.PrintWords Go.Proofs.YtjieacofpegmpaaW.PrintLast Go.Proofs.Ytjieacofpegmpaa.La Go.Proofs.Ytjieacofpegmpaa.Rw Go.Proofs.Ytjieacofpegmpaa.PC
open Go.ChangeMaps (open_string shut_string)
set_option linter.unusedVariables false
set_option maxRecDepth 100000 in
set_option maxHeartbeats 1000000 in
theorem lifted (os : Os) (started : os.Started) (H : Type) (enc : TypeId × Value → H) :
    ReturnsInHanded {} Try.checked os 4 .any (Rows.fnExactFewestLeadersSpec.pre6 enc Try.prog Try.f4 Rows.fnExactFewestLeadersRow.domain false) (Rows.fnExactFewestLeadersSpec.post enc Try.prog Try.f4 false true false false) := by
  refine returnsInHanded_of_change_sized (C := Try.checked) own started (by kernel_rfl) Try.func4
    (ChangeSpec.witness6 (enc := enc) (C := Try.checked) false ⟨#[], #[.slice none 0 0, .slice none 0 0], []⟩ 8 (by kernel_rfl) (by kernel_rfl) (by kernel_rfl) (by kernel_rfl)) ?_
  intro W base args ds gs before hval0 hW hcnd hsz0 _
  have hval : ∀ (j : Nat) t v, Try.f4.params[j]? = some t → args[j]? = some v → Value.okWide Try.prog W .any base t v := hval0
  have hW' := hW
  obtain ⟨p, q, hA0, hV, rfl, hfz, hnd⟩ := hW
  have hA : DataW.TrodAll enc Try.prog W 0 (fun _ => true) true Try.f4.params.toList args.toList ds p := hA0
  rw [Try.params4] at hA hval
  obtain ⟨v0, vs0, d0, ds0, p0, q0, hargs, rfl, rfl, h0, r0⟩ := trodAll_cons hA
  obtain ⟨v1, vs1, d1, ds1, p1, q1, rfl, rfl, rfl, h1, r1⟩ := trodAll_cons r0
  obtain ⟨rfl, rfl, rfl⟩ := trodAll_nil r1
  obtain rfl : args = #[v0, v1] := by cases args; simp_all
  obtain ⟨rfl, rfl⟩ := trodVars_none hV
  have k0 := h0
  have lt0 : ∀ x ∈ p0, x.block < W.heap.size := by obtain ⟨m, hm⟩ := k0; exact DataW.trod_lt m _ _ _ hm
  obtain ⟨a0, len0, cap0, rfl⟩ := okWide_slice Try.underlying34 (hval 0 34 v0 rfl rfl)
  obtain ⟨l0, rfl, hc0, hm0, hr0, hw0⟩ := openS73 h0
  have k1 := h1
  have lt1 : ∀ x ∈ p1, x.block < W.heap.size := by obtain ⟨m, hm⟩ := k1; exact DataW.trod_lt m _ _ _ hm
  obtain ⟨a1, len1, cap1, rfl⟩ := okWide_slice Try.underlying24 (hval 1 24 v1 rfl rfl)
  obtain ⟨l1, rfl, hr1, hm1, hw1, hc1⟩ := openI24 h1
  clear hA0 hval0 hsz0
  obtain ⟨k, hk⟩ := Ev.rounds (Q.FnExactFewestLeaders l0 l1 hm0 hw0 hm1 hw1)
  refine (laws_FnExactFewestLeaders.calls k _ _ l0 _ _ l1 true W hr0 hc0 hr1 hc1 hk).mono fun e W' ⟨he, bel0⟩ => ?_
  subst he
  have bel : Below W.heap.size W W' := by first | exact bel0 | exact bel0.below
  exact ⟨_, rfl, _, _, _, [], _, [], hW', trodAll_mk1 (shut_bool Try.underlying4 _), (trodAll_cons_mk (Below.trod laidOut (by kernel_rfl) (of_decide_eq_true (by kernel_rfl)) k0 bel lt0) (trodAll_cons_mk (Below.trod laidOut (by kernel_rfl) (of_decide_eq_true (by kernel_rfl)) k1 bel lt1) trodAll_mk0)), rfl, bel.frame _, fun h => by cases h⟩
theorem over : Rows.fnExactFewestLeadersRow.holds Try.pinned (OpenSpec.ofChange Rows.fnExactFewestLeadersSpec) :=
  OpenClaim.holds_of_wide 4 Try.f4 rfl rfl rfl rfl rfl rfl rfl ⟨rfl, rfl, rfl, rfl, rfl⟩ rfl rfl rfl rfl rfl (by kernel_rfl) Try.func4 (by kernel_rfl)
    (of_decide_eq_true (by kernel_rfl)) (by unfold Func.isWrapper; first | (rw [if_pos (by decide +kernel)]; kernel_rfl) | (rw [if_neg (by decide +kernel)]; exact ⟨rfl, rfl⟩))
    (fun os started H enc _ => lifted os started H enc)
end Go.Proofs.Ytjieacofpegmpaa.fnExactFewestLeaders
namespace Go.Proofs.Ytjieacofpegmpaa
theorem fnExactFewestLeaders_holds : Rows.FnExactFewestLeadersSaid := fnExactFewestLeaders.over
end Go.Proofs.Ytjieacofpegmpaa
end
