/- Plain lemmas on rounds, lists and wrapped numbers. -/
import Derived.Test.YtdedijjbdkoekaaWMore
import Derived.IntWalk
namespace Go.Proofs.Ytdedijjbdkoekaa.Q
open Go.RowKit Go.Proofs.YtdedijjbdkoekaaW.PrintWords Go.Proofs.YtdedijjbdkoekaaW.PrintLast
set_option linter.unusedVariables false
set_option linter.unusedSimpArgs false

theorem wnat (i n : Nat) (h : i < n) (hn : n ≤ 9223372036854775807) : wrap64 ((i : Int) + 1) = ((i + 1 : Nat) : Int) := by unfold wrap64; omega
theorem wint (a : Int) (h0 : -9223372036854775808 ≤ a) (h1 : a ≤ 9223372036854775807) : wrap64 a = a := by unfold wrap64; omega
theorem rd_nat (xs : List Int) (i : Nat) : rd xs (i : Int) = xs.getD i 0 := by simp [rd]

/-- One round: the loop's text is laid open by 'simp only'. -/
theorem Ev.round {α : Type} {g f : Nat → Option α} {r : α} (k : Ev f r) (h : ∀ k, g (k + 1) = f k) : Ev g r := Ev.step h k
theorem Ev.eq {α : Type} {g : Nat → Option α} {r r' : α} (h : Ev g r) (e : r = r') : Ev g r' := e ▸ h
theorem Ev.fn {α : Type} {g f : Nat → Option α} {r : α} (h : Ev f r) (e : ∀ k, g k = f k) : Ev g r := Ev.congr e h
theorem Ev.uniq {α : Type} {g : Nat → Option α} {r r' : α} (h : Ev g r) (h' : Ev g r') : r = r' := by
  obtain ⟨K, h⟩ := h
  obtain ⟨K', h'⟩ := h'
  have a := h (max K K') (by omega)
  have b := h' (max K K') (by omega)
  rw [a] at b
  exact Option.some.inj b
theorem Ev.ite {α : Type} {c : Prop} [Decidable c] {f g : Nat → Option α} {r : α} (h : c → Ev f r) (h' : ¬ c → Ev g r) : Ev (fun k => if c then f k else g k) r := by
  by_cases hc : c
  · simp only [hc, if_true]; exact h hc
  · simp only [hc, if_false]; exact h' hc
theorem Ev.pos {α : Type} {c : Prop} [Decidable c] {f g : Nat → Option α} {r : α} (hc : c) (h : Ev f r) : Ev (fun k => if c then f k else g k) r := by simp only [hc, if_true]; exact h
theorem Ev.neg {α : Type} {c : Prop} [Decidable c] {f g : Nat → Option α} {r : α} (hc : ¬ c) (h : Ev g r) : Ev (fun k => if c then f k else g k) r := by simp only [hc, if_false]; exact h
theorem Ev.sbind {α β : Type} {a : α} {f : Nat → α → Option β} {r : β} (k : Ev (fun n => f n a) r) : Ev (fun n => (some a).bind (f n)) r := k

theorem take_set {α : Type} (xs : List α) (i : Nat) (a : α) (h : i < xs.length) : (xs.set i a).take (i + 1) = xs.take i ++ [a] := by
  rw [List.take_succ_eq_append_getElem (by simpa using h)]
  simp [List.take_set]
  rw [List.set_eq_of_length_le (by simp; omega)]
theorem take_get {α : Type} (xs : List α) (i : Nat) (d : α) (h : i < xs.length) : xs.take (i + 1) = xs.take i ++ [xs.getD i d] := by
  rw [List.take_succ_eq_append_getElem h]
  simp [List.getD_eq_getElem?_getD, List.getElem?_eq_getElem h]

/-- A loop that fills a list of the same length. -/
theorem Ev.map_loop {α β : Type} (L : Nat → List β → Int → Option (List β)) (g : α → β) (d : α) (x0 : List α) (hn : x0.length ≤ 9223372036854775807)
    (hstep : ∀ (i : Nat) (x3 : List β) (r : List β), i < x0.length → x3.length = x0.length → Ev (fun k => L k (x3.set i (g (x0.getD i d))) ((i + 1 : Nat) : Int)) r → Ev (fun k => L k x3 (i : Int)) r)
    (hend : ∀ x3 : List β, x3.length = x0.length → Ev (fun k => L k x3 (x0.length : Int)) x3) :
    ∀ x3 : List β, x3.length = x0.length → Ev (fun k => L k x3 0) (x0.map g) := by
  have key : ∀ (n i : Nat) (x3 : List β), i + n = x0.length → x3.length = x0.length → x3.take i = (x0.take i).map g → Ev (fun k => L k x3 (i : Int)) (x0.map g) := by
    intro n
    induction n with
    | zero =>
      intro i x3 hi hl ht
      obtain rfl : i = x0.length := by omega
      have : x3 = x0.map g := by
        rw [List.take_of_length_le (by omega), List.take_of_length_le (by omega)] at ht
        exact ht
      rw [← this]
      exact hend x3 hl
    | succ n ih =>
      intro i x3 hi hl ht
      refine hstep i x3 _ (by omega) hl (ih (i + 1) _ (by omega) (by simpa using hl) ?_)
      rw [take_set _ _ _ (by omega), take_get _ _ d (by omega), ht, List.map_append]
      rfl
  intro x3 hl
  exact key x0.length 0 x3 (by omega) hl (by simp)

/-- A loop that goes through a list and stops nowhere. -/
theorem Ev.all_loop {ρ : Type} (L : Nat → Int → Option ρ) (n : Nat) (r : ρ)
    (hstep : ∀ i : Nat, i < n → Ev (fun k => L k ((i + 1 : Nat) : Int)) r → Ev (fun k => L k (i : Int)) r)
    (hend : Ev (fun k => L k (n : Int)) r) : Ev (fun k => L k 0) r := by
  have key : ∀ (m i : Nat), i + m = n → Ev (fun k => L k (i : Int)) r := by
    intro m
    induction m with
    | zero => intro i hi; obtain rfl : i = n := by omega
              exact hend
    | succ m ih => intro i hi; exact hstep i (by omega) (ih (i + 1) (by omega))
  exact key n 0 (by omega)

/-- A loop that answers 'false' at the first element that doesn't do, and else something at its end. -/
theorem Ev.all_or {α : Type} (L : Nat → Int → Option Bool) (ok : α → Bool) (d : α) (e : Bool) (xs : List α)
    (hyes : ∀ i : Nat, i < xs.length → ok (xs.getD i d) = true → ∀ r, Ev (fun k => L k ((i + 1 : Nat) : Int)) r → Ev (fun k => L k (i : Int)) r)
    (hno : ∀ i : Nat, i < xs.length → ok (xs.getD i d) = false → Ev (fun k => L k (i : Int)) false)
    (hend : Ev (fun k => L k (xs.length : Int)) e) : Ev (fun k => L k 0) (xs.all ok && e) := by
  have key : ∀ (m i : Nat), i + m = xs.length → Ev (fun k => L k (i : Int)) ((xs.drop i).all ok && e) := by
    intro m
    induction m with
    | zero =>
      intro i hi
      obtain rfl : i = xs.length := by omega
      simpa using hend
    | succ m ih =>
      intro i hi
      have hx : xs.drop i = xs.getD i d :: xs.drop (i + 1) := by
        rw [List.drop_eq_getElem_cons (by omega)]
        simp [List.getD_eq_getElem?_getD, List.getElem?_eq_getElem (show i < xs.length by omega)]
      rw [hx, List.all_cons]
      cases ho : ok (xs.getD i d) with
      | true => simpa using hyes i (by omega) ho _ (ih (i + 1) (by omega))
      | false => simpa using hno i (by omega) ho
  simpa using key xs.length 0 (by omega)

/-- Numbers from k on. -/
def upFrom (k : Int) : Nat → List Int
  | 0 => []
  | n + 1 => k :: upFrom (k + 1) n
theorem upFrom_length (k : Int) (n : Nat) : (upFrom k n).length = n := by
  induction n generalizing k with
  | zero => rfl
  | succ n ih => simp [upFrom, ih]
theorem upFrom_snoc (k : Int) (n : Nat) : upFrom k (n + 1) = upFrom k n ++ [k + n] := by
  induction n generalizing k with
  | zero => simp [upFrom]
  | succ n ih =>
    rw [upFrom, ih (k + 1)]
    simp [upFrom]
    omega
theorem upFrom_get (k : Int) : ∀ (n i : Nat), i < n → (upFrom k n).getD i 0 = k + i
  | n + 1, 0, _ => by simp [upFrom]
  | n + 1, i + 1, h => by
    have := upFrom_get (k + 1) n i (by omega)
    simp only [upFrom, List.getD_cons_succ]
    rw [this]; omega
end Go.Proofs.Ytdedijjbdkoekaa.Q
