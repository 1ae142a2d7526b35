/- The statement FnSounds of this program: what its proof uses, part 11 of 11. The call returns true for all arguments. No condition of its own. -/
import Derived.IntWalk
import Derived.Test.YtoiiabnnddlcbaaZFnSounds9
section
namespace Go.Proofs.Ytoiiabnnddlcbaa.Q
open Go.RowKit Go.Proofs.YtoiiabnnddlcbaaW.PrintWords Go.Proofs.YtoiiabnnddlcbaaW.PrintLast
set_option linter.unusedVariables false
set_option linter.unusedSimpArgs false
theorem wnat (i n : Nat) (h : i < n) (hn : n ≤ 9223372036854775807) : wrap64 ((i : Int) + 1) = ((i + 1 : Nat) : Int) := by unfold wrap64; omega
theorem wint (a : Int) (h0 : -9223372036854775808 ≤ a) (h1 : a ≤ 9223372036854775807) : wrap64 a = a := by unfold wrap64; omega
theorem rd_nat (xs : List Int) (i : Nat) : rd xs (i : Int) = xs.getD i 0 := by simp [rd]
theorem Ev.round {α : Type} {g f : Nat → Option α} {r : α} (k : Ev f r) (h : ∀ k, g (k + 1) = f k) : Ev g r := Ev.step h k
theorem Ev.eq {α : Type} {g : Nat → Option α} {r r' : α} (h : Ev g r) (e : r = r') : Ev g r' := e ▸ h
theorem Ev.ite {α : Type} {c : Prop} [Decidable c] {f g : Nat → Option α} {r : α} (h : c → Ev f r) (h' : ¬ c → Ev g r) : Ev (fun k => if c then f k else g k) r := by
  by_cases hc : c
  · simp only [hc, if_true]; exact h hc
  · simp only [hc, if_false]; exact h' hc
theorem Ev.pos {α : Type} {c : Prop} [Decidable c] {f g : Nat → Option α} {r : α} (hc : c) (h : Ev f r) : Ev (fun k => if c then f k else g k) r := by simp only [hc, if_true]; exact h
theorem Ev.neg {α : Type} {c : Prop} [Decidable c] {f g : Nat → Option α} {r : α} (hc : ¬ c) (h : Ev g r) : Ev (fun k => if c then f k else g k) r := by simp only [hc, if_false]; exact h
end Go.Proofs.Ytoiiabnnddlcbaa.Q
end
section
namespace Go.Proofs.Ytoiiabnnddlcbaa.Q
open Go.RowKit Go.Proofs.YtoiiabnnddlcbaaW.PrintWords Go.Proofs.YtoiiabnnddlcbaaW.PrintLast Go.Proofs.Ytoiiabnnddlcbaa.PB
set_option linter.unusedVariables false
set_option linter.unusedSimpArgs false
def inC (a lo hi : Int) : Bool := decide (lo ≤ a) && decide (a ≤ hi)
theorem In_c (a lo hi : Int) : spec_l00In.f a lo hi = some (inC a lo hi) := by
  unfold spec_l00In.f inC
  split
  · rename_i h; simp [h]
  · rename_i h; simp [h]
theorem Ev.const {α : Type} {x : Option α} {a : α} (h : x = some a) : Ev (fun _ => x) a := by subst h; exact Ev.now a
theorem Ev.succ {α : Type} {g : Nat → Option α} {r : α} (h : Ev (fun k => g (k + 1)) r) : Ev g r := Ev.step (fun _ => rfl) h
theorem getD_mem {α : Type} (l : List α) (i : Nat) (d : α) (h : i < l.length) : l.getD i d ∈ l := by
  simp [List.getD_eq_getElem?_getD, List.getElem?_eq_getElem h]
theorem drop_get {α : Type} (xs : List α) (i : Nat) (d : α) (h : i < xs.length) : xs.drop i = xs.getD i d :: xs.drop (i + 1) := by
  rw [List.drop_eq_getElem_cons h]
  simp [List.getD_eq_getElem?_getD, List.getElem?_eq_getElem h]
end Go.Proofs.Ytoiiabnnddlcbaa.Q
end
section
namespace Go.Proofs.Ytoiiabnnddlcbaa.Q
open Go.RowKit Go.Proofs.YtoiiabnnddlcbaaW.PrintWords Go.Proofs.YtoiiabnnddlcbaaW.PrintLast Go.Proofs.YtoiiabnnddlcbaaW.PrintMore Go.Proofs.Ytoiiabnnddlcbaa.PB
set_option linter.unusedVariables false
set_option linter.unusedSimpArgs false
set_option maxRecDepth 100000 in
theorem wrap_u16 (n : Int) : IntKind.u16.wrap n = n % 65536 := by simp [IntKind.wrap, IntKind.bits, IntKind.signed]
theorem wraps_u16 (n : Int) (h₀ : 0 ≤ n) (h₁ : n < 2 ^ 16) : IntKind.u16.wrap n = n := by rw [wrap_u16]; omega
theorem u16_and1 {x : Int} (h₀ : 0 ≤ x) (h₁ : x < 65536) : Go.bits .and .u16 x 1 = x % 2 := bits_mask .u16 16 (by decide) wraps_u16 1 (by decide) x h₀ h₁
def bitV (v : Int) (x : Nat) : Int := v / 2 ^ x % 2
theorem shr_bit {v : Int} (h₀ : 0 ≤ v) (h₁ : v < 65536) {x : Nat} (hx : x < 10) : Go.bits .and .u16 (shr .u16 v (x : Int)) 1 = bitV v x := by
  have hs : shr .u16 v (x : Int) = v / 2 ^ x := by
    unfold shr
    rw [Int.toNat_natCast, Nat.min_eq_left (show x ≤ IntKind.u16.bits by unfold IntKind.bits; dsimp only; omega)]
  have hp : (0 : Int) < 2 ^ x := Int.pow_pos (by omega)
  have h2 : v / 2 ^ x ≤ v := Int.ediv_le_self _ h₀
  rw [hs, u16_and1 (Int.ediv_nonneg h₀ (by omega)) (by omega)]
  rfl
theorem i8_small (x : Nat) (h : x < 128) : IntKind.i8.wrap (x : Int) = x := by simp [IntKind.wrap, IntKind.bits, IntKind.signed]; omega
theorem u64_small (x : Nat) (h : x < 128) : IntKind.u64.wrap (x : Int) = x := by simp [IntKind.wrap, IntKind.bits, IntKind.signed]; omega
theorem rd_bound (l : List Int) (h : ∀ x ∈ l, 0 ≤ x ∧ x < 65536) (i : Int) : 0 ≤ rd l i ∧ rd l i < 65536 := by
  unfold rd
  by_cases hi : i.toNat < l.length
  · exact h _ (getD_mem l _ 0 hi)
  · rw [List.getD_eq_getElem?_getD, List.getElem?_eq_none (by omega)]
    show (0:Int) ≤ 0 ∧ (0:Int) < 65536
    omega
end Go.Proofs.Ytoiiabnnddlcbaa.Q
end
section
namespace Go.Proofs.Ytoiiabnnddlcbaa.Q
open Go.RowKit Go.Proofs.YtoiiabnnddlcbaaW.PrintWords Go.Proofs.YtoiiabnnddlcbaaW.PrintLast Go.Proofs.YtoiiabnnddlcbaaW.PrintMore Go.Proofs.Ytoiiabnnddlcbaa.La Go.Proofs.Ytoiiabnnddlcbaa.PB
set_option linter.unusedVariables false
set_option linter.unusedSimpArgs false
theorem Within_c (a lo hi : Int) : impl_within.f a lo hi = some (inC a lo hi) := by
  unfold impl_within.f inC
  split
  · rename_i h; simp [h]
  · rename_i h; simp [h]
theorem u64_int {a : Int} (h0 : 0 ≤ a) (h1 : a < 128) : IntKind.u64.wrap a = a := by
  obtain ⟨n, rfl⟩ : ∃ n : Nat, a = n := ⟨a.toNat, by omega⟩
  exact u64_small n (by omega)
theorem mn_small {a : Int} (h : a ≤ 10) : mn a 10 = a := by unfold mn; split <;> omega
def fr (W : List Int) (x y : Int) : Bool := bitV (rd W y) x.toNat == 0
theorem shr_div {v : Int} {x : Nat} (hx : x < 10) : shr .u16 v (x : Int) = v / 2 ^ x := by
  unfold shr
  rw [Int.toNat_natCast, Nat.min_eq_left (show x ≤ IntKind.u16.bits by unfold IntKind.bits; dsimp only; omega)]
theorem Free_s (s0 s1 : Int) (W : LA 10) (hb : ∀ i, 0 ≤ rd W.l i ∧ rd W.l i < 65536) (h0 : s0 ≤ 10) (h1 : s1 ≤ 10) (x y : Nat) (hx : (x : Int) < s0) (hy : (y : Int) < s1) :
    spec_l01Free.f s0 s1 W (x : Int) (y : Int) = some (fr W.l (x : Int) (y : Int)) := by
  unfold spec_l01Free.f spec_l01Is.f
  rw [wint s0 (by omega) (by omega), wint s1 (by omega) (by omega), wint (x : Int) (by omega) (by omega), wint (y : Int) (by omega) (by omega), wint (s0 - 1) (by omega) (by omega), wint (s1 - 1) (by omega) (by omega), In_c, In_c]
  rw [show inC (x : Int) 0 (s0 - 1) = true by unfold inC; simp; omega, show inC (y : Int) 0 (s1 - 1) = true by unfold inC; simp; omega]
  simp only [Option.bind_some, if_true]
  rw [if_pos (by omega), if_pos (by omega), u64_int (by omega) (by omega), if_pos (by omega), shr_div (by omega)]
  have hn : 0 ≤ rd W.l (y : Int) / 2 ^ x := Int.ediv_nonneg (hb _).1 (Int.le_of_lt (Int.pow_pos (by omega)))
  rw [Int.tmod_eq_emod_of_nonneg hn]
  unfold fr bitV
  rw [Int.toNat_natCast]
theorem Free_i (s0 s1 : Int) (W : LA 10) (hb : ∀ i, 0 ≤ rd W.l i ∧ rd W.l i < 65536) (h0 : s0 ≤ 10) (h1 : s1 ≤ 10) (x y : Nat) (hx : (x : Int) < s0) (hy : (y : Int) < s1) :
    impl_Room_isFree.f s0 s1 W (x : Int) (y : Int) = some (fr W.l (x : Int) (y : Int)) := by
  unfold impl_Room_isFree.f impl_Room_isCell.f
  rw [wint s0 (by omega) (by omega), wint s1 (by omega) (by omega), wint (x : Int) (by omega) (by omega), wint (y : Int) (by omega) (by omega), mn_small h0, mn_small h1, wint (s0 - 1) (by omega) (by omega), wint (s1 - 1) (by omega) (by omega), Within_c, Within_c]
  rw [show inC (x : Int) 0 (s0 - 1) = true by unfold inC; simp; omega, show inC (y : Int) 0 (s1 - 1) = true by unfold inC; simp; omega]
  simp only [Option.bind_some, if_true]
  rw [if_pos (by omega), if_pos (by omega), if_pos (by omega), shr_bit (hb _).1 (hb _).2 (by omega)]
  unfold fr
  rw [Int.toNat_natCast]
def rowL (p : Int → Int → Bool) (y : Int) (acc : List S34) : Nat → List S34
  | 0 => acc
  | x + 1 => if p (x : Int) y then rowL p y acc x ++ [⟨(x : Int), y⟩] else rowL p y acc x
def cellsL (p : Int → Int → Bool) (w : Nat) : Nat → List S34
  | 0 => []
  | y + 1 => rowL p (y : Int) (cellsL p w y) w
theorem rowL_len (p : Int → Int → Bool) (y : Int) (acc : List S34) : ∀ x, (rowL p y acc x).length ≤ acc.length + x
  | 0 => by simp [rowL]
  | x + 1 => by have := rowL_len p y acc x; rw [rowL]; split <;> simp <;> omega
theorem cellsL_len (p : Int → Int → Bool) (w : Nat) : ∀ y, (cellsL p w y).length ≤ w * y
  | 0 => by simp [cellsL]
  | y + 1 => by
    have h1 := cellsL_len p w y
    have h2 := rowL_len p (y : Int) (cellsL p w y) w
    rw [cellsL, Nat.mul_succ]
    omega
theorem rowL_mem (p : Int → Int → Bool) (w : Nat) (y : Int) (acc : List S34) (P : S34 → Prop) (ha : ∀ q ∈ acc, P q) (hp : ∀ x : Nat, x < w → P ⟨(x : Int), y⟩) : ∀ x, x ≤ w → ∀ q ∈ rowL p y acc x, P q
  | 0, _ => ha
  | x + 1, hx => by
    have ih := rowL_mem p w y acc P ha hp x (by omega)
    rw [rowL]
    split
    · intro q hq
      rcases List.mem_append.1 hq with h | h
      · exact ih q h
      · obtain rfl := List.mem_singleton.1 h
        exact hp x (by omega)
    · exact ih
theorem cellsL_mem (p : Int → Int → Bool) (w h : Nat) : ∀ y, y ≤ h → ∀ q ∈ cellsL p w y, (0 ≤ q.f0 ∧ q.f0 < w) ∧ (0 ≤ q.f1 ∧ q.f1 < h)
  | 0, _ => fun q hq => by simp [cellsL] at hq
  | y + 1, hy => rowL_mem p w (y : Int) _ _ (cellsL_mem p w h y (by omega)) (fun x hx => ⟨⟨by simp, by dsimp only; omega⟩, ⟨by simp, by dsimp only; omega⟩⟩) w (Nat.le_refl _)
theorem Ev.cells (p : Int → Int → Bool) (w h : Nat) (hw : w ≤ 10) (hh : h ≤ 10) (L0 : Nat → List S34 → Int → Option (List S34)) (L1 : Nat → List S34 → Int → Int → Option (List S34))
    (e0 : ∀ acc (y : Nat) r, y < h → Ev (fun k => L1 k acc (y : Int) 0) r → Ev (fun k => L0 k acc (y : Int)) r) (e0' : ∀ acc, Ev (fun k => L0 k acc (h : Int)) acc)
    (e1 : ∀ acc (y x : Nat) r, y < h → x < w → acc.length ≤ 1000 → Ev (fun k => L1 k (if p (x : Int) (y : Int) then acc ++ [⟨(x : Int), (y : Int)⟩] else acc) (y : Int) ((x + 1 : Nat) : Int)) r → Ev (fun k => L1 k acc (y : Int) (x : Int)) r)
    (e1' : ∀ acc (y : Nat) r, y < h → Ev (fun k => L0 k acc ((y + 1 : Nat) : Int)) r → Ev (fun k => L1 k acc (y : Int) (w : Int)) r) :
    Ev (fun k => L0 k [] 0) (cellsL p w h) := by
  have inner : ∀ (n x y : Nat) (acc : List S34) r, x + n = w → y < h → acc.length ≤ 900 → Ev (fun k => L0 k (rowL p (y : Int) acc w) ((y + 1 : Nat) : Int)) r → Ev (fun k => L1 k (rowL p (y : Int) acc x) (y : Int) (x : Int)) r := by
    intro n
    induction n with
    | zero =>
      intro x y acc r hx hy hl hr
      obtain rfl : x = w := by omega
      exact e1' _ y r hy hr
    | succ n ih =>
      intro x y acc r hx hy hl hr
      have := rowL_len p (y : Int) acc x
      exact e1 _ y x r hy (by omega) (by omega) (ih (x + 1) y acc r (by omega) hy hl hr)
  have outer : ∀ (n y : Nat), y + n = h → Ev (fun k => L0 k (cellsL p w y) (y : Int)) (cellsL p w h) := by
    intro n
    induction n with
    | zero =>
      intro y hy
      obtain rfl : y = h := by omega
      exact e0' _
    | succ n ih =>
      intro y hy
      have h1 := cellsL_len p w y
      have h2 : w * y ≤ 10 * 10 := Nat.mul_le_mul hw (by omega)
      exact e0 _ y _ (by omega) (inner w 0 y _ _ (by omega) (by omega) (by omega) (ih (y + 1) (by omega)))
  exact outer h 0 (by omega)
theorem i8_wnat (x : Nat) (h : x < 10) : IntKind.i8.wrap ((x : Int) + 1) = ((x + 1 : Nat) : Int) := by
  have := i8_small (x + 1) (by omega)
  rw [← this]
  congr 1
theorem All_s (s0 s1 : Int) (W : LA 10) (hb : ∀ i, 0 ≤ rd W.l i ∧ rd W.l i < 65536) (w h : Nat) (hw : w ≤ 10) (hh : h ≤ 10) (e0 : s0 = w) (e1 : s1 = h) : Ev (fun k => spec_l01All.f k s0 s1 W) (cellsL (fr W.l) w h) := by
  show Ev (fun k => spec_l01All.l0 k [] 0 s0 s1 W) _
  refine Ev.cells (fr W.l) w h hw hh (fun k acc y => spec_l01All.l0 k acc y s0 s1 W) (fun k acc y x => spec_l01All.l1 k acc y x s0 s1 W) ?_ ?_ ?_ ?_
  · intro acc y r hy hr
    refine Ev.succ ?_
    simp only [spec_l01All.l0]
    exact Ev.pos (by omega) hr
  · intro acc
    refine Ev.succ ?_
    simp only [spec_l01All.l0]
    exact Ev.neg (by omega) (Ev.now acc)
  · intro acc y x r hy hx hl hr
    refine Ev.succ ?_
    simp only [spec_l01All.l1]
    refine Ev.pos (by omega) ?_
    rw [Free_s s0 s1 W hb (by omega) (by omega) x y (by omega) (by omega), i8_wnat x (by omega)]
    simp only [Option.bind_some]
    cases hc : fr W.l (x : Int) (y : Int) with
    | true =>
      rw [hc] at hr
      simp only [if_true] at hr ⊢
      exact Ev.pos (by omega) hr
    | false =>
      rw [hc] at hr
      simp only [Bool.false_eq_true, if_false] at hr ⊢
      exact hr
  · intro acc y r hy hr
    refine Ev.succ ?_
    simp only [spec_l01All.l1]
    rw [i8_wnat y (by omega)]
    exact Ev.neg (by omega) hr
def isC (s0 s1 x y : Int) : Bool := inC x 0 (s0 - 1) && inC y 0 (s1 - 1)
theorem Is_s (s0 s1 : Int) (W : LA 10) (h0 : 1 ≤ s0 ∧ s0 ≤ 10) (h1 : 1 ≤ s1 ∧ s1 ≤ 10) (x y : Int) (hx : -128 ≤ x ∧ x ≤ 127) (hy : -128 ≤ y ∧ y ≤ 127) : spec_l01Is.f s0 s1 W x y = some (isC s0 s1 x y) := by
  unfold spec_l01Is.f isC
  rw [wint s0 (by omega) (by omega), wint s1 (by omega) (by omega), wint x (by omega) (by omega), wint y (by omega) (by omega), wint (s0 - 1) (by omega) (by omega), wint (s1 - 1) (by omega) (by omega), In_c, In_c]
  simp only [Option.bind_some]
  cases inC x 0 (s0 - 1) <;> simp
theorem Is_i (s0 s1 : Int) (W : LA 10) (h0 : 1 ≤ s0 ∧ s0 ≤ 10) (h1 : 1 ≤ s1 ∧ s1 ≤ 10) (x y : Int) (hx : -128 ≤ x ∧ x ≤ 127) (hy : -128 ≤ y ∧ y ≤ 127) : impl_Room_isCell.f s0 s1 W x y = some (isC s0 s1 x y) := by
  unfold impl_Room_isCell.f isC
  rw [wint s0 (by omega) (by omega), wint s1 (by omega) (by omega), wint x (by omega) (by omega), wint y (by omega) (by omega), mn_small h0.2, mn_small h1.2, wint (s0 - 1) (by omega) (by omega), wint (s1 - 1) (by omega) (by omega), Within_c, Within_c]
  simp only [Option.bind_some]
  cases inC x 0 (s0 - 1) <;> simp
def SB (q : S34) : Prop := (-128 ≤ q.f0 ∧ q.f0 ≤ 127) ∧ (-128 ≤ q.f1 ∧ q.f1 ≤ 127)
end Go.Proofs.Ytoiiabnnddlcbaa.Q
end
section
namespace Go.Proofs.Ytoiiabnnddlcbaa.Q
open Go.RowKit Go.Proofs.YtoiiabnnddlcbaaW.PrintWords Go.Proofs.YtoiiabnnddlcbaaW.PrintLast Go.Proofs.YtoiiabnnddlcbaaW.PrintMore Go.Proofs.Ytoiiabnnddlcbaa.La Go.Proofs.Ytoiiabnnddlcbaa.PB
set_option linter.unusedVariables false
set_option linter.unusedSimpArgs false
theorem Ev.find_idx (L : Nat → Int → Option Int) (p : Nat → Bool) (n : Nat) (hyes : ∀ i : Nat, i < n → p i = true → Ev (fun k => L k (i : Int)) (i : Int))
    (hno : ∀ i : Nat, i < n → p i = false → ∀ r, Ev (fun k => L k ((i + 1 : Nat) : Int)) r → Ev (fun k => L k (i : Int)) r) (hend : Ev (fun k => L k (n : Int)) (-1)) :
    ∃ r : Int, Ev (fun k => L k 0) r ∧ decide (r ≥ 0) = (List.range n).any p := by
  have key : ∀ (m i : Nat), i + m = n → (∀ j, j < i → p j = false) → ∃ r : Int, Ev (fun k => L k (i : Int)) r ∧ decide (r ≥ 0) = (List.range n).any p := by
    intro m
    induction m with
    | zero =>
      intro i hi hf
      obtain rfl : i = n := by omega
      refine ⟨-1, hend, ?_⟩
      rw [show ((List.range i).any p) = false from ?_]
      · rfl
      · rw [List.any_eq_false]
        intro j hj
        rw [hf j (by simpa using hj)]
        exact Bool.false_ne_true
    | succ m ih =>
      intro i hi hf
      cases hp : p i with
      | true =>
        refine ⟨(i : Int), hyes i (by omega) hp, ?_⟩
        rw [show ((List.range n).any p) = true from List.any_eq_true.2 ⟨i, by simp; omega, hp⟩]
        exact decide_eq_true (by omega)
      | false =>
        obtain ⟨r, hr, hd⟩ := ih (i + 1) (by omega) (fun j hj => by
          by_cases e : j = i
          · subst e; exact hp
          · exact hf j (by omega))
        exact ⟨r, hno i (by omega) hp r hr, hd⟩
  exact key n 0 (by omega) (fun j hj => by omega)
theorem any_range {α : Type} (l : List α) (z : α) (f : α → Bool) : (List.range l.length).any (fun i => f (l.getD i z)) = l.any f := by
  rw [Bool.eq_iff_iff, List.any_eq_true, List.any_eq_true]
  constructor
  · rintro ⟨i, hi, hf⟩
    have hi' : i < l.length := by simpa using hi
    exact ⟨_, getD_mem l i z hi', hf⟩
  · rintro ⟨x, hx, hf⟩
    obtain ⟨i, hi, rfl⟩ := List.getElem_of_mem hx
    exact ⟨i, by simpa using hi, by rw [List.getD_eq_getElem?_getD, List.getElem?_eq_getElem hi]; exact hf⟩
theorem rdS_get (l : List S34) (i : Nat) : rd_T34 l (i : Int) = l.getD i z34 := by simp [rd_T34]
theorem Unless_c (b : Bool) (c : Int) : impl_unless.f b c = some (if b then 0 else c) := by
  unfold impl_unless.f
  cases b <;> rfl
def allCell (s0 s1 : Int) (l : List S34) : Bool := !(l.any fun q => !isC s0 s1 q.f0 q.f1)
theorem NoCell_ev (s0 s1 : Int) (W : LA 10) (h0 : 1 ≤ s0 ∧ s0 ≤ 10) (h1 : 1 ≤ s1 ∧ s1 ≤ 10) (l : List S34) (hl : l.length ≤ 1073741824) (hs : ∀ q ∈ l, SB q) :
    Ev (fun k => impl_Spot_105__106.f k l s0 s1 W) (l.any fun q => !isC s0 s1 q.f0 q.f1) := by
  unfold impl_Spot_105__106.f impl_Spot_120__106.f
  obtain ⟨r, hr, hd⟩ := Ev.find_idx (fun k i => impl_Spot_120__106.l0 k l (l.length : Int) i s0 s1 W) (fun i => !isC s0 s1 (l.getD i z34).f0 (l.getD i z34).f1) l.length
    (fun i hi hp => by
      have hm := hs _ (getD_mem l i z34 hi)
      refine Ev.succ ?_
      simp only [impl_Spot_120__106.l0, impl_cellCode_1.f]
      rw [rdS_get, Is_i s0 s1 W h0 h1 _ _ hm.1 hm.2]
      simp only [Option.bind_some]
      exact Ev.pos (by omega) (Ev.pos (by omega) (Ev.pos (by omega) (Ev.pos hp (Ev.now _)))))
    (fun i hi hp r hr => by
      have hm := hs _ (getD_mem l i z34 hi)
      refine Ev.succ ?_
      simp only [impl_Spot_120__106.l0, impl_cellCode_1.f]
      rw [rdS_get, Is_i s0 s1 W h0 h1 _ _ hm.1 hm.2, wnat i l.length hi (by omega)]
      simp only [Option.bind_some]
      exact Ev.pos (by omega) (Ev.pos (by omega) (Ev.pos (by omega) (Ev.neg (by rw [hp]; exact Bool.false_ne_true) hr))))
    (by
      refine Ev.succ ?_
      simp only [impl_Spot_120__106.l0]
      exact Ev.neg (by omega) (Ev.now _))
  rw [any_range l z34 (fun q => !isC s0 s1 q.f0 q.f1)] at hd
  exact Ev.bind hr (by rw [hd]; exact Ev.now _)
theorem CellCode_ev (s0 s1 : Int) (W : LA 10) (hv : Ev (fun k => impl_ValidRoom.f k s0 s1 W) true) (h0 : 1 ≤ s0 ∧ s0 ≤ 10) (h1 : 1 ≤ s1 ∧ s1 ≤ 10) (l : List S34) (hl : l.length ≤ 1073741824) (hs : ∀ q ∈ l, SB q) :
    Ev (fun k => impl_cellCode.f k s0 s1 W l) (if allCell s0 s1 l then 0 else 2) := by
  unfold impl_cellCode.f
  refine Ev.bind hv (Ev.pos rfl (Ev.bind (NoCell_ev s0 s1 W h0 h1 l hl hs) ?_))
  rw [Unless_c]
  exact Ev.now _
def RRe (f : Nat → Bool) (e : Bool) : Nat → Nat → Bool
  | 0, _ => e
  | n + 1, i => f i && RRe f e n (i + 1)
theorem RRe_and (f : Nat → Bool) (e : Bool) : ∀ n i, RRe f e n i = (RRe f true n i && e)
  | 0, _ => by simp [RRe]
  | n + 1, i => by rw [RRe, RRe, RRe_and f e n (i + 1), Bool.and_assoc]
theorem RRe_congr {f g : Nat → Bool} (e : Bool) : ∀ n i, (∀ j, i ≤ j → j < i + n → f j = g j) → RRe f e n i = RRe g e n i
  | 0, _, _ => rfl
  | n + 1, i, h => by rw [RRe, RRe, h i (by omega) (by omega), RRe_congr e n (i + 1) (fun j h1 h2 => h j (by omega) (by omega))]
theorem RRe_true (f : Nat → Bool) : ∀ n i, RRe f true n i = true ↔ ∀ j, i ≤ j → j < i + n → f j = true
  | 0, i => ⟨fun _ j h1 h2 => by omega, fun _ => rfl⟩
  | n + 1, i => by
    rw [RRe, Bool.and_eq_true, RRe_true f n (i + 1)]
    exact ⟨fun ⟨h1, h2⟩ j h3 h4 => by
      by_cases e : j = i
      · subst e; exact h1
      · exact h2 j (by omega) (by omega), fun h => ⟨h i (by omega) (by omega), fun j h1 h2 => h j (by omega) (by omega)⟩⟩
theorem Ev.loopB (L : Nat → Int → Option Bool) (f : Nat → Bool) (e : Bool) (N : Nat) (hstep : ∀ i : Nat, i < N → ∀ r, Ev (fun k => L k ((i + 1 : Nat) : Int)) r → Ev (fun k => L k (i : Int)) (f i && r)) (hend : Ev (fun k => L k (N : Int)) e) : Ev (fun k => L k 0) (RRe f e N 0) := by
  have key : ∀ n i : Nat, i + n = N → Ev (fun k => L k (i : Int)) (RRe f e n i) := by
    intro n
    induction n with
    | zero =>
      intro i hi
      obtain rfl : i = N := (by omega)
      exact hend
    | succ n ih => intro i hi; exact hstep i (by omega) _ (ih (i + 1) (by omega))
  exact key N 0 (by omega)
end Go.Proofs.Ytoiiabnnddlcbaa.Q
end
section
namespace Go.Proofs.Ytoiiabnnddlcbaa.Q
open Go.RowKit Go.Proofs.YtoiiabnnddlcbaaW.PrintWords Go.Proofs.YtoiiabnnddlcbaaW.PrintLast Go.Proofs.YtoiiabnnddlcbaaW.PrintMore Go.Proofs.Ytoiiabnnddlcbaa.La Go.Proofs.Ytoiiabnnddlcbaa.PB
set_option linter.unusedVariables false
set_option linter.unusedSimpArgs false
theorem sg_pos {n : Int} (h : 0 < n) : soundSg n = 1 := by
  unfold soundSg mx mn
  (repeat' split) <;> omega
theorem sg_neg {n : Int} (h : n < 0) : soundSg n = -1 := by
  unfold soundSg mx mn
  (repeat' split) <;> omega
theorem mx_abs (n : Int) : mx n (-n) = if n < 0 then -n else n := by
  unfold mx
  (repeat' split) <;> omega
theorem Max_abs (n : Int) (h0 : -1000 ≤ n) (h1 : n ≤ 1000) : spec_l06Size.f n = some (mx n (-n)) := by
  unfold spec_l06Size.f spec_l00Max.f mx
  rw [wint (-n) (by omega) (by omega)]
  (repeat' split) <;> first | rfl | omega | (simp only [Option.bind_some]; congr 1; omega)
def soundJ (x y h v : Int) : Int :=
  if 2 * v > 5 * h then (if y < 0 then 0 else 4) else if 2 * h > 5 * v then (if x > 0 then 2 else 6) else if x > 0 then (if y < 0 then 1 else 3) else if y > 0 then 5 else 7
theorem sound_ev (x y h v : Int) (h0 : 0 ≤ h) (h1 : h ≤ 1000) (v0 : 0 ≤ v) (v1 : v ≤ 1000) : ∀ b : Bool, Ev (fun k => spec_l06Sound.j0 k x y h v b) (if b = true then 8 else soundJ x y h v) := by
  have e1 : wrap64 (2 * v) = 2 * v := wint _ (by omega) (by omega)
  have e2 : wrap64 (5 * h) = 5 * h := wint _ (by omega) (by omega)
  have e3 : wrap64 (2 * h) = 2 * h := wint _ (by omega) (by omega)
  have e4 : wrap64 (5 * v) = 5 * v := wint _ (by omega) (by omega)
  intro b
  refine Ev.succ ?_
  simp only [spec_l06Sound.j0, e1, e2]
  cases b with
  | true => simpa using Ev.now (8 : Int)
  | false =>
    simp only [Bool.false_eq_true, if_false, soundJ]
    by_cases c1 : 2 * v > 5 * h
    · rw [if_pos c1]
      refine Ev.pos c1 (Ev.succ ?_)
      simp only [spec_l06Sound.j1, e1, e2, e3, e4]
      by_cases y1 : y < 0
      · rw [if_pos y1]; exact Ev.pos (by simpa using y1) (Ev.now _)
      · rw [if_neg y1]; exact Ev.neg (by simpa using y1) (Ev.pos c1 (Ev.now _))
    · rw [if_neg c1]
      refine Ev.neg c1 (Ev.succ ?_)
      simp only [spec_l06Sound.j1, e1, e2, e3, e4]
      refine Ev.neg (by simp) (Ev.neg c1 ?_)
      by_cases c2 : 2 * h > 5 * v
      · rw [if_pos c2]
        refine Ev.pos c2 (Ev.succ ?_)
        simp only [spec_l06Sound.j2, e3, e4]
        by_cases x1 : x > 0
        · rw [if_pos x1]; exact Ev.pos (by simpa using x1) (Ev.now _)
        · rw [if_neg x1]; exact Ev.neg (by simpa using x1) (Ev.pos c2 (Ev.now _))
      · rw [if_neg c2]
        refine Ev.neg c2 (Ev.succ ?_)
        simp only [spec_l06Sound.j2, e3, e4]
        refine Ev.neg (by simp) (Ev.neg c2 ?_)
        by_cases x1 : x > 0
        · rw [if_pos x1]
          refine Ev.pos x1 (Ev.succ ?_)
          simp only [spec_l06Sound.j3]
          by_cases y1 : y < 0
          · rw [if_pos y1]; exact Ev.pos (by simpa using y1) (Ev.now _)
          · rw [if_neg y1]; exact Ev.neg (by simpa using y1) (Ev.pos x1 (Ev.now _))
        · rw [if_neg x1]
          refine Ev.neg x1 (Ev.succ ?_)
          simp only [spec_l06Sound.j3]
          refine Ev.neg (by simp) (Ev.neg x1 ?_)
          by_cases y1 : y > 0
          · rw [if_pos y1, if_pos y1]; exact Ev.now _
          · rw [if_neg y1, if_neg y1]; exact Ev.now _
theorem sound_tab (x y h v : Int) (hh : h = if x < 0 then -x else x) (hv : v = if y < 0 then -y else y) :
    soundTab (soundSg (if 2 * h > 5 * v then 0 else y)) (soundSg (if 2 * v > 5 * h then 0 else x)) = if (h == 0 && v == 0) = true then 8 else soundJ x y h v := by
  have s0 : soundSg 0 = 0 := by decide
  rcases Int.lt_trichotomy x 0 with hx | rfl | hx <;> rcases Int.lt_trichotomy y 0 with hy | rfl | hy
  all_goals (first | rw [if_pos hx] at hh | rw [if_neg (by omega)] at hh)
  all_goals (first | rw [if_pos hy] at hv | rw [if_neg (by omega)] at hv)
  all_goals (have hz : ((h == 0 && v == 0) = true) ↔ (h = 0 ∧ v = 0) := by simp)
  all_goals by_cases c1 : 2 * v > 5 * h <;> by_cases c2 : 2 * h > 5 * v
  all_goals (first | (exfalso; omega) | skip)
  all_goals (unfold soundJ; simp only [c1, c2, if_true, if_false, hz, s0])
  all_goals (try rw [sg_pos hx]) 
  all_goals (try rw [sg_neg hx])
  all_goals (try rw [sg_pos hy])
  all_goals (try rw [sg_neg hy])
  all_goals (first | rw [if_pos (by omega)] | rw [if_neg (by omega)])
  all_goals (repeat' split) <;> first | rfl | omega
def sndC (a0_0 a0_1 a1_0 a1_1 : Int) : Int := if (mx (a1_0 - a0_0) (-(a1_0 - a0_0)) == 0 && mx (a1_1 - a0_1) (-(a1_1 - a0_1)) == 0) = true then 8 else soundJ (a1_0 - a0_0) (a1_1 - a0_1) (mx (a1_0 - a0_0) (-(a1_0 - a0_0))) (mx (a1_1 - a0_1) (-(a1_1 - a0_1)))
theorem Sound_both (a0_0 a0_1 a1_0 a1_1 : Int) (b0 : -128 ≤ a0_0 ∧ a0_0 ≤ 127) (b1 : -128 ≤ a0_1 ∧ a0_1 ≤ 127) (b2 : -128 ≤ a1_0 ∧ a1_0 ≤ 127) (b3 : -128 ≤ a1_1 ∧ a1_1 ≤ 127) :
    Ev (fun k => spec_l06Sound.f k a0_0 a0_1 a1_0 a1_1) (sndC a0_0 a0_1 a1_0 a1_1) ∧ impl_SoundFrom.f a0_0 a0_1 a1_0 a1_1 = some (sndC a0_0 a0_1 a1_0 a1_1) := by
  unfold sndC
  have ex : wrap64 (wrap64 a1_0 - wrap64 a0_0) = a1_0 - a0_0 := by rw [wint a1_0 (by omega) (by omega), wint a0_0 (by omega) (by omega)]; exact wint _ (by omega) (by omega)
  have ey : wrap64 (wrap64 a1_1 - wrap64 a0_1) = a1_1 - a0_1 := by rw [wint a1_1 (by omega) (by omega), wint a0_1 (by omega) (by omega)]; exact wint _ (by omega) (by omega)
  generalize hx : a1_0 - a0_0 = x at ex
  generalize hy : a1_1 - a0_1 = y at ey
  have hxb : -255 ≤ x ∧ x ≤ 255 := by omega
  have hyb : -255 ≤ y ∧ y ≤ 255 := by omega
  have hh := mx_abs x
  have hv := mx_abs y
  generalize hhh : mx x (-x) = h at hh
  generalize hvv : mx y (-y) = v at hv
  have hhb : 0 ≤ h ∧ h ≤ 255 := by rw [hh]; split <;> omega
  have hvb : 0 ≤ v ∧ v ≤ 255 := by rw [hv]; split <;> omega
  have hi : impl_SoundFrom.f a0_0 a0_1 a1_0 a1_1 = some (if (h == 0 && v == 0) = true then 8 else soundJ x y h v) := by
    unfold impl_SoundFrom.f
    rw [ex, ey, wint (-x) (by omega) (by omega), wint (-y) (by omega) (by omega), hhh, hvv, wint (2 * v) (by omega) (by omega), wint (5 * h) (by omega) (by omega), wint (2 * h) (by omega) (by omega), wint (5 * v) (by omega) (by omega), sound_tab x y h v hh hv]
  refine ⟨?_, hi⟩
  unfold spec_l06Sound.f
  have m1 : spec_l06Size.f (wrap64 (wrap64 a1_0 - wrap64 a0_0)) = some h := by rw [ex, Max_abs x (by omega) (by omega), hhh]
  have m2 : spec_l06Size.f (wrap64 (wrap64 a1_1 - wrap64 a0_1)) = some v := by rw [ey, Max_abs y (by omega) (by omega), hvv]
  refine Ev.bind (Ev.const m1) (Ev.bind (Ev.const m2) ?_)
  rw [ex, ey]
  by_cases c : h = 0
  · refine Ev.pos c (Ev.eq (sound_ev x y h v hhb.1 (by omega) hvb.1 (by omega) (v == 0)) ?_)
    simp [c]
  · refine Ev.neg c (Ev.eq (sound_ev x y h v hhb.1 (by omega) hvb.1 (by omega) false) ?_)
    simp [c]
end Go.Proofs.Ytoiiabnnddlcbaa.Q
end
section
namespace Go.Proofs.Ytoiiabnnddlcbaa.Q
open Go.RowKit Go.Proofs.YtoiiabnnddlcbaaW.PrintWords Go.Proofs.YtoiiabnnddlcbaaW.PrintLast Go.Proofs.YtoiiabnnddlcbaaW.PrintMore Go.Proofs.Ytoiiabnnddlcbaa.La Go.Proofs.Ytoiiabnnddlcbaa.PB
set_option linter.unusedVariables false
set_option linter.unusedSimpArgs false
def hears (l1 : List S34) (l2 : List Int) (x y : Int) (j : Nat) : Bool := sndC x y (l1.getD j z34).f0 (l1.getD j z34).f1 == rd l2 (j : Int)
def heardB (l1 : List S34) (l2 : List Int) (q : S34) : Bool := RRe (hears l1 l2 q.f0 q.f1) true l1.length 0
def loudB (l2 : List Int) : Bool := RRe (fun i => inC (rd l2 (i : Int)) 0 8) true l2.length 0
theorem Cells_s (s0 s1 : Int) (W : LA 10) (h0 : 1 ≤ s0 ∧ s0 ≤ 10) (h1 : 1 ≤ s1 ∧ s1 ≤ 10) (l : List S34) (hl : l.length ≤ 1073741824) (hs : ∀ q ∈ l, SB q) : Ev (fun k => spec_l03Cells.f k s0 s1 W l) (allCell s0 s1 l) := by
  unfold spec_l03Cells.f
  have key : ∀ (n i : Nat), i + n = l.length → Ev (fun k => spec_l03Cells.l0 k l (i : Int) s0 s1 W) (allCell s0 s1 (l.drop i)) := by
    intro n
    induction n with
    | zero =>
      intro i hi
      obtain rfl : i = l.length := by omega
      rw [List.drop_length]
      refine Ev.succ ?_
      simp only [spec_l03Cells.l0]
      exact Ev.neg (by omega) (Ev.now _)
    | succ n ih =>
      intro i hi
      have hil : i < l.length := by omega
      have hm := hs _ (getD_mem l i z34 hil)
      refine Ev.succ ?_
      simp only [spec_l03Cells.l0]
      refine Ev.pos (by omega) (Ev.pos (by omega) ?_)
      rw [rdS_get, Is_s s0 s1 W h0 h1 _ _ hm.1 hm.2, wnat i l.length hil (by omega), drop_get l i z34 hil]
      simp only [Option.bind_some]
      cases hc : isC s0 s1 (l.getD i z34).f0 (l.getD i z34).f1 with
      | true =>
        refine Ev.pos rfl (Ev.eq (ih (i + 1) (by omega)) ?_)
        unfold allCell
        rw [List.any_cons, hc]
        rfl
      | false =>
        refine Ev.neg (by simp) (Ev.eq (Ev.now false) ?_)
        unfold allCell
        rw [List.any_cons, hc]
        rfl
  exact key l.length 0 (by omega)
theorem Loud_i (l : List Int) (hl : l.length ≤ 1073741824) : Ev (fun k => slices_ContainsFunc_int64_int64__60.f k l) (!loudB l) := by
  unfold slices_ContainsFunc_int64_int64__60.f slices_IndexFunc_int64_int64__60.f
  obtain ⟨r, hr, hd⟩ := Ev.find_idx (fun k i => slices_IndexFunc_int64_int64__60.l0 k l (l.length : Int) i) (fun i => !inC (rd l (i : Int)) 0 8) l.length
    (fun i hi hp => by
      refine Ev.succ ?_
      simp only [slices_IndexFunc_int64_int64__60.l0, impl_HearingAll_1.f]
      rw [Within_c]
      simp only [Option.bind_some]
      exact Ev.pos (by omega) (Ev.pos (by omega) (Ev.pos (by omega) (Ev.pos hp (Ev.now _)))))
    (fun i hi hp r hr => by
      refine Ev.succ ?_
      simp only [slices_IndexFunc_int64_int64__60.l0, impl_HearingAll_1.f]
      rw [Within_c, wnat i l.length hi (by omega)]
      simp only [Option.bind_some]
      exact Ev.pos (by omega) (Ev.pos (by omega) (Ev.pos (by omega) (Ev.neg (by rw [hp]; exact Bool.false_ne_true) hr))))
    (by
      refine Ev.succ ?_
      simp only [slices_IndexFunc_int64_int64__60.l0]
      exact Ev.neg (by omega) (Ev.now _))
  refine Ev.bind hr ?_
  rw [hd]
  refine Ev.eq (Ev.now _) ?_
  unfold loudB
  rw [Bool.eq_iff_iff, List.any_eq_true]
  have := RRe_true (fun i => inC (rd l (i : Int)) 0 8) l.length 0
  cases hb : RRe (fun i => inC (rd l (i : Int)) 0 8) true l.length 0 with
  | true =>
    have h2 := this.1 hb
    constructor
    · rintro ⟨i, hi, hp⟩
      rw [h2 i (by omega) (by have := List.mem_range.1 hi; omega)] at hp
      exact absurd hp (by decide)
    · intro h; exact absurd h (by decide)
  | false =>
    constructor
    · intro _; rfl
    · intro _
      refine Classical.byContradiction fun hn => ?_
      have h3 : RRe (fun i => inC (rd l (i : Int)) 0 8) true l.length 0 = true := this.2 (fun j _ hj => by
        cases hc : inC (rd l (j : Int)) 0 8 with
        | true => rfl
        | false => exact absurd ⟨j, List.mem_range.2 (by omega), by rw [hc]; rfl⟩ hn)
      rw [h3] at hb
      cases hb
theorem Loud_s (l1 l2 : List _) (x8 : List S34) (s0 s1 : Int) (W : LA 10) (hl : l2.length ≤ 1073741824) (r : List S34 × Int) :
    ∀ (n i : Nat) (b : Bool), i + n = l2.length → Ev (fun k => spec_HearingAll.l0 k l1 l2 x8 (b && RRe (fun i => inC (rd l2 (i : Int)) 0 8) true n i) (l2.length : Int) s0 s1 W) r → Ev (fun k => spec_HearingAll.l0 k l1 l2 x8 b (i : Int) s0 s1 W) r := by
  intro n
  induction n with
  | zero =>
    intro i b hi h
    obtain rfl : i = l2.length := by omega
    rw [RRe, Bool.and_true] at h
    exact h
  | succ n ih =>
    intro i b hi h
    refine Ev.succ ?_
    simp only [spec_HearingAll.l0]
    refine Ev.pos (by omega) ?_
    rw [In_c, wnat i l2.length (by omega) (by omega)]
    simp only [Option.bind_some]
    cases b with
    | true =>
      refine Ev.pos rfl (Ev.pos (by omega) (ih (i + 1) _ (by omega) ?_))
      rw [RRe, Bool.true_and] at h
      exact h
    | false =>
      refine Ev.neg (by simp) (ih (i + 1) false (by omega) ?_)
      rw [Bool.false_and] at h ⊢
      exact h
theorem Inner_s (l1 : List S34) (l2 : List Int) (x8 F : List S34) (i : Nat) (hi : i < F.length) (hF : F.length ≤ 1000) (hl : l1.length ≤ 1073741824) (he : l1.length = l2.length) (hq : SB (F.getD i z34)) (hs : ∀ q ∈ l1, SB q) (r : List S34 × Int) :
    ∀ (n j : Nat) (b : Bool), j + n = l1.length → Ev (fun k => spec_HearingAll.l2 k l1 l2 x8 F (i : Int) (b && RRe (hears l1 l2 (F.getD i z34).f0 (F.getD i z34).f1) true n j) (l1.length : Int)) r → Ev (fun k => spec_HearingAll.l2 k l1 l2 x8 F (i : Int) b (j : Int)) r := by
  intro n
  induction n with
  | zero =>
    intro j b hj h
    obtain rfl : j = l1.length := by omega
    rw [RRe, Bool.and_true] at h
    exact h
  | succ n ih =>
    intro j b hj h
    have hm := hs _ (getD_mem l1 j z34 (by omega))
    refine Ev.succ ?_
    simp only [spec_HearingAll.l2]
    refine Ev.pos (by omega) ?_
    rw [wnat j l1.length (by omega) (by omega)]
    cases b with
    | true =>
      refine Ev.pos rfl (Ev.pos (by omega) (Ev.pos (by omega) (Ev.pos (by omega) ?_)))
      rw [rdS_get, rdS_get]
      refine Ev.bind (Sound_both _ _ _ _ hq.1 hq.2 hm.1 hm.2).1 (Ev.pos (by omega) (ih (j + 1) _ (by omega) ?_))
      rw [RRe, Bool.true_and] at h
      exact h
    | false =>
      refine Ev.neg (by simp) (ih (j + 1) false (by omega) ?_)
      rw [Bool.false_and] at h ⊢
      exact h
theorem Outer_s (l1 : List S34) (l2 : List Int) (F : List S34) (hF : F.length ≤ 1000) (hl : l1.length ≤ 1073741824) (he : l1.length = l2.length) (hq : ∀ q ∈ F, SB q) (hs : ∀ q ∈ l1, SB q) :
    ∀ (n i : Nat) (A : List S34), i + n = F.length → A.length ≤ i → Ev (fun k => spec_HearingAll.l1 k l1 l2 A F (i : Int)) (A ++ (F.drop i).filter (heardB l1 l2), 0) := by
  intro n
  induction n with
  | zero =>
    intro i A hi hA
    obtain rfl : i = F.length := by omega
    rw [List.drop_length, List.filter_nil, List.append_nil]
    refine Ev.succ ?_
    simp only [spec_HearingAll.l1]
    exact Ev.neg (by omega) (Ev.now _)
  | succ n ih =>
    intro i A hi hA
    have hiF : i < F.length := by omega
    refine Ev.succ ?_
    simp only [spec_HearingAll.l1]
    refine Ev.pos (by omega) (Inner_s l1 l2 A F i hiF hF hl he (hq _ (getD_mem F i z34 hiF)) hs _ l1.length 0 true (by omega) ?_)
    rw [Bool.true_and, drop_get F i z34 hiF, List.filter_cons]
    have hb : RRe (hears l1 l2 (F.getD i z34).f0 (F.getD i z34).f1) true l1.length 0 = heardB l1 l2 (F.getD i z34) := rfl
    rw [hb]
    refine Ev.succ ?_
    simp only [spec_HearingAll.l2]
    refine Ev.neg (by omega) ?_
    rw [rdS_get, wnat i F.length hiF (by omega)]
    cases heardB l1 l2 (F.getD i z34) with
    | true =>
      refine Ev.pos rfl (Ev.pos (by omega) (Ev.pos (by omega) (Ev.pos (by omega) ?_)))
      refine Ev.eq (ih (i + 1) (A ++ [F.getD i z34]) (by omega) (by rw [List.length_append]; simp only [List.length_cons, List.length_nil]; omega)) ?_
      simp
    | false =>
      refine Ev.neg (by simp) ?_
      refine Ev.eq (ih (i + 1) A (by omega) (by omega)) ?_
      simp
theorem rowL_filter (p : Int → Int → Bool) (b : S34 → Bool) (y : Int) (acc : List S34) : ∀ x, (rowL p y acc x).filter b = rowL (fun x y => b ⟨x, y⟩ && p x y) y (acc.filter b) x
  | 0 => rfl
  | x + 1 => by
    have ih := rowL_filter p b y acc x
    rw [rowL, rowL]
    cases hp : p (x : Int) y with
    | false => simp [ih]
    | true =>
      cases hb : b ⟨(x : Int), y⟩ with
      | false => simp [List.filter_append, ih, hb]
      | true => simp [List.filter_append, ih, hb]
theorem cellsL_filter (p : Int → Int → Bool) (b : S34 → Bool) (w : Nat) : ∀ h, (cellsL p w h).filter b = cellsL (fun x y => b ⟨x, y⟩ && p x y) w h
  | 0 => rfl
  | h + 1 => by rw [cellsL, cellsL, rowL_filter, cellsL_filter p b w h]
theorem Clo_h (s0 s1 : Int) (W : LA 10) (hb : ∀ i, 0 ≤ rd W.l i ∧ rd W.l i < 65536) (w h : Nat) (hw : w ≤ 10) (hh : h ≤ 10) (e0 : s0 = w) (e1 : s1 = h) (l1 : List S34) (l2 : List Int) (hl : l1.length ≤ 1073741824) (he : l1.length = l2.length) (hs : ∀ q ∈ l1, SB q) (x y : Nat) (hx : x < w) (hy : y < h) :
    Ev (fun k => impl_HearingAll_2.f k (x : Int) (y : Int) l1 l2 s0 s1 W) (heardB l1 l2 ⟨(x : Int), (y : Int)⟩ && fr W.l (x : Int) (y : Int)) := by
  unfold impl_HearingAll_2.f heardB
  rw [← RRe_and]
  refine Ev.loopB (fun k i => impl_HearingAll_2.l0 k l1 (l1.length : Int) i l2 s0 s1 W (x : Int) (y : Int)) _ _ l1.length (fun j hj r hr => ?_) ?_
  · have hm := hs _ (getD_mem l1 j z34 hj)
    refine Ev.succ ?_
    simp only [impl_HearingAll_2.l0]
    refine Ev.pos (by omega) (Ev.pos (by omega) (Ev.pos (by omega) ?_))
    rw [rdS_get, (Sound_both (x : Int) (y : Int) _ _ (by omega) (by omega) hm.1 hm.2).2, wnat j l1.length hj (by omega)]
    simp only [Option.bind_some]
    refine Ev.pos (by omega) ?_
    have hhe : hears l1 l2 (x : Int) (y : Int) j = (sndC (x : Int) (y : Int) (l1.getD j z34).f0 (l1.getD j z34).f1 == rd l2 (j : Int)) := rfl
    by_cases h1 : sndC (x : Int) (y : Int) (l1.getD j z34).f0 (l1.getD j z34).f1 = rd l2 (j : Int)
    · rw [show (hears l1 l2 (x : Int) (y : Int) j) = true by rw [hhe, h1]; simp, Bool.true_and]
      exact Ev.pos h1 hr
    · rw [show (hears l1 l2 (x : Int) (y : Int) j) = false by rw [hhe]; simpa using h1, Bool.false_and]
      exact Ev.neg h1 (Ev.now false)
  · refine Ev.succ ?_
    simp only [impl_HearingAll_2.l0]
    refine Ev.neg (by omega) ?_
    rw [Free_i s0 s1 W hb (by omega) (by omega) x y (by omega) (by omega)]
    exact Ev.now _
theorem Cells_h (s0 s1 : Int) (W : LA 10) (hb : ∀ i, 0 ≤ rd W.l i ∧ rd W.l i < 65536) (w h : Nat) (hw : w ≤ 10) (hh : h ≤ 10) (e0 : s0 = w) (e1 : s1 = h) (l1 : List S34) (l2 : List Int) (hl : l1.length ≤ 1073741824) (he : l1.length = l2.length) (hs : ∀ q ∈ l1, SB q) :
    Ev (fun k => impl_Room_cells__63.f k s0 s1 W l1 l2 s0 s1 W) (cellsL (fun x y => heardB l1 l2 ⟨x, y⟩ && fr W.l x y) w h) := by
  show Ev (fun k => impl_Room_cells__63.l0 k [] s1 0 l1 l2 s0 s1 W s0 s1 W) _
  refine Ev.cells (fun x y => heardB l1 l2 ⟨x, y⟩ && fr W.l x y) w h hw hh (fun k acc y => impl_Room_cells__63.l0 k acc s1 y l1 l2 s0 s1 W s0 s1 W) (fun k acc y x => impl_Room_cells__63.l1 k acc y s1 y s0 x l1 l2 s0 s1 W s0 s1 W) ?_ ?_ ?_ ?_
  · intro acc y r hy hr
    refine Ev.succ ?_
    simp only [impl_Room_cells__63.l0]
    exact Ev.pos (by omega) hr
  · intro acc
    refine Ev.succ ?_
    simp only [impl_Room_cells__63.l0]
    exact Ev.neg (by omega) (Ev.now acc)
  · intro acc y x r hy hx hl2 hr
    refine Ev.succ ?_
    simp only [impl_Room_cells__63.l1]
    refine Ev.pos (by omega) (Ev.bind (Clo_h s0 s1 W hb w h hw hh e0 e1 l1 l2 hl he hs x y hx hy) ?_)
    rw [i8_wnat x (by omega)]
    cases hc : (heardB l1 l2 ⟨(x : Int), (y : Int)⟩ && fr W.l (x : Int) (y : Int)) with
    | true =>
      rw [hc] at hr
      simp only [if_true] at hr ⊢
      exact Ev.pos (by omega) hr
    | false =>
      rw [hc] at hr
      simp only [Bool.false_eq_true, if_false] at hr ⊢
      exact hr
  · intro acc y r hy hr
    refine Ev.succ ?_
    simp only [impl_Room_cells__63.l1]
    rw [i8_wnat y (by omega)]
    exact Ev.neg (by omega) hr
end Go.Proofs.Ytoiiabnnddlcbaa.Q
end
section
namespace Go.Proofs.Ytoiiabnnddlcbaa.Q
open Go.RowKit Go.Proofs.YtoiiabnnddlcbaaW.PrintWords Go.Proofs.YtoiiabnnddlcbaaW.PrintLast Go.Proofs.YtoiiabnnddlcbaaW.PrintMore Go.Proofs.Ytoiiabnnddlcbaa.La Go.Proofs.Ytoiiabnnddlcbaa.PB
set_option linter.unusedVariables false
set_option linter.unusedSimpArgs false
theorem wraps_u64 (n : Int) (h0 : 0 ≤ n) (h1 : n < 2 ^ 64) : IntKind.u64.wrap n = n := by
  simp [IntKind.wrap, IntKind.bits, IntKind.signed]
  omega
theorem and255 (x : Int) (h0 : 0 ≤ x) (h1 : x < 18446744073709551616) : Go.bits .and .u64 x 255 = x % 256 := Go.bits_mask .u64 64 (by decide) wraps_u64 8 (by decide) x h0 h1
theorem u64_range (n : Int) : 0 ≤ IntKind.u64.wrap n ∧ IntKind.u64.wrap n < 18446744073709551616 := by
  simp [IntKind.wrap, IntKind.bits, IntKind.signed]
  omega
def ByteL (c : List Int) : Prop := (∀ i, 0 ≤ rd c i ∧ rd c i ≤ 255) ∧ c.length ≤ 1000000000000
theorem next_ok (c : List Int) (a s : Int) (hc : ByteL c) (ha : 0 ≤ a ∧ a ≤ 1000000000000) : ∃ v s' : Int, spec_l00Src_next.f c a s = some (v, a + 1, s') ∧ 0 ≤ v ∧ v ≤ 255 := by
  have w : wrap64 (a + 1) = a + 1 := by unfold wrap64; omega
  have hr := hc.1 a
  have wr : wrap64 (rd c a) = rd c a := by unfold wrap64; omega
  unfold spec_l00Src_next.f
  rw [w]
  by_cases h1 : a < (c.length : Int)
  · rw [if_pos h1, if_pos ha.1, if_pos (by omega), wr]
    exact ⟨_, _, rfl, hr.1, hr.2⟩
  · rw [if_neg h1, if_neg (by omega)]
    have hu := u64_range ((IntKind.u64.wrap ((IntKind.u64.wrap (s * 6364136223846793005)))) + 1442695040888963407)
    refine ⟨_, _, rfl, ?_⟩
    rw [and255 _ (by omega) (by omega)]
    unfold wrap64
    omega
theorem pick_ok (c : List Int) (a s n : Int) (hc : ByteL c) (ha : 0 ≤ a ∧ a ≤ 1000000000000) (hn : n ≤ 200) : ∃ v a' s' : Int, spec_l00Src_pick.f c a s n = some (v, a', s') ∧ (a ≤ a' ∧ a' ≤ a + 1) ∧ 0 ≤ v ∧ (1 ≤ n → v < n) := by
  unfold spec_l00Src_pick.f
  by_cases h1 : n ≤ 1
  · rw [if_pos h1]
    exact ⟨0, a, s, rfl, by omega, by omega, by omega⟩
  · rw [if_neg h1]
    obtain ⟨v, s', h2, h3, h4⟩ := next_ok c a s hc ha
    rw [h2]
    simp only [Option.bind_some]
    rw [if_neg (by omega), if_neg (by omega)]
    exact ⟨_, _, _, rfl, by omega, Int.tmod_nonneg _ h3, fun _ => Int.tmod_lt_of_pos _ (by omega)⟩
theorem one_ok (c : List Int) (a s n : Int) (hc : ByteL c) (ha : 0 ≤ a ∧ a ≤ 1000000000000) (hn : n ≤ 200) : ∃ (b : Bool) (a' s' : Int), spec_l00Src_one.f c a s n = some (b, a', s') ∧ (a ≤ a' ∧ a' ≤ a + 1) := by
  obtain ⟨v, a', s', h1, h2, h3, h4⟩ := pick_ok c a s n hc ha hn
  unfold spec_l00Src_one.f
  rw [h1]
  exact ⟨_, _, _, rfl, h2⟩
theorem byte_of (l : List Int) (hl : l.length ≤ 1000000) (hw : ∀ x ∈ l, (Lit.int .u8 x).wf = true) : ByteL l := by
  refine ⟨fun i => ?_, by omega⟩
  unfold rd
  by_cases hi : i.toNat < l.length
  · have h := hw _ (getD_mem l i.toNat 0 hi)
    simp [Lit.wf, IntKind.min, IntKind.max, IntKind.signed, IntKind.bits] at h
    rw [List.getD_eq_getElem?_getD] at *
    omega
  · rw [List.getD_eq_getElem?_getD, List.getElem?_eq_none (by omega)]
    simp
theorem u16_or (a b : Nat) (ha : a < 2 ^ 16) (hb : b < 2 ^ 16) : Go.bits .or .u16 (a : Int) (b : Int) = ((a ||| b : Nat) : Int) := (bits_nat .u16 16 (by decide) wraps_u16 a b ha hb).2
theorem u16_andNot (a b : Nat) (ha : a < 2 ^ 16) (hb : b < 2 ^ 16) : Go.bits .andNot .u16 (a : Int) (b : Int) = ((a &&& (2 ^ 16 - 1 - b) : Nat) : Int) := by
  have ha' : a % 2 ^ IntKind.u16.bits = a := Nat.mod_eq_of_lt ha
  have hb' : b % 2 ^ IntKind.u16.bits = b := Nat.mod_eq_of_lt hb
  simp only [Go.bits, BitVec.ofInt_natCast, BitVec.toNat_and, BitVec.toNat_not, BitVec.toNat_ofNat, ha', hb']
  refine wraps_u16 _ (Int.natCast_nonneg _) ?_
  have : a &&& (2 ^ IntKind.u16.bits - 1 - b) < 2 ^ 16 := Nat.lt_of_le_of_lt Nat.and_le_left ha
  exact_mod_cast this
theorem shl16 (x : Nat) (hx : x < 10) : shl .u16 1 (x : Int) = ((2 ^ x : Nat) : Int) := by
  unfold shl
  rw [Int.one_mul, Int.toNat_natCast, Nat.min_eq_left (show x ≤ IntKind.u16.bits by unfold IntKind.bits; dsimp only; omega), wrap_u16]
  have h3 : 2 ^ x < 2 ^ 16 := Nat.pow_lt_pow_right (by omega) (by omega)
  have h2 : (2 : Int) ^ x = ((2 ^ x : Nat) : Int) := by simp
  rw [h2]
  generalize 2 ^ x = n at h3 ⊢
  omega
def WV (w h : Nat) (W : LA 10) : Prop := ∀ y : Nat, y < 10 → ∃ n : Nat, rd W.l (y : Int) = n ∧ n < 2 ^ w ∧ (h ≤ y → n = 0)
theorem WV_zero (w h : Nat) : WV w h (LA.zero 10) := fun y _ => ⟨0, rd_zero _, Nat.two_pow_pos w, fun _ => rfl⟩
theorem WV_set {w h : Nat} {W : LA 10} (hW : WV w h W) (y n : Nat) (hy : y < h) (hh : h ≤ 10) (hn : n < 2 ^ w) : WV w h (LA.set W (y : Int) (n : Int)) := by
  intro z hz
  by_cases e : z = y
  · subst e
    exact ⟨n, rd_set_same W _ _ (by omega) (by omega), hn, fun h2 => by omega⟩
  · obtain ⟨m, h1, h2, h3⟩ := hW z hz
    exact ⟨m, by rw [rd_set_other W _ _ _ (by omega) (by omega) (by omega)]; exact h1, h2, h3⟩
theorem pow16 {w n : Nat} (hw : w ≤ 10) (h : n < 2 ^ w) : n < 2 ^ 16 := Nat.lt_of_lt_of_le h (Nat.pow_le_pow_right (by decide) (by omega))
theorem Wall_ok (s0 s1 : Int) (W : LA 10) (w h : Nat) (hw : w ≤ 10) (hh : h ≤ 10) (hW : WV w h W) (x y : Nat) (hx : x < w) (hy : y < h) (on : Bool) : ∃ W' : LA 10, spec_l01Wall.f s0 s1 W (x : Int) (y : Int) on = some (s0, s1, W') ∧ WV w h W' := by
  obtain ⟨n, h1, h2, h3⟩ := hW y (by omega)
  have hp : 2 ^ x < 2 ^ w := Nat.pow_lt_pow_right (by decide) hx
  have hp16 : 2 ^ x < 2 ^ 16 := pow16 hw hp
  unfold spec_l01Wall.f
  rw [if_pos (by omega), if_pos (by omega), u64_int (by omega) (by omega), shl16 x (by omega), h1, u16_andNot n (2 ^ x) (pow16 hw h2) hp16]
  have ha : n &&& (2 ^ 16 - 1 - 2 ^ x) < 2 ^ w := Nat.lt_of_le_of_lt Nat.and_le_left h2
  have hW1 := WV_set hW y (n &&& (2 ^ 16 - 1 - 2 ^ x)) hy hh ha
  cases on with
  | false => exact ⟨_, rfl, hW1⟩
  | true =>
    rw [if_pos rfl, rd_set_same W _ _ (by omega) (by omega), u16_or _ _ (pow16 hw ha) hp16]
    exact ⟨_, rfl, WV_set hW1 y _ hy hh (Nat.or_lt_two_pow ha hp)⟩
theorem i8_wnatS (x : Nat) (h : x < 10) : IntKind.i8.wrap ((x : Int) + 1) = ((x + 1 : Nat) : Int) := by
  have := i8_small (x + 1) (by omega)
  rw [← this]
  congr 1
theorem Drawn_ev (c : List Int) (hc : ByteL c) (a s : Int) (ha : 0 ≤ a ∧ a ≤ 1000000) : ∃ (w h : Nat) (W : LA 10) (a' s' : Int), Ev (fun k => spec_l01Drawn.f k c a s) ((w : Int), (h : Int), W, a', s') ∧ (1 ≤ w ∧ w ≤ 6) ∧ (1 ≤ h ∧ h ≤ 6) ∧ WV w h W ∧ (0 ≤ a' ∧ a' ≤ a + 1000) := by
  obtain ⟨p1, a1, s1, e1, b1, c1, d1⟩ := pick_ok c a s 6 hc (by omega) (by omega)
  obtain ⟨p2, a2, s2, e2, b2, c2, d2⟩ := pick_ok c a1 s1 6 hc (by omega) (by omega)
  obtain ⟨p3, a3, s3, e3, b3, c3, d3⟩ := pick_ok c a2 s2 6 hc (by omega) (by omega)
  have d1' := d1 (by omega)
  have d2' := d2 (by omega)
  have d3' := d3 (by omega)
  obtain ⟨w, hw⟩ : ∃ w : Nat, 1 + p1 = w := ⟨(1 + p1).toNat, by omega⟩
  obtain ⟨h, hh⟩ : ∃ h : Nat, 1 + p2 = h := ⟨(1 + p2).toNat, by omega⟩
  obtain ⟨few, hf⟩ : ∃ f : Nat, 2 + p3 = f := ⟨(2 + p3).toNat, by omega⟩
  have key : ∀ (n y : Nat) (W : LA 10) (a s : Int), y + n = h → WV w h W → (0 ≤ a ∧ a ≤ 1000000 + 3 + 7 * (y : Int)) → ∃ (W' : LA 10) (a' s' : Int), Ev (fun k => spec_l01Drawn.l0 k (few : Int) (y : Int) c a s (w : Int) (h : Int) W) ((w : Int), (h : Int), W', a', s') ∧ WV w h W' ∧ (a ≤ a' ∧ a' ≤ a + 7 * (n : Int) + 3) := by
    intro n
    induction n with
    | zero =>
      intro y W a s hy hW ha
      obtain rfl : y = h := by omega
      obtain ⟨q1, u1, v1, f1, g1, i1, j1⟩ := pick_ok c a s (w : Int) hc (by omega) (by omega)
      obtain ⟨q2, u2, v2, f2, g2, i2, j2⟩ := pick_ok c u1 v1 (y : Int) hc (by omega) (by omega)
      have j1' := j1 (by omega)
      have j2' := j2 (by omega)
      obtain ⟨x, hx⟩ : ∃ x : Nat, q1 = x := ⟨q1.toNat, by omega⟩
      obtain ⟨z, hz⟩ : ∃ z : Nat, q2 = z := ⟨q2.toNat, by omega⟩
      subst hx
      subst hz
      obtain ⟨W', k1, k2⟩ := Wall_ok (w : Int) (y : Int) W w y (by omega) (by omega) hW x z (by omega) (by omega) false
      refine ⟨W', u2, v2, ?_, k2, by omega⟩
      refine Ev.succ ?_
      simp only [spec_l01Drawn.l0]
      rw [wint (w : Int) (by omega) (by omega), wint (y : Int) (by omega) (by omega), f1]
      refine Ev.neg (by omega) (Ev.bind (Ev.now _) ?_)
      rw [f2]
      refine Ev.bind (Ev.now _) ?_
      rw [i8_small x (by omega), i8_small z (by omega), k1]
      exact Ev.bind (Ev.now _) (Ev.now _)
    | succ n ih =>
      intro y W a s hy hW ha
      have inner : ∀ (m x : Nat) (W : LA 10) (a s : Int), x + m = w → WV w h W → (0 ≤ a ∧ a ≤ 1000000 + 3 + 7 * (y : Int) + (x : Int)) → ∃ (W' : LA 10) (a' s' : Int), Ev (fun k => spec_l01Drawn.l1 k (few : Int) (y : Int) (x : Int) c a s (w : Int) (h : Int) W) ((w : Int), (h : Int), W', a', s') ∧ WV w h W' ∧ (a ≤ a' ∧ a' ≤ a + (m : Int) + 7 * (n : Int) + 3) := by
        intro m
        induction m with
        | zero =>
          intro x W a s hx hW ha
          obtain rfl : x = w := by omega
          obtain ⟨W', a', s', r1, r2, r3⟩ := ih (y + 1) W a s (by omega) hW (by omega)
          refine ⟨W', a', s', ?_, r2, by omega⟩
          refine Ev.succ ?_
          simp only [spec_l01Drawn.l1]
          rw [i8_wnatS y (by omega)]
          exact Ev.neg (by omega) r1
        | succ m ihm =>
          intro x W a s hx hW ha
          obtain ⟨b, u, v, f1, g1⟩ := one_ok c a s (few : Int) hc (by omega) (by omega)
          obtain ⟨W1, k1, k2⟩ := Wall_ok (w : Int) (h : Int) W w h (by omega) (by omega) hW x y (by omega) (by omega) true
          cases b with
          | true =>
            obtain ⟨W', a', s', r1, r2, r3⟩ := ihm (x + 1) W1 u v (by omega) k2 (by omega)
            refine ⟨W', a', s', ?_, r2, by omega⟩
            refine Ev.succ ?_
            simp only [spec_l01Drawn.l1]
            rw [f1, i8_wnatS x (by omega), k1]
            exact Ev.pos (by omega) (Ev.bind (Ev.now _) (Ev.pos rfl (Ev.bind (Ev.now _) r1)))
          | false =>
            obtain ⟨W', a', s', r1, r2, r3⟩ := ihm (x + 1) W u v (by omega) hW (by omega)
            refine ⟨W', a', s', ?_, r2, by omega⟩
            refine Ev.succ ?_
            simp only [spec_l01Drawn.l1]
            rw [f1, i8_wnatS x (by omega)]
            exact Ev.pos (by omega) (Ev.bind (Ev.now _) (Ev.neg Bool.false_ne_true r1))
      obtain ⟨W', a', s', r1, r2, r3⟩ := inner w 0 W a s (by omega) hW (by omega)
      refine ⟨W', a', s', ?_, r2, by omega⟩
      refine Ev.succ ?_
      simp only [spec_l01Drawn.l0]
      exact Ev.pos (by omega) r1
  obtain ⟨W', a', s', r1, r2, r3⟩ := key h 0 (LA.zero 10) a3 s3 (by omega) (WV_zero w h) (by omega)
  refine ⟨w, h, W', a', s', ?_, by omega, by omega, r2, by omega⟩
  unfold spec_l01Drawn.f
  rw [e1]
  refine Ev.bind (Ev.now _) ?_
  rw [e2]
  refine Ev.bind (Ev.now _) ?_
  rw [e3]
  refine Ev.bind (Ev.now _) ?_
  rw [wint (2 + p3) (by omega) (by omega), wint (1 + p1) (by omega) (by omega), wint (1 + p2) (by omega) (by omega), hw, hh, hf, i8_small w (by omega), i8_small h (by omega)]
  exact r1
theorem WV_bound {w h : Nat} {W : LA 10} (hW : WV w h W) (hw : w ≤ 10) (i : Int) : 0 ≤ rd W.l i ∧ rd W.l i < 65536 := by
  refine rd_bound _ (fun x hx => ?_) i
  obtain ⟨j, hj, e⟩ := List.mem_iff_getElem.1 hx
  have hj10 : j < 10 := by rw [W.h] at hj; exact hj
  obtain ⟨n, h1, h2, h3⟩ := hW j hj10
  have h4 := pow16 hw h2
  rw [rd_nat, List.getD_eq_getElem?_getD, List.getElem?_eq_getElem hj] at h1
  have h5 : x = n := by rw [← e]; exact h1
  omega
theorem Valid_of (w h : Nat) (W : LA 10) (hW : WV w h W) (hw : 1 ≤ w ∧ w ≤ 10) (hh : 1 ≤ h ∧ h ≤ 10) : Ev (fun k => spec_l01Ok.f k (w : Int) (h : Int) W) true ∧ Ev (fun k => impl_ValidRoom.f k (w : Int) (h : Int) W) true := by
  have hu : IntKind.u64.wrap (w : Int) = w := u64_int (by omega) (by omega)
  have hs : ∀ y : Nat, y < 10 → shr .u16 (rd W.l (y : Int)) (w : Int) = 0 := fun y hy => by
    obtain ⟨n, h1, h2, h3⟩ := hW y hy
    rw [h1]
    unfold shr
    rw [Int.toNat_natCast, Nat.min_eq_left (show w ≤ IntKind.u16.bits by unfold IntKind.bits; dsimp only; omega)]
    have : ((n : Int) / 2 ^ w) = ((n / 2 ^ w : Nat) : Int) := by simp
    rw [this, Nat.div_eq_of_lt h2]
    rfl
  have key : ∀ n y : Nat, y + n = 10 → Ev (fun k => spec_l01Ok.l0 k (y : Int) (w : Int) (h : Int) W) true ∧ Ev (fun k => impl_ValidRoom.l0 k W (y : Int) (w : Int) (h : Int) W) true := by
    intro n
    induction n with
    | zero =>
      intro y hy
      obtain rfl : y = 10 := by omega
      refine ⟨Ev.succ ?_, Ev.succ ?_⟩
      · simp only [spec_l01Ok.l0]
        exact Ev.neg (by omega) (Ev.now true)
      · simp only [impl_ValidRoom.l0]
        exact Ev.neg (by omega) (Ev.now true)
    | succ n ih =>
      intro y hy
      obtain ⟨i1, i2⟩ := ih (y + 1) (by omega)
      have p1 := hs y (by omega)
      refine ⟨Ev.succ ?_, Ev.succ ?_⟩
      · simp only [spec_l01Ok.l0]
        rw [hu, wnat y 10 (by omega) (by omega)]
        refine Ev.pos (by omega) (Ev.pos (by omega) (Ev.pos (by omega) (Ev.pos p1 ?_)))
        by_cases p2 : (y : Int) ≥ wrap64 (h : Int)
        · refine Ev.pos p2 (Ev.pos ?_ i1)
          obtain ⟨m, h1, h2, h3⟩ := hW y (by omega)
          rw [wint (h : Int) (by omega) (by omega)] at p2
          rw [h1, h3 (by omega)]
          rfl
        · exact Ev.neg p2 i1
      · simp only [impl_ValidRoom.l0]
        rw [wnat y 10 (by omega) (by omega)]
        refine Ev.pos (by omega) (Ev.pos (by omega) (Ev.pos (by omega) (Ev.pos p1 ?_)))
        by_cases p2 : (y : Int) ≥ wrap64 (h : Int)
        · refine Ev.pos p2 (Ev.pos ?_ i2)
          obtain ⟨m, h1, h2, h3⟩ := hW y (by omega)
          rw [wint (h : Int) (by omega) (by omega)] at p2
          rw [h1, h3 (by omega)]
          rfl
        · exact Ev.neg p2 i2
  obtain ⟨k1, k2⟩ := key 10 0 rfl
  have i0 : inC (w : Int) 1 10 = true := by unfold inC; simp; omega
  have i1 : inC (h : Int) 1 10 = true := by unfold inC; simp; omega
  constructor
  · unfold spec_l01Ok.f
    rw [wint (w : Int) (by omega) (by omega), wint (h : Int) (by omega) (by omega), In_c, In_c, i0, i1]
    simp only [Option.bind_some, if_true, Bool.not_true]
    refine Ev.succ ?_
    simp only [spec_l01Ok.j0]
    exact Ev.neg (by simp) k1
  · unfold impl_ValidRoom.f
    rw [wint (w : Int) (by omega) (by omega), wint (h : Int) (by omega) (by omega), Within_c, Within_c, i0, i1]
    simp only [Option.bind_some, if_true, Bool.not_true]
    refine Ev.succ ?_
    simp only [impl_ValidRoom.j0]
    exact Ev.neg (by simp) k2
theorem P6Room_ev (c : List Int) (hc : ByteL c) : ∃ (w h : Nat) (W : LA 10), Ev (fun k => spec_P6Room.f k c) ((w : Int), (h : Int), W) ∧ (1 ≤ w ∧ w ≤ 6) ∧ (1 ≤ h ∧ h ≤ 6) ∧ WV w h W := by
  obtain ⟨w, h, W, a', s', e, h1, h2, h3, h4⟩ := Drawn_ev c hc 0 0 (by omega)
  refine ⟨w, h, W, ?_, h1, h2, h3⟩
  unfold spec_P6Room.f spec_l00From.f
  exact Ev.bind (a := (c, 0, 0)) (Ev.now _) (Ev.bind e (Ev.now _))
theorem P6Pick_ok (c : List Int) (hc : ByteL c) (n : Int) (hn : 1 ≤ n ∧ n ≤ 200) : ∃ v : Int, spec_P6Pick.f c n = some v ∧ 0 ≤ v ∧ v < n := by
  obtain ⟨v, a', s', h1, h2, h3, h4⟩ := pick_ok c 0 0 n hc (by omega) hn.2
  refine ⟨v, ?_, h3, h4 hn.1⟩
  unfold spec_P6Pick.f spec_l00From.f
  simp only [Option.bind_some]
  rw [h1]
  rfl
end Go.Proofs.Ytoiiabnnddlcbaa.Q
end
section
namespace Go.Proofs.Ytoiiabnnddlcbaa.Q
open Go.RowKit Go.Proofs.YtoiiabnnddlcbaaW.PrintWords Go.Proofs.YtoiiabnnddlcbaaW.PrintLast Go.Proofs.YtoiiabnnddlcbaaW.PrintMore Go.Proofs.Ytoiiabnnddlcbaa.La Go.Proofs.Ytoiiabnnddlcbaa.PB
set_option linter.unusedVariables false
set_option linter.unusedSimpArgs false
theorem Hearing_val (w h : Nat) (W : LA 10) (hw : 1 ≤ w ∧ w ≤ 10) (hh : 1 ≤ h ∧ h ≤ 10) (hW : WV w h W) (l1 : List S34) (l2 : List Int) (hl : l1.length ≤ 100) (he : l1.length = l2.length) (hc : allCell (w : Int) (h : Int) l1 = true) (hd : loudB l2 = true) (hs : ∀ q ∈ l1, SB q) :
    Ev (fun k => spec_HearingAll.f k (w : Int) (h : Int) W l1 l2) ((cellsL (fr W.l) w h).filter (heardB l1 l2), 0) ∧ Ev (fun k => impl_HearingAll.f k (w : Int) (h : Int) W l1 l2) ((cellsL (fr W.l) w h).filter (heardB l1 l2), 0) := by
  obtain ⟨h1, h2⟩ := Valid_of w h W hW hw hh
  have hb := WV_bound hW hw.2
  have hcc := CellCode_ev (w : Int) (h : Int) W h2 (by omega) (by omega) l1 (by omega) hs
  have hcs := Cells_s (w : Int) (h : Int) W (by omega) (by omega) l1 (by omega) hs
  have hlo := Loud_i l2 (by omega)
  rw [hc] at hcc hcs
  rw [hd] at hlo
  have ha := All_s (w : Int) (h : Int) W hb w h (by omega) (by omega) rfl rfl
  have hlen := cellsL_len (fr W.l) w h
  have hlen2 : w * h ≤ 10 * 10 := Nat.mul_le_mul (by omega) (by omega)
  have hm : ∀ q ∈ cellsL (fr W.l) w h, SB q := fun q hq => by
    have := cellsL_mem (fr W.l) w h h (Nat.le_refl _) q hq
    unfold SB
    omega
  have ho := Outer_s l1 l2 (cellsL (fr W.l) w h) (by omega) (by omega) he hm hs (cellsL (fr W.l) w h).length 0 [] (by omega) (by simp)
  rw [List.drop_zero, List.nil_append] at ho
  constructor
  · unfold spec_HearingAll.f
    refine Ev.bind (a := []) (Ev.now _) ?_
    refine Ev.bind h1 (Ev.pos rfl (Ev.pos (by omega) (Ev.bind hcs ?_)))
    refine Ev.succ ?_
    simp only [spec_HearingAll.j0]
    refine Loud_s l1 l2 [] (w : Int) (h : Int) W (by omega) _ l2.length 0 true (by omega) ?_
    rw [show (true && RRe (fun i => inC (rd l2 (i : Int)) 0 8) true l2.length 0) = true from hd]
    refine Ev.succ ?_
    simp only [spec_HearingAll.l0]
    exact Ev.neg (by omega) (Ev.pos (by trivial) (Ev.bind ha ho))
  · rw [cellsL_filter]
    unfold impl_HearingAll.f
    exact Ev.bind hcc (Ev.pos rfl (Ev.pos (by omega) (Ev.bind hlo (Ev.neg (by simp) (Ev.bind (Cells_h (w : Int) (h : Int) W hb w h (by omega) (by omega) rfl rfl l1 l2 (by omega) he hs) (Ev.now _))))))
def sC (a b : S34) : Int := sndC a.f0 a.f1 b.f0 b.f1
theorem heard1 (b : S34) (k : Int) (q : S34) : heardB [b] [k] q = (sC q b == k) := by
  show (hears [b] [k] q.f0 q.f1 0 && true) = _
  rw [Bool.and_true]
  rfl
theorem heard2 (b o : S34) (k m : Int) (q : S34) : heardB [b, o] [k, m] q = (sC q b == k && sC q o == m) := by
  show (hears [b, o] [k, m] q.f0 q.f1 0 && (hears [b, o] [k, m] q.f0 q.f1 1 && true)) = _
  rw [Bool.and_true]
  rfl
theorem heardF1 (b : S34) (k : Int) : heardB [b] [k] = fun q => sC q b == k := funext fun q => heard1 b k q
theorem heardF2 (b o : S34) (k m : Int) : heardB [b, o] [k, m] = fun q => sC q b == k && sC q o == m := funext fun q => heard2 b o k m q
theorem sJ_range (x y h v : Int) : 0 ≤ soundJ x y h v ∧ soundJ x y h v ≤ 7 := by
  unfold soundJ
  (repeat' split) <;> omega
theorem sC_range (a b : S34) : 0 ≤ sC a b ∧ sC a b ≤ 8 := by
  unfold sC sndC
  split
  · omega
  · have := sJ_range (b.f0 - a.f0) (b.f1 - a.f1) (mx (b.f0 - a.f0) (-(b.f0 - a.f0))) (mx (b.f1 - a.f1) (-(b.f1 - a.f1)))
    omega
theorem mx_zero (x : Int) : (mx x (-x) == 0) = (x == 0) := by
  rw [mx_abs]
  by_cases h : x = 0
  · subst h; rfl
  · have h2 : ¬ (if x < 0 then -x else x) = 0 := by split <;> omega
    rw [beq_eq_false_iff_ne.2 h2, beq_eq_false_iff_ne.2 h]
theorem sC_eight (a b : S34) : (sC a b == 8) = (a.f0 == b.f0 && (a.f1 == b.f1)) := by
  unfold sC sndC
  rw [mx_zero, mx_zero]
  have h1 : (b.f0 - a.f0 == 0) = (a.f0 == b.f0) := by rw [Bool.eq_iff_iff, beq_iff_eq, beq_iff_eq]; omega
  have h2 : (b.f1 - a.f1 == 0) = (a.f1 == b.f1) := by rw [Bool.eq_iff_iff, beq_iff_eq, beq_iff_eq]; omega
  rw [h1, h2]
  cases h : (a.f0 == b.f0 && a.f1 == b.f1) with
  | true => rfl
  | false =>
    have := sJ_range (b.f0 - a.f0) (b.f1 - a.f1) (mx (b.f0 - a.f0) (-(b.f0 - a.f0))) (mx (b.f1 - a.f1) (-(b.f1 - a.f1)))
    simp only [Bool.false_eq_true, if_false]
    rw [beq_eq_false_iff_ne]
    omega
theorem sJ_back (x y h v : Int) (hx : h = (if x < 0 then -x else x)) (hy : v = (if y < 0 then -y else y)) (hn : ¬ (x = 0 ∧ y = 0)) : soundJ (-x) (-y) h v = (soundJ x y h v + 4) % 8 := by
  unfold soundJ
  by_cases c1 : x < 0
  · rw [if_pos c1] at hx
    by_cases c2 : y < 0
    · rw [if_pos c2] at hy
      (repeat' split) <;> omega
    · rw [if_neg c2] at hy
      (repeat' split) <;> omega
  · rw [if_neg c1] at hx
    by_cases c2 : y < 0
    · rw [if_pos c2] at hy
      (repeat' split) <;> omega
    · rw [if_neg c2] at hy
      (repeat' split) <;> omega
theorem sC_back (a b : S34) (h : sC a b < 8) : sC b a = Int.tmod (wrap64 (sC a b + 4)) 8 := by
  have hr := sC_range a b
  rw [wint _ (by omega) (by omega), Int.tmod_eq_emod_of_nonneg (by omega)]
  have h8 := sC_eight a b
  rw [beq_eq_false_iff_ne.2 (by omega)] at h8
  have hne : ¬ (b.f0 - a.f0 = 0 ∧ b.f1 - a.f1 = 0) := by
    rintro ⟨e1, e2⟩
    rw [show a.f0 = b.f0 by omega, show a.f1 = b.f1 by omega] at h8
    simp at h8
  have e1 : sC a b = soundJ (b.f0 - a.f0) (b.f1 - a.f1) (mx (b.f0 - a.f0) (-(b.f0 - a.f0))) (mx (b.f1 - a.f1) (-(b.f1 - a.f1))) := by
    unfold sC sndC
    rw [mx_zero, mx_zero, if_neg]
    simp only [Bool.and_eq_true, beq_iff_eq]
    exact hne
  have e2 : sC b a = soundJ (-(b.f0 - a.f0)) (-(b.f1 - a.f1)) (mx (b.f0 - a.f0) (-(b.f0 - a.f0))) (mx (b.f1 - a.f1) (-(b.f1 - a.f1))) := by
    unfold sC sndC
    rw [mx_zero, mx_zero, if_neg]
    · have q1 : a.f0 - b.f0 = -(b.f0 - a.f0) := by omega
      have q2 : a.f1 - b.f1 = -(b.f1 - a.f1) := by omega
      have m1 : ∀ x : Int, mx (-x) (- -x) = mx x (-x) := fun x => by rw [mx_abs, mx_abs]; (repeat' split) <;> omega
      rw [q1, q2, m1, m1]
    · simp only [Bool.and_eq_true, beq_iff_eq]
      omega
  rw [e1, e2]
  exact sJ_back _ _ _ _ (mx_abs _) (mx_abs _) hne
theorem sC_back8 (a b : S34) (h : sC a b = 8) : sC b a = 8 := by
  have h1 := sC_eight a b
  have h2 := sC_eight b a
  rw [beq_iff_eq.2 h] at h1
  have h3 := h1.symm
  simp only [Bool.and_eq_true, beq_iff_eq] at h3
  rw [h3.1, h3.2] at h2
  simpa using h2
theorem Sound_s (a b : S34) (ha : SB a) (hb : SB b) : Ev (fun k => spec_SoundFrom.f k a.f0 a.f1 b.f0 b.f1) (sC a b) := by
  unfold spec_SoundFrom.f
  exact Ev.bind (Sound_both _ _ _ _ ha.1 ha.2 hb.1 hb.2).1 (Ev.now _)
theorem Sound_i (a b : S34) (ha : SB a) (hb : SB b) : impl_SoundFrom.f a.f0 a.f1 b.f0 b.f1 = some (sC a b) := (Sound_both _ _ _ _ ha.1 ha.2 hb.1 hb.2).2
theorem Same_sp (l : List S34) (h : l.length ≤ 1000) : Ev (fun k => spec_SameSpots.f k l l) true := by
  unfold spec_SameSpots.f
  refine Ev.pos rfl ?_
  have key : ∀ (n i : Nat), i + n = l.length → Ev (fun k => spec_SameSpots.l0 k l l (i : Int)) true := by
    intro n
    induction n with
    | zero =>
      intro i hi
      refine Ev.succ ?_
      simp only [spec_SameSpots.l0]
      exact Ev.neg (by omega) (Ev.now _)
    | succ n ih =>
      intro i hi
      refine Ev.succ ?_
      simp only [spec_SameSpots.l0]
      rw [wnat i 1000 (by omega) (by omega)]
      exact Ev.pos (by omega) (Ev.pos (by omega) (Ev.pos (by omega) (Ev.neg (by simp) (ih (i + 1) (by omega)))))
  exact key l.length 0 (by omega)
theorem rdT_getS (l : List S34) (i : Nat) : rd_T34 l (i : Int) = l.getD i z34 := by simp [rd_T34]
theorem Has_ev (l : List S34) (h : l.length ≤ 1000) (x y : Int) : Ev (fun k => spec_HasSpot.f k l x y) (l.any fun q => q.f0 == x && (q.f1 == y)) := by
  unfold spec_HasSpot.f
  refine Ev.bind (a := l.any fun q => q.f0 == x && (q.f1 == y)) ?_ (Ev.now _)
  unfold spec_l01Has.f
  have key : ∀ (n i : Nat), i + n = l.length → Ev (fun k => spec_l01Has.l0 k l (i : Int) x y) ((l.drop i).any fun q => q.f0 == x && (q.f1 == y)) := by
    intro n
    induction n with
    | zero =>
      intro i hi
      obtain rfl : i = l.length := by omega
      rw [List.drop_length]
      refine Ev.succ ?_
      simp only [spec_l01Has.l0]
      exact Ev.neg (by omega) (Ev.now _)
    | succ n ih =>
      intro i hi
      refine Ev.succ ?_
      simp only [spec_l01Has.l0]
      rw [wnat i 1000 (by omega) (by omega), drop_get l i z34 (by omega), rdT_getS, List.any_cons]
      refine Ev.pos (by omega) (Ev.pos (by omega) ?_)
      cases hc : ((l.getD i z34).f0 == x && ((l.getD i z34).f1 == y)) with
      | true => exact Ev.pos rfl (Ev.now _)
      | false => exact Ev.neg Bool.false_ne_true (ih (i + 1) (by omega))
  have := key l.length 0 (by omega)
  rw [List.drop_zero] at this
  exact this
theorem has_filter (F : List S34) (p : S34 → Bool) (a : S34) (ha : a ∈ F) : ((F.filter p).any fun q => q.f0 == a.f0 && (q.f1 == a.f1)) = p a := by
  cases hp : p a with
  | true =>
    rw [List.any_eq_true]
    exact ⟨a, List.mem_filter.2 ⟨ha, hp⟩, by simp⟩
  | false =>
    rw [List.any_eq_false]
    intro q hq
    simp only [Bool.and_eq_true, beq_iff_eq]
    rintro ⟨h1, h2⟩
    have : q = a := by cases q; cases a; simp only at h1 h2; rw [h1, h2]
    rw [this] at hq
    rw [(List.mem_filter.1 hq).2] at hp
    cases hp
theorem cnt_step (s : S34 → Int) (k : Int) : ∀ F : List S34, (F.filter fun q => decide (s q < k + 1)).length = (F.filter fun q => decide (s q < k)).length + (F.filter fun q => s q == k).length
  | [] => rfl
  | q :: F => by
    have ih := cnt_step s k F
    rw [List.filter_cons, List.filter_cons, List.filter_cons]
    by_cases h1 : s q < k
    · have h2 : ¬ s q = k := by omega
      have h3 : s q < k + 1 := by omega
      simp only [h1, h3, decide_true, if_true, beq_eq_false_iff_ne.2 h2, Bool.false_eq_true, if_false, List.length_cons]
      omega
    · by_cases h2 : s q = k
      · have h3 : s q < k + 1 := by omega
        simp only [h1, h3, decide_true, decide_false, if_true, beq_iff_eq.2 h2, Bool.false_eq_true, if_false, List.length_cons]
        omega
      · have h3 : ¬ s q < k + 1 := by omega
        simp only [h1, h3, decide_false, beq_eq_false_iff_ne.2 h2, Bool.false_eq_true, if_false]
        omega
end Go.Proofs.Ytoiiabnnddlcbaa.Q
end
section
namespace Go.Proofs.Ytoiiabnnddlcbaa.Q
open Go.RowKit Go.Proofs.YtoiiabnnddlcbaaW.PrintWords Go.Proofs.YtoiiabnnddlcbaaW.PrintLast Go.Proofs.YtoiiabnnddlcbaaW.PrintMore Go.Proofs.Ytoiiabnnddlcbaa.La Go.Proofs.Ytoiiabnnddlcbaa.PB
set_option linter.unusedVariables false
set_option linter.unusedSimpArgs false
theorem At_vals (w h : Nat) (W : LA 10) (hw : 1 ≤ w ∧ w ≤ 10) (hh : 1 ≤ h ∧ h ≤ 10) (hW : WV w h W) (b : S34) (k : Int) (hk : 0 ≤ k ∧ k ≤ 8) (hb : b ∈ cellsL (fr W.l) w h) :
    Ev (fun n => spec_HearingAt.f n (w : Int) (h : Int) W b.f0 b.f1 k) ((cellsL (fr W.l) w h).filter (fun q => sC q b == k), 0) ∧ Ev (fun n => impl_HearingAt.f n (w : Int) (h : Int) W b.f0 b.f1 k) ((cellsL (fr W.l) w h).filter (fun q => sC q b == k), 0) := by
  have hm := cellsL_mem (fr W.l) w h h (Nat.le_refl _) b hb
  have hi : isC (w : Int) (h : Int) b.f0 b.f1 = true := by unfold isC inC; simp; omega
  obtain ⟨e1, e2⟩ := Hearing_val w h W hw hh hW [b] [k] (by simp) (by simp) (by unfold allCell; simp [hi]) (by
    show (inC k 0 8 && true) = true
    unfold inC
    simp
    omega) (fun q hq => by
    rw [List.mem_singleton] at hq
    subst hq
    unfold SB
    omega)
  rw [heardF1] at e1 e2
  constructor
  · unfold spec_HearingAt.f
    exact Ev.bind e1 (Ev.now _)
  · unfold impl_HearingAt.f
    exact Ev.bind e2 (Ev.now _)
theorem FnSounds (l0 l1 : List Int) (hm0 : l0.length ≤ maxLen) (hw0 : ∀ x ∈ l0, (Lit.int .u8 x).wf = true) (hm1 : l1.length ≤ maxLen) (hw1 : ∀ x ∈ l1, (Lit.int .u8 x).wf = true) : Ev (fun k => laws_FnSounds.f k l0 l1) true := by
  have big : Ev (fun k => laws_FnSounds.j0 k l0 l1 true) true := by
    refine Ev.succ ?_
    simp only [laws_FnSounds.j0]
    exact Ev.pos trivial (Ev.now _)
  unfold laws_FnSounds.f laws_f6big.f
  by_cases h0 : (l0.length : Int) > 4096
  · exact Ev.bind (a := true) (Ev.eq (Ev.now _) (decide_eq_true h0)) (Ev.pos rfl big)
  refine Ev.bind (a := false) (Ev.eq (Ev.now _) (decide_eq_false h0)) (Ev.neg Bool.false_ne_true ?_)
  by_cases h1 : (l1.length : Int) > 4096
  · exact Ev.bind (a := true) (Ev.eq (Ev.now _) (decide_eq_true h1)) big
  refine Ev.bind (a := false) (Ev.eq (Ev.now _) (decide_eq_false h1)) ?_
  have B0 := byte_of l0 (by omega) hw0
  have B1 := byte_of l1 (by omega) hw1
  have B2 : ByteL ([7] ++ l1) := byte_of _ (by rw [List.length_append, List.length_singleton]; omega) (fun x hx => by
    rcases List.mem_append.1 hx with hx | hx
    · rw [List.mem_singleton] at hx
      subst hx
      rfl
    · exact hw1 x hx)
  obtain ⟨w, h, W, er, hw, hh, hW⟩ := P6Room_ev l0 B0
  have hb := WV_bound hW (by omega)
  have ea := All_s (w : Int) (h : Int) W hb w h (by omega) (by omega) rfl rfl
  have hcm := cellsL_mem (fr W.l) w h h (Nat.le_refl _)
  have hlen := cellsL_len (fr W.l) w h
  have hlen2 : w * h ≤ 6 * 6 := Nat.mul_le_mul (by omega) (by omega)
  have at1 := At_vals w h W (by omega) (by omega) hW
  have hval := Hearing_val w h W (by omega) (by omega) hW
  obtain ⟨F, hF⟩ : ∃ F, cellsL (fr W.l) w h = F := ⟨_, rfl⟩
  rw [hF] at ea hcm hlen at1 hval
  have hFl : F.length ≤ 36 := by omega
  have hsb : ∀ q ∈ F, SB q := fun q hq => by
    have := hcm q hq
    unfold SB
    omega
  have ef : Ev (fun k => spec_P6Free.f k (w : Int) (h : Int) W) F := by
    unfold spec_P6Free.f
    exact Ev.bind ea (Ev.now _)
  refine Ev.succ ?_
  simp only [laws_FnSounds.j0]
  refine Ev.neg Bool.false_ne_true (Ev.bind er (Ev.bind ef ?_))
  by_cases hz : (F.length : Int) = 0
  · exact Ev.pos hz (Ev.now _)
  refine Ev.neg hz ?_
  obtain ⟨ia, pa, pa0, pa1⟩ := P6Pick_ok l0 B0 (F.length : Int) (by omega)
  obtain ⟨ib, pb, pb0, pb1⟩ := P6Pick_ok l1 B1 (F.length : Int) (by omega)
  obtain ⟨io, po, po0, po1⟩ := P6Pick_ok ([7] ++ l1) B2 (F.length : Int) (by omega)
  obtain ⟨na, rfl⟩ : ∃ n : Nat, ia = n := ⟨ia.toNat, by omega⟩
  obtain ⟨nb, rfl⟩ : ∃ n : Nat, ib = n := ⟨ib.toNat, by omega⟩
  obtain ⟨no, rfl⟩ : ∃ n : Nat, io = n := ⟨io.toNat, by omega⟩
  have ma := getD_mem F na z34 (by omega)
  have mb := getD_mem F nb z34 (by omega)
  have mo := getD_mem F no z34 (by omega)
  refine Ev.bind (Ev.const pa) (Ev.pos pa0 (Ev.pos pa1 (Ev.bind (Ev.const pb) (Ev.pos pb0 (Ev.pos pb1 ?_)))))
  simp only [rdT_getS]
  obtain ⟨a, hae⟩ : ∃ a, F.getD na z34 = a := ⟨_, rfl⟩
  obtain ⟨b, hbe⟩ : ∃ b, F.getD nb z34 = b := ⟨_, rfl⟩
  obtain ⟨c, hce⟩ : ∃ c, F.getD no z34 = c := ⟨_, rfl⟩
  rw [hae] at ma
  rw [hbe] at mb
  rw [hce] at mo
  rw [hae, hbe]
  have sa := hsb a ma
  have sb := hsb b mb
  have so := hsb c mo
  have rg := sC_range a b
  have last : Ev (fun k => laws_FnSounds.l0 k l1 F (sC a b) (F.length : Int) 9 (w : Int) (h : Int) W a.f0 a.f1 b.f0 b.f1) true := by
    refine Ev.succ ?_
    simp only [laws_FnSounds.l0]
    refine Ev.neg (by omega) (Ev.bind (a := [7]) (Ev.now _) (Ev.pos (by simp only [List.length_singleton]; omega) (Ev.bind (Ev.const po) (Ev.pos po0 (Ev.pos po1 ?_)))))
    rw [rdT_getS, hce]
    have rg2 := sC_range a c
    have hcell : ∀ q ∈ F, isC (w : Int) (h : Int) q.f0 q.f1 = true := fun q hq => by
      have := hcm q hq
      unfold isC inC
      simp
      omega
    obtain ⟨v1, v2⟩ := hval [b, c] [sC a b, sC a c] (by simp) (by simp) (by unfold allCell; simp [hcell b mb, hcell c mo]) (by
      show (inC (sC a b) 0 8 && (inC (sC a c) 0 8 && true)) = true
      unfold inC
      simp
      omega) (fun q hq => by
      rcases List.mem_cons.1 hq with rfl | hq
      · exact sb
      · rw [List.mem_singleton] at hq
        subst hq
        exact so)
    obtain ⟨v3, _⟩ := at1 b (sC a b) rg mb
    rw [heardF2] at v1 v2
    have hl : (F.filter fun q => sC q b == sC a b && sC q c == sC a c).length ≤ 1000 := Nat.le_trans (List.length_filter_le _ _) (by omega)
    refine Ev.bind (Sound_s a c sa so) (Ev.bind (a := [sC a b, sC a c]) (Ev.now _) (Ev.bind v2 (Ev.bind v1 (Ev.bind v3 (Ev.pos (by trivial) (Ev.pos (by trivial) (Ev.pos (by trivial) (Ev.bind (Same_sp _ hl) (Ev.pos rfl (Ev.bind (Has_ev _ hl _ _) (Ev.pos ?_ (Ev.pos (by trivial) (Ev.eq (Ev.now _) ?_)))))))))))))
    · rw [has_filter F _ a ma]
      simp
    · refine decide_eq_true ?_
      have : (F.filter fun q => sC q b == sC a b && sC q c == sC a c).length ≤ (F.filter fun q => sC q b == sC a b).length := by
        rw [show (F.filter fun q => sC q b == sC a b && sC q c == sC a c) = (F.filter fun q => sC q b == sC a b).filter fun q => sC q c == sC a c by
          rw [List.filter_filter]
          congr 1
          funext q
          rw [Bool.and_comm]]
        exact List.length_filter_le _ _
      exact Int.ofNat_le.2 this
  have loop : ∀ n k : Nat, k + n = 9 → Ev (fun m => laws_FnSounds.l0 m l1 F (sC a b) ((F.filter fun q => decide (sC q b < (k : Int))).length : Int) (k : Int) (w : Int) (h : Int) W a.f0 a.f1 b.f0 b.f1) true := by
    intro n
    induction n with
    | zero =>
      intro k hk
      obtain rfl : k = 9 := by omega
      have : (F.filter fun q => decide (sC q b < ((9 : Nat) : Int))) = F := List.filter_eq_self.2 fun q _ => decide_eq_true (by have := sC_range q b; omega)
      rw [this]
      exact last
    | succ n ih =>
      intro k hk
      have e := ih (k + 1) (by omega)
      obtain ⟨v1, v2⟩ := at1 b (k : Int) (by omega) mb
      have hl : (F.filter fun q => sC q b == (k : Int)).length ≤ 1000 := Nat.le_trans (List.length_filter_le _ _) (by omega)
      have hcs := cnt_step (fun q => sC q b) (k : Int) F
      obtain ⟨G, hG⟩ : ∃ G, (F.filter fun q => sC q b == (k : Int)) = G := ⟨_, rfl⟩
      have hGm : ∀ q ∈ G, q ∈ F ∧ sC q b = (k : Int) := fun q hq => by
        rw [← hG] at hq
        have := List.mem_filter.1 hq
        exact ⟨this.1, by simpa using this.2⟩
      have hhas := has_filter F (fun q => sC q b == (k : Int)) a ma
      rw [hG] at v1 v2 hl hcs hhas
      obtain ⟨T, hT⟩ : ∃ T, (F.filter fun q => decide (sC q b < (k : Int))).length = T := ⟨_, rfl⟩
      rw [hT] at hcs ⊢
      have hTl : T ≤ 36 := by rw [← hT]; exact Nat.le_trans (List.length_filter_le _ _) hFl
      have inner : ∀ m i : Nat, i + m = G.length → Ev (fun z => laws_FnSounds.l1 z l1 F (sC a b) (T : Int) (k : Int) G (i : Int) (w : Int) (h : Int) W a.f0 a.f1 b.f0 b.f1) true := by
        intro m
        induction m with
        | zero =>
          intro i hi
          refine Ev.succ ?_
          simp only [laws_FnSounds.l1]
          rw [wint ((T : Int) + (G.length : Int)) (by omega) (by omega), wnat k 9 (by omega) (by omega)]
          refine Ev.neg (by omega) ?_
          have hc2 : ((F.filter fun q => decide (sC q b < ((k + 1 : Nat) : Int))).length : Int) = (T : Int) + (G.length : Int) := by
            rw [← Int.natCast_add, ← hcs]
            rfl
          rw [hc2] at e
          exact e
        | succ m ihm =>
          intro i hi
          have hgi := hGm _ (getD_mem G i z34 (by omega))
          refine Ev.succ ?_
          simp only [laws_FnSounds.l1]
          rw [rdT_getS, Sound_i _ _ (hsb _ hgi.1) sb, wnat i 1000 (by omega) (by omega)]
          exact Ev.pos (by omega) (Ev.pos (by omega) (Ev.bind (Ev.now _) (Ev.pos hgi.2 (ihm (i + 1) (by omega)))))
      refine Ev.succ ?_
      simp only [laws_FnSounds.l0]
      refine Ev.pos (by omega) (Ev.bind v2 (Ev.bind v1 (Ev.pos (by trivial) (Ev.pos (by trivial) (Ev.bind (Same_sp _ hl) (Ev.pos rfl (Ev.bind (Has_ev _ hl _ _) (Ev.neg ?_ (inner G.length 0 (by omega))))))))))
      rw [hhas]
      have : (sC a b == (k : Int)) = ((k : Int) == sC a b) := by rw [Bool.eq_iff_iff, beq_iff_eq, beq_iff_eq]; omega
      simp [this]
  have j1 : Ev (fun k => laws_FnSounds.j1 k l1 F (sC a b) false (w : Int) (h : Int) W a.f0 a.f1 b.f0 b.f1) true := by
    refine Ev.succ ?_
    simp only [laws_FnSounds.j1]
    refine Ev.neg Bool.false_ne_true ?_
    have := loop 9 0 rfl
    have h2 : (F.filter fun q => decide (sC q b < ((0 : Nat) : Int))).length = 0 := by
      rw [List.length_eq_zero_iff, List.filter_eq_nil_iff]
      intro q _
      have := sC_range q b
      simp only [decide_eq_true_eq]
      omega
    rw [h2] at this
    exact this
  rw [Sound_i a b sa sb, Sound_i b a sb sa]
  refine Ev.bind (Ev.now _) (Ev.bind (Sound_s a b sa sb) (Ev.bind (Ev.now _) (Ev.pos (by trivial) (Ev.neg (by omega) (Ev.neg (by omega) (Ev.neg ?_ ?_))))))
  · rw [sC_eight a b]
    simp
  · by_cases hlt : sC a b < 8
    · exact Ev.pos hlt (Ev.pos (sC_back a b hlt) (Ev.neg (by omega) j1))
    · have h8 : sC a b = 8 := by omega
      refine Ev.neg hlt (Ev.pos h8 ?_)
      rw [sC_back8 a b h8]
      exact j1
end Go.Proofs.Ytoiiabnnddlcbaa.Q
end
section
namespace Go.Proofs.Ytoiiabnnddlcbaa.fnSounds
open Go.ChangeShapes Go.WideShapes Go.ChangeAt Go.RowKit Go.Proofs.YtoiiabnnddlcbaaW.PrintWords Go.Proofs.YtoiiabnnddlcbaaW.PrintLast Go.Proofs.Ytoiiabnnddlcbaa.La Go.Proofs.Ytoiiabnnddlcbaa.Rw Go.Proofs.Ytoiiabnnddlcbaa.PB
open Go.ChangeMaps (open_string shut_string)
set_option linter.unusedVariables false
set_option maxRecDepth 100000 in
set_option maxHeartbeats 1000000 in
theorem lifted (os : Os) (started : os.Started) (H : Type) (enc : TypeId × Value → H) :
    ReturnsInHanded {} Try.checked os 11 .any (Rows.fnSoundsSpec.pre6 enc Try.prog Try.f11 Rows.fnSoundsRow.domain false) (Rows.fnSoundsSpec.post enc Try.prog Try.f11 false true false false) := by
  refine returnsInHanded_of_change_sized (C := Try.checked) own started (by kernel_rfl) Try.func11
    (ChangeSpec.witness6 (enc := enc) (C := Try.checked) false ⟨#[], #[.slice none 0 0, .slice none 0 0], []⟩ 8 (by kernel_rfl) (by kernel_rfl) (by kernel_rfl) (by kernel_rfl)) ?_
  intro W base args ds gs before hval0 hW hcnd hsz0 _
  have hval : ∀ (j : Nat) t v, Try.f11.params[j]? = some t → args[j]? = some v → Value.okWide Try.prog W .any base t v := hval0
  have hW' := hW
  obtain ⟨p, q, hA0, hV, rfl, hfz, hnd⟩ := hW
  have hA : DataW.TrodAll enc Try.prog W 0 (fun _ => true) true Try.f11.params.toList args.toList ds p := hA0
  rw [Try.params11] at hA hval
  obtain ⟨v0, vs0, d0, ds0, p0, q0, hargs, rfl, rfl, h0, r0⟩ := trodAll_cons hA
  obtain ⟨v1, vs1, d1, ds1, p1, q1, rfl, rfl, rfl, h1, r1⟩ := trodAll_cons r0
  obtain ⟨rfl, rfl, rfl⟩ := trodAll_nil r1
  obtain rfl : args = #[v0, v1] := by cases args; simp_all
  obtain ⟨rfl, rfl⟩ := trodVars_none hV
  have k0 := h0
  have lt0 : ∀ x ∈ p0, x.block < W.heap.size := by obtain ⟨m, hm⟩ := k0; exact DataW.trod_lt m _ _ _ hm
  obtain ⟨a0, len0, cap0, rfl⟩ := okWide_slice Try.underlying56 (hval 0 56 v0 rfl rfl)
  obtain ⟨l0, rfl, hr0, hm0, hw0, hc0⟩ := openI56 h0
  have k1 := h1
  have lt1 : ∀ x ∈ p1, x.block < W.heap.size := by obtain ⟨m, hm⟩ := k1; exact DataW.trod_lt m _ _ _ hm
  obtain ⟨a1, len1, cap1, rfl⟩ := okWide_slice Try.underlying56 (hval 1 56 v1 rfl rfl)
  obtain ⟨l1, rfl, hr1, hm1, hw1, hc1⟩ := openI56 h1
  clear hA0 hval0 hsz0
  obtain ⟨k, hk⟩ := Ev.rounds (Q.FnSounds l0 l1 hm0 hw0 hm1 hw1)
  refine (laws_FnSounds.calls k _ _ l0 _ _ l1 true W hr0 hc0 hr1 hc1 hk).mono fun e W' ⟨he, bel0⟩ => ?_
  subst he
  have bel : Below W.heap.size W W' := by first | exact bel0 | exact bel0.below
  exact ⟨_, rfl, _, _, _, [], _, [], hW', trodAll_mk1 (shut_bool Try.underlying4 _), (trodAll_cons_mk (Below.trod laidOut (by kernel_rfl) (of_decide_eq_true (by kernel_rfl)) k0 bel lt0) (trodAll_cons_mk (Below.trod laidOut (by kernel_rfl) (of_decide_eq_true (by kernel_rfl)) k1 bel lt1) trodAll_mk0)), rfl, bel.frame _, fun h => by cases h⟩
theorem over : Rows.fnSoundsRow.holds Try.pinned (OpenSpec.ofChange Rows.fnSoundsSpec) :=
  OpenClaim.holds_of_wide 11 Try.f11 rfl rfl rfl rfl rfl rfl rfl ⟨rfl, rfl, rfl, rfl, rfl⟩ rfl rfl rfl rfl rfl (by kernel_rfl) Try.func11 (by kernel_rfl)
    (of_decide_eq_true (by kernel_rfl)) (by unfold Func.isWrapper; first | (rw [if_pos (by decide +kernel)]; kernel_rfl) | (rw [if_neg (by decide +kernel)]; exact ⟨rfl, rfl⟩))
    (fun os started H enc _ => lifted os started H enc)
end Go.Proofs.Ytoiiabnnddlcbaa.fnSounds
namespace Go.Proofs.Ytoiiabnnddlcbaa
theorem fnSounds_holds : Rows.FnSoundsSaid := fnSounds.over
end Go.Proofs.Ytoiiabnnddlcbaa
end
