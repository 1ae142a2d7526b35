/- The statement FnExactPostsBound of this program: what its proof uses, part 14 of 14. The call returns true for all arguments. No condition of its own. -/
import Derived.IntWalk
import Derived.Test.YtmcjgpbhjpakhaaZFnExactPostsBound12
section
namespace Go.Proofs.Ytmcjgpbhjpakhaa.Q
open Go.RowKit Go.Proofs.YtmcjgpbhjpakhaaW.PrintWords Go.Proofs.YtmcjgpbhjpakhaaW.PrintLast
set_option linter.unusedVariables false
set_option linter.unusedSimpArgs false
theorem wnat (i n : Nat) (h : i < n) (hn : n ≤ 9223372036854775807) : wrap64 ((i : Int) + 1) = ((i + 1 : Nat) : Int) := by unfold wrap64; omega
theorem wint (a : Int) (h0 : -9223372036854775808 ≤ a) (h1 : a ≤ 9223372036854775807) : wrap64 a = a := by unfold wrap64; omega
theorem rd_nat (xs : List Int) (i : Nat) : rd xs (i : Int) = xs.getD i 0 := by simp [rd]
theorem Ev.round {α : Type} {g f : Nat → Option α} {r : α} (k : Ev f r) (h : ∀ k, g (k + 1) = f k) : Ev g r := Ev.step h k
theorem Ev.eq {α : Type} {g : Nat → Option α} {r r' : α} (h : Ev g r) (e : r = r') : Ev g r' := e ▸ h
theorem Ev.ite {α : Type} {c : Prop} [Decidable c] {f g : Nat → Option α} {r : α} (h : c → Ev f r) (h' : ¬ c → Ev g r) : Ev (fun k => if c then f k else g k) r := by
  by_cases hc : c
  · simp only [hc, if_true]; exact h hc
  · simp only [hc, if_false]; exact h' hc
theorem Ev.pos {α : Type} {c : Prop} [Decidable c] {f g : Nat → Option α} {r : α} (hc : c) (h : Ev f r) : Ev (fun k => if c then f k else g k) r := by simp only [hc, if_true]; exact h
theorem Ev.neg {α : Type} {c : Prop} [Decidable c] {f g : Nat → Option α} {r : α} (hc : ¬ c) (h : Ev g r) : Ev (fun k => if c then f k else g k) r := by simp only [hc, if_false]; exact h
theorem take_set {α : Type} (xs : List α) (i : Nat) (a : α) (h : i < xs.length) : (xs.set i a).take (i + 1) = xs.take i ++ [a] := by
  rw [List.take_succ_eq_append_getElem (by simpa using h)]
  simp [List.take_set]
  rw [List.set_eq_of_length_le (by simp; omega)]
theorem take_get {α : Type} (xs : List α) (i : Nat) (d : α) (h : i < xs.length) : xs.take (i + 1) = xs.take i ++ [xs.getD i d] := by
  rw [List.take_succ_eq_append_getElem h]
  simp [List.getD_eq_getElem?_getD, List.getElem?_eq_getElem h]
theorem Ev.map_loop {α β : Type} (L : Nat → List β → Int → Option (List β)) (g : α → β) (d : α) (x0 : List α) (hn : x0.length ≤ 9223372036854775807)
    (hstep : ∀ (i : Nat) (x3 : List β) (r : List β), i < x0.length → x3.length = x0.length → Ev (fun k => L k (x3.set i (g (x0.getD i d))) ((i + 1 : Nat) : Int)) r → Ev (fun k => L k x3 (i : Int)) r)
    (hend : ∀ x3 : List β, x3.length = x0.length → Ev (fun k => L k x3 (x0.length : Int)) x3) :
    ∀ x3 : List β, x3.length = x0.length → Ev (fun k => L k x3 0) (x0.map g) := by
  have key : ∀ (n i : Nat) (x3 : List β), i + n = x0.length → x3.length = x0.length → x3.take i = (x0.take i).map g → Ev (fun k => L k x3 (i : Int)) (x0.map g) := by
    intro n
    induction n with
    | zero =>
      intro i x3 hi hl ht
      obtain rfl : i = x0.length := by omega
      have : x3 = x0.map g := by
        rw [List.take_of_length_le (by omega), List.take_of_length_le (by omega)] at ht
        exact ht
      rw [← this]
      exact hend x3 hl
    | succ n ih =>
      intro i x3 hi hl ht
      refine hstep i x3 _ (by omega) hl (ih (i + 1) _ (by omega) (by simpa using hl) ?_)
      rw [take_set _ _ _ (by omega), take_get _ _ d (by omega), ht, List.map_append]
      rfl
  intro x3 hl
  exact key x0.length 0 x3 (by omega) hl (by simp)
end Go.Proofs.Ytmcjgpbhjpakhaa.Q
end
section
namespace Go.Proofs.Ytmcjgpbhjpakhaa.Q
open Go.RowKit Go.Proofs.YtmcjgpbhjpakhaaW.PrintWords Go.Proofs.YtmcjgpbhjpakhaaW.PrintLast Go.Proofs.Ytmcjgpbhjpakhaa.PB
set_option linter.unusedVariables false
set_option linter.unusedSimpArgs false
def inC (a lo hi : Int) : Bool := decide (lo ≤ a) && decide (a ≤ hi)
theorem In_c (a lo hi : Int) : spec_l00In.f a lo hi = some (inC a lo hi) := by
  unfold spec_l00In.f inC
  split
  · rename_i h; simp [h]
  · rename_i h; simp [h]
theorem Ev.const {α : Type} {x : Option α} {a : α} (h : x = some a) : Ev (fun _ => x) a := by subst h; exact Ev.now a
theorem Ev.succ {α : Type} {g : Nat → Option α} {r : α} (h : Ev (fun k => g (k + 1)) r) : Ev g r := Ev.step (fun _ => rfl) h
theorem getD_mem {α : Type} (l : List α) (i : Nat) (d : α) (h : i < l.length) : l.getD i d ∈ l := by
  simp [List.getD_eq_getElem?_getD, List.getElem?_eq_getElem h]
theorem drop_get {α : Type} (xs : List α) (i : Nat) (d : α) (h : i < xs.length) : xs.drop i = xs.getD i d :: xs.drop (i + 1) := by
  rw [List.drop_eq_getElem_cons h]
  simp [List.getD_eq_getElem?_getD, List.getElem?_eq_getElem h]
end Go.Proofs.Ytmcjgpbhjpakhaa.Q
end
section
namespace Go.Proofs.Ytmcjgpbhjpakhaa.Q
open Go.RowKit Go.Proofs.YtmcjgpbhjpakhaaW.PrintWords Go.Proofs.YtmcjgpbhjpakhaaW.PrintLast Go.Proofs.YtmcjgpbhjpakhaaW.PrintMore Go.Proofs.Ytmcjgpbhjpakhaa.PB
set_option linter.unusedVariables false
set_option linter.unusedSimpArgs false
set_option maxRecDepth 100000 in
theorem wrap_u16 (n : Int) : IntKind.u16.wrap n = n % 65536 := by simp [IntKind.wrap, IntKind.bits, IntKind.signed]
theorem wraps_u16 (n : Int) (h₀ : 0 ≤ n) (h₁ : n < 2 ^ 16) : IntKind.u16.wrap n = n := by rw [wrap_u16]; omega
theorem u16_and1 {x : Int} (h₀ : 0 ≤ x) (h₁ : x < 65536) : Go.bits .and .u16 x 1 = x % 2 := bits_mask .u16 16 (by decide) wraps_u16 1 (by decide) x h₀ h₁
def bitV (v : Int) (x : Nat) : Int := v / 2 ^ x % 2
theorem shr_bit {v : Int} (h₀ : 0 ≤ v) (h₁ : v < 65536) {x : Nat} (hx : x < 10) : Go.bits .and .u16 (shr .u16 v (x : Int)) 1 = bitV v x := by
  have hs : shr .u16 v (x : Int) = v / 2 ^ x := by
    unfold shr
    rw [Int.toNat_natCast, Nat.min_eq_left (show x ≤ IntKind.u16.bits by unfold IntKind.bits; dsimp only; omega)]
  have hp : (0 : Int) < 2 ^ x := Int.pow_pos (by omega)
  have h2 : v / 2 ^ x ≤ v := Int.ediv_le_self _ h₀
  rw [hs, u16_and1 (Int.ediv_nonneg h₀ (by omega)) (by omega)]
  rfl
theorem i8_small (x : Nat) (h : x < 128) : IntKind.i8.wrap (x : Int) = x := by simp [IntKind.wrap, IntKind.bits, IntKind.signed]; omega
theorem u64_small (x : Nat) (h : x < 128) : IntKind.u64.wrap (x : Int) = x := by simp [IntKind.wrap, IntKind.bits, IntKind.signed]; omega
theorem wf_u16 {n : Int} (h : (Lit.int .u16 n).wf = true) : 0 ≤ n ∧ n < 65536 := by
  simp [Lit.wf, IntKind.min, IntKind.max, IntKind.signed, IntKind.bits] at h
  omega
theorem wf_i8 {n : Int} (h : (Lit.int .i8 n).wf = true) : -128 ≤ n ∧ n ≤ 127 := by
  simp [Lit.wf, IntKind.min, IntKind.max, IntKind.signed, IntKind.bits] at h
  omega
theorem rd_bound (l : List Int) (h : ∀ x ∈ l, 0 ≤ x ∧ x < 65536) (i : Int) : 0 ≤ rd l i ∧ rd l i < 65536 := by
  unfold rd
  by_cases hi : i.toNat < l.length
  · exact h _ (getD_mem l _ 0 hi)
  · rw [List.getD_eq_getElem?_getD, List.getElem?_eq_none (by omega)]
    show (0:Int) ≤ 0 ∧ (0:Int) < 65536
    omega
end Go.Proofs.Ytmcjgpbhjpakhaa.Q
end
section
namespace Go.Proofs.Ytmcjgpbhjpakhaa.Q
open Go.RowKit Go.Proofs.YtmcjgpbhjpakhaaW.PrintWords Go.Proofs.YtmcjgpbhjpakhaaW.PrintLast Go.Proofs.YtmcjgpbhjpakhaaW.PrintMore Go.Proofs.Ytmcjgpbhjpakhaa.La Go.Proofs.Ytmcjgpbhjpakhaa.PB
set_option linter.unusedVariables false
set_option linter.unusedSimpArgs false
theorem Within_c (a lo hi : Int) : impl_within.f a lo hi = some (inC a lo hi) := by
  unfold impl_within.f inC
  split
  · rename_i h; simp [h]
  · rename_i h; simp [h]
theorem u64_int {a : Int} (h0 : 0 ≤ a) (h1 : a < 128) : IntKind.u64.wrap a = a := by
  obtain ⟨n, rfl⟩ : ∃ n : Nat, a = n := ⟨a.toNat, by omega⟩
  exact u64_small n (by omega)
theorem mn_small {a : Int} (h : a ≤ 10) : mn a 10 = a := by unfold mn; split <;> omega
theorem Ok_loop (s0 s1 : Int) (W : LA 10) (h0 : 1 ≤ s0 ∧ s0 ≤ 10) : ∀ n x : Nat, x + n = 10 → ∃ b, Ev (fun k => spec_l01Ok.l0 k (x : Int) s0 s1 W) b ∧ Ev (fun k => impl_ValidRoom.l0 k W (x : Int) s0 s1 W) b := by
  have hu : IntKind.u64.wrap s0 = s0 := u64_int (by omega) (by omega)
  intro n
  induction n with
  | zero =>
    intro x hx
    obtain rfl : x = 10 := by omega
    refine ⟨true, Ev.succ ?_, Ev.succ ?_⟩
    · simp only [spec_l01Ok.l0]
      exact Ev.neg (by omega) (Ev.now true)
    · simp only [impl_ValidRoom.l0]
      exact Ev.neg (by omega) (Ev.now true)
  | succ n ih =>
    intro x hx
    obtain ⟨b, hb1, hb2⟩ := ih (x + 1) (by omega)
    by_cases p1 : shr .u16 (rd W.l (x : Int)) s0 = 0
    · by_cases p2 : (x : Int) ≥ wrap64 s1
      · by_cases p3 : rd W.l (x : Int) = 0
        · refine ⟨b, Ev.succ ?_, Ev.succ ?_⟩
          · simp only [spec_l01Ok.l0]
            rw [hu, wnat x 10 (by omega) (by omega)]
            exact Ev.pos (by omega) (Ev.pos (by omega) (Ev.pos (by omega) (Ev.pos p1 (Ev.pos p2 (Ev.pos p3 hb1)))))
          · simp only [impl_ValidRoom.l0]
            rw [wnat x 10 (by omega) (by omega)]
            exact Ev.pos (by omega) (Ev.pos (by omega) (Ev.pos (by omega) (Ev.pos p1 (Ev.pos p2 (Ev.pos p3 hb2)))))
        · refine ⟨false, Ev.succ ?_, Ev.succ ?_⟩
          · simp only [spec_l01Ok.l0]
            rw [hu]
            exact Ev.pos (by omega) (Ev.pos (by omega) (Ev.pos (by omega) (Ev.pos p1 (Ev.pos p2 (Ev.neg p3 (Ev.now false))))))
          · simp only [impl_ValidRoom.l0]
            exact Ev.pos (by omega) (Ev.pos (by omega) (Ev.pos (by omega) (Ev.pos p1 (Ev.pos p2 (Ev.neg p3 (Ev.now false))))))
      · refine ⟨b, Ev.succ ?_, Ev.succ ?_⟩
        · simp only [spec_l01Ok.l0]
          rw [hu, wnat x 10 (by omega) (by omega)]
          exact Ev.pos (by omega) (Ev.pos (by omega) (Ev.pos (by omega) (Ev.pos p1 (Ev.neg p2 hb1))))
        · simp only [impl_ValidRoom.l0]
          rw [wnat x 10 (by omega) (by omega)]
          exact Ev.pos (by omega) (Ev.pos (by omega) (Ev.pos (by omega) (Ev.pos p1 (Ev.neg p2 hb2))))
    · refine ⟨false, Ev.succ ?_, Ev.succ ?_⟩
      · simp only [spec_l01Ok.l0]
        rw [hu]
        exact Ev.pos (by omega) (Ev.pos (by omega) (Ev.pos (by omega) (Ev.neg p1 (Ev.now false))))
      · simp only [impl_ValidRoom.l0]
        exact Ev.pos (by omega) (Ev.pos (by omega) (Ev.pos (by omega) (Ev.neg p1 (Ev.now false))))
theorem Ok_both (s0 s1 : Int) (W : LA 10) (b0 : -128 ≤ s0 ∧ s0 ≤ 127) (b1 : -128 ≤ s1 ∧ s1 ≤ 127) :
    ∃ b, Ev (fun k => spec_l01Ok.f k s0 s1 W) b ∧ Ev (fun k => impl_ValidRoom.f k s0 s1 W) b ∧ (b = true → (1 ≤ s0 ∧ s0 ≤ 10) ∧ (1 ≤ s1 ∧ s1 ≤ 10)) := by
  have e0 := wint s0 (by omega) (by omega)
  have e1 := wint s1 (by omega) (by omega)
  have spec0 : ∀ b1 : Bool, Ev (fun k => spec_l01Ok.j0 k true s0 s1 W) false := fun _ => Ev.succ (by simp only [spec_l01Ok.j0]; exact Ev.pos trivial (Ev.now false))
  have impl0 : ∀ b1 : Bool, Ev (fun k => impl_ValidRoom.j0 k true s0 s1 W) false := fun _ => Ev.succ (by simp only [impl_ValidRoom.j0]; exact Ev.pos trivial (Ev.now false))
  by_cases h0 : inC s0 1 10 = true
  · by_cases h1 : inC s1 1 10 = true
    · have h0' : 1 ≤ s0 ∧ s0 ≤ 10 := by unfold inC at h0; simpa using h0
      have h1' : 1 ≤ s1 ∧ s1 ≤ 10 := by unfold inC at h1; simpa using h1
      obtain ⟨b, hb1, hb2⟩ := Ok_loop s0 s1 W h0' 10 0 rfl
      refine ⟨b, ?_, ?_, fun _ => ⟨h0', h1'⟩⟩
      · unfold spec_l01Ok.f
        rw [e0, e1, In_c, In_c, h0, h1]
        simp only [Option.bind_some, if_true, Bool.not_true]
        refine Ev.succ ?_
        simp only [spec_l01Ok.j0]
        exact Ev.neg (by simp) hb1
      · unfold impl_ValidRoom.f
        rw [e0, e1, Within_c, Within_c, h0, h1]
        simp only [Option.bind_some, if_true, Bool.not_true]
        refine Ev.succ ?_
        simp only [impl_ValidRoom.j0]
        exact Ev.neg (by simp) hb2
    · have h1' : inC s1 1 10 = false := by simpa using h1
      refine ⟨false, ?_, ?_, fun h => by cases h⟩
      · unfold spec_l01Ok.f
        rw [e0, e1, In_c, In_c, h0, h1']
        simp only [Option.bind_some, if_true, Bool.not_false]
        exact spec0 true
      · unfold impl_ValidRoom.f
        rw [e0, e1, Within_c, Within_c, h0, h1']
        simp only [Option.bind_some, if_true, Bool.not_false]
        exact impl0 true
  · have h0' : inC s0 1 10 = false := by simpa using h0
    refine ⟨false, ?_, ?_, fun h => by cases h⟩
    · unfold spec_l01Ok.f
      rw [e0, In_c, h0']
      simp only [Option.bind_some, Bool.false_eq_true, if_false]
      exact spec0 true
    · unfold impl_ValidRoom.f
      rw [e0, Within_c, h0']
      simp only [Option.bind_some, Bool.false_eq_true, if_false]
      exact impl0 true
def fr (W : List Int) (x y : Int) : Bool := bitV (rd W y) x.toNat == 0
theorem shr_div {v : Int} {x : Nat} (hx : x < 10) : shr .u16 v (x : Int) = v / 2 ^ x := by
  unfold shr
  rw [Int.toNat_natCast, Nat.min_eq_left (show x ≤ IntKind.u16.bits by unfold IntKind.bits; dsimp only; omega)]
theorem Free_s (s0 s1 : Int) (W : LA 10) (hb : ∀ i, 0 ≤ rd W.l i ∧ rd W.l i < 65536) (h0 : s0 ≤ 10) (h1 : s1 ≤ 10) (x y : Nat) (hx : (x : Int) < s0) (hy : (y : Int) < s1) :
    spec_l01Free.f s0 s1 W (x : Int) (y : Int) = some (fr W.l (x : Int) (y : Int)) := by
  unfold spec_l01Free.f spec_l01Is.f
  rw [wint s0 (by omega) (by omega), wint s1 (by omega) (by omega), wint (x : Int) (by omega) (by omega), wint (y : Int) (by omega) (by omega), wint (s0 - 1) (by omega) (by omega), wint (s1 - 1) (by omega) (by omega), In_c, In_c]
  rw [show inC (x : Int) 0 (s0 - 1) = true by unfold inC; simp; omega, show inC (y : Int) 0 (s1 - 1) = true by unfold inC; simp; omega]
  simp only [Option.bind_some, if_true]
  rw [if_pos (by omega), if_pos (by omega), u64_int (by omega) (by omega), if_pos (by omega), shr_div (by omega)]
  have hn : 0 ≤ rd W.l (y : Int) / 2 ^ x := Int.ediv_nonneg (hb _).1 (Int.le_of_lt (Int.pow_pos (by omega)))
  rw [Int.tmod_eq_emod_of_nonneg hn]
  unfold fr bitV
  rw [Int.toNat_natCast]
theorem Free_i (s0 s1 : Int) (W : LA 10) (hb : ∀ i, 0 ≤ rd W.l i ∧ rd W.l i < 65536) (h0 : s0 ≤ 10) (h1 : s1 ≤ 10) (x y : Nat) (hx : (x : Int) < s0) (hy : (y : Int) < s1) :
    impl_Room_isFree.f s0 s1 W (x : Int) (y : Int) = some (fr W.l (x : Int) (y : Int)) := by
  unfold impl_Room_isFree.f impl_Room_isCell.f
  rw [wint s0 (by omega) (by omega), wint s1 (by omega) (by omega), wint (x : Int) (by omega) (by omega), wint (y : Int) (by omega) (by omega), mn_small h0, mn_small h1, wint (s0 - 1) (by omega) (by omega), wint (s1 - 1) (by omega) (by omega), Within_c, Within_c]
  rw [show inC (x : Int) 0 (s0 - 1) = true by unfold inC; simp; omega, show inC (y : Int) 0 (s1 - 1) = true by unfold inC; simp; omega]
  simp only [Option.bind_some, if_true]
  rw [if_pos (by omega), if_pos (by omega), if_pos (by omega), shr_bit (hb _).1 (hb _).2 (by omega)]
  unfold fr
  rw [Int.toNat_natCast]
def rowL (p : Int → Int → Bool) (y : Int) (acc : List S54) : Nat → List S54
  | 0 => acc
  | x + 1 => if p (x : Int) y then rowL p y acc x ++ [⟨(x : Int), y⟩] else rowL p y acc x
def cellsL (p : Int → Int → Bool) (w : Nat) : Nat → List S54
  | 0 => []
  | y + 1 => rowL p (y : Int) (cellsL p w y) w
theorem rowL_len (p : Int → Int → Bool) (y : Int) (acc : List S54) : ∀ x, (rowL p y acc x).length ≤ acc.length + x
  | 0 => by simp [rowL]
  | x + 1 => by have := rowL_len p y acc x; rw [rowL]; split <;> simp <;> omega
theorem cellsL_len (p : Int → Int → Bool) (w : Nat) : ∀ y, (cellsL p w y).length ≤ w * y
  | 0 => by simp [cellsL]
  | y + 1 => by
    have h1 := cellsL_len p w y
    have h2 := rowL_len p (y : Int) (cellsL p w y) w
    rw [cellsL, Nat.mul_succ]
    omega
theorem rowL_mem (p : Int → Int → Bool) (w : Nat) (y : Int) (acc : List S54) (P : S54 → Prop) (ha : ∀ q ∈ acc, P q) (hp : ∀ x : Nat, x < w → P ⟨(x : Int), y⟩) : ∀ x, x ≤ w → ∀ q ∈ rowL p y acc x, P q
  | 0, _ => ha
  | x + 1, hx => by
    have ih := rowL_mem p w y acc P ha hp x (by omega)
    rw [rowL]
    split
    · intro q hq
      rcases List.mem_append.1 hq with h | h
      · exact ih q h
      · obtain rfl := List.mem_singleton.1 h
        exact hp x (by omega)
    · exact ih
theorem cellsL_mem (p : Int → Int → Bool) (w h : Nat) : ∀ y, y ≤ h → ∀ q ∈ cellsL p w y, (0 ≤ q.f0 ∧ q.f0 < w) ∧ (0 ≤ q.f1 ∧ q.f1 < h)
  | 0, _ => fun q hq => by simp [cellsL] at hq
  | y + 1, hy => rowL_mem p w (y : Int) _ _ (cellsL_mem p w h y (by omega)) (fun x hx => ⟨⟨by simp, by dsimp only; omega⟩, ⟨by simp, by dsimp only; omega⟩⟩) w (Nat.le_refl _)
theorem Ev.cells (p : Int → Int → Bool) (w h : Nat) (hw : w ≤ 10) (hh : h ≤ 10) (L0 : Nat → List S54 → Int → Option (List S54)) (L1 : Nat → List S54 → Int → Int → Option (List S54))
    (e0 : ∀ acc (y : Nat) r, y < h → Ev (fun k => L1 k acc (y : Int) 0) r → Ev (fun k => L0 k acc (y : Int)) r) (e0' : ∀ acc, Ev (fun k => L0 k acc (h : Int)) acc)
    (e1 : ∀ acc (y x : Nat) r, y < h → x < w → acc.length ≤ 1000 → Ev (fun k => L1 k (if p (x : Int) (y : Int) then acc ++ [⟨(x : Int), (y : Int)⟩] else acc) (y : Int) ((x + 1 : Nat) : Int)) r → Ev (fun k => L1 k acc (y : Int) (x : Int)) r)
    (e1' : ∀ acc (y : Nat) r, y < h → Ev (fun k => L0 k acc ((y + 1 : Nat) : Int)) r → Ev (fun k => L1 k acc (y : Int) (w : Int)) r) :
    Ev (fun k => L0 k [] 0) (cellsL p w h) := by
  have inner : ∀ (n x y : Nat) (acc : List S54) r, x + n = w → y < h → acc.length ≤ 900 → Ev (fun k => L0 k (rowL p (y : Int) acc w) ((y + 1 : Nat) : Int)) r → Ev (fun k => L1 k (rowL p (y : Int) acc x) (y : Int) (x : Int)) r := by
    intro n
    induction n with
    | zero =>
      intro x y acc r hx hy hl hr
      obtain rfl : x = w := by omega
      exact e1' _ y r hy hr
    | succ n ih =>
      intro x y acc r hx hy hl hr
      have := rowL_len p (y : Int) acc x
      exact e1 _ y x r hy (by omega) (by omega) (ih (x + 1) y acc r (by omega) hy hl hr)
  have outer : ∀ (n y : Nat), y + n = h → Ev (fun k => L0 k (cellsL p w y) (y : Int)) (cellsL p w h) := by
    intro n
    induction n with
    | zero =>
      intro y hy
      obtain rfl : y = h := by omega
      exact e0' _
    | succ n ih =>
      intro y hy
      have h1 := cellsL_len p w y
      have h2 : w * y ≤ 10 * 10 := Nat.mul_le_mul hw (by omega)
      exact e0 _ y _ (by omega) (inner w 0 y _ _ (by omega) (by omega) (by omega) (ih (y + 1) (by omega)))
  exact outer h 0 (by omega)
theorem i8_wnat (x : Nat) (h : x < 10) : IntKind.i8.wrap ((x : Int) + 1) = ((x + 1 : Nat) : Int) := by
  have := i8_small (x + 1) (by omega)
  rw [← this]
  congr 1
theorem All_s (s0 s1 : Int) (W : LA 10) (hb : ∀ i, 0 ≤ rd W.l i ∧ rd W.l i < 65536) (w h : Nat) (hw : w ≤ 10) (hh : h ≤ 10) (e0 : s0 = w) (e1 : s1 = h) : Ev (fun k => spec_l01All.f k s0 s1 W) (cellsL (fr W.l) w h) := by
  show Ev (fun k => spec_l01All.l0 k [] 0 s0 s1 W) _
  refine Ev.cells (fr W.l) w h hw hh (fun k acc y => spec_l01All.l0 k acc y s0 s1 W) (fun k acc y x => spec_l01All.l1 k acc y x s0 s1 W) ?_ ?_ ?_ ?_
  · intro acc y r hy hr
    refine Ev.succ ?_
    simp only [spec_l01All.l0]
    exact Ev.pos (by omega) hr
  · intro acc
    refine Ev.succ ?_
    simp only [spec_l01All.l0]
    exact Ev.neg (by omega) (Ev.now acc)
  · intro acc y x r hy hx hl hr
    refine Ev.succ ?_
    simp only [spec_l01All.l1]
    refine Ev.pos (by omega) ?_
    rw [Free_s s0 s1 W hb (by omega) (by omega) x y (by omega) (by omega), i8_wnat x (by omega)]
    simp only [Option.bind_some]
    cases hc : fr W.l (x : Int) (y : Int) with
    | true =>
      rw [hc] at hr
      simp only [if_true] at hr ⊢
      exact Ev.pos (by omega) hr
    | false =>
      rw [hc] at hr
      simp only [Bool.false_eq_true, if_false] at hr ⊢
      exact hr
  · intro acc y r hy hr
    refine Ev.succ ?_
    simp only [spec_l01All.l1]
    rw [i8_wnat y (by omega)]
    exact Ev.neg (by omega) hr
theorem All_i (s0 s1 : Int) (W : LA 10) (hb : ∀ i, 0 ≤ rd W.l i ∧ rd W.l i < 65536) (w h : Nat) (hw : w ≤ 10) (hh : h ≤ 10) (e0 : s0 = w) (e1 : s1 = h) : Ev (fun k => impl_Room_free.f k s0 s1 W) (cellsL (fr W.l) w h) := by
  unfold impl_Room_free.f
  refine Ev.bind (a := cellsL (fr W.l) w h) ?_ (Ev.now _)
  show Ev (fun k => impl_Room_cells__92.l0 k [] s1 0 s0 s1 W s0 s1 W) _
  refine Ev.cells (fr W.l) w h hw hh (fun k acc y => impl_Room_cells__92.l0 k acc s1 y s0 s1 W s0 s1 W) (fun k acc y x => impl_Room_cells__92.l1 k acc y s1 y s0 x s0 s1 W s0 s1 W) ?_ ?_ ?_ ?_
  · intro acc y r hy hr
    refine Ev.succ ?_
    simp only [impl_Room_cells__92.l0]
    exact Ev.pos (by omega) hr
  · intro acc
    refine Ev.succ ?_
    simp only [impl_Room_cells__92.l0]
    exact Ev.neg (by omega) (Ev.now acc)
  · intro acc y x r hy hx hl hr
    refine Ev.succ ?_
    simp only [impl_Room_cells__92.l1]
    refine Ev.pos (by omega) ?_
    rw [Free_i s0 s1 W hb (by omega) (by omega) x y (by omega) (by omega), i8_wnat x (by omega)]
    simp only [Option.bind_some]
    cases hc : fr W.l (x : Int) (y : Int) with
    | true =>
      rw [hc] at hr
      simp only [if_true] at hr ⊢
      exact Ev.pos (by omega) hr
    | false =>
      rw [hc] at hr
      simp only [Bool.false_eq_true, if_false] at hr ⊢
      exact hr
  · intro acc y r hy hr
    refine Ev.succ ?_
    simp only [impl_Room_cells__92.l1]
    rw [i8_wnat y (by omega)]
    exact Ev.neg (by omega) hr
def isC (s0 s1 x y : Int) : Bool := inC x 0 (s0 - 1) && inC y 0 (s1 - 1)
def frC (s0 s1 : Int) (W : LA 10) (x y : Int) : Bool := isC s0 s1 x y && fr W.l x y
theorem isC_bounds {s0 s1 x y : Int} (h : isC s0 s1 x y = true) : (0 ≤ x ∧ x < s0) ∧ (0 ≤ y ∧ y < s1) := by
  unfold isC inC at h
  simp at h
  omega
theorem Is_s (s0 s1 : Int) (W : LA 10) (h0 : 1 ≤ s0 ∧ s0 ≤ 10) (h1 : 1 ≤ s1 ∧ s1 ≤ 10) (x y : Int) (hx : -128 ≤ x ∧ x ≤ 127) (hy : -128 ≤ y ∧ y ≤ 127) : spec_l01Is.f s0 s1 W x y = some (isC s0 s1 x y) := by
  unfold spec_l01Is.f isC
  rw [wint s0 (by omega) (by omega), wint s1 (by omega) (by omega), wint x (by omega) (by omega), wint y (by omega) (by omega), wint (s0 - 1) (by omega) (by omega), wint (s1 - 1) (by omega) (by omega), In_c, In_c]
  simp only [Option.bind_some]
  cases inC x 0 (s0 - 1) <;> simp
theorem Is_i (s0 s1 : Int) (W : LA 10) (h0 : 1 ≤ s0 ∧ s0 ≤ 10) (h1 : 1 ≤ s1 ∧ s1 ≤ 10) (x y : Int) (hx : -128 ≤ x ∧ x ≤ 127) (hy : -128 ≤ y ∧ y ≤ 127) : impl_Room_isCell.f s0 s1 W x y = some (isC s0 s1 x y) := by
  unfold impl_Room_isCell.f isC
  rw [wint s0 (by omega) (by omega), wint s1 (by omega) (by omega), wint x (by omega) (by omega), wint y (by omega) (by omega), mn_small h0.2, mn_small h1.2, wint (s0 - 1) (by omega) (by omega), wint (s1 - 1) (by omega) (by omega), Within_c, Within_c]
  simp only [Option.bind_some]
  cases inC x 0 (s0 - 1) <;> simp
theorem Fr_s (s0 s1 : Int) (W : LA 10) (hb : ∀ i, 0 ≤ rd W.l i ∧ rd W.l i < 65536) (h0 : 1 ≤ s0 ∧ s0 ≤ 10) (h1 : 1 ≤ s1 ∧ s1 ≤ 10) (x y : Int) (hx : -128 ≤ x ∧ x ≤ 127) (hy : -128 ≤ y ∧ y ≤ 127) : spec_l01Free.f s0 s1 W x y = some (frC s0 s1 W x y) := by
  cases hc : isC s0 s1 x y with
  | true =>
    have hd := isC_bounds hc
    obtain ⟨n, rfl⟩ : ∃ n : Nat, x = n := ⟨x.toNat, by omega⟩
    obtain ⟨m, rfl⟩ : ∃ m : Nat, y = m := ⟨y.toNat, by omega⟩
    rw [Free_s s0 s1 W hb (by omega) (by omega) n m (by omega) (by omega)]
    unfold frC
    rw [hc]
    rfl
  | false =>
    unfold spec_l01Free.f frC
    rw [Is_s s0 s1 W h0 h1 x y hx hy, hc]
    rfl
theorem Fr_i (s0 s1 : Int) (W : LA 10) (hb : ∀ i, 0 ≤ rd W.l i ∧ rd W.l i < 65536) (h0 : 1 ≤ s0 ∧ s0 ≤ 10) (h1 : 1 ≤ s1 ∧ s1 ≤ 10) (x y : Int) (hx : -128 ≤ x ∧ x ≤ 127) (hy : -128 ≤ y ∧ y ≤ 127) : impl_Room_isFree.f s0 s1 W x y = some (frC s0 s1 W x y) := by
  cases hc : isC s0 s1 x y with
  | true =>
    have hd := isC_bounds hc
    obtain ⟨n, rfl⟩ : ∃ n : Nat, x = n := ⟨x.toNat, by omega⟩
    obtain ⟨m, rfl⟩ : ∃ m : Nat, y = m := ⟨y.toNat, by omega⟩
    rw [Free_i s0 s1 W hb (by omega) (by omega) n m (by omega) (by omega)]
    unfold frC
    rw [hc]
    rfl
  | false =>
    unfold impl_Room_isFree.f frC
    rw [Is_i s0 s1 W h0 h1 x y hx hy, hc]
    rfl
def RB (s0 s1 : Int) (W : LA 10) : Prop := (-128 ≤ s0 ∧ s0 ≤ 127) ∧ (-128 ≤ s1 ∧ s1 ≤ 127) ∧ ∀ i, 0 ≤ rd W.l i ∧ rd W.l i < 65536
theorem rb_mk {s0 s1 : Int} {W : LA 10} (w0 : (Lit.int .i8 s0).wf = true) (w1 : (Lit.int .i8 s1).wf = true) (h : ∀ x ∈ W.l, (Lit.int .u16 x).wf = true) : RB s0 s1 W := ⟨wf_i8 w0, wf_i8 w1, rd_bound _ fun x hx => wf_u16 (h x hx)⟩
def SB (q : S54) : Prop := (-128 ≤ q.f0 ∧ q.f0 ≤ 127) ∧ (-128 ≤ q.f1 ∧ q.f1 ≤ 127)
end Go.Proofs.Ytmcjgpbhjpakhaa.Q
end
section
namespace Go.Proofs.Ytmcjgpbhjpakhaa.Q
open Go.RowKit Go.Proofs.YtmcjgpbhjpakhaaW.PrintWords Go.Proofs.YtmcjgpbhjpakhaaW.PrintLast Go.Proofs.YtmcjgpbhjpakhaaW.PrintMore Go.Proofs.Ytmcjgpbhjpakhaa.La Go.Proofs.Ytmcjgpbhjpakhaa.PB
set_option linter.unusedVariables false
set_option linter.unusedSimpArgs false
theorem Ev.find_idx (L : Nat → Int → Option Int) (p : Nat → Bool) (n : Nat) (hyes : ∀ i : Nat, i < n → p i = true → Ev (fun k => L k (i : Int)) (i : Int))
    (hno : ∀ i : Nat, i < n → p i = false → ∀ r, Ev (fun k => L k ((i + 1 : Nat) : Int)) r → Ev (fun k => L k (i : Int)) r) (hend : Ev (fun k => L k (n : Int)) (-1)) :
    ∃ r : Int, Ev (fun k => L k 0) r ∧ decide (r ≥ 0) = (List.range n).any p := by
  have key : ∀ (m i : Nat), i + m = n → (∀ j, j < i → p j = false) → ∃ r : Int, Ev (fun k => L k (i : Int)) r ∧ decide (r ≥ 0) = (List.range n).any p := by
    intro m
    induction m with
    | zero =>
      intro i hi hf
      obtain rfl : i = n := by omega
      refine ⟨-1, hend, ?_⟩
      rw [show ((List.range i).any p) = false from ?_]
      · rfl
      · rw [List.any_eq_false]
        intro j hj
        rw [hf j (by simpa using hj)]
        exact Bool.false_ne_true
    | succ m ih =>
      intro i hi hf
      cases hp : p i with
      | true =>
        refine ⟨(i : Int), hyes i (by omega) hp, ?_⟩
        rw [show ((List.range n).any p) = true from List.any_eq_true.2 ⟨i, by simp; omega, hp⟩]
        exact decide_eq_true (by omega)
      | false =>
        obtain ⟨r, hr, hd⟩ := ih (i + 1) (by omega) (fun j hj => by
          by_cases e : j = i
          · subst e; exact hp
          · exact hf j (by omega))
        exact ⟨r, hno i (by omega) hp r hr, hd⟩
  exact key n 0 (by omega) (fun j hj => by omega)
theorem any_range {α : Type} (l : List α) (z : α) (f : α → Bool) : (List.range l.length).any (fun i => f (l.getD i z)) = l.any f := by
  rw [Bool.eq_iff_iff, List.any_eq_true, List.any_eq_true]
  constructor
  · rintro ⟨i, hi, hf⟩
    have hi' : i < l.length := by simpa using hi
    exact ⟨_, getD_mem l i z hi', hf⟩
  · rintro ⟨x, hx, hf⟩
    obtain ⟨i, hi, rfl⟩ := List.getElem_of_mem hx
    exact ⟨i, by simpa using hi, by rw [List.getD_eq_getElem?_getD, List.getElem?_eq_getElem hi]; exact hf⟩
theorem rdS_get (l : List S54) (i : Nat) : rd_T54 l (i : Int) = l.getD i z54 := by simp [rd_T54]
theorem Unless_c (b : Bool) (c : Int) : impl_unless.f b c = some (if b then 0 else c) := by
  unfold impl_unless.f
  cases b <;> rfl
def firstNZ : List Int → Int
  | [] => 0
  | c :: cs => if c = 0 then firstNZ cs else c
theorem FirstOf_ev (l : List Int) (hl : l.length ≤ 1000) : Ev (fun k => impl_firstOf.f k l) (firstNZ l) := by
  unfold impl_firstOf.f
  have key : ∀ (m i : Nat), i + m = l.length → Ev (fun k => impl_firstOf.l0 k l (l.length : Int) (i : Int)) (firstNZ (l.drop i)) := by
    intro m
    induction m with
    | zero =>
      intro i hi
      refine Ev.succ ?_
      simp only [impl_firstOf.l0]
      rw [List.drop_of_length_le (by omega)]
      exact Ev.neg (by omega) (Ev.now _)
    | succ m ih =>
      intro i hi
      refine Ev.succ ?_
      simp only [impl_firstOf.l0]
      rw [drop_get l i 0 (by omega), firstNZ, rd_nat, wnat i l.length (by omega) (by omega)]
      refine Ev.pos (by omega) (Ev.pos (by omega) (Ev.pos (by omega) ?_))
      by_cases h : l.getD i 0 = 0
      · rw [if_pos h]
        exact Ev.pos h (ih (i + 1) (by omega))
      · rw [if_neg h]
        exact Ev.neg h (Ev.now _)
  exact key l.length 0 (by omega)
def allCell (s0 s1 : Int) (l : List S54) : Bool := !(l.any fun q => !isC s0 s1 q.f0 q.f1)
def allFree (s0 s1 : Int) (W : LA 10) (l : List S54) : Bool := !(l.any fun q => !frC s0 s1 W q.f0 q.f1)
theorem NoCell_ev (s0 s1 : Int) (W : LA 10) (h0 : 1 ≤ s0 ∧ s0 ≤ 10) (h1 : 1 ≤ s1 ∧ s1 ≤ 10) (l : List S54) (hl : l.length ≤ 1073741824) (hs : ∀ q ∈ l, SB q) :
    Ev (fun k => impl_Spot_88__89.f k l s0 s1 W) (l.any fun q => !isC s0 s1 q.f0 q.f1) := by
  unfold impl_Spot_88__89.f impl_Spot_99__89.f
  obtain ⟨r, hr, hd⟩ := Ev.find_idx (fun k i => impl_Spot_99__89.l0 k l (l.length : Int) i s0 s1 W) (fun i => !isC s0 s1 (l.getD i z54).f0 (l.getD i z54).f1) l.length
    (fun i hi hp => by
      have hm := hs _ (getD_mem l i z54 hi)
      refine Ev.succ ?_
      simp only [impl_Spot_99__89.l0, impl_cellCode_1.f]
      rw [rdS_get, Is_i s0 s1 W h0 h1 _ _ hm.1 hm.2]
      simp only [Option.bind_some]
      exact Ev.pos (by omega) (Ev.pos (by omega) (Ev.pos (by omega) (Ev.pos hp (Ev.now _)))))
    (fun i hi hp r hr => by
      have hm := hs _ (getD_mem l i z54 hi)
      refine Ev.succ ?_
      simp only [impl_Spot_99__89.l0, impl_cellCode_1.f]
      rw [rdS_get, Is_i s0 s1 W h0 h1 _ _ hm.1 hm.2, wnat i l.length hi (by omega)]
      simp only [Option.bind_some]
      exact Ev.pos (by omega) (Ev.pos (by omega) (Ev.pos (by omega) (Ev.neg (by rw [hp]; exact Bool.false_ne_true) hr))))
    (by
      refine Ev.succ ?_
      simp only [impl_Spot_99__89.l0]
      exact Ev.neg (by omega) (Ev.now _))
  rw [any_range l z54 (fun q => !isC s0 s1 q.f0 q.f1)] at hd
  exact Ev.bind hr (by rw [hd]; exact Ev.now _)
theorem NoFree_ev (s0 s1 : Int) (W : LA 10) (hb : ∀ i, 0 ≤ rd W.l i ∧ rd W.l i < 65536) (h0 : 1 ≤ s0 ∧ s0 ≤ 10) (h1 : 1 ≤ s1 ∧ s1 ≤ 10) (l : List S54) (hl : l.length ≤ 1073741824) (hs : ∀ q ∈ l, SB q) :
    Ev (fun k => impl_Spot_88__91.f k l s0 s1 W) (l.any fun q => !frC s0 s1 W q.f0 q.f1) := by
  unfold impl_Spot_88__91.f impl_Spot_99__91.f
  obtain ⟨r, hr, hd⟩ := Ev.find_idx (fun k i => impl_Spot_99__91.l0 k l (l.length : Int) i s0 s1 W) (fun i => !frC s0 s1 W (l.getD i z54).f0 (l.getD i z54).f1) l.length
    (fun i hi hp => by
      have hm := hs _ (getD_mem l i z54 hi)
      refine Ev.succ ?_
      simp only [impl_Spot_99__91.l0, impl_stateCode_1.f]
      rw [rdS_get, Fr_i s0 s1 W hb h0 h1 _ _ hm.1 hm.2]
      simp only [Option.bind_some]
      exact Ev.pos (by omega) (Ev.pos (by omega) (Ev.pos (by omega) (Ev.pos hp (Ev.now _)))))
    (fun i hi hp r hr => by
      have hm := hs _ (getD_mem l i z54 hi)
      refine Ev.succ ?_
      simp only [impl_Spot_99__91.l0, impl_stateCode_1.f]
      rw [rdS_get, Fr_i s0 s1 W hb h0 h1 _ _ hm.1 hm.2, wnat i l.length hi (by omega)]
      simp only [Option.bind_some]
      exact Ev.pos (by omega) (Ev.pos (by omega) (Ev.pos (by omega) (Ev.neg (by rw [hp]; exact Bool.false_ne_true) hr))))
    (by
      refine Ev.succ ?_
      simp only [impl_Spot_99__91.l0]
      exact Ev.neg (by omega) (Ev.now _))
  rw [any_range l z54 (fun q => !frC s0 s1 W q.f0 q.f1)] at hd
  exact Ev.bind hr (by rw [hd]; exact Ev.now _)
theorem CellCode_bad (s0 s1 : Int) (W : LA 10) (l : List S54) (hv : Ev (fun k => impl_ValidRoom.f k s0 s1 W) false) : Ev (fun k => impl_cellCode.f k s0 s1 W l) 1 := by
  unfold impl_cellCode.f
  exact Ev.bind hv (Ev.neg (by simp) (Ev.now _))
theorem CellCode_ev (s0 s1 : Int) (W : LA 10) (hv : Ev (fun k => impl_ValidRoom.f k s0 s1 W) true) (h0 : 1 ≤ s0 ∧ s0 ≤ 10) (h1 : 1 ≤ s1 ∧ s1 ≤ 10) (l : List S54) (hl : l.length ≤ 1073741824) (hs : ∀ q ∈ l, SB q) :
    Ev (fun k => impl_cellCode.f k s0 s1 W l) (if allCell s0 s1 l then 0 else 2) := by
  unfold impl_cellCode.f
  refine Ev.bind hv (Ev.pos rfl (Ev.bind (NoCell_ev s0 s1 W h0 h1 l hl hs) ?_))
  rw [Unless_c]
  exact Ev.now _
theorem StateCode_ev (s0 s1 : Int) (W : LA 10) (hb : ∀ i, 0 ≤ rd W.l i ∧ rd W.l i < 65536) (h0 : 1 ≤ s0 ∧ s0 ≤ 10) (h1 : 1 ≤ s1 ∧ s1 ≤ 10) (l : List S54) (hl : l.length ≤ 1073741824) (hs : ∀ q ∈ l, SB q) :
    Ev (fun k => impl_stateCode.f k s0 s1 W l) (if allFree s0 s1 W l then 0 else 4) := by
  unfold impl_stateCode.f
  refine Ev.bind (NoFree_ev s0 s1 W hb h0 h1 l hl hs) ?_
  rw [Unless_c]
  exact Ev.now _
def isCi (s0 s1 x y : Int) : Bool := inC x 0 (mn s0 10 - 1) && inC y 0 (mn s1 10 - 1)
theorem mn_le (a : Int) : mn a 10 ≤ 10 := by unfold mn; split <;> omega
theorem mn_ge {a b : Int} (h : b ≤ a) (hb : b ≤ 10) : b ≤ mn a 10 := by unfold mn; split <;> omega
theorem Is_ig (s0 s1 : Int) (W : LA 10) (h0 : -128 ≤ s0 ∧ s0 ≤ 127) (h1 : -128 ≤ s1 ∧ s1 ≤ 127) (x y : Int) (hx : -128 ≤ x ∧ x ≤ 127) (hy : -128 ≤ y ∧ y ≤ 127) : impl_Room_isCell.f s0 s1 W x y = some (isCi s0 s1 x y) := by
  have a1 := mn_le s0
  have a2 := mn_ge h0.1 (show (-128 : Int) ≤ 10 by omega)
  have b1 := mn_le s1
  have b2 := mn_ge h1.1 (show (-128 : Int) ≤ 10 by omega)
  unfold impl_Room_isCell.f isCi
  rw [wint s0 (by omega) (by omega), wint s1 (by omega) (by omega), wint x (by omega) (by omega), wint y (by omega) (by omega), wint (mn s0 10 - 1) (by omega) (by omega), wint (mn s1 10 - 1) (by omega) (by omega), Within_c, Within_c]
  simp only [Option.bind_some]
  cases inC x 0 (mn s0 10 - 1) <;> simp
theorem Fr_ig (s0 s1 : Int) (W : LA 10) (hr : RB s0 s1 W) (x y : Int) (hx : -128 ≤ x ∧ x ≤ 127) (hy : -128 ≤ y ∧ y ≤ 127) : impl_Room_isFree.f s0 s1 W x y = some (isCi s0 s1 x y && fr W.l x y) := by
  obtain ⟨h0, h1, hb⟩ := hr
  have a1 := mn_le s0
  have b1 := mn_le s1
  unfold impl_Room_isFree.f
  rw [Is_ig s0 s1 W h0 h1 x y hx hy]
  simp only [Option.bind_some]
  cases h : isCi s0 s1 x y with
  | false => simp
  | true =>
    have hd : (0 ≤ x ∧ x ≤ mn s0 10 - 1) ∧ (0 ≤ y ∧ y ≤ mn s1 10 - 1) := by
      unfold isCi inC at h
      simp at h
      omega
    obtain ⟨n, rfl⟩ : ∃ n : Nat, x = n := ⟨x.toNat, by omega⟩
    rw [if_pos rfl, if_pos (by omega), if_pos (by omega), if_pos (by omega), shr_bit (hb _).1 (hb _).2 (by omega)]
    unfold fr
    rw [Int.toNat_natCast]
    simp
theorem StateCode_any (s0 s1 : Int) (W : LA 10) (hr : RB s0 s1 W) (l : List S54) (hl : l.length ≤ 1073741824) (hs : ∀ q ∈ l, SB q) :
    Ev (fun k => impl_stateCode.f k s0 s1 W l) (if (l.any fun q => !(isCi s0 s1 q.f0 q.f1 && fr W.l q.f0 q.f1)) then 4 else 0) := by
  unfold impl_stateCode.f
  have hN : Ev (fun k => impl_Spot_88__91.f k l s0 s1 W) (l.any fun q => !(isCi s0 s1 q.f0 q.f1 && fr W.l q.f0 q.f1)) := by
    unfold impl_Spot_88__91.f impl_Spot_99__91.f
    obtain ⟨r, hr', hd⟩ := Ev.find_idx (fun k i => impl_Spot_99__91.l0 k l (l.length : Int) i s0 s1 W) (fun i => !(isCi s0 s1 (l.getD i z54).f0 (l.getD i z54).f1 && fr W.l (l.getD i z54).f0 (l.getD i z54).f1)) l.length
      (fun i hi hp => by
        have hm := hs _ (getD_mem l i z54 hi)
        refine Ev.succ ?_
        simp only [impl_Spot_99__91.l0, impl_stateCode_1.f]
        rw [rdS_get, Fr_ig s0 s1 W hr _ _ hm.1 hm.2]
        simp only [Option.bind_some]
        exact Ev.pos (by omega) (Ev.pos (by omega) (Ev.pos (by omega) (Ev.pos hp (Ev.now _)))))
      (fun i hi hp r hr' => by
        have hm := hs _ (getD_mem l i z54 hi)
        refine Ev.succ ?_
        simp only [impl_Spot_99__91.l0, impl_stateCode_1.f]
        rw [rdS_get, Fr_ig s0 s1 W hr _ _ hm.1 hm.2, wnat i l.length hi (by omega)]
        simp only [Option.bind_some]
        exact Ev.pos (by omega) (Ev.pos (by omega) (Ev.pos (by omega) (Ev.neg (by rw [hp]; exact Bool.false_ne_true) hr'))))
      (by
        refine Ev.succ ?_
        simp only [impl_Spot_99__91.l0]
        exact Ev.neg (by omega) (Ev.now _))
    rw [any_range l z54 (fun q => !(isCi s0 s1 q.f0 q.f1 && fr W.l q.f0 q.f1))] at hd
    exact Ev.bind hr' (by rw [hd]; exact Ev.now _)
  refine Ev.bind hN ?_
  rw [Unless_c]
  cases (l.any fun q => !(isCi s0 s1 q.f0 q.f1 && fr W.l q.f0 q.f1)) <;> exact Ev.now _
end Go.Proofs.Ytmcjgpbhjpakhaa.Q
end
section
namespace Go.Proofs.Ytmcjgpbhjpakhaa.Q
open Go.RowKit Go.Proofs.YtmcjgpbhjpakhaaW.PrintWords Go.Proofs.YtmcjgpbhjpakhaaW.PrintLast Go.Proofs.YtmcjgpbhjpakhaaW.PrintMore Go.Proofs.Ytmcjgpbhjpakhaa.La Go.Proofs.Ytmcjgpbhjpakhaa.Mp Go.Proofs.Ytmcjgpbhjpakhaa.PB
set_option linter.unusedVariables false
set_option linter.unusedSimpArgs false
theorem i8_id {v : Int} (h0 : -128 ≤ v) (h1 : v ≤ 127) : IntKind.i8.wrap v = v := by simp [IntKind.wrap, IntKind.bits, IntKind.signed]; omega
def nxt (x y : Int) : Nat → S54
  | 0 => ⟨x, y - 1⟩
  | 1 => ⟨x + 1, y⟩
  | 2 => ⟨x, y + 1⟩
  | _ => ⟨x - 1, y⟩
def besL (p : Int → Int → Bool) (x y : Int) : Nat → List S54
  | 0 => []
  | d + 1 => if p (nxt x y d).f0 (nxt x y d).f1 then besL p x y d ++ [nxt x y d] else besL p x y d
def nb (s0 s1 : Int) (W : LA 10) (x y : Int) : List S54 := besL (frC s0 s1 W) x y 4
theorem besL_len (p : Int → Int → Bool) (x y : Int) : ∀ d, (besL p x y d).length ≤ d
  | 0 => by simp [besL]
  | d + 1 => by have := besL_len p x y d; rw [besL]; split <;> simp <;> omega
theorem besL_mem (p : Int → Int → Bool) (x y : Int) : ∀ d, ∀ q ∈ besL p x y d, p q.f0 q.f1 = true
  | 0 => by simp [besL]
  | d + 1 => by
    have ih := besL_mem p x y d
    rw [besL]
    split
    · rename_i hp
      intro q hq
      rcases List.mem_append.1 hq with h | h
      · exact ih q h
      · obtain rfl := List.mem_singleton.1 h
        exact hp
    · exact ih
theorem nxt_small {x y : Int} (hx : 0 ≤ x ∧ x < 10) (hy : 0 ≤ y ∧ y < 10) (d : Nat) : (-128 ≤ (nxt x y d).f0 ∧ (nxt x y d).f0 ≤ 127) ∧ (-128 ≤ (nxt x y d).f1 ∧ (nxt x y d).f1 ≤ 127) := by
  rcases d with _ | _ | _ | d <;> simp only [nxt] <;> omega
theorem Next_s {x y : Int} (hx : 0 ≤ x ∧ x < 10) (hy : 0 ≤ y ∧ y < 10) (d : Nat) (hd : d < 4) : spec_l01Next.f x y (d : Int) = some ((nxt x y d).f0, (nxt x y d).f1) := by
  unfold spec_l01Next.f
  rw [i8_id (v := y - 1) (by omega) (by omega), i8_id (v := x + 1) (by omega) (by omega), i8_id (v := y + 1) (by omega) (by omega), i8_id (v := x - 1) (by omega) (by omega)]
  rcases d with _ | _ | _ | _ | d
  · rfl
  · rfl
  · rfl
  · rfl
  · omega
theorem Next_i {x y : Int} (hx : 0 ≤ x ∧ x < 10) (hy : 0 ≤ y ∧ y < 10) (d : Nat) (hd : d < 4) : impl_NextSpot.f x y (d : Int) = some ((nxt x y d).f0, (nxt x y d).f1) := by
  unfold impl_NextSpot.f
  rw [i8_id (v := y - 1) (by omega) (by omega), i8_id (v := x + 1) (by omega) (by omega), i8_id (v := y + 1) (by omega) (by omega), i8_id (v := x - 1) (by omega) (by omega)]
  rcases d with _ | _ | _ | _ | d
  · rfl
  · rfl
  · rfl
  · rfl
  · omega
theorem Beside_s (s0 s1 : Int) (W : LA 10) (hb : ∀ i, 0 ≤ rd W.l i ∧ rd W.l i < 65536) (h0 : 1 ≤ s0 ∧ s0 ≤ 10) (h1 : 1 ≤ s1 ∧ s1 ≤ 10) (x y : Int) (hx : 0 ≤ x ∧ x < 10) (hy : 0 ≤ y ∧ y < 10) :
    Ev (fun k => spec_l01Beside.f k s0 s1 W x y) (nb s0 s1 W x y) := by
  unfold spec_l01Beside.f
  have key : ∀ n d : Nat, d + n = 4 → Ev (fun k => spec_l01Beside.l0 k (besL (frC s0 s1 W) x y d) (d : Int) s0 s1 W x y) (nb s0 s1 W x y) := by
    intro n
    induction n with
    | zero =>
      intro d hd
      obtain rfl : d = 4 := by omega
      refine Ev.succ ?_
      simp only [spec_l01Beside.l0]
      exact Ev.neg (by omega) (Ev.now _)
    | succ n ih =>
      intro d hd
      have hs := nxt_small hx hy d
      have hl := besL_len (frC s0 s1 W) x y d
      have e := ih (d + 1) (by omega)
      rw [besL] at e
      refine Ev.succ ?_
      simp only [spec_l01Beside.l0]
      refine Ev.pos (by omega) ?_
      rw [Next_s hx hy d (by omega), wnat d 4 (by omega) (by omega)]
      simp only [Option.bind_some]
      rw [Fr_s s0 s1 W hb h0 h1 _ _ hs.1 hs.2]
      simp only [Option.bind_some]
      cases hc : frC s0 s1 W (nxt x y d).f0 (nxt x y d).f1 with
      | true => rw [hc] at e; exact Ev.pos rfl (Ev.pos (by omega) e)
      | false => rw [hc] at e; exact Ev.neg Bool.false_ne_true e
  exact key 4 0 rfl
theorem Beside_i (s0 s1 : Int) (W : LA 10) (hb : ∀ i, 0 ≤ rd W.l i ∧ rd W.l i < 65536) (h0 : 1 ≤ s0 ∧ s0 ≤ 10) (h1 : 1 ≤ s1 ∧ s1 ≤ 10) (x y : Int) (hx : 0 ≤ x ∧ x < 10) (hy : 0 ≤ y ∧ y < 10) :
    Ev (fun k => impl_Room_beside.f k s0 s1 W x y) (nb s0 s1 W x y) := by
  unfold impl_Room_beside.f
  have key : ∀ n d : Nat, d + n = 4 → Ev (fun k => impl_Room_beside.l0 k (besL (frC s0 s1 W) x y d) (d : Int) s0 s1 W x y) (nb s0 s1 W x y) := by
    intro n
    induction n with
    | zero =>
      intro d hd
      obtain rfl : d = 4 := by omega
      refine Ev.succ ?_
      simp only [impl_Room_beside.l0]
      exact Ev.neg (by omega) (Ev.now _)
    | succ n ih =>
      intro d hd
      have hs := nxt_small hx hy d
      have hl := besL_len (frC s0 s1 W) x y d
      have e := ih (d + 1) (by omega)
      rw [besL] at e
      refine Ev.succ ?_
      simp only [impl_Room_beside.l0]
      refine Ev.pos (by omega) ?_
      rw [Next_i hx hy d (by omega), wnat d 4 (by omega) (by omega)]
      simp only [Option.bind_some]
      rw [Fr_i s0 s1 W hb h0 h1 _ _ hs.1 hs.2]
      simp only [Option.bind_some]
      cases hc : frC s0 s1 W (nxt x y d).f0 (nxt x y d).f1 with
      | true => rw [hc] at e; exact Ev.pos rfl (Ev.pos (by omega) e)
      | false => rw [hc] at e; exact Ev.neg Bool.false_ne_true e
  exact key 4 0 rfl
end Go.Proofs.Ytmcjgpbhjpakhaa.Q
end
section
namespace Go.Proofs.Ytmcjgpbhjpakhaa.Q
open Go.RowKit Go.Proofs.YtmcjgpbhjpakhaaW.PrintWords Go.Proofs.YtmcjgpbhjpakhaaW.PrintLast Go.Proofs.YtmcjgpbhjpakhaaW.PrintMore Go.Proofs.Ytmcjgpbhjpakhaa.La Go.Proofs.Ytmcjgpbhjpakhaa.Mp Go.Proofs.Ytmcjgpbhjpakhaa.PB
set_option linter.unusedVariables false
set_option linter.unusedSimpArgs false
theorem mget_push (x y n a b : Int) : ∀ M : MP, mget (M ++ [(x, y, n)]) a b = if (mget M a b).isSome then mget M a b else if (a == x && (b == y)) = true then some n else none
  | [] => by simp [mget]
  | e :: M => by
    have ih := mget_push x y n a b M
    simp only [List.cons_append, mget]
    split
    · simp
    · exact ih
theorem mhas_push (M : MP) (x y n a b : Int) : mhas (M ++ [(x, y, n)]) a b = (mhas M a b || (a == x && (b == y))) := by
  unfold mhas
  rw [mget_push]
  cases hg : mget M a b with
  | some v => simp
  | none => simp only [Option.isSome_none, Bool.false_eq_true, if_false, Bool.false_or]; split <;> rename_i h <;> simp_all
theorem mval_push_old (M : MP) (x y n a b : Int) (h : mhas M a b = true) : mval (M ++ [(x, y, n)]) a b = mval M a b := by
  unfold mhas at h
  unfold mval
  rw [mget_push, if_pos h]
theorem mval_push_new (M : MP) (x y n : Int) (h : mhas M x y = false) : mval (M ++ [(x, y, n)]) x y = n := by
  unfold mhas at h
  unfold mval
  rw [mget_push, if_neg (by simp [h]), if_pos (by simp)]
  rfl
theorem countP_drop {p q : Nat → Bool} (himp : ∀ i, q i = true → p i = true) : ∀ (l : List Nat) (a : Nat), a ∈ l → p a = true → q a = false → l.countP q + 1 ≤ l.countP p
  | [], a, h, _, _ => by simp at h
  | b :: l, a, h, hp, hq => by
    have mono : l.countP q ≤ l.countP p := List.countP_mono_left (fun i _ hi => himp i hi)
    rcases List.mem_cons.1 h with rfl | h
    · rw [List.countP_cons_of_neg (by simp [hq]), List.countP_cons_of_pos hp]
      omega
    · have ih := countP_drop himp l a h hp hq
      by_cases hb : q b = true
      · rw [List.countP_cons_of_pos hb, List.countP_cons_of_pos (himp b hb)]
        omega
      · rw [List.countP_cons_of_neg (by simpa using hb)]
        have : l.countP p ≤ (b :: l).countP p := by rw [List.countP_cons]; omega
        omega
def freeNo (M : MP) (i : Nat) : Bool := !mhas M ((i % 10 : Nat) : Int) ((i / 10 : Nat) : Int)
structure St (o : S54) (s0 s1 : Int) (W : LA 10) (L : List S54) (M : MP) (A : LA 100) : Prop where
  key : ∀ x y, mhas M x y = true → frC s0 s1 W x y = true
  val : ∀ x y, mhas M x y = true → 0 ≤ mval M x y ∧ mval M x y ≤ L.length
  arr : ∀ x y, 0 ≤ x ∧ x < 10 → 0 ≤ y ∧ y < 10 → rd A.l (y * 10 + x) = if mhas M x y = true then mval M x y else -1
  mem : ∀ q ∈ L, mhas M q.f0 q.f1 = true
  cnt : L.length + (List.range 100).countP (freeNo M) ≤ 100
  one : mhas M o.f0 o.f1 = true ∧ mval M o.f0 o.f1 = 0
variable {o : S54}
theorem frC_cell {s0 s1 : Int} {W : LA 10} (h0 : s0 ≤ 10) (h1 : s1 ≤ 10) {x y : Int} (h : frC s0 s1 W x y = true) : (0 ≤ x ∧ x < 10) ∧ (0 ≤ y ∧ y < 10) := by
  have : isC s0 s1 x y = true := by unfold frC at h; simp at h; exact h.1
  have := isC_bounds this
  omega
theorem St.push {s0 s1 : Int} {W : LA 10} {L : List S54} {M : MP} {A : LA 100} (h : St o s0 s1 W L M A) (h0 : s0 ≤ 10) (h1 : s1 ≤ 10) (q : S54) (hq : frC s0 s1 W q.f0 q.f1 = true) (hn : mhas M q.f0 q.f1 = false) (n : Int) (hn0 : 0 ≤ n) (hn1 : n ≤ L.length + 1) :
    St o s0 s1 W (L ++ [q]) (M ++ [(q.f0, q.f1, n)]) (LA.set A (q.f1 * 10 + q.f0) n) := by
  obtain ⟨cx, cy⟩ := frC_cell h0 h1 hq
  refine ⟨?_, ?_, ?_, ?_, ?_, ?_⟩
  · intro x y hh
    rw [mhas_push, Bool.or_eq_true] at hh
    rcases hh with hh | hh
    · exact h.key x y hh
    · simp only [Bool.and_eq_true, beq_iff_eq] at hh
      rw [hh.1, hh.2]
      exact hq
  · intro x y hh
    rw [mhas_push, Bool.or_eq_true] at hh
    rw [List.length_append, List.length_singleton]
    by_cases ho : mhas M x y = true
    · rw [mval_push_old _ _ _ _ _ _ ho]
      have := h.val x y ho
      omega
    · rcases hh with hh | hh
      · exact absurd hh ho
      · simp only [Bool.and_eq_true, beq_iff_eq] at hh
        rw [hh.1, hh.2, mval_push_new _ _ _ _ hn]
        omega
  · intro x y hx hy
    by_cases e : x = q.f0 ∧ y = q.f1
    · rw [e.1, e.2, rd_set_same _ _ _ (by omega) (by omega), mhas_push, mval_push_new _ _ _ _ hn]
      simp
    · rw [rd_set_other _ _ _ _ (by omega) (by omega) (by omega), h.arr x y hx hy, mhas_push]
      have e2 : (x == q.f0 && (y == q.f1)) = false := by
        cases hb : (x == q.f0 && (y == q.f1)) with
        | false => rfl
        | true => simp only [Bool.and_eq_true, beq_iff_eq] at hb; exact absurd hb e
      rw [e2, Bool.or_false]
      by_cases ho : mhas M x y = true
      · rw [if_pos ho, if_pos ho, mval_push_old _ _ _ _ _ _ ho]
      · rw [if_neg ho, if_neg ho]
  · intro p hp
    rw [mhas_push, Bool.or_eq_true]
    rcases List.mem_append.1 hp with hp | hp
    · exact .inl (h.mem p hp)
    · obtain rfl := List.mem_singleton.1 hp
      right
      simp
  · have hc : (q.f1 * 10 + q.f0).toNat < 100 := by omega
    have e1 : ((((q.f1 * 10 + q.f0).toNat % 10 : Nat)) : Int) = q.f0 := by omega
    have e2 : ((((q.f1 * 10 + q.f0).toNat / 10 : Nat)) : Int) = q.f1 := by omega
    have hd := countP_drop (p := freeNo M) (q := freeNo (M ++ [(q.f0, q.f1, n)])) (fun i hi => by
      unfold freeNo at hi ⊢
      rw [mhas_push] at hi
      simp only [Bool.not_eq_true', Bool.or_eq_false_iff] at hi
      rw [hi.1]
      rfl) (List.range 100) (q.f1 * 10 + q.f0).toNat (List.mem_range.2 hc) (by unfold freeNo; rw [e1, e2, hn]; rfl) (by unfold freeNo; rw [e1, e2, mhas_push]; simp)
    have := h.cnt
    rw [List.length_append, List.length_singleton]
    omega
  · exact ⟨by rw [mhas_push, h.one.1]; rfl, by rw [mval_push_old _ _ _ _ _ _ h.one.1]; exact h.one.2⟩
theorem Steps_in (s0 s1 : Int) (W : LA 10) (h0 : 1 ≤ s0 ∧ s0 ≤ 10) (h1 : 1 ≤ s1 ∧ s1 ≤ 10) (i : Nat) (N : List S54) (hN : N.length ≤ 4) (hf : ∀ q ∈ N, frC s0 s1 W q.f0 q.f1 = true) : ∀ (n j : Nat), j + n = N.length → ∀ (L : List S54) (M : MP) (A : LA 100), St o s0 s1 W L M A → i < L.length →
    ∃ L' M' A', St o s0 s1 W L' M' A' ∧ L.length ≤ L'.length ∧ (∀ r, Ev (fun k => impl_Room_steps.l0 k L' ((i + 1 : Nat) : Int) s0 s1 W M') r → Ev (fun k => impl_Room_steps.l1 k L (i : Int) N (N.length : Int) (j : Int) s0 s1 W M) r) ∧
      (∀ r, Ev (fun k => spec_l01Steps.l2 k L' ((i + 1 : Nat) : Int) s0 s1 W A') r → Ev (fun k => spec_l01Steps.l3 k L (i : Int) N (j : Int) s0 s1 W A) r) := by
  intro n
  induction n with
  | zero =>
    intro j hj L M A hS hi
    have hc := hS.cnt
    refine ⟨L, M, A, hS, Nat.le_refl _, fun r hr => ?_, fun r hr => ?_⟩
    · refine Ev.succ ?_
      simp only [impl_Room_steps.l1]
      rw [wnat i 200 (by omega) (by omega)]
      exact Ev.neg (by omega) hr
    · refine Ev.succ ?_
      simp only [spec_l01Steps.l3]
      rw [wnat i 200 (by omega) (by omega)]
      exact Ev.neg (by omega) hr
  | succ n ih =>
    intro j hj L M A hS hi
    have hc := hS.cnt
    have hjl : j < N.length := by omega
    have hq := hf _ (getD_mem N j z54 hjl)
    obtain ⟨cx, cy⟩ := frC_cell h0.2 h1.2 hq
    have hp := hS.mem _ (getD_mem L i z54 hi)
    obtain ⟨px, py⟩ := frC_cell h0.2 h1.2 (hS.key _ _ hp)
    have hv := hS.val _ _ hp
    have ha := hS.arr _ _ cx cy
    have hap := hS.arr _ _ px py
    rw [if_pos hp] at hap
    by_cases hh : mhas M (N.getD j z54).f0 (N.getD j z54).f1 = true
    · obtain ⟨L', M', A', hS', hle, hI, hX⟩ := ih (j + 1) (by omega) L M A hS hi
      rw [if_pos hh] at ha
      have hvq := hS.val _ _ hh
      refine ⟨L', M', A', hS', hle, fun r hr => ?_, fun r hr => ?_⟩
      · refine Ev.succ ?_
        simp only [impl_Room_steps.l1]
        rw [rdS_get, wnat j 4 (by omega) (by omega)]
        exact Ev.pos (by omega) (Ev.pos (by omega) (Ev.pos (by omega) (Ev.pos hh (hI r hr))))
      · refine Ev.succ ?_
        simp only [spec_l01Steps.l3]
        rw [rdS_get, wnat j 4 (by omega) (by omega)]
        exact Ev.pos (by omega) (Ev.pos (by omega) (Ev.pos cy.1 (Ev.pos cy.2 (Ev.pos cx.1 (Ev.pos cx.2 (Ev.neg (by rw [ha]; omega) (hX r hr)))))))
    · have hh' : mhas M (N.getD j z54).f0 (N.getD j z54).f1 = false := by simpa using hh
      rw [if_neg hh] at ha
      have hS2 := hS.push h0.2 h1.2 (N.getD j z54) hq hh' (mval M (L.getD i z54).f0 (L.getD i z54).f1 + 1) (by omega) (by omega)
      obtain ⟨L', M', A', hS', hle, hI, hX⟩ := ih (j + 1) (by omega) _ _ _ hS2 (by rw [List.length_append]; omega)
      rw [List.length_append, List.length_singleton] at hle
      have hw : wrap64 (mval M (L.getD i z54).f0 (L.getD i z54).f1 + 1) = mval M (L.getD i z54).f0 (L.getD i z54).f1 + 1 := wint _ (by omega) (by omega)
      refine ⟨L', M', A', hS', by omega, fun r hr => ?_, fun r hr => ?_⟩
      · refine Ev.succ ?_
        simp only [impl_Room_steps.l1]
        rw [rdS_get, rdS_get, wnat j 4 (by omega) (by omega), hw]
        exact Ev.pos (by omega) (Ev.pos (by omega) (Ev.pos (by omega) (Ev.neg hh (Ev.pos (by omega) (Ev.pos (by omega) (Ev.pos (by omega) (hI r hr)))))))
      · refine Ev.succ ?_
        simp only [spec_l01Steps.l3]
        rw [rdS_get, rdS_get, wnat j 4 (by omega) (by omega), hap, hw]
        exact Ev.pos (by omega) (Ev.pos (by omega) (Ev.pos cy.1 (Ev.pos cy.2 (Ev.pos cx.1 (Ev.pos cx.2 (Ev.pos (by rw [ha]; omega) (Ev.pos (by omega) (Ev.pos (by omega) (Ev.pos py.1 (Ev.pos py.2 (Ev.pos px.1 (Ev.pos px.2 (Ev.pos (by omega) (hX r hr))))))))))))))
theorem Steps_out (s0 s1 : Int) (W : LA 10) (hb : ∀ i, 0 ≤ rd W.l i ∧ rd W.l i < 65536) (h0 : 1 ≤ s0 ∧ s0 ≤ 10) (h1 : 1 ≤ s1 ∧ s1 ≤ 10) : ∀ (n i : Nat), i + n = 101 → ∀ (L : List S54) (M : MP) (A : LA 100), St o s0 s1 W L M A → i ≤ L.length →
    ∃ L' M' A', St o s0 s1 W L' M' A' ∧ Ev (fun k => impl_Room_steps.l0 k L (i : Int) s0 s1 W M) M' ∧ Ev (fun k => spec_l01Steps.l2 k L (i : Int) s0 s1 W A) A' := by
  intro n
  induction n with
  | zero =>
    intro i hi L M A hS hl
    have := hS.cnt
    omega
  | succ n ih =>
    intro i hi L M A hS hl
    by_cases hil : i < L.length
    · have hp := hS.mem _ (getD_mem L i z54 hil)
      obtain ⟨px, py⟩ := frC_cell h0.2 h1.2 (hS.key _ _ hp)
      obtain ⟨L', M', A', hS', hle, hI, hX⟩ := Steps_in s0 s1 W h0 h1 i (nb s0 s1 W (L.getD i z54).f0 (L.getD i z54).f1) (besL_len _ _ _ 4) (besL_mem _ _ _ 4) _ 0 (Nat.zero_add _) L M A hS hil
      obtain ⟨L2, M2, A2, hS2, e1, e2⟩ := ih (i + 1) (by omega) L' M' A' hS' (by omega)
      refine ⟨L2, M2, A2, hS2, ?_, ?_⟩
      · refine Ev.succ ?_
        simp only [impl_Room_steps.l0]
        rw [rdS_get]
        exact Ev.pos (by omega) (Ev.pos (by omega) (Ev.bind (Beside_i s0 s1 W hb h0 h1 _ _ px py) (hI _ e1)))
      · refine Ev.succ ?_
        simp only [spec_l01Steps.l2]
        rw [rdS_get]
        exact Ev.pos (by omega) (Ev.pos (by omega) (Ev.bind (Beside_s s0 s1 W hb h0 h1 _ _ px py) (hX _ e2)))
    · refine ⟨L, M, A, hS, ?_, ?_⟩
      · refine Ev.succ ?_
        simp only [impl_Room_steps.l0]
        exact Ev.neg (by omega) (Ev.now _)
      · refine Ev.succ ?_
        simp only [spec_l01Steps.l2]
        exact Ev.neg (by omega) (Ev.now _)
def filled (A : LA 100) (y x : Int) : Prop := ∀ a b : Int, 0 ≤ a ∧ a < 10 → 0 ≤ b ∧ b < 10 → (b < y ∨ b = y ∧ a < x) → rd A.l (b * 10 + a) = -1
theorem Fill_in (s0 s1 : Int) (W : LA 10) (a0 a1 : Int) (y : Nat) (hy : y < 10) : ∀ (n x : Nat), x + n = 10 → ∀ A, filled A y x → ∃ A', filled A' ((y + 1 : Nat) : Int) 0 ∧ ∀ r, Ev (fun k => spec_l01Steps.l0 k ((y + 1 : Nat) : Int) s0 s1 W a0 a1 A') r → Ev (fun k => spec_l01Steps.l1 k (y : Int) (x : Int) s0 s1 W a0 a1 A) r := by
  intro n
  induction n with
  | zero =>
    intro x hx A hA
    refine ⟨A, fun a b ha hb hl => hA a b ha hb (by omega), fun r hr => ?_⟩
    refine Ev.succ ?_
    simp only [spec_l01Steps.l1]
    rw [wnat y 10 (by omega) (by omega)]
    exact Ev.neg (by omega) hr
  | succ n ih =>
    intro x hx A hA
    obtain ⟨A', hA', hr'⟩ := ih (x + 1) (by omega) (LA.set A ((y : Int) * 10 + (x : Int)) (-1)) (fun a b ha hb hl => by
      by_cases e : b = y ∧ a = x
      · rw [e.1, e.2, rd_set_same _ _ _ (by omega) (by omega)]
      · rw [rd_set_other _ _ _ _ (by omega) (by omega) (by omega)]
        exact hA a b ha hb (by omega))
    refine ⟨A', hA', fun r hr => ?_⟩
    refine Ev.succ ?_
    simp only [spec_l01Steps.l1]
    rw [wnat x 10 (by omega) (by omega)]
    exact Ev.pos (by omega) (Ev.pos (by omega) (Ev.pos (by omega) (Ev.pos (by omega) (hr' r hr))))
theorem Fill_out (s0 s1 : Int) (W : LA 10) (a0 a1 : Int) (hx : 0 ≤ a0 ∧ a0 < 10) (hy : 0 ≤ a1 ∧ a1 < 10) : ∀ (n y : Nat), y + n = 10 → ∀ A, filled A y 0 → ∃ A', filled A' 10 0 ∧ ∀ r, Ev (fun k => spec_l01Steps.l2 k [⟨a0, a1⟩] 0 s0 s1 W (LA.set A' (a1 * 10 + a0) 0)) r → Ev (fun k => spec_l01Steps.l0 k (y : Int) s0 s1 W a0 a1 A) r := by
  intro n
  induction n with
  | zero =>
    intro y hyy A hA
    obtain rfl : y = 10 := by omega
    refine ⟨A, hA, fun r hr => ?_⟩
    refine Ev.succ ?_
    simp only [spec_l01Steps.l0]
    exact Ev.neg (by omega) (Ev.pos hy.1 (Ev.pos hy.2 (Ev.pos hx.1 (Ev.pos hx.2 hr))))
  | succ n ih =>
    intro y hyy A hA
    obtain ⟨A1, hA1, h1⟩ := Fill_in s0 s1 W a0 a1 y (by omega) 10 0 rfl A hA
    obtain ⟨A', hA', h2⟩ := ih (y + 1) (by omega) A1 hA1
    refine ⟨A', hA', fun r hr => ?_⟩
    refine Ev.succ ?_
    simp only [spec_l01Steps.l0]
    exact Ev.pos (by omega) (h1 r (h2 r hr))
theorem Steps_both (s0 s1 : Int) (W : LA 10) (hb : ∀ i, 0 ≤ rd W.l i ∧ rd W.l i < 65536) (h0 : 1 ≤ s0 ∧ s0 ≤ 10) (h1 : 1 ≤ s1 ∧ s1 ≤ 10) (x y : Int) (hf : frC s0 s1 W x y = true) :
    ∃ L M A, St ⟨x, y⟩ s0 s1 W L M A ∧ Ev (fun k => impl_Room_steps.f k s0 s1 W x y) M ∧ Ev (fun k => spec_l01Steps.f k s0 s1 W x y) A := by
  obtain ⟨cx, cy⟩ := frC_cell h0.2 h1.2 hf
  obtain ⟨A', hA', h2⟩ := Fill_out s0 s1 W x y cx cy 10 0 rfl (LA.zero 100) (fun a b ha hb hl => by omega)
  have hg : ∀ a b : Int, mhas [(x, y, 0)] a b = (a == x && (b == y)) := fun a b => by
    unfold mhas mget
    cases (a == x && (b == y)) <;> rfl
  have hS : St ⟨x, y⟩ s0 s1 W [⟨x, y⟩] [(x, y, 0)] (LA.set A' (y * 10 + x) 0) := by
    refine ⟨?_, ?_, ?_, ?_, ?_, ?_⟩
    · intro a b h
      rw [hg] at h
      simp only [Bool.and_eq_true, beq_iff_eq] at h
      rw [h.1, h.2]
      exact hf
    · intro a b h
      rw [hg] at h
      simp only [Bool.and_eq_true, beq_iff_eq] at h
      rw [h.1, h.2]
      simp [mval, mget]
    · intro a b ha hb
      rw [hg]
      by_cases e : a = x ∧ b = y
      · rw [e.1, e.2, rd_set_same _ _ _ (by omega) (by omega)]
        simp [mval, mget]
      · rw [rd_set_other _ _ _ _ (by omega) (by omega) (by omega), hA' a b ha hb (by omega), if_neg (by simpa using e)]
    · intro q hq
      obtain rfl := List.mem_singleton.1 hq
      rw [hg]
      simp
    · have hc : (y * 10 + x).toNat < 100 := by omega
      have e1 : ((((y * 10 + x).toNat % 10 : Nat)) : Int) = x := by omega
      have e2 : ((((y * 10 + x).toNat / 10 : Nat)) : Int) = y := by omega
      have hd := countP_drop (p := fun _ => true) (q := freeNo [(x, y, 0)]) (fun i hi => rfl) (List.range 100) (y * 10 + x).toNat (List.mem_range.2 hc) rfl (by unfold freeNo; rw [e1, e2, hg]; simp)
      have hl : (List.range 100).countP (fun _ => true) ≤ 100 := by have := List.countP_le_length (p := fun _ : Nat => true) (l := List.range 100); rwa [List.length_range] at this
      simp only [List.length_singleton]
      omega
    · refine ⟨by rw [hg]; simp, ?_⟩
      simp [mval, mget]
  obtain ⟨L, M, A, hS', e1, e2⟩ := Steps_out s0 s1 W hb h0 h1 101 0 rfl _ _ _ hS (Nat.zero_le _)
  refine ⟨L, M, A, hS', e1, ?_⟩
  unfold spec_l01Steps.f
  exact h2 _ e2
end Go.Proofs.Ytmcjgpbhjpakhaa.Q
end
section
namespace Go.Proofs.Ytmcjgpbhjpakhaa.Q
open Go.RowKit Go.Proofs.YtmcjgpbhjpakhaaW.PrintWords Go.Proofs.YtmcjgpbhjpakhaaW.PrintLast Go.Proofs.YtmcjgpbhjpakhaaW.PrintMore Go.Proofs.Ytmcjgpbhjpakhaa.La Go.Proofs.Ytmcjgpbhjpakhaa.Mp Go.Proofs.Ytmcjgpbhjpakhaa.PB
set_option linter.unusedVariables false
set_option linter.unusedSimpArgs false
theorem rowL_filter (p g : Int → Int → Bool) (f : S54 → Bool) (y : Int) (acc : List S54) : ∀ x, (∀ a : Nat, a < x → p (a : Int) y = (g (a : Int) y && f ⟨(a : Int), y⟩)) → rowL p y (acc.filter f) x = (rowL g y acc x).filter f
  | 0, _ => rfl
  | x + 1, h => by
    have ih := rowL_filter p g f y acc x (fun a ha => h a (by omega))
    have hx := h x (by omega)
    rw [rowL, rowL, ih, hx]
    cases hg : g (x : Int) y with
    | false => simp
    | true =>
      cases hf : f ⟨(x : Int), y⟩ with
      | false => simp [hf, List.filter_append]
      | true => simp [hf, List.filter_append]
theorem cellsL_filter (p g : Int → Int → Bool) (f : S54 → Bool) (w : Nat) : ∀ h, (∀ a b : Nat, a < w → b < h → p (a : Int) (b : Int) = (g (a : Int) (b : Int) && f ⟨(a : Int), (b : Int)⟩)) → cellsL p w h = (cellsL g w h).filter f
  | 0, _ => rfl
  | h + 1, hh => by
    rw [cellsL, cellsL, cellsL_filter p g f w h (fun a b ha hb => hh a b ha (by omega))]
    exact rowL_filter p g f (h : Int) _ w (fun a ha => hh a h ha (by omega))
theorem NearL_s (most : Int) (A : LA 100) (N : List S54) (hl : N.length ≤ 1000) (hN : ∀ q ∈ N, (0 ≤ q.f0 ∧ q.f0 < 10) ∧ (0 ≤ q.f1 ∧ q.f1 < 10)) : Ev (fun k => spec_l01Near.l0 k most [] N 0 A) (N.filter fun q => inC (rd A.l (q.f1 * 10 + q.f0)) 0 most) := by
  have key : ∀ n j : Nat, j + n = N.length → Ev (fun k => spec_l01Near.l0 k most ((N.take j).filter fun q => inC (rd A.l (q.f1 * 10 + q.f0)) 0 most) N (j : Int) A) (N.filter fun q => inC (rd A.l (q.f1 * 10 + q.f0)) 0 most) := by
    intro n
    induction n with
    | zero =>
      intro j hj
      obtain rfl : j = N.length := by omega
      refine Ev.succ ?_
      simp only [spec_l01Near.l0]
      refine Ev.neg (by omega) ?_
      rw [List.take_length]
      exact Ev.now _
    | succ n ih =>
      intro j hj
      have hjl : j < N.length := by omega
      obtain ⟨cx, cy⟩ := hN _ (getD_mem N j z54 hjl)
      have e := ih (j + 1) (by omega)
      rw [take_get N j z54 hjl, List.filter_append] at e
      have hlen : ((N.take j).filter fun q => inC (rd A.l (q.f1 * 10 + q.f0)) 0 most).length ≤ 1000 := by
        have := List.length_filter_le (fun q => inC (rd A.l (q.f1 * 10 + q.f0)) 0 most) (N.take j)
        rw [List.length_take] at this
        omega
      refine Ev.succ ?_
      simp only [spec_l01Near.l0]
      rw [rdS_get, wnat j 1000 (by omega) (by omega), In_c]
      simp only [Option.bind_some]
      refine Ev.pos (by omega) (Ev.pos (by omega) (Ev.pos cy.1 (Ev.pos cy.2 (Ev.pos cx.1 (Ev.pos cx.2 ?_)))))
      cases hc : inC (rd A.l ((N.getD j z54).f1 * 10 + (N.getD j z54).f0)) 0 most with
      | true =>
        simp only [List.filter_cons, List.filter_nil, hc, if_true] at e
        exact Ev.pos rfl (Ev.pos (by omega) e)
      | false =>
        simp only [List.filter_cons, List.filter_nil, hc, Bool.false_eq_true, if_false, List.append_nil] at e
        exact Ev.neg Bool.false_ne_true e
  exact key N.length 0 (Nat.zero_add _)
def freeL (s0 s1 : Int) (W : LA 10) : List S54 := cellsL (fr W.l) s0.toNat s1.toNat
theorem freeL_mem {s0 s1 : Int} {W : LA 10} (h0 : 1 ≤ s0 ∧ s0 ≤ 10) (h1 : 1 ≤ s1 ∧ s1 ≤ 10) : ∀ q ∈ freeL s0 s1 W, (0 ≤ q.f0 ∧ q.f0 < 10) ∧ (0 ≤ q.f1 ∧ q.f1 < 10) := fun q hq => by
  have := cellsL_mem (fr W.l) s0.toNat s1.toNat s1.toNat (Nat.le_refl _) q hq
  omega
theorem freeL_len {s0 s1 : Int} {W : LA 10} (h0 : 1 ≤ s0 ∧ s0 ≤ 10) (h1 : 1 ≤ s1 ∧ s1 ≤ 10) : (freeL s0 s1 W).length ≤ 100 := by
  have h := cellsL_len (fr W.l) s0.toNat s1.toNat
  have h2 : s0.toNat * s1.toNat ≤ 10 * 10 := Nat.mul_le_mul (by omega) (by omega)
  unfold freeL
  omega
theorem freeL_free {s0 s1 : Int} {W : LA 10} (h0 : 1 ≤ s0 ∧ s0 ≤ 10) (h1 : 1 ≤ s1 ∧ s1 ≤ 10) : ∀ q ∈ freeL s0 s1 W, frC s0 s1 W q.f0 q.f1 = true := fun q hq => by
  have e : freeL s0 s1 W = (cellsL (fun _ _ => true) s0.toNat s1.toNat).filter (fun q => fr W.l q.f0 q.f1) := cellsL_filter (fr W.l) (fun _ _ => true) (fun q => fr W.l q.f0 q.f1) s0.toNat s1.toNat (fun a b _ _ => by simp)
  have hb := cellsL_mem (fr W.l) s0.toNat s1.toNat s1.toNat (Nat.le_refl _) q hq
  rw [e] at hq
  have hf := (List.mem_filter.1 hq).2
  unfold frC isC inC
  simp only [hf, Bool.and_true, Bool.and_eq_true, decide_eq_true_eq]
  omega
theorem rowL_in (p : Int → Int → Bool) (y : Int) (acc : List S54) : ∀ x (a : Nat), (a < x ∧ p (a : Int) y = true) → (⟨(a : Int), y⟩ : S54) ∈ rowL p y acc x
  | 0, a, h => by omega
  | x + 1, a, h => by
    rw [rowL]
    by_cases e : a = x
    · subst e
      rw [if_pos h.2]
      simp
    · have := rowL_in p y acc x a ⟨by omega, h.2⟩
      split
      · exact List.mem_append_left _ this
      · exact this
theorem rowL_keep (p : Int → Int → Bool) (y : Int) (acc : List S54) (s : S54) (h : s ∈ acc) : ∀ x, s ∈ rowL p y acc x
  | 0 => h
  | x + 1 => by
    have := rowL_keep p y acc s h x
    rw [rowL]
    split
    · exact List.mem_append_left _ this
    · exact this
theorem cellsL_in (p : Int → Int → Bool) (w : Nat) : ∀ h (a b : Nat), a < w → b < h → p (a : Int) (b : Int) = true → (⟨(a : Int), (b : Int)⟩ : S54) ∈ cellsL p w h
  | 0, a, b, _, hb, _ => by omega
  | h + 1, a, b, ha, hb, hp => by
    rw [cellsL]
    by_cases e : b = h
    · subst e
      exact rowL_in p _ _ w a ⟨ha, hp⟩
    · exact rowL_keep p _ _ _ (cellsL_in p w h a b ha (by omega) hp) w
theorem freeL_in {s0 s1 : Int} {W : LA 10} (q : S54) (h : frC s0 s1 W q.f0 q.f1 = true) : q ∈ freeL s0 s1 W := by
  have hc : isC s0 s1 q.f0 q.f1 = true ∧ fr W.l q.f0 q.f1 = true := by unfold frC at h; simpa using h
  have hb := isC_bounds hc.1
  have e0 : ((q.f0.toNat : Nat) : Int) = q.f0 := by omega
  have e1 : ((q.f1.toNat : Nat) : Int) = q.f1 := by omega
  have := cellsL_in (fr W.l) s0.toNat s1.toNat q.f0.toNat q.f1.toNat (by omega) (by omega) (by rw [e0, e1]; exact hc.2)
  rw [e0, e1] at this
  exact this
theorem NearOf (s0 s1 : Int) (W : LA 10) (hb : ∀ i, 0 ≤ rd W.l i ∧ rd W.l i < 65536) (h0 : 1 ≤ s0 ∧ s0 ≤ 10) (h1 : 1 ≤ s1 ∧ s1 ≤ 10) (m : Int) :
    ∃ nb : S54 → S54 → Bool, ∀ p, frC s0 s1 W p.f0 p.f1 = true → (∃ M, Ev (fun k => impl_Room_steps.f k s0 s1 W p.f0 p.f1) M ∧ ∀ q ∈ freeL s0 s1 W, (mhas M q.f0 q.f1 && decide (mval M q.f0 q.f1 ≤ m)) = nb p q) ∧
      Ev (fun k => spec_l01Near.f k s0 s1 W p.f0 p.f1 m) ((freeL s0 s1 W).filter (nb p)) ∧ (0 ≤ m → nb p p = true) := by
  have key : ∀ p : S54, ∃ f : S54 → Bool, frC s0 s1 W p.f0 p.f1 = true → (∃ M, Ev (fun k => impl_Room_steps.f k s0 s1 W p.f0 p.f1) M ∧ ∀ q ∈ freeL s0 s1 W, (mhas M q.f0 q.f1 && decide (mval M q.f0 q.f1 ≤ m)) = f q) ∧
      Ev (fun k => spec_l01Near.f k s0 s1 W p.f0 p.f1 m) ((freeL s0 s1 W).filter f) ∧ (0 ≤ m → f p = true) := fun p => by
    by_cases hp : frC s0 s1 W p.f0 p.f1 = true
    · obtain ⟨L, M, A, hS, e1, e2⟩ := Steps_both s0 s1 W hb h0 h1 p.f0 p.f1 hp
      have heq : ∀ q ∈ freeL s0 s1 W, inC (rd A.l (q.f1 * 10 + q.f0)) 0 m = (mhas M q.f0 q.f1 && decide (mval M q.f0 q.f1 ≤ m)) := fun q hq => by
        obtain ⟨cx, cy⟩ := freeL_mem h0 h1 q hq
        rw [hS.arr _ _ cx cy]
        cases hm : mhas M q.f0 q.f1 with
        | true =>
          have hv := hS.val _ _ hm
          rw [if_pos rfl]
          unfold inC
          simp
          intro _
          exact hv.1
        | false =>
          rw [if_neg Bool.false_ne_true]
          unfold inC
          simp
      refine ⟨fun q => mhas M q.f0 q.f1 && decide (mval M q.f0 q.f1 ≤ m), fun _ => ⟨⟨M, e1, fun q _ => rfl⟩, ?_, fun hm => ?_⟩⟩
      · unfold spec_l01Near.f
        refine Ev.bind e2 (Ev.bind (All_s s0 s1 W hb s0.toNat s1.toNat (by omega) (by omega) (by omega) (by omega)) ?_)
        have hl := freeL_len (W := W) h0 h1
        refine Ev.eq (NearL_s m A (freeL s0 s1 W) (by omega) (freeL_mem h0 h1)) (List.filter_congr heq)
      · obtain ⟨a1, a2⟩ := hS.one
        simp only [] at a1 a2
        show (mhas M p.f0 p.f1 && decide (mval M p.f0 p.f1 ≤ m)) = true
        rw [a1, a2]
        simpa using hm
    · exact ⟨fun _ => false, fun h => absurd h hp⟩
  exact Classical.axiomOfChoice key
theorem Asked7_bad (s0 s1 : Int) (W : LA 10) (l : List S54) (b : Bool) (hv : Ev (fun k => spec_l01Ok.f k s0 s1 W) false) : Ev (fun k => spec_l07Asked.f k s0 s1 W l b) 1 := by
  unfold spec_l07Asked.f
  exact Ev.bind hv (Ev.neg Bool.false_ne_true (Ev.now _))
theorem AskedF_ev (s0 s1 : Int) (W : LA 10) (hb : ∀ i, 0 ≤ rd W.l i ∧ rd W.l i < 65536) (h0 : 1 ≤ s0 ∧ s0 ≤ 10) (h1 : 1 ≤ s1 ∧ s1 ≤ 10) (l : List S54) (hl : l.length ≤ 1073741824) (hs : ∀ q ∈ l, SB q) :
    Ev (fun k => spec_l07Asked.l1 k l 0 s0 s1 W) (if allFree s0 s1 W l then 0 else 4) := by
  have key : ∀ (n i : Nat), i + n = l.length → Ev (fun k => spec_l07Asked.l1 k l (i : Int) s0 s1 W) (if allFree s0 s1 W (l.drop i) then 0 else 4) := by
    intro n
    induction n with
    | zero =>
      intro i hi
      obtain rfl : i = l.length := by omega
      rw [List.drop_length]
      refine Ev.succ ?_
      simp only [spec_l07Asked.l1]
      exact Ev.neg (by omega) (Ev.now _)
    | succ n ih =>
      intro i hi
      have hil : i < l.length := by omega
      have hm := hs _ (getD_mem l i z54 hil)
      refine Ev.succ ?_
      simp only [spec_l07Asked.l1]
      refine Ev.pos (by omega) (Ev.pos (by omega) ?_)
      rw [rdS_get, Fr_s s0 s1 W hb h0 h1 _ _ hm.1 hm.2, wnat i l.length hil (by omega), drop_get l i z54 hil]
      simp only [Option.bind_some]
      cases hc : frC s0 s1 W (l.getD i z54).f0 (l.getD i z54).f1 with
      | true =>
        refine Ev.pos rfl (Ev.eq (ih (i + 1) (by omega)) ?_)
        unfold allFree
        rw [List.any_cons, hc]
        rfl
      | false =>
        refine Ev.neg (by simp) (Ev.eq (Ev.now 4) ?_)
        unfold allFree
        rw [List.any_cons, hc]
        rfl
  exact key l.length 0 (by omega)
theorem AskedC_ev (s0 s1 : Int) (W : LA 10) (hb : ∀ i, 0 ≤ rd W.l i ∧ rd W.l i < 65536) (h0 : 1 ≤ s0 ∧ s0 ≤ 10) (h1 : 1 ≤ s1 ∧ s1 ≤ 10) (l : List S54) (hl : l.length ≤ 1073741824) (hs : ∀ q ∈ l, SB q) (b : Bool) :
    Ev (fun k => spec_l07Asked.l0 k l b 0 s0 s1 W) (if allCell s0 s1 l && b then (if allFree s0 s1 W l then 0 else 4) else 2) := by
  have key : ∀ (n i : Nat), i + n = l.length → Ev (fun k => spec_l07Asked.l0 k l b (i : Int) s0 s1 W) (if allCell s0 s1 (l.drop i) && b then (if allFree s0 s1 W l then 0 else 4) else 2) := by
    intro n
    induction n with
    | zero =>
      intro i hi
      obtain rfl : i = l.length := by omega
      rw [List.drop_length]
      refine Ev.succ ?_
      simp only [spec_l07Asked.l0]
      refine Ev.neg (by omega) ?_
      cases b with
      | true => exact Ev.pos rfl (AskedF_ev s0 s1 W hb h0 h1 l hl hs)
      | false => exact Ev.neg Bool.false_ne_true (Ev.now _)
    | succ n ih =>
      intro i hi
      have hil : i < l.length := by omega
      have hm := hs _ (getD_mem l i z54 hil)
      refine Ev.succ ?_
      simp only [spec_l07Asked.l0]
      refine Ev.pos (by omega) (Ev.pos (by omega) ?_)
      rw [rdS_get, Is_s s0 s1 W h0 h1 _ _ hm.1 hm.2, wnat i l.length hil (by omega), drop_get l i z54 hil]
      simp only [Option.bind_some]
      cases hc : isC s0 s1 (l.getD i z54).f0 (l.getD i z54).f1 with
      | true =>
        refine Ev.pos rfl (Ev.eq (ih (i + 1) (by omega)) ?_)
        unfold allCell
        rw [List.any_cons, hc]
        rfl
      | false =>
        refine Ev.neg (by simp) (Ev.eq (Ev.now 2) ?_)
        unfold allCell
        rw [List.any_cons, hc]
        rfl
  exact key l.length 0 (by omega)
theorem Asked7_ev (s0 s1 : Int) (W : LA 10) (hb : ∀ i, 0 ≤ rd W.l i ∧ rd W.l i < 65536) (hv : Ev (fun k => spec_l01Ok.f k s0 s1 W) true) (h0 : 1 ≤ s0 ∧ s0 ≤ 10) (h1 : 1 ≤ s1 ∧ s1 ≤ 10) (l : List S54) (hl : l.length ≤ 1073741824) (hs : ∀ q ∈ l, SB q) (b : Bool) :
    Ev (fun k => spec_l07Asked.f k s0 s1 W l b) (if allCell s0 s1 l && b then (if allFree s0 s1 W l then 0 else 4) else 2) := by
  unfold spec_l07Asked.f
  exact Ev.bind hv (Ev.pos rfl (AskedC_ev s0 s1 W hb h0 h1 l hl hs b))
theorem PostCode_both (s0 s1 : Int) (W : LA 10) (hr : RB s0 s1 W) (l : List S54) (hl : l.length ≤ 1073741824) (hs : ∀ q ∈ l, SB q) (m : Int) :
    ∃ c : Int, spec_l07Reach.f m = some (inC m 0 20) ∧ Ev (fun k => spec_l07Asked.f k s0 s1 W l (inC m 0 20)) c ∧ Ev (fun k => impl_postCode.f k s0 s1 W l m 0) c ∧ (c = 0 → allFree s0 s1 W l = true ∧ ((1 ≤ s0 ∧ s0 ≤ 10) ∧ (1 ≤ s1 ∧ s1 ≤ 10)) ∧ 0 ≤ m) := by
  have hre : spec_l07Reach.f m = some (inC m 0 20) := by unfold spec_l07Reach.f; rw [In_c]; rfl
  have hpc : ∀ c1 c3 : Int, Ev (fun k => impl_cellCode.f k s0 s1 W l) c1 → Ev (fun k => impl_stateCode.f k s0 s1 W l) c3 → Ev (fun k => impl_postCode.f k s0 s1 W l m 0) (firstNZ [c1, if inC m 0 20 then 0 else 2, c3]) := fun c1 c3 e1 e3 => by
    have hf := FirstOf_ev [c1, if inC m 0 20 then 0 else 2, c3] (by simp)
    unfold impl_postCode.f
    refine Ev.bind e1 (Ev.bind (Ev.const (Within_c m 0 20)) ?_)
    cases hc : inC m 0 20 with
    | true =>
      rw [hc] at hf
      exact Ev.pos rfl (Ev.bind (Ev.const (Within_c 0 0 20000)) (Ev.bind (Ev.const (Unless_c _ 2)) (Ev.bind e3 (Ev.bind hf (Ev.now _)))))
    | false =>
      rw [hc] at hf
      exact Ev.neg Bool.false_ne_true (Ev.bind (Ev.const (Unless_c _ 2)) (Ev.bind e3 (Ev.bind hf (Ev.now _))))
  obtain ⟨ok, o1, o2, o3⟩ := Ok_both s0 s1 W hr.1 hr.2.1
  cases ok with
  | false =>
    refine ⟨1, hre, Asked7_bad s0 s1 W l _ o1, Ev.eq (hpc 1 _ (CellCode_bad s0 s1 W _ o2) (StateCode_any s0 s1 W hr _ hl hs)) ?_, fun h => ?_⟩
    · simp [firstNZ]
    · exact absurd h (by decide)
  | true =>
    obtain ⟨h0, h1⟩ := o3 rfl
    have e := Asked7_ev s0 s1 W hr.2.2 o1 h0 h1 l hl hs (inC m 0 20)
    refine ⟨_, hre, e, Ev.eq (hpc _ _ (CellCode_ev s0 s1 W o2 h0 h1 _ hl hs) (StateCode_ev s0 s1 W hr.2.2 h0 h1 _ hl hs)) ?_, fun h => ?_⟩
    · cases allCell s0 s1 l <;> cases inC m 0 20 <;> cases allFree s0 s1 W l <;> simp [firstNZ]
    · have hm : inC m 0 20 = true := by
        cases hc : inC m 0 20 with
        | true => rfl
        | false => rw [hc] at h; simp at h
      have hf : allFree s0 s1 W l = true := by
        cases hc : allFree s0 s1 W l with
        | true => rfl
        | false =>
          rw [hc] at h
          simp only [Bool.false_eq_true, if_false] at h
          split at h <;> exact absurd h (by decide)
      refine ⟨hf, ⟨h0, h1⟩, ?_⟩
      unfold inC at hm
      simp at hm
      exact hm.1
end Go.Proofs.Ytmcjgpbhjpakhaa.Q
end
section
namespace Go.Proofs.Ytmcjgpbhjpakhaa.Q
open Go.RowKit Go.Proofs.YtmcjgpbhjpakhaaW.PrintWords Go.Proofs.YtmcjgpbhjpakhaaW.PrintLast Go.Proofs.YtmcjgpbhjpakhaaW.PrintMore Go.Proofs.Ytmcjgpbhjpakhaa.La Go.Proofs.Ytmcjgpbhjpakhaa.Mp Go.Proofs.Ytmcjgpbhjpakhaa.PB
set_option linter.unusedVariables false
set_option linter.unusedSimpArgs false
theorem sp_ext {a b : S54} (h0 : a.f0 = b.f0) (h1 : a.f1 = b.f1) : a = b := by
  cases a
  cases b
  simp only at h0 h1
  rw [h0, h1]
def isS (x y : Int) (s : S54) : Bool := s.f0 == x && s.f1 == y
theorem any_filter (L : List S54) (f : S54 → Bool) (q : S54) (hq : q ∈ L) : (L.filter f).any (isS q.f0 q.f1) = f q := by
  cases hf : f q with
  | true => exact List.any_eq_true.2 ⟨q, List.mem_filter.2 ⟨hq, hf⟩, by simp [isS]⟩
  | false =>
    rw [List.any_eq_false]
    intro s hs
    obtain ⟨_, h2⟩ := List.mem_filter.1 hs
    intro he
    simp only [isS, Bool.and_eq_true, beq_iff_eq] at he
    have := sp_ext he.1 he.2
    rw [this, hf] at h2
    exact absurd h2 Bool.false_ne_true
def tel (T : LA 100) (P : Int → Int → Bool) : Prop := ∀ x y : Int, 0 ≤ x ∧ x < 10 → 0 ≤ y ∧ y < 10 → rd T.l (y * 10 + x) = if P x y = true then 1 else 0
theorem Mark_in (s0 s1 : Int) (W : LA 10) (l : List S54) (m i : Int) (N : List S54) (hN : N.length ≤ 1000) (hc : ∀ q ∈ N, (0 ≤ q.f0 ∧ q.f0 < 10) ∧ (0 ≤ q.f1 ∧ q.f1 < 10)) : ∀ n j : Nat, j + n = N.length → ∀ (T : LA 100) (P : Int → Int → Bool), tel T P →
    ∃ T', tel T' (fun x y => P x y || (N.drop j).any (isS x y)) ∧ ∀ r, Ev (fun k => spec_l07Near.l0 k l m (wrap64 (i + 1)) s0 s1 W T') r → Ev (fun k => spec_l07Near.l1 k l m i N (j : Int) s0 s1 W T) r := by
  intro n
  induction n with
  | zero =>
    intro j hj T P hT
    obtain rfl : j = N.length := by omega
    refine ⟨T, fun x y hx hy => ?_, fun r hr => ?_⟩
    · rw [hT x y hx hy]
      simp [List.drop_length]
    · refine Ev.succ ?_
      simp only [spec_l07Near.l1]
      exact Ev.neg (by omega) hr
  | succ n ih =>
    intro j hj T P hT
    have hjl : j < N.length := by omega
    obtain ⟨cx, cy⟩ := hc _ (getD_mem N j z54 hjl)
    obtain ⟨T', hT', hr'⟩ := ih (j + 1) (by omega) (LA.set T ((N.getD j z54).f1 * 10 + (N.getD j z54).f0) (nbool true)) (fun x y => P x y || isS x y (N.getD j z54)) (fun x y hx hy => by
      by_cases e : (N.getD j z54).f0 = x ∧ (N.getD j z54).f1 = y
      · rw [← e.1, ← e.2, rd_set_same _ _ _ (by omega) (by omega)]
        simp [isS, nbool]
      · rw [rd_set_other _ _ _ _ (by omega) (by omega) (by omega), hT x y hx hy]
        have : isS x y (N.getD j z54) = false := by
          unfold isS
          rw [Bool.and_eq_false_iff]
          by_cases e0 : (N.getD j z54).f0 = x
          · right
            simpa using fun h => e ⟨e0, h⟩
          · left
            simpa using e0
        simp only [this, Bool.or_false])
    refine ⟨T', fun x y hx hy => ?_, fun r hr => ?_⟩
    · rw [hT' x y hx hy]
      simp only [drop_get N j z54 hjl, List.any_cons, Bool.or_assoc]
    · refine Ev.succ ?_
      simp only [spec_l07Near.l1]
      rw [rdS_get, wnat j 1000 (by omega) (by omega)]
      exact Ev.pos (by omega) (Ev.pos (by omega) (Ev.pos cy.1 (Ev.pos cy.2 (Ev.pos cx.1 (Ev.pos cx.2 (hr' r hr))))))
theorem Mark_out (s0 s1 : Int) (W : LA 10) (h0 : 1 ≤ s0 ∧ s0 ≤ 10) (h1 : 1 ≤ s1 ∧ s1 ≤ 10) (m : Int) (nb : S54 → S54 → Bool) (l : List S54) (hl : l.length ≤ 1073742000)
    (hn : ∀ p ∈ l, Ev (fun k => spec_l01Near.f k s0 s1 W p.f0 p.f1 m) ((freeL s0 s1 W).filter (nb p))) : ∀ n i : Nat, i + n = l.length → ∀ (T : LA 100) (P : Int → Int → Bool), tel T P →
    ∃ T', tel T' (fun x y => P x y || (l.drop i).any (fun p => ((freeL s0 s1 W).filter (nb p)).any (isS x y))) ∧ Ev (fun k => spec_l07Near.l0 k l m (i : Int) s0 s1 W T) T' := by
  intro n
  induction n with
  | zero =>
    intro i hi T P hT
    obtain rfl : i = l.length := by omega
    refine ⟨T, fun x y hx hy => ?_, ?_⟩
    · rw [hT x y hx hy]
      simp [List.drop_length]
    · refine Ev.succ ?_
      simp only [spec_l07Near.l0]
      exact Ev.neg (by omega) (Ev.now _)
  | succ n ih =>
    intro i hi T P hT
    have hil : i < l.length := by omega
    have hfl := freeL_len (W := W) h0 h1
    have hlen := List.length_filter_le (nb (l.getD i z54)) (freeL s0 s1 W)
    obtain ⟨T1, hT1, hr1⟩ := Mark_in s0 s1 W l m (i : Int) ((freeL s0 s1 W).filter (nb (l.getD i z54))) (by omega) (fun q hq => freeL_mem h0 h1 q (List.mem_filter.1 hq).1) _ 0 (Nat.zero_add _) T P hT
    obtain ⟨T', hT', hr'⟩ := ih (i + 1) (by omega) T1 _ hT1
    refine ⟨T', fun x y hx hy => ?_, ?_⟩
    · rw [hT' x y hx hy]
      simp only [drop_get l i z54 hil, List.any_cons, List.drop_zero, Bool.or_assoc]
    · refine Ev.succ ?_
      simp only [spec_l07Near.l0]
      rw [rdS_get]
      refine Ev.pos (by omega) (Ev.pos (by omega) (Ev.bind (hn _ (getD_mem l i z54 hil)) (hr1 T' ?_)))
      rw [wnat i 1073742000 (by omega) (by omega)]
      exact hr'
theorem Split_s (s0 s1 : Int) (W : LA 10) (hb : ∀ i, 0 ≤ rd W.l i ∧ rd W.l i < 65536) (h0 : 1 ≤ s0 ∧ s0 ≤ 10) (h1 : 1 ≤ s1 ∧ s1 ≤ 10) (m : Int) (nb : S54 → S54 → Bool) (l : List S54) (hl : l.length ≤ 1073742000)
    (hn : ∀ p ∈ l, Ev (fun k => spec_l01Near.f k s0 s1 W p.f0 p.f1 m) ((freeL s0 s1 W).filter (nb p))) :
    Ev (fun k => spec_l07Split.f k s0 s1 W l m) ((freeL s0 s1 W).filter (fun q => l.any (fun p => nb p q)), (freeL s0 s1 W).filter (fun q => !(l.any (fun p => nb p q)))) := by
  obtain ⟨T, hT, e1⟩ := Mark_out s0 s1 W h0 h1 m nb l hl hn l.length 0 (Nat.zero_add _) (LA.zero 100) (fun _ _ => false) (fun x y hx hy => by rw [rd_zero]; simp)
  have hfl := freeL_len (W := W) h0 h1
  have hmem := freeL_mem (W := W) h0 h1
  have hq : ∀ q ∈ freeL s0 s1 W, rd T.l (q.f1 * 10 + q.f0) = if l.any (fun p => nb p q) = true then 1 else 0 := fun q hq => by
    obtain ⟨cx, cy⟩ := hmem q hq
    rw [hT _ _ cx cy]
    simp only [Bool.false_or, List.drop_zero, any_filter _ _ q hq]
  have key : ∀ n j : Nat, j + n = (freeL s0 s1 W).length → Ev (fun k => spec_l07Split.l0 k (((freeL s0 s1 W).take j).filter (fun q => l.any (fun p => nb p q))) (((freeL s0 s1 W).take j).filter (fun q => !(l.any (fun p => nb p q)))) (freeL s0 s1 W) (j : Int) T)
      ((freeL s0 s1 W).filter (fun q => l.any (fun p => nb p q)), (freeL s0 s1 W).filter (fun q => !(l.any (fun p => nb p q)))) := by
    intro n
    induction n with
    | zero =>
      intro j hj
      obtain rfl : j = (freeL s0 s1 W).length := by omega
      refine Ev.succ ?_
      simp only [spec_l07Split.l0]
      rw [List.take_length]
      exact Ev.neg (by omega) (Ev.now _)
    | succ n ih =>
      intro j hj
      have hjl : j < (freeL s0 s1 W).length := by omega
      have e := ih (j + 1) (by omega)
      rw [take_get (freeL s0 s1 W) j z54 hjl, List.filter_append, List.filter_append] at e
      have hg := getD_mem (freeL s0 s1 W) j z54 hjl
      obtain ⟨cx, cy⟩ := hmem _ hg
      have l1 := List.length_filter_le (fun q => l.any (fun p => nb p q)) ((freeL s0 s1 W).take j)
      have l2 := List.length_filter_le (fun q => !(l.any (fun p => nb p q))) ((freeL s0 s1 W).take j)
      rw [List.length_take] at l1 l2
      refine Ev.succ ?_
      simp only [spec_l07Split.l0]
      rw [rdS_get, wnat j 1000 (by omega) (by omega), hq _ hg]
      refine Ev.pos (by omega) (Ev.pos (by omega) (Ev.pos cy.1 (Ev.pos cy.2 (Ev.pos cx.1 (Ev.pos cx.2 ?_)))))
      cases hc : l.any (fun p => nb p ((freeL s0 s1 W).getD j z54)) with
      | true =>
        simp only [List.filter_cons, List.filter_nil, hc, if_true, Bool.not_true, Bool.false_eq_true, if_false, List.append_nil] at e
        exact Ev.pos rfl (Ev.pos (by omega) e)
      | false =>
        simp only [List.filter_cons, List.filter_nil, hc, if_true, Bool.not_false, Bool.false_eq_true, if_false, List.append_nil] at e
        exact Ev.neg (by decide) (Ev.pos (by omega) e)
  unfold spec_l07Split.f spec_l07Near.f
  exact Ev.bind e1 (Ev.bind (All_s s0 s1 W hb s0.toNat s1.toNat (by omega) (by omega) (by omega) (by omega)) (key _ 0 (Nat.zero_add _)))
def idx (L : List S54) (f : S54 → Bool) : List Int := ((List.range L.length).filter (fun j => f (L.getD j z54))).map (fun (j : Nat) => (j : Int))
theorem idx_len (L : List S54) (f : S54 → Bool) : (idx L f).length ≤ L.length := by
  have := List.length_filter_le (fun j => f (L.getD j z54)) (List.range L.length)
  rw [List.length_range] at this
  unfold idx
  rwa [List.length_map]
theorem idx_mem (L : List S54) (f : S54 → Bool) : ∀ x ∈ idx L f, 0 ≤ x ∧ x < L.length := fun x hx => by
  obtain ⟨j, hj, rfl⟩ := List.mem_map.1 hx
  have := List.mem_range.1 (List.mem_filter.1 hj).1
  omega
theorem idx_has (L : List S54) (f : S54 → Bool) (j : Nat) (hj : j < L.length) : (idx L f).any (fun x => x == (j : Int)) = f (L.getD j z54) := by
  cases hf : f (L.getD j z54) with
  | true => exact List.any_eq_true.2 ⟨(j : Int), List.mem_map.2 ⟨j, List.mem_filter.2 ⟨List.mem_range.2 hj, hf⟩, rfl⟩, by simp⟩
  | false =>
    rw [List.any_eq_false]
    intro x hx he
    obtain ⟨i, hi, rfl⟩ := List.mem_map.1 hx
    have h2 := (List.mem_filter.1 hi).2
    have : i = j := by
      have := beq_iff_eq.1 he
      omega
    rw [this, hf] at h2
    exact absurd h2 Bool.false_ne_true
theorem Posts_i (s0 s1 : Int) (W : LA 10) (hb : ∀ i, 0 ≤ rd W.l i ∧ rd W.l i < 65536) (h0 : 1 ≤ s0 ∧ s0 ≤ 10) (h1 : 1 ≤ s1 ∧ s1 ≤ 10) (m : Int) (nb : S54 → S54 → Bool)
    (hn : ∀ p ∈ freeL s0 s1 W, ∃ M, Ev (fun k => impl_Room_steps.f k s0 s1 W p.f0 p.f1) M ∧ ∀ q ∈ freeL s0 s1 W, (mhas M q.f0 q.f1 && decide (mval M q.f0 q.f1 ≤ m)) = nb p q) :
    Ev (fun k => impl_Room_postsOf.f k s0 s1 W m) (freeL s0 s1 W, (freeL s0 s1 W).map fun p => idx (freeL s0 s1 W) (nb p)) := by
  have hfl := freeL_len (W := W) h0 h1
  unfold impl_Room_postsOf.f
  refine Ev.bind (All_i s0 s1 W hb s0.toNat s1.toNat (by omega) (by omega) (by omega) (by omega)) ?_
  show Ev (fun k => impl_Room_postsOf.l0 k m (freeL s0 s1 W) ((freeL s0 s1 W).length : Int) 0 s0 s1 W (freeL s0 s1 W) []) _
  generalize hL : freeL s0 s1 W = L at *
  have inner : ∀ (M : MP) (f : S54 → Bool), (∀ q ∈ L, (mhas M q.f0 q.f1 && decide (mval M q.f0 q.f1 ≤ m)) = f q) → ∀ (i : Int) (acc : List (List Int)), acc.length ≤ 1000 → ∀ r, Ev (fun k => impl_Room_postsOf.l0 k m L (L.length : Int) (wrap64 (i + 1)) s0 s1 W L (acc ++ [idx L f])) r →
      ∀ n j : Nat, j + n = L.length → Ev (fun k => impl_Room_postsOf.l1 k m (((List.range j).filter (fun j => f (L.getD j z54))).map (fun (j : Nat) => (j : Int))) L (L.length : Int) i L (L.length : Int) (j : Int) s0 s1 W L acc M) r := by
    intro M f hf i acc hacc r hr n
    induction n with
    | zero =>
      intro j hj
      obtain rfl : j = L.length := by omega
      refine Ev.succ ?_
      simp only [impl_Room_postsOf.l1]
      exact Ev.neg (by omega) (Ev.pos (by omega) hr)
    | succ n ih =>
      intro j hj
      have hjl : j < L.length := by omega
      have e := ih (j + 1) (by omega)
      rw [List.range_succ, List.filter_append, List.map_append] at e
      have hq := hf _ (getD_mem L j z54 hjl)
      have hlen := List.length_filter_le (fun j => f (L.getD j z54)) (List.range j)
      rw [List.length_range] at hlen
      refine Ev.succ ?_
      simp only [impl_Room_postsOf.l1]
      rw [rdS_get, wnat j 1000 (by omega) (by omega)]
      refine Ev.pos (by omega) (Ev.pos (by omega) (Ev.pos (by omega) ?_))
      cases hh : mhas M (L.getD j z54).f0 (L.getD j z54).f1 with
      | false =>
        rw [hh, Bool.false_and] at hq
        simp only [List.filter_cons, List.filter_nil, ← hq, Bool.false_eq_true, if_false, List.map_nil, List.append_nil] at e
        exact Ev.neg Bool.false_ne_true e
      | true =>
        rw [hh, Bool.true_and] at hq
        by_cases hv : mval M (L.getD j z54).f0 (L.getD j z54).f1 ≤ m
        · rw [decide_eq_true hv] at hq
          simp only [List.filter_cons, List.filter_nil, ← hq, if_true, List.map_cons, List.map_nil] at e
          exact Ev.pos rfl (Ev.pos hv (Ev.pos (by rw [List.length_map]; omega) e))
        · rw [decide_eq_false hv] at hq
          simp only [List.filter_cons, List.filter_nil, ← hq, Bool.false_eq_true, if_false, List.map_nil, List.append_nil] at e
          exact Ev.pos rfl (Ev.neg hv e)
  have key : ∀ n i : Nat, i + n = L.length → Ev (fun k => impl_Room_postsOf.l0 k m L (L.length : Int) (i : Int) s0 s1 W L ((L.take i).map fun p => idx L (nb p))) (L, L.map fun p => idx L (nb p)) := by
    intro n
    induction n with
    | zero =>
      intro i hi
      obtain rfl : i = L.length := by omega
      refine Ev.succ ?_
      simp only [impl_Room_postsOf.l0]
      rw [List.take_length]
      exact Ev.neg (by omega) (Ev.now _)
    | succ n ih =>
      intro i hi
      have hil : i < L.length := by omega
      have e := ih (i + 1) (by omega)
      rw [take_get L i z54 hil, List.map_append, List.map_cons, List.map_nil] at e
      obtain ⟨M, e1, hM⟩ := hn _ (getD_mem L i z54 hil)
      refine Ev.succ ?_
      simp only [impl_Room_postsOf.l0]
      rw [rdS_get]
      refine Ev.pos (by omega) (Ev.pos (by omega) (Ev.pos (by omega) (Ev.bind e1 ?_)))
      refine inner M (nb (L.getD i z54)) hM (i : Int) _ (by rw [List.length_map, List.length_take]; omega) _ ?_ L.length 0 (Nat.zero_add _)
      rw [wnat i 1000 (by omega) (by omega)]
      exact e
  exact key L.length 0 (Nat.zero_add _)
def bel (n : Nat) (B : List Bool) (P : Nat → Bool) : Prop := B.length = n ∧ ∀ j : Nat, j < n → B.getD j false = !(P j)
theorem bel_set {n : Nat} {B : List Bool} {P : Nat → Bool} (h : bel n B P) (x : Int) (hx : 0 ≤ x ∧ x < n) : bel n (B.set x.toNat false) (fun j => P j || x == (j : Int)) := by
  refine ⟨by rw [List.length_set]; exact h.1, fun j hj => ?_⟩
  by_cases e : x.toNat = j
  · subst e
    rw [List.getD_eq_getElem?_getD, List.getElem?_set_self (by rw [h.1]; omega), Option.getD_some]
    have : (x == ((x.toNat : Nat) : Int)) = true := by rw [beq_iff_eq]; omega
    simp only [this, Bool.or_true, Bool.not_true]
  · rw [List.getD_eq_getElem?_getD, List.getElem?_set_ne e, ← List.getD_eq_getElem?_getD, h.2 j hj]
    have : (x == (j : Int)) = false := by rw [beq_eq_false_iff_ne]; omega
    simp only [this, Bool.or_false]
theorem Find_i (L : List S54) (hL : L.length ≤ 1000) (p : S54) (hp : p ∈ L) : ∃ i : Nat, i < L.length ∧ L.getD i z54 = p ∧ Ev (fun k => impl_Spot_67.f k L p.f0 p.f1) (i : Int) := by
  obtain ⟨a, ha, hae⟩ := List.mem_iff_getElem.1 hp
  have hag : L.getD a z54 = p := by rw [List.getD_eq_getElem?_getD, List.getElem?_eq_getElem ha, Option.getD_some, hae]
  have key : ∀ n j : Nat, j + n = a → ∃ i : Nat, i < L.length ∧ L.getD i z54 = p ∧ Ev (fun k => impl_Spot_67.l0 k L (L.length : Int) (j : Int) p.f0 p.f1) (i : Int) := by
    intro n
    induction n with
    | zero =>
      intro j hj
      obtain rfl : j = a := by omega
      refine ⟨j, ha, hag, ?_⟩
      refine Ev.succ ?_
      simp only [impl_Spot_67.l0]
      rw [rdS_get, hag]
      exact Ev.pos (by omega) (Ev.pos (by omega) (Ev.pos (by omega) (Ev.pos (by simp) (Ev.now _))))
    | succ n ih =>
      intro j hj
      by_cases e : (p.f0 == (L.getD j z54).f0 && (p.f1 == (L.getD j z54).f1)) = true
      · refine ⟨j, by omega, ?_, ?_⟩
        · simp only [Bool.and_eq_true, beq_iff_eq] at e
          exact sp_ext e.1.symm e.2.symm
        · refine Ev.succ ?_
          simp only [impl_Spot_67.l0]
          rw [rdS_get]
          exact Ev.pos (by omega) (Ev.pos (by omega) (Ev.pos (by omega) (Ev.pos e (Ev.now _))))
      · obtain ⟨i, h1, h2, h3⟩ := ih (j + 1) (by omega)
        refine ⟨i, h1, h2, ?_⟩
        refine Ev.succ ?_
        simp only [impl_Spot_67.l0]
        rw [rdS_get, wnat j 1000 (by omega) (by omega)]
        exact Ev.pos (by omega) (Ev.pos (by omega) (Ev.pos (by omega) (Ev.neg e h3)))
  exact key a 0 (Nat.zero_add _)
theorem Unset_i (L : List S54) (N : List (List Int)) (l : List S54) (len i : Int) (J : List Int) (hJl : J.length ≤ 1000) (n0 : Nat) (hJ : ∀ x ∈ J, 0 ≤ x ∧ x < n0) : ∀ n t : Nat, t + n = J.length → ∀ (B : List Bool) (P : Nat → Bool), bel n0 B P →
    ∃ B', bel n0 B' (fun j => P j || (J.drop t).any (fun x => x == (j : Int))) ∧ ∀ r, Ev (fun k => impl_posts_far.l0 k B' l len (wrap64 (i + 1)) L N) r → Ev (fun k => impl_posts_far.l1 k B l len i J (J.length : Int) (t : Int) L N) r := by
  intro n
  induction n with
  | zero =>
    intro t ht B P hB
    obtain rfl : t = J.length := by omega
    refine ⟨B, ⟨hB.1, fun j hj => by rw [hB.2 j hj]; simp [List.drop_length]⟩, fun r hr => ?_⟩
    refine Ev.succ ?_
    simp only [impl_posts_far.l1]
    exact Ev.neg (by omega) hr
  | succ n ih =>
    intro t ht B P hB
    have htl : t < J.length := by omega
    have hx := hJ _ (getD_mem J t 0 htl)
    obtain ⟨B', hB', hr'⟩ := ih (t + 1) (by omega) _ _ (bel_set hB _ hx)
    refine ⟨B', ⟨hB'.1, fun j hj => by rw [hB'.2 j hj]; simp only [drop_get J t 0 htl, List.any_cons, Bool.or_assoc]⟩, fun r hr => ?_⟩
    refine Ev.succ ?_
    simp only [impl_posts_far.l1]
    rw [rd_nat, wnat t 1000 (by omega) (by omega)]
    exact Ev.pos (by omega) (Ev.pos (by omega) (Ev.pos (by omega) (Ev.pos hx.1 (Ev.pos (by rw [hB.1]; exact hx.2) (hr' r hr)))))
theorem rdL_get (l : List (List Int)) (i : Nat) : rd_L4 l (i : Int) = l.getD i [] := by simp [rd_L4]
theorem getD_map_ {α β : Type} (f : α → β) (l : List α) (i : Nat) (d : α) (e : β) (h : i < l.length) : (l.map f).getD i e = f (l.getD i d) := by
  rw [List.getD_eq_getElem?_getD, List.getD_eq_getElem?_getD, List.getElem?_map, List.getElem?_eq_getElem h]
  rfl
theorem Far_i (L : List S54) (hL : L.length ≤ 100) (nb : S54 → S54 → Bool) (l : List S54) (hl : l.length ≤ 1073742000) (hm : ∀ p ∈ l, p ∈ L) :
    ∃ B, bel L.length B (fun j => l.any (fun p => nb p (L.getD j z54))) ∧ Ev (fun k => impl_posts_far.f k L (L.map fun p => idx L (nb p)) l) B := by
  have key : ∀ n i : Nat, i + n = l.length → ∀ (B : List Bool) (P : Nat → Bool), bel L.length B P → ∃ B', bel L.length B' (fun j => P j || (l.drop i).any (fun p => nb p (L.getD j z54))) ∧ Ev (fun k => impl_posts_far.l0 k B l (l.length : Int) (i : Int) L (L.map fun p => idx L (nb p))) B' := by
    intro n
    induction n with
    | zero =>
      intro i hi B P hB
      obtain rfl : i = l.length := by omega
      refine ⟨B, ⟨hB.1, fun j hj => by rw [hB.2 j hj]; simp [List.drop_length]⟩, ?_⟩
      refine Ev.succ ?_
      simp only [impl_posts_far.l0]
      exact Ev.neg (by omega) (Ev.now _)
    | succ n ih =>
      intro i hi B P hB
      have hil : i < l.length := by omega
      obtain ⟨a, ha, hap, ea⟩ := Find_i L (by omega) _ (hm _ (getD_mem l i z54 hil))
      have hil2 := idx_len L (nb (l.getD i z54))
      obtain ⟨B1, hB1, hr1⟩ := Unset_i L (L.map fun p => idx L (nb p)) l (l.length : Int) (i : Int) (idx L (nb (l.getD i z54))) (by omega) L.length (idx_mem L _) _ 0 (Nat.zero_add _) B P hB
      obtain ⟨B', hB', hr'⟩ := ih (i + 1) (by omega) B1 _ hB1
      refine ⟨B', ⟨hB'.1, fun j hj => by rw [hB'.2 j hj]; simp only [drop_get l i z54 hil, List.any_cons, List.drop_zero, idx_has L _ j hj, Bool.or_assoc]⟩, ?_⟩
      refine Ev.succ ?_
      simp only [impl_posts_far.l0]
      rw [rdS_get]
      refine Ev.pos (by omega) (Ev.pos (by omega) (Ev.pos (by omega) (Ev.bind ea ?_)))
      rw [rdL_get, getD_map_ (fun p => idx L (nb p)) L a z54 [] ha, hap]
      refine Ev.pos (by omega) (Ev.pos (by rw [List.length_map]; omega) (hr1 B' ?_))
      rw [wnat i 1073742000 (by omega) (by omega)]
      exact hr'
  obtain ⟨B', hB', e⟩ := key l.length 0 (Nat.zero_add _) (List.replicate L.length true) (fun _ => false) ⟨List.length_replicate, fun j hj => by rw [List.getD_eq_getElem?_getD, List.getElem?_replicate, if_pos hj]; rfl⟩
  refine ⟨B', ⟨hB'.1, fun j hj => by rw [hB'.2 j hj]; simp only [List.drop_zero, Bool.false_or]⟩, ?_⟩
  unfold impl_posts_far.f
  have hrp : slices_Repeat_bool_bool.f [true] (L.length : Int) = some (List.replicate L.length true) := by
    unfold slices_Repeat_bool_bool.f
    rw [if_pos ⟨rfl, by omega, by omega⟩]
    rfl
  exact Ev.bind (Ev.const hrp) e
theorem allFree_mem {s0 s1 : Int} {W : LA 10} {l : List S54} (h : allFree s0 s1 W l = true) : ∀ q ∈ l, frC s0 s1 W q.f0 q.f1 = true := fun q hq => by
  unfold allFree at h
  simp at h
  exact h q hq
end Go.Proofs.Ytmcjgpbhjpakhaa.Q
end
section
namespace Go.Proofs.Ytmcjgpbhjpakhaa.Q
open Go.RowKit Go.Proofs.YtmcjgpbhjpakhaaW.PrintWords Go.Proofs.YtmcjgpbhjpakhaaW.PrintLast Go.Proofs.YtmcjgpbhjpakhaaW.PrintMore Go.Proofs.Ytmcjgpbhjpakhaa.La Go.Proofs.Ytmcjgpbhjpakhaa.Mp Go.Proofs.Ytmcjgpbhjpakhaa.PB
set_option linter.unusedVariables false
set_option linter.unusedSimpArgs false
theorem Marks_s (s0 s1 : Int) (W : LA 10) (h0 : 1 ≤ s0 ∧ s0 ≤ 10) (h1 : 1 ≤ s1 ∧ s1 ≤ 10) (m : Int) (nb : S54 → S54 → Bool) (l : List S54) (hl : l.length ≤ 1073742000)
    (hn : ∀ p ∈ l, Ev (fun k => spec_l01Near.f k s0 s1 W p.f0 p.f1 m) ((freeL s0 s1 W).filter (nb p))) :
    ∃ T, Ev (fun k => spec_l07Near.f k s0 s1 W l m) T ∧ ∀ q ∈ freeL s0 s1 W, rd T.l (q.f1 * 10 + q.f0) = if l.any (fun p => nb p q) = true then 1 else 0 := by
  obtain ⟨T, hT, e1⟩ := Mark_out s0 s1 W h0 h1 m nb l hl hn l.length 0 (Nat.zero_add _) (LA.zero 100) (fun _ _ => false) (fun x y hx hy => by rw [rd_zero]; simp)
  refine ⟨T, e1, fun q hq => ?_⟩
  obtain ⟨cx, cy⟩ := freeL_mem h0 h1 q hq
  rw [hT _ _ cx cy]
  simp only [Bool.false_or, List.drop_zero, any_filter _ _ q hq]
theorem range_any {α : Type} (J : List α) (d : α) (p : α → Bool) : (List.range J.length).any (fun i => p (J.getD i d)) = J.any p := by
  cases h : J.any p with
  | true =>
    obtain ⟨x, hx, hp⟩ := List.any_eq_true.1 h
    obtain ⟨a, ha, hae⟩ := List.mem_iff_getElem.1 hx
    refine List.any_eq_true.2 ⟨a, List.mem_range.2 ha, ?_⟩
    rw [List.getD_eq_getElem?_getD, List.getElem?_eq_getElem ha, Option.getD_some, hae]
    exact hp
  | false =>
    rw [List.any_eq_false] at h ⊢
    intro i hi
    exact h _ (getD_mem J i d (List.mem_range.1 hi))
theorem Int_i (J : List Int) (hJ : J.length ≤ 1000) (x : Int) : Ev (fun k => slices_Contains_int_int.f k J x) (J.any (fun y => y == x)) := by
  unfold slices_Contains_int_int.f slices_Index_int_int.f
  obtain ⟨r, hr, hd⟩ := Ev.find_idx (fun k i => slices_Index_int_int.l0 k J x (J.length : Int) i) (fun i => J.getD i 0 == x) J.length
    (fun i hi hp => by
      refine Ev.succ ?_
      simp only [slices_Index_int_int.l0]
      rw [rd_nat]
      exact Ev.pos (by omega) (Ev.pos (by omega) (Ev.pos (by omega) (Ev.pos (beq_iff_eq.1 hp).symm (Ev.now _)))))
    (fun i hi hp r hr => by
      refine Ev.succ ?_
      simp only [slices_Index_int_int.l0]
      rw [rd_nat, wnat i 1000 (by omega) (by omega)]
      exact Ev.pos (by omega) (Ev.pos (by omega) (Ev.pos (by omega) (Ev.neg (fun e => (beq_eq_false_iff_ne.1 hp) e.symm) hr))))
    (by
      refine Ev.succ ?_
      simp only [slices_Index_int_int.l0]
      exact Ev.neg (by omega) (Ev.now _))
  refine Ev.bind hr (Ev.eq (Ev.now _) (hd.trans ?_))
  exact range_any J 0 (fun y => y == x)
theorem Near37 (L : List S54) (hL : L.length ≤ 100) (nb : S54 → S54 → Bool) (x : Int) (hx : 0 ≤ x ∧ x < L.length) (i : Nat) (hi : i < L.length) :
    Ev (fun k => impl_PostsBound_1.f k x L (L.map fun p => idx L (nb p)) (i : Int)) (nb (L.getD x.toNat z54) (L.getD i z54)) := by
  obtain ⟨n, rfl⟩ := Int.eq_ofNat_of_zero_le hx.1
  have hn : n < L.length := by omega
  have hl := idx_len L (nb (L.getD n z54))
  have e := Int_i (idx L (nb (L.getD n z54))) (by omega) (i : Int)
  rw [idx_has L _ i hi] at e
  unfold impl_PostsBound_1.f
  rw [rdL_get, getD_map_ (fun p => idx L (nb p)) L n z54 [] hn, Int.toNat_natCast]
  exact Ev.pos (by omega) (Ev.pos (by rw [List.length_map]; omega) (Ev.bind e (Ev.now _)))
theorem Picked_i (L : List S54) (hL : L.length ≤ 100) (nb : S54 → S54 → Bool) (J : List Int) (hJl : J.length ≤ 1000) (hJ : ∀ x ∈ J, 0 ≤ x ∧ x < L.length) (i : Nat) (hi : i < L.length) :
    Ev (fun k => slices_ContainsFunc_int_int__37.f k J L (L.map fun p => idx L (nb p)) (i : Int)) (J.any (fun x => nb (L.getD x.toNat z54) (L.getD i z54))) := by
  unfold slices_ContainsFunc_int_int__37.f slices_IndexFunc_int_int__37.f
  obtain ⟨r, hr, hd⟩ := Ev.find_idx (fun k j => slices_IndexFunc_int_int__37.l0 k J (J.length : Int) j L (L.map fun p => idx L (nb p)) (i : Int)) (fun j => nb (L.getD (J.getD j 0).toNat z54) (L.getD i z54)) J.length
    (fun j hj hp => by
      have e := Near37 L hL nb _ (hJ _ (getD_mem J j 0 hj)) i hi
      rw [hp] at e
      refine Ev.succ ?_
      simp only [slices_IndexFunc_int_int__37.l0]
      rw [rd_nat]
      exact Ev.pos (by omega) (Ev.pos (by omega) (Ev.pos (by omega) (Ev.bind e (Ev.pos rfl (Ev.now _))))))
    (fun j hj hp r hr => by
      have e := Near37 L hL nb _ (hJ _ (getD_mem J j 0 hj)) i hi
      rw [hp] at e
      refine Ev.succ ?_
      simp only [slices_IndexFunc_int_int__37.l0]
      rw [rd_nat, wnat j 1000 (by omega) (by omega)]
      exact Ev.pos (by omega) (Ev.pos (by omega) (Ev.pos (by omega) (Ev.bind e (Ev.neg Bool.false_ne_true hr)))))
    (by
      refine Ev.succ ?_
      simp only [slices_IndexFunc_int_int__37.l0]
      exact Ev.neg (by omega) (Ev.now _))
  refine Ev.bind hr (Ev.eq (Ev.now _) (hd.trans ?_))
  exact range_any J 0 (fun x => nb (L.getD x.toNat z54) (L.getD i z54))
theorem filter_at (L : List S54) (f : S54 → Bool) (i : Nat) (hi : i < L.length) (hf : f (L.getD i z54) = true) : ((L.take i).filter f).length < (L.filter f).length ∧ (L.filter f).getD ((L.take i).filter f).length z54 = L.getD i z54 := by
  have e : L.filter f = (L.take i).filter f ++ (L.getD i z54 :: (L.drop (i + 1)).filter f) := by
    have h : L = L.take i ++ (L.getD i z54 :: L.drop (i + 1)) := by rw [← drop_get L i z54 hi, List.take_append_drop]
    have h2 := congrArg (List.filter f) h
    rw [List.filter_append, List.filter_cons, if_pos hf] at h2
    exact h2
  constructor
  · rw [e, List.length_append, List.length_cons]
    omega
  · generalize hA : (L.take i).filter f = A at e
    rw [e, List.getD_eq_getElem?_getD, List.getElem?_append_right (Nat.le_refl _), Nat.sub_self]
    rfl
theorem Bound_both (s0 s1 : Int) (W : LA 10) (h0 : 1 ≤ s0 ∧ s0 ≤ 10) (h1 : 1 ≤ s1 ∧ s1 ≤ 10) (m : Int) (nb : S54 → S54 → Bool) (f : S54 → Bool) (B : List Bool)
    (hn : ∀ p ∈ freeL s0 s1 W, Ev (fun k => spec_l01Near.f k s0 s1 W p.f0 p.f1 (wrap64 (2 * m))) ((freeL s0 s1 W).filter (nb p))) (hB : bel (freeL s0 s1 W).length B (fun j => !(f ((freeL s0 s1 W).getD j z54)))) :
    ∀ n i : Nat, i + n = (freeL s0 s1 W).length → ∀ J : List Int, J.length ≤ i → (∀ x ∈ J, 0 ≤ x ∧ x < (freeL s0 s1 W).length) →
      ∃ r : Int × Int, Ev (fun k => spec_PostsBound.l0 k m ((freeL s0 s1 W).filter f) (J.map fun x => (freeL s0 s1 W).getD x.toNat z54) ((((freeL s0 s1 W).take i).filter f).length : Int) s0 s1 W) r ∧
        Ev (fun k => impl_PostsBound.l0 k B J ((freeL s0 s1 W).length : Int) (i : Int) (freeL s0 s1 W) ((freeL s0 s1 W).map fun p => idx (freeL s0 s1 W) (nb p))) r := by
  have hL := freeL_len (W := W) h0 h1
  have hmem := freeL_mem (W := W) h0 h1
  intro n
  induction n with
  | zero =>
    intro i hi J hJl hJ
    obtain rfl : i = (freeL s0 s1 W).length := by omega
    refine ⟨((J.length : Int), 0), ?_, ?_⟩
    · refine Ev.succ ?_
      simp only [spec_PostsBound.l0]
      rw [List.take_length, List.length_map]
      exact Ev.neg (by omega) (Ev.now _)
    · refine Ev.succ ?_
      simp only [impl_PostsBound.l0]
      exact Ev.neg (by omega) (Ev.bind (a := (J.length : Int)) (Ev.now _) (Ev.now _))
  | succ n ih =>
    intro i hi J hJl hJ
    have hil : i < (freeL s0 s1 W).length := by omega
    have hg := getD_mem (freeL s0 s1 W) i z54 hil
    have e37 := Picked_i (freeL s0 s1 W) hL nb J (by omega) hJ i hil
    have hbi : rdOf false B (i : Int) = f ((freeL s0 s1 W).getD i z54) := by
      have := hB.2 i hil
      simpa [rdOf] using this
    have ht := take_get (freeL s0 s1 W) i z54 hil
    cases hf : f ((freeL s0 s1 W).getD i z54) with
    | false =>
      obtain ⟨r, r1, r2⟩ := ih (i + 1) (by omega) J (by omega) hJ
      rw [ht, List.filter_append, List.length_append] at r1
      simp only [List.filter_cons, List.filter_nil, hf, Bool.false_eq_true, if_false, List.length_nil, Nat.add_zero] at r1
      refine ⟨r, r1, ?_⟩
      refine Ev.succ ?_
      simp only [impl_PostsBound.l0]
      rw [hbi, hf, wnat i 1000 (by omega) (by omega)]
      exact Ev.pos (by omega) (Ev.bind e37 (Ev.pos (by omega) (Ev.pos (by rw [hB.1]; omega) (Ev.neg Bool.false_ne_true r2))))
    | true =>
      obtain ⟨hlt, hat⟩ := filter_at (freeL s0 s1 W) f i hil hf
      obtain ⟨T, eT, hT⟩ := Marks_s s0 s1 W h0 h1 (wrap64 (2 * m)) nb (J.map fun x => (freeL s0 s1 W).getD x.toNat z54) (by rw [List.length_map]; omega) (fun p hp => by
        obtain ⟨x, hx, rfl⟩ := List.mem_map.1 hp
        have := hJ x hx
        exact hn _ (getD_mem _ _ z54 (by omega)))
      have hTq := hT _ hg
      rw [List.any_map] at hTq
      obtain ⟨cx, cy⟩ := hmem _ hg
      have hfl := List.length_filter_le f (freeL s0 s1 W)
      cases hp : J.any (fun x => nb ((freeL s0 s1 W).getD x.toNat z54) ((freeL s0 s1 W).getD i z54)) with
      | true =>
        obtain ⟨r, r1, r2⟩ := ih (i + 1) (by omega) J (by omega) hJ
        rw [ht, List.filter_append, List.length_append] at r1
        simp only [List.filter_cons, List.filter_nil, hf, if_true, List.length_singleton] at r1
        rw [hp] at e37
        have hT1 : rd T.l (((freeL s0 s1 W).getD i z54).f1 * 10 + ((freeL s0 s1 W).getD i z54).f0) = 1 := by
          rw [hTq]
          exact if_pos hp
        refine ⟨r, ?_, ?_⟩
        · refine Ev.succ ?_
          simp only [spec_PostsBound.l0]
          rw [rdS_get, hat, wnat _ 1000 (by omega) (by omega)]
          exact Ev.pos (by omega) (Ev.bind eT (Ev.pos (by omega) (Ev.pos cy.1 (Ev.pos cy.2 (Ev.pos cx.1 (Ev.pos cx.2 (Ev.pos hT1 r1)))))))
        · refine Ev.succ ?_
          simp only [impl_PostsBound.l0]
          rw [hbi, hf, wnat i 1000 (by omega) (by omega)]
          exact Ev.pos (by omega) (Ev.bind e37 (Ev.pos (by omega) (Ev.pos (by rw [hB.1]; omega) (Ev.pos rfl (Ev.pos rfl r2)))))
      | false =>
        obtain ⟨r, r1, r2⟩ := ih (i + 1) (by omega) (J ++ [(i : Int)]) (by rw [List.length_append, List.length_singleton]; omega) (fun x hx => by
          rcases List.mem_append.1 hx with hx | hx
          · exact hJ x hx
          · rw [List.mem_singleton.1 hx]
            omega)
        rw [ht, List.filter_append, List.length_append, List.map_append, List.map_cons, List.map_nil, Int.toNat_natCast] at r1
        simp only [List.filter_cons, List.filter_nil, hf, if_true, List.length_singleton] at r1
        rw [hp] at e37
        have hT1 : ¬ (rd T.l (((freeL s0 s1 W).getD i z54).f1 * 10 + ((freeL s0 s1 W).getD i z54).f0) = 1) := by
          rw [hTq]
          intro h
          have h2 : (J.any (fun x => nb ((freeL s0 s1 W).getD x.toNat z54) ((freeL s0 s1 W).getD i z54))) = true := by
            by_cases hz : (J.any (fun x => nb ((freeL s0 s1 W).getD x.toNat z54) ((freeL s0 s1 W).getD i z54))) = true
            · exact hz
            · have h3 := (if_neg hz).symm.trans h
              exact absurd h3 (by decide)
          rw [hp] at h2
          exact absurd h2 Bool.false_ne_true
        refine ⟨r, ?_, ?_⟩
        · refine Ev.succ ?_
          simp only [spec_PostsBound.l0]
          rw [rdS_get, hat, wnat _ 1000 (by omega) (by omega)]
          exact Ev.pos (by omega) (Ev.bind eT (Ev.pos (by omega) (Ev.pos cy.1 (Ev.pos cy.2 (Ev.pos cx.1 (Ev.pos cx.2 (Ev.neg hT1 (Ev.pos (by rw [List.length_map]; omega) r1))))))))
        · refine Ev.succ ?_
          simp only [impl_PostsBound.l0]
          rw [hbi, hf, wnat i 1000 (by omega) (by omega)]
          exact Ev.pos (by omega) (Ev.bind e37 (Ev.pos (by omega) (Ev.pos (by rw [hB.1]; omega) (Ev.pos rfl (Ev.neg Bool.false_ne_true (Ev.pos (by omega) r2))))))
theorem PostsBound_both (s0 s1 : Int) (W : LA 10) (hr : RB s0 s1 W) (l : List S54) (hl : l.length ≤ 1073741824) (hs : ∀ q ∈ l, SB q) (m : Int) :
    ∃ r : Int × Int, Ev (fun k => spec_PostsBound.f k s0 s1 W l m) r ∧ Ev (fun k => impl_PostsBound.f k s0 s1 W l m) r := by
  obtain ⟨c, hre, e1, e2, hc⟩ := PostCode_both s0 s1 W hr l hl hs m
  by_cases h : c = 0
  · obtain ⟨hfree, hb, hm0⟩ := hc h
    have hf := allFree_mem hfree
    obtain ⟨nb, hnb⟩ := NearOf s0 s1 W hr.2.2 hb.1 hb.2 m
    obtain ⟨nb2, hnb2⟩ := NearOf s0 s1 W hr.2.2 hb.1 hb.2 (wrap64 (2 * m))
    have hfl := freeL_len (W := W) hb.1 hb.2
    have hff := freeL_free (W := W) hb.1 hb.2
    have p1 := Split_s s0 s1 W hr.2.2 hb.1 hb.2 m nb l (by omega) (fun p hp => (hnb p (hf p hp)).2.1)
    have p2 := Posts_i s0 s1 W hr.2.2 hb.1 hb.2 m nb (fun p hp => (hnb p (hff p hp)).1)
    have p2b := Posts_i s0 s1 W hr.2.2 hb.1 hb.2 (wrap64 (2 * m)) nb2 (fun p hp => (hnb2 p (hff p hp)).1)
    obtain ⟨B, hB, p3⟩ := Far_i (freeL s0 s1 W) hfl nb l (by omega) (fun p hp => freeL_in p (hf p hp))
    obtain ⟨r, r1, r2⟩ := Bound_both s0 s1 W hb.1 hb.2 m nb2 (fun q => !(l.any (fun p => nb p q))) B (fun p hp => (hnb2 p (hff p hp)).2.1) ⟨hB.1, fun j hj => by rw [hB.2 j hj]; simp only [Bool.not_not]⟩ (freeL s0 s1 W).length 0 (Nat.zero_add _) [] (Nat.zero_le _) (by simp)
    refine ⟨r, ?_, ?_⟩
    · unfold spec_PostsBound.f
      exact Ev.bind (Ev.const hre) (Ev.bind e1 (Ev.pos h (Ev.bind p1 r1)))
    · unfold impl_PostsBound.f
      exact Ev.bind e2 (Ev.pos h (Ev.bind p2 (Ev.bind p2b (Ev.bind p3 r2))))
  · refine ⟨(0, c), ?_, ?_⟩
    · unfold spec_PostsBound.f
      exact Ev.bind (Ev.const hre) (Ev.bind e1 (Ev.neg h (Ev.now _)))
    · unfold impl_PostsBound.f
      exact Ev.bind e2 (Ev.neg h (Ev.now _))
end Go.Proofs.Ytmcjgpbhjpakhaa.Q
end
section
namespace Go.Proofs.Ytmcjgpbhjpakhaa.Q
open Go.RowKit Go.Proofs.YtmcjgpbhjpakhaaW.PrintWords Go.Proofs.YtmcjgpbhjpakhaaW.PrintLast Go.Proofs.YtmcjgpbhjpakhaaW.PrintMore Go.Proofs.Ytmcjgpbhjpakhaa.La Go.Proofs.Ytmcjgpbhjpakhaa.PB
set_option linter.unusedVariables false
set_option linter.unusedSimpArgs false
theorem ext_rd {n : Nat} {A B : LA n} (h : ∀ j : Nat, j < n → rd A.l (j : Int) = rd B.l (j : Int)) : A = B := by
  apply LA.ext_l
  apply List.ext_getElem (by rw [A.h, B.h])
  intro j h1 h2
  have hj : j < n := by rw [A.h] at h1; exact h1
  have := h j hj
  rw [rd_nat, rd_nat, List.getD_eq_getElem?_getD, List.getD_eq_getElem?_getD, List.getElem?_eq_getElem h1, List.getElem?_eq_getElem h2] at this
  exact this
theorem toU_ev (W : LA 10) : Ev (fun k => laws_toUint16A10.f k W) W := by
  unfold laws_toUint16A10.f
  have key : ∀ (m i : Nat) (X : LA 10), i + m = 10 → (∀ j : Nat, j < i → rd X.l (j : Int) = rd W.l (j : Int)) → Ev (fun k => laws_toUint16A10.l0 k (i : Int) W X) W := by
    intro m
    induction m with
    | zero =>
      intro i X hi hX
      obtain rfl : i = 10 := by omega
      refine Ev.succ ?_
      simp only [laws_toUint16A10.l0]
      rw [ext_rd hX]
      exact Ev.neg (by omega) (Ev.now _)
    | succ m ih =>
      intro i X hi hX
      refine Ev.succ ?_
      simp only [laws_toUint16A10.l0]
      rw [wnat i 10 (by omega) (by omega)]
      refine Ev.pos (by omega) (Ev.pos (by omega) (ih (i + 1) _ (by omega) (fun j hj => ?_)))
      by_cases e : j = i
      · subst e
        exact rd_set_same X _ _ (by omega) (by omega)
      · rw [rd_set_other X _ _ _ (by omega) (by omega) (by omega)]
        exact hX j (by omega)
  exact key 10 0 _ rfl (fun j hj => by omega)
theorem toRoom_ev (s0 s1 : Int) (W : LA 10) : Ev (fun k => laws_toRoom.f k s0 s1 W) (s0, s1, W) := by
  unfold laws_toRoom.f
  exact Ev.bind (toU_ev W) (Ev.now _)
end Go.Proofs.Ytmcjgpbhjpakhaa.Q
end
section
namespace Go.Proofs.Ytmcjgpbhjpakhaa.Q
open Go.RowKit Go.Proofs.YtmcjgpbhjpakhaaW.PrintWords Go.Proofs.YtmcjgpbhjpakhaaW.PrintLast Go.Proofs.YtmcjgpbhjpakhaaW.PrintMore Go.Proofs.Ytmcjgpbhjpakhaa.La Go.Proofs.Ytmcjgpbhjpakhaa.PB
set_option linter.unusedVariables false
set_option linter.unusedSimpArgs false
theorem eqSpot_self (a b : Int) : laws_eqSpot.f a b a b = some true := by unfold laws_eqSpot.f; rw [if_pos rfl, if_pos rfl]
theorem eqSpotS_ev (l : List S54) (h : l.length ≤ 1048576) : Ev (fun k => laws_eqSpotS.f k l l) true := by
  unfold laws_eqSpotS.f
  refine Ev.pos rfl ?_
  have key : ∀ (m i : Nat), i + m = l.length → Ev (fun k => laws_eqSpotS.l0 k l l (i : Int)) true := by
    intro m
    induction m with
    | zero =>
      intro i hi
      obtain rfl : i = l.length := by omega
      refine Ev.round (Ev.now _) fun k => ?_
      simp only [laws_eqSpotS.l0]
      rw [if_neg (by omega)]
    | succ m ih =>
      intro i hi
      refine Ev.round (ih (i + 1) (by omega)) fun k => ?_
      simp only [laws_eqSpotS.l0]
      rw [if_pos (by omega), if_pos (by omega), if_pos (by omega), eqSpot_self]
      simp only [Option.bind_some, if_true]
      rw [wnat i l.length (by omega) (by omega)]
  exact key l.length 0 (by omega)
end Go.Proofs.Ytmcjgpbhjpakhaa.Q
end
section
namespace Go.Proofs.Ytmcjgpbhjpakhaa.Q
open Go.RowKit Go.Proofs.YtmcjgpbhjpakhaaW.PrintWords Go.Proofs.YtmcjgpbhjpakhaaW.PrintLast Go.Proofs.YtmcjgpbhjpakhaaW.PrintMore Go.Proofs.Ytmcjgpbhjpakhaa.La Go.Proofs.Ytmcjgpbhjpakhaa.PB
set_option linter.unusedVariables false
set_option linter.unusedSimpArgs false
def cSpot (x : S57) : S54 := ⟨x.f0, x.f1⟩
theorem toSpotS_ev (l : List S57) (h : l.length ≤ 1048576) : Ev (fun k => laws_toSpotS.f k l) (l.map cSpot) := by
  unfold laws_toSpotS.f
  refine Ev.pos (by omega) (Ev.pos (by omega) ?_)
  refine Ev.map_loop (fun k x3 i => laws_toSpotS.l0 k l x3 i) cSpot z57 l (by omega) ?_ ?_ (List.replicate ((l.length : Int)).toNat z54) (by simp)
  · intro i x3 r hi hl hr
    refine Ev.round hr fun k => ?_
    simp only [laws_toSpotS.l0, laws_toSpot.f, Option.bind_some]
    rw [if_pos (by omega), if_pos (by omega), if_pos (by omega), wnat i l.length hi (by omega)]
    simp [rd_T57, cSpot]
  · intro x3 hl
    refine Ev.round (Ev.now x3) fun k => ?_
    simp only [laws_toSpotS.l0]
    rw [if_neg (by omega)]
theorem szSpotS_small (l : List S57) (h : l.length ≤ 1048576) : laws_szSpotS.f l 1048576 = some (1048576 - (l.length : Int)) := by
  unfold laws_szSpotS.f
  rw [wint _ (by omega) (by omega), if_neg (by omega)]
theorem szSpotS_big (l : List S57) (h : 1048576 < l.length) (hm : l.length ≤ maxLen) : laws_szSpotS.f l 1048576 = some (-1) := by
  unfold maxLen at hm
  unfold laws_szSpotS.f
  rw [wint _ (by omega) (by omega), if_pos (by omega)]
end Go.Proofs.Ytmcjgpbhjpakhaa.Q
end
section
namespace Go.Proofs.Ytmcjgpbhjpakhaa.Q
open Go.RowKit Go.Proofs.YtmcjgpbhjpakhaaW.PrintWords Go.Proofs.YtmcjgpbhjpakhaaW.PrintLast Go.Proofs.YtmcjgpbhjpakhaaW.PrintMore Go.Proofs.Ytmcjgpbhjpakhaa.La Go.Proofs.Ytmcjgpbhjpakhaa.Mp Go.Proofs.Ytmcjgpbhjpakhaa.PB
set_option linter.unusedVariables false
set_option linter.unusedSimpArgs false
theorem FnExactPostsBound (s0 s1 : Int) (W : LA 10) (l1 : List S57) (m : Int) (hr : RB s0 s1 W) (hm1 : l1.length ≤ maxLen) (hw1 : ∀ x ∈ l1, (Lit.int .i8 x.f0).wf = true ∧ (Lit.int .i8 x.f1).wf = true) (hm : (Lit.int .i64 m).wf = true) : Ev (fun k => laws_FnExactPostsBound.f k s0 s1 W l1 m) true := by
  unfold laws_FnExactPostsBound.f
  by_cases hl1 : l1.length ≤ 1048576
  rotate_left
  · exact Ev.bind (Ev.const (szSpotS_big l1 (by omega) hm1)) (Ev.pos (by decide) (Ev.now _))
  refine Ev.bind (Ev.const (szSpotS_small l1 hl1)) (Ev.neg (by omega) ?_)
  have hsb : ∀ q ∈ l1.map cSpot, SB q := fun q hq => by
    obtain ⟨x, hx, rfl⟩ := List.mem_map.1 hq
    exact ⟨wf_i8 (hw1 x hx).1, wf_i8 (hw1 x hx).2⟩
  have hlm : (l1.map cSpot).length ≤ 1048576 := by simpa using hl1
  obtain ⟨r, h1, h2⟩ := PostsBound_both s0 s1 W hr (l1.map cSpot) (by omega) hsb m
  have er := toRoom_ev s0 s1 W
  have e1 := toSpotS_ev l1 hl1
  have q1 := eqSpotS_ev (l1.map cSpot) hlm
  refine Ev.bind er (Ev.bind e1 (Ev.bind h1 (Ev.bind e1 (Ev.bind er (Ev.bind h2 (Ev.pos rfl ?_))))))
  refine Ev.succ ?_
  simp only [laws_FnExactPostsBound.j0]
  exact Ev.neg (by simp) (Ev.bind e1 (Ev.bind q1 (Ev.pos rfl (Ev.now _))))
end Go.Proofs.Ytmcjgpbhjpakhaa.Q
end
section
namespace Go.Proofs.Ytmcjgpbhjpakhaa.fnExactPostsBound
open Go.ChangeShapes Go.WideShapes Go.ChangeAt Go.RowKit Go.Proofs.YtmcjgpbhjpakhaaW.PrintWords Go.Proofs.YtmcjgpbhjpakhaaW.PrintLast Go.Proofs.Ytmcjgpbhjpakhaa.La Go.Proofs.Ytmcjgpbhjpakhaa.Rw Go.Proofs.Ytmcjgpbhjpakhaa.PB
open Go.ChangeMaps (open_string shut_string)
set_option linter.unusedVariables false
set_option maxRecDepth 100000 in
set_option maxHeartbeats 1000000 in
theorem lifted (os : Os) (started : os.Started) (H : Type) (enc : TypeId × Value → H) :
    ReturnsInHanded {} Try.checked os 3 .any (Rows.fnExactPostsBoundSpec.pre6 enc Try.prog Try.f3 Rows.fnExactPostsBoundRow.domain false) (Rows.fnExactPostsBoundSpec.post enc Try.prog Try.f3 false true false false) := by
  refine returnsInHanded_of_change_sized (C := Try.checked) own started (by kernel_rfl) Try.func3
    (ChangeSpec.witness6 (enc := enc) (C := Try.checked) false ⟨#[], #[.agg #[.int .i8 0, .int .i8 0, .int .u16 0, .int .u16 0, .int .u16 0, .int .u16 0, .int .u16 0, .int .u16 0, .int .u16 0, .int .u16 0, .int .u16 0, .int .u16 0], .slice none 0 0, .int .i64 0], []⟩ 8 (by kernel_rfl) (by kernel_rfl) (by kernel_rfl) (by kernel_rfl)) ?_
  intro W base args ds gs before hval0 hW hcnd hsz0 _
  have hval : ∀ (j : Nat) t v, Try.f3.params[j]? = some t → args[j]? = some v → Value.okWide Try.prog W .any base t v := hval0
  have hW' := hW
  obtain ⟨p, q, hA0, hV, rfl, hfz, hnd⟩ := hW
  have hA : DataW.TrodAll enc Try.prog W 0 (fun _ => true) true Try.f3.params.toList args.toList ds p := hA0
  rw [Try.params3] at hA hval
  obtain ⟨v0, vs0, d0, ds0, p0, q0, hargs, rfl, rfl, h0, r0⟩ := trodAll_cons hA
  obtain ⟨v1, vs1, d1, ds1, p1, q1, rfl, rfl, rfl, h1, r1⟩ := trodAll_cons r0
  obtain ⟨v2, vs2, d2, ds2, p2, q2, rfl, rfl, rfl, h2, r2⟩ := trodAll_cons r1
  obtain ⟨rfl, rfl, rfl⟩ := trodAll_nil r2
  obtain rfl : args = #[v0, v1, v2] := by cases args; simp_all
  obtain ⟨rfl, rfl⟩ := trodVars_none hV
  have k0 := h0
  have lt0 : ∀ x ∈ p0, x.block < W.heap.size := by obtain ⟨m, hm⟩ := k0; exact DataW.trod_lt m _ _ _ hm
  obtain ⟨a0_0, a0_1, a0_2, rfl, w0_0, w0_1, w0_2⟩ := openV26 (hval 0 26 v0 rfl rfl) h0
  have k1 := h1
  have lt1 : ∀ x ∈ p1, x.block < W.heap.size := by obtain ⟨m, hm⟩ := k1; exact DataW.trod_lt m _ _ _ hm
  obtain ⟨a1, len1, cap1, rfl⟩ := okWide_slice Try.underlying27 (hval 1 27 v1 rfl rfl)
  obtain ⟨l1, rfl, hc1, hm1, hr1, hw1⟩ := openS57 h1
  have k2 := h2
  have lt2 : ∀ x ∈ p2, x.block < W.heap.size := by obtain ⟨m, hm⟩ := k2; exact DataW.trod_lt m _ _ _ hm
  obtain ⟨a2, rfl, _, _, w2⟩ := open_int Try.underlying2 (hval 2 2 v2 rfl rfl) h2
  clear hA0 hval0 hsz0
  obtain ⟨k, hk⟩ := Ev.rounds (Q.FnExactPostsBound a0_0 a0_1 a0_2 l1 a2 (Q.rb_mk w0_0 w0_1 w0_2) hm1 hw1 w2)
  refine (laws_FnExactPostsBound.calls k a0_0 a0_1 a0_2 _ _ l1 a2 true W hr1 hc1 hk).mono fun e W' ⟨he, bel0⟩ => ?_
  subst he
  have bel : Below W.heap.size W W' := by first | exact bel0 | exact bel0.below
  exact ⟨_, rfl, _, _, _, [], _, [], hW', trodAll_mk1 (shut_bool Try.underlying4 _), (trodAll_cons_mk (Below.trod laidOut (by kernel_rfl) (of_decide_eq_true (by kernel_rfl)) k0 bel lt0) (trodAll_cons_mk (Below.trod laidOut (by kernel_rfl) (of_decide_eq_true (by kernel_rfl)) k1 bel lt1) (trodAll_cons_mk (Below.trod laidOut (by kernel_rfl) (of_decide_eq_true (by kernel_rfl)) k2 bel lt2) trodAll_mk0))), rfl, bel.frame _, fun h => by cases h⟩
theorem over : Rows.fnExactPostsBoundRow.holds Try.pinned (OpenSpec.ofChange Rows.fnExactPostsBoundSpec) :=
  OpenClaim.holds_of_wide 3 Try.f3 rfl rfl rfl rfl rfl rfl rfl ⟨rfl, rfl, rfl, rfl, rfl⟩ rfl rfl rfl rfl rfl (by kernel_rfl) Try.func3 (by kernel_rfl)
    (of_decide_eq_true (by kernel_rfl)) (by unfold Func.isWrapper; first | (rw [if_pos (by decide +kernel)]; kernel_rfl) | (rw [if_neg (by decide +kernel)]; exact ⟨rfl, rfl⟩))
    (fun os started H enc _ => lifted os started H enc)
end Go.Proofs.Ytmcjgpbhjpakhaa.fnExactPostsBound
namespace Go.Proofs.Ytmcjgpbhjpakhaa
theorem fnExactPostsBound_holds : Rows.FnExactPostsBoundSaid := fnExactPostsBound.over
end Go.Proofs.Ytmcjgpbhjpakhaa
end
