/- The statement FnExactGreedyCalls of this program: what its proof uses, part 13 of 13. The call returns true for all arguments. No condition of its own. -/
import Derived.IntWalk
import Derived.Test.YtoiiabnnddlcbaaZFnExactGreedyCalls11
section
namespace Go.Proofs.Ytoiiabnnddlcbaa.Q
open Go.RowKit Go.Proofs.YtoiiabnnddlcbaaW.PrintWords Go.Proofs.YtoiiabnnddlcbaaW.PrintLast
set_option linter.unusedVariables false
set_option linter.unusedSimpArgs false
theorem wnat (i n : Nat) (h : i < n) (hn : n ≤ 9223372036854775807) : wrap64 ((i : Int) + 1) = ((i + 1 : Nat) : Int) := by unfold wrap64; omega
theorem wint (a : Int) (h0 : -9223372036854775808 ≤ a) (h1 : a ≤ 9223372036854775807) : wrap64 a = a := by unfold wrap64; omega
theorem rd_nat (xs : List Int) (i : Nat) : rd xs (i : Int) = xs.getD i 0 := by simp [rd]
theorem Ev.round {α : Type} {g f : Nat → Option α} {r : α} (k : Ev f r) (h : ∀ k, g (k + 1) = f k) : Ev g r := Ev.step h k
theorem Ev.eq {α : Type} {g : Nat → Option α} {r r' : α} (h : Ev g r) (e : r = r') : Ev g r' := e ▸ h
theorem Ev.ite {α : Type} {c : Prop} [Decidable c] {f g : Nat → Option α} {r : α} (h : c → Ev f r) (h' : ¬ c → Ev g r) : Ev (fun k => if c then f k else g k) r := by
  by_cases hc : c
  · simp only [hc, if_true]; exact h hc
  · simp only [hc, if_false]; exact h' hc
theorem Ev.pos {α : Type} {c : Prop} [Decidable c] {f g : Nat → Option α} {r : α} (hc : c) (h : Ev f r) : Ev (fun k => if c then f k else g k) r := by simp only [hc, if_true]; exact h
theorem Ev.neg {α : Type} {c : Prop} [Decidable c] {f g : Nat → Option α} {r : α} (hc : ¬ c) (h : Ev g r) : Ev (fun k => if c then f k else g k) r := by simp only [hc, if_false]; exact h
theorem take_set {α : Type} (xs : List α) (i : Nat) (a : α) (h : i < xs.length) : (xs.set i a).take (i + 1) = xs.take i ++ [a] := by
  rw [List.take_succ_eq_append_getElem (by simpa using h)]
  simp [List.take_set]
  rw [List.set_eq_of_length_le (by simp; omega)]
theorem take_get {α : Type} (xs : List α) (i : Nat) (d : α) (h : i < xs.length) : xs.take (i + 1) = xs.take i ++ [xs.getD i d] := by
  rw [List.take_succ_eq_append_getElem h]
  simp [List.getD_eq_getElem?_getD, List.getElem?_eq_getElem h]
theorem Ev.map_loop {α β : Type} (L : Nat → List β → Int → Option (List β)) (g : α → β) (d : α) (x0 : List α) (hn : x0.length ≤ 9223372036854775807)
    (hstep : ∀ (i : Nat) (x3 : List β) (r : List β), i < x0.length → x3.length = x0.length → Ev (fun k => L k (x3.set i (g (x0.getD i d))) ((i + 1 : Nat) : Int)) r → Ev (fun k => L k x3 (i : Int)) r)
    (hend : ∀ x3 : List β, x3.length = x0.length → Ev (fun k => L k x3 (x0.length : Int)) x3) :
    ∀ x3 : List β, x3.length = x0.length → Ev (fun k => L k x3 0) (x0.map g) := by
  have key : ∀ (n i : Nat) (x3 : List β), i + n = x0.length → x3.length = x0.length → x3.take i = (x0.take i).map g → Ev (fun k => L k x3 (i : Int)) (x0.map g) := by
    intro n
    induction n with
    | zero =>
      intro i x3 hi hl ht
      obtain rfl : i = x0.length := by omega
      have : x3 = x0.map g := by
        rw [List.take_of_length_le (by omega), List.take_of_length_le (by omega)] at ht
        exact ht
      rw [← this]
      exact hend x3 hl
    | succ n ih =>
      intro i x3 hi hl ht
      refine hstep i x3 _ (by omega) hl (ih (i + 1) _ (by omega) (by simpa using hl) ?_)
      rw [take_set _ _ _ (by omega), take_get _ _ d (by omega), ht, List.map_append]
      rfl
  intro x3 hl
  exact key x0.length 0 x3 (by omega) hl (by simp)
end Go.Proofs.Ytoiiabnnddlcbaa.Q
end
section
namespace Go.Proofs.Ytoiiabnnddlcbaa.Q
open Go.RowKit Go.Proofs.YtoiiabnnddlcbaaW.PrintWords Go.Proofs.YtoiiabnnddlcbaaW.PrintLast Go.Proofs.Ytoiiabnnddlcbaa.PB
set_option linter.unusedVariables false
set_option linter.unusedSimpArgs false
def inC (a lo hi : Int) : Bool := decide (lo ≤ a) && decide (a ≤ hi)
theorem In_c (a lo hi : Int) : spec_l00In.f a lo hi = some (inC a lo hi) := by
  unfold spec_l00In.f inC
  split
  · rename_i h; simp [h]
  · rename_i h; simp [h]
theorem Ev.const {α : Type} {x : Option α} {a : α} (h : x = some a) : Ev (fun _ => x) a := by subst h; exact Ev.now a
theorem Ev.succ {α : Type} {g : Nat → Option α} {r : α} (h : Ev (fun k => g (k + 1)) r) : Ev g r := Ev.step (fun _ => rfl) h
theorem getD_mem {α : Type} (l : List α) (i : Nat) (d : α) (h : i < l.length) : l.getD i d ∈ l := by
  simp [List.getD_eq_getElem?_getD, List.getElem?_eq_getElem h]
theorem drop_get {α : Type} (xs : List α) (i : Nat) (d : α) (h : i < xs.length) : xs.drop i = xs.getD i d :: xs.drop (i + 1) := by
  rw [List.drop_eq_getElem_cons h]
  simp [List.getD_eq_getElem?_getD, List.getElem?_eq_getElem h]
end Go.Proofs.Ytoiiabnnddlcbaa.Q
end
section
namespace Go.Proofs.Ytoiiabnnddlcbaa.Q
open Go.RowKit Go.Proofs.YtoiiabnnddlcbaaW.PrintWords Go.Proofs.YtoiiabnnddlcbaaW.PrintLast Go.Proofs.YtoiiabnnddlcbaaW.PrintMore Go.Proofs.Ytoiiabnnddlcbaa.PB
set_option linter.unusedVariables false
set_option linter.unusedSimpArgs false
set_option maxRecDepth 100000 in
theorem wrap_u16 (n : Int) : IntKind.u16.wrap n = n % 65536 := by simp [IntKind.wrap, IntKind.bits, IntKind.signed]
theorem wraps_u16 (n : Int) (h₀ : 0 ≤ n) (h₁ : n < 2 ^ 16) : IntKind.u16.wrap n = n := by rw [wrap_u16]; omega
theorem u16_and1 {x : Int} (h₀ : 0 ≤ x) (h₁ : x < 65536) : Go.bits .and .u16 x 1 = x % 2 := bits_mask .u16 16 (by decide) wraps_u16 1 (by decide) x h₀ h₁
def bitV (v : Int) (x : Nat) : Int := v / 2 ^ x % 2
theorem shr_bit {v : Int} (h₀ : 0 ≤ v) (h₁ : v < 65536) {x : Nat} (hx : x < 10) : Go.bits .and .u16 (shr .u16 v (x : Int)) 1 = bitV v x := by
  have hs : shr .u16 v (x : Int) = v / 2 ^ x := by
    unfold shr
    rw [Int.toNat_natCast, Nat.min_eq_left (show x ≤ IntKind.u16.bits by unfold IntKind.bits; dsimp only; omega)]
  have hp : (0 : Int) < 2 ^ x := Int.pow_pos (by omega)
  have h2 : v / 2 ^ x ≤ v := Int.ediv_le_self _ h₀
  rw [hs, u16_and1 (Int.ediv_nonneg h₀ (by omega)) (by omega)]
  rfl
theorem i8_small (x : Nat) (h : x < 128) : IntKind.i8.wrap (x : Int) = x := by simp [IntKind.wrap, IntKind.bits, IntKind.signed]; omega
theorem u64_small (x : Nat) (h : x < 128) : IntKind.u64.wrap (x : Int) = x := by simp [IntKind.wrap, IntKind.bits, IntKind.signed]; omega
theorem wf_u16 {n : Int} (h : (Lit.int .u16 n).wf = true) : 0 ≤ n ∧ n < 65536 := by
  simp [Lit.wf, IntKind.min, IntKind.max, IntKind.signed, IntKind.bits] at h
  omega
theorem wf_i8 {n : Int} (h : (Lit.int .i8 n).wf = true) : -128 ≤ n ∧ n ≤ 127 := by
  simp [Lit.wf, IntKind.min, IntKind.max, IntKind.signed, IntKind.bits] at h
  omega
theorem rd_bound (l : List Int) (h : ∀ x ∈ l, 0 ≤ x ∧ x < 65536) (i : Int) : 0 ≤ rd l i ∧ rd l i < 65536 := by
  unfold rd
  by_cases hi : i.toNat < l.length
  · exact h _ (getD_mem l _ 0 hi)
  · rw [List.getD_eq_getElem?_getD, List.getElem?_eq_none (by omega)]
    show (0:Int) ≤ 0 ∧ (0:Int) < 65536
    omega
end Go.Proofs.Ytoiiabnnddlcbaa.Q
end
section
namespace Go.Proofs.Ytoiiabnnddlcbaa.Q
open Go.RowKit Go.Proofs.YtoiiabnnddlcbaaW.PrintWords Go.Proofs.YtoiiabnnddlcbaaW.PrintLast Go.Proofs.YtoiiabnnddlcbaaW.PrintMore Go.Proofs.Ytoiiabnnddlcbaa.La Go.Proofs.Ytoiiabnnddlcbaa.PB
set_option linter.unusedVariables false
set_option linter.unusedSimpArgs false
theorem Within_c (a lo hi : Int) : impl_within.f a lo hi = some (inC a lo hi) := by
  unfold impl_within.f inC
  split
  · rename_i h; simp [h]
  · rename_i h; simp [h]
theorem u64_int {a : Int} (h0 : 0 ≤ a) (h1 : a < 128) : IntKind.u64.wrap a = a := by
  obtain ⟨n, rfl⟩ : ∃ n : Nat, a = n := ⟨a.toNat, by omega⟩
  exact u64_small n (by omega)
theorem mn_small {a : Int} (h : a ≤ 10) : mn a 10 = a := by unfold mn; split <;> omega
theorem Ok_loop (s0 s1 : Int) (W : LA 10) (h0 : 1 ≤ s0 ∧ s0 ≤ 10) : ∀ n x : Nat, x + n = 10 → ∃ b, Ev (fun k => spec_l01Ok.l0 k (x : Int) s0 s1 W) b ∧ Ev (fun k => impl_ValidRoom.l0 k W (x : Int) s0 s1 W) b := by
  have hu : IntKind.u64.wrap s0 = s0 := u64_int (by omega) (by omega)
  intro n
  induction n with
  | zero =>
    intro x hx
    obtain rfl : x = 10 := by omega
    refine ⟨true, Ev.succ ?_, Ev.succ ?_⟩
    · simp only [spec_l01Ok.l0]
      exact Ev.neg (by omega) (Ev.now true)
    · simp only [impl_ValidRoom.l0]
      exact Ev.neg (by omega) (Ev.now true)
  | succ n ih =>
    intro x hx
    obtain ⟨b, hb1, hb2⟩ := ih (x + 1) (by omega)
    by_cases p1 : shr .u16 (rd W.l (x : Int)) s0 = 0
    · by_cases p2 : (x : Int) ≥ wrap64 s1
      · by_cases p3 : rd W.l (x : Int) = 0
        · refine ⟨b, Ev.succ ?_, Ev.succ ?_⟩
          · simp only [spec_l01Ok.l0]
            rw [hu, wnat x 10 (by omega) (by omega)]
            exact Ev.pos (by omega) (Ev.pos (by omega) (Ev.pos (by omega) (Ev.pos p1 (Ev.pos p2 (Ev.pos p3 hb1)))))
          · simp only [impl_ValidRoom.l0]
            rw [wnat x 10 (by omega) (by omega)]
            exact Ev.pos (by omega) (Ev.pos (by omega) (Ev.pos (by omega) (Ev.pos p1 (Ev.pos p2 (Ev.pos p3 hb2)))))
        · refine ⟨false, Ev.succ ?_, Ev.succ ?_⟩
          · simp only [spec_l01Ok.l0]
            rw [hu]
            exact Ev.pos (by omega) (Ev.pos (by omega) (Ev.pos (by omega) (Ev.pos p1 (Ev.pos p2 (Ev.neg p3 (Ev.now false))))))
          · simp only [impl_ValidRoom.l0]
            exact Ev.pos (by omega) (Ev.pos (by omega) (Ev.pos (by omega) (Ev.pos p1 (Ev.pos p2 (Ev.neg p3 (Ev.now false))))))
      · refine ⟨b, Ev.succ ?_, Ev.succ ?_⟩
        · simp only [spec_l01Ok.l0]
          rw [hu, wnat x 10 (by omega) (by omega)]
          exact Ev.pos (by omega) (Ev.pos (by omega) (Ev.pos (by omega) (Ev.pos p1 (Ev.neg p2 hb1))))
        · simp only [impl_ValidRoom.l0]
          rw [wnat x 10 (by omega) (by omega)]
          exact Ev.pos (by omega) (Ev.pos (by omega) (Ev.pos (by omega) (Ev.pos p1 (Ev.neg p2 hb2))))
    · refine ⟨false, Ev.succ ?_, Ev.succ ?_⟩
      · simp only [spec_l01Ok.l0]
        rw [hu]
        exact Ev.pos (by omega) (Ev.pos (by omega) (Ev.pos (by omega) (Ev.neg p1 (Ev.now false))))
      · simp only [impl_ValidRoom.l0]
        exact Ev.pos (by omega) (Ev.pos (by omega) (Ev.pos (by omega) (Ev.neg p1 (Ev.now false))))
theorem Ok_both (s0 s1 : Int) (W : LA 10) (b0 : -128 ≤ s0 ∧ s0 ≤ 127) (b1 : -128 ≤ s1 ∧ s1 ≤ 127) :
    ∃ b, Ev (fun k => spec_l01Ok.f k s0 s1 W) b ∧ Ev (fun k => impl_ValidRoom.f k s0 s1 W) b ∧ (b = true → (1 ≤ s0 ∧ s0 ≤ 10) ∧ (1 ≤ s1 ∧ s1 ≤ 10)) := by
  have e0 := wint s0 (by omega) (by omega)
  have e1 := wint s1 (by omega) (by omega)
  have spec0 : ∀ b1 : Bool, Ev (fun k => spec_l01Ok.j0 k true s0 s1 W) false := fun _ => Ev.succ (by simp only [spec_l01Ok.j0]; exact Ev.pos trivial (Ev.now false))
  have impl0 : ∀ b1 : Bool, Ev (fun k => impl_ValidRoom.j0 k true s0 s1 W) false := fun _ => Ev.succ (by simp only [impl_ValidRoom.j0]; exact Ev.pos trivial (Ev.now false))
  by_cases h0 : inC s0 1 10 = true
  · by_cases h1 : inC s1 1 10 = true
    · have h0' : 1 ≤ s0 ∧ s0 ≤ 10 := by unfold inC at h0; simpa using h0
      have h1' : 1 ≤ s1 ∧ s1 ≤ 10 := by unfold inC at h1; simpa using h1
      obtain ⟨b, hb1, hb2⟩ := Ok_loop s0 s1 W h0' 10 0 rfl
      refine ⟨b, ?_, ?_, fun _ => ⟨h0', h1'⟩⟩
      · unfold spec_l01Ok.f
        rw [e0, e1, In_c, In_c, h0, h1]
        simp only [Option.bind_some, if_true, Bool.not_true]
        refine Ev.succ ?_
        simp only [spec_l01Ok.j0]
        exact Ev.neg (by simp) hb1
      · unfold impl_ValidRoom.f
        rw [e0, e1, Within_c, Within_c, h0, h1]
        simp only [Option.bind_some, if_true, Bool.not_true]
        refine Ev.succ ?_
        simp only [impl_ValidRoom.j0]
        exact Ev.neg (by simp) hb2
    · have h1' : inC s1 1 10 = false := by simpa using h1
      refine ⟨false, ?_, ?_, fun h => by cases h⟩
      · unfold spec_l01Ok.f
        rw [e0, e1, In_c, In_c, h0, h1']
        simp only [Option.bind_some, if_true, Bool.not_false]
        exact spec0 true
      · unfold impl_ValidRoom.f
        rw [e0, e1, Within_c, Within_c, h0, h1']
        simp only [Option.bind_some, if_true, Bool.not_false]
        exact impl0 true
  · have h0' : inC s0 1 10 = false := by simpa using h0
    refine ⟨false, ?_, ?_, fun h => by cases h⟩
    · unfold spec_l01Ok.f
      rw [e0, In_c, h0']
      simp only [Option.bind_some, Bool.false_eq_true, if_false]
      exact spec0 true
    · unfold impl_ValidRoom.f
      rw [e0, Within_c, h0']
      simp only [Option.bind_some, Bool.false_eq_true, if_false]
      exact impl0 true
def fr (W : List Int) (x y : Int) : Bool := bitV (rd W y) x.toNat == 0
theorem shr_div {v : Int} {x : Nat} (hx : x < 10) : shr .u16 v (x : Int) = v / 2 ^ x := by
  unfold shr
  rw [Int.toNat_natCast, Nat.min_eq_left (show x ≤ IntKind.u16.bits by unfold IntKind.bits; dsimp only; omega)]
theorem Free_s (s0 s1 : Int) (W : LA 10) (hb : ∀ i, 0 ≤ rd W.l i ∧ rd W.l i < 65536) (h0 : s0 ≤ 10) (h1 : s1 ≤ 10) (x y : Nat) (hx : (x : Int) < s0) (hy : (y : Int) < s1) :
    spec_l01Free.f s0 s1 W (x : Int) (y : Int) = some (fr W.l (x : Int) (y : Int)) := by
  unfold spec_l01Free.f spec_l01Is.f
  rw [wint s0 (by omega) (by omega), wint s1 (by omega) (by omega), wint (x : Int) (by omega) (by omega), wint (y : Int) (by omega) (by omega), wint (s0 - 1) (by omega) (by omega), wint (s1 - 1) (by omega) (by omega), In_c, In_c]
  rw [show inC (x : Int) 0 (s0 - 1) = true by unfold inC; simp; omega, show inC (y : Int) 0 (s1 - 1) = true by unfold inC; simp; omega]
  simp only [Option.bind_some, if_true]
  rw [if_pos (by omega), if_pos (by omega), u64_int (by omega) (by omega), if_pos (by omega), shr_div (by omega)]
  have hn : 0 ≤ rd W.l (y : Int) / 2 ^ x := Int.ediv_nonneg (hb _).1 (Int.le_of_lt (Int.pow_pos (by omega)))
  rw [Int.tmod_eq_emod_of_nonneg hn]
  unfold fr bitV
  rw [Int.toNat_natCast]
theorem Free_i (s0 s1 : Int) (W : LA 10) (hb : ∀ i, 0 ≤ rd W.l i ∧ rd W.l i < 65536) (h0 : s0 ≤ 10) (h1 : s1 ≤ 10) (x y : Nat) (hx : (x : Int) < s0) (hy : (y : Int) < s1) :
    impl_Room_isFree.f s0 s1 W (x : Int) (y : Int) = some (fr W.l (x : Int) (y : Int)) := by
  unfold impl_Room_isFree.f impl_Room_isCell.f
  rw [wint s0 (by omega) (by omega), wint s1 (by omega) (by omega), wint (x : Int) (by omega) (by omega), wint (y : Int) (by omega) (by omega), mn_small h0, mn_small h1, wint (s0 - 1) (by omega) (by omega), wint (s1 - 1) (by omega) (by omega), Within_c, Within_c]
  rw [show inC (x : Int) 0 (s0 - 1) = true by unfold inC; simp; omega, show inC (y : Int) 0 (s1 - 1) = true by unfold inC; simp; omega]
  simp only [Option.bind_some, if_true]
  rw [if_pos (by omega), if_pos (by omega), if_pos (by omega), shr_bit (hb _).1 (hb _).2 (by omega)]
  unfold fr
  rw [Int.toNat_natCast]
def rowL (p : Int → Int → Bool) (y : Int) (acc : List S34) : Nat → List S34
  | 0 => acc
  | x + 1 => if p (x : Int) y then rowL p y acc x ++ [⟨(x : Int), y⟩] else rowL p y acc x
def cellsL (p : Int → Int → Bool) (w : Nat) : Nat → List S34
  | 0 => []
  | y + 1 => rowL p (y : Int) (cellsL p w y) w
theorem rowL_len (p : Int → Int → Bool) (y : Int) (acc : List S34) : ∀ x, (rowL p y acc x).length ≤ acc.length + x
  | 0 => by simp [rowL]
  | x + 1 => by have := rowL_len p y acc x; rw [rowL]; split <;> simp <;> omega
theorem cellsL_len (p : Int → Int → Bool) (w : Nat) : ∀ y, (cellsL p w y).length ≤ w * y
  | 0 => by simp [cellsL]
  | y + 1 => by
    have h1 := cellsL_len p w y
    have h2 := rowL_len p (y : Int) (cellsL p w y) w
    rw [cellsL, Nat.mul_succ]
    omega
theorem rowL_mem (p : Int → Int → Bool) (w : Nat) (y : Int) (acc : List S34) (P : S34 → Prop) (ha : ∀ q ∈ acc, P q) (hp : ∀ x : Nat, x < w → P ⟨(x : Int), y⟩) : ∀ x, x ≤ w → ∀ q ∈ rowL p y acc x, P q
  | 0, _ => ha
  | x + 1, hx => by
    have ih := rowL_mem p w y acc P ha hp x (by omega)
    rw [rowL]
    split
    · intro q hq
      rcases List.mem_append.1 hq with h | h
      · exact ih q h
      · obtain rfl := List.mem_singleton.1 h
        exact hp x (by omega)
    · exact ih
theorem cellsL_mem (p : Int → Int → Bool) (w h : Nat) : ∀ y, y ≤ h → ∀ q ∈ cellsL p w y, (0 ≤ q.f0 ∧ q.f0 < w) ∧ (0 ≤ q.f1 ∧ q.f1 < h)
  | 0, _ => fun q hq => by simp [cellsL] at hq
  | y + 1, hy => rowL_mem p w (y : Int) _ _ (cellsL_mem p w h y (by omega)) (fun x hx => ⟨⟨by simp, by dsimp only; omega⟩, ⟨by simp, by dsimp only; omega⟩⟩) w (Nat.le_refl _)
theorem Ev.cells (p : Int → Int → Bool) (w h : Nat) (hw : w ≤ 10) (hh : h ≤ 10) (L0 : Nat → List S34 → Int → Option (List S34)) (L1 : Nat → List S34 → Int → Int → Option (List S34))
    (e0 : ∀ acc (y : Nat) r, y < h → Ev (fun k => L1 k acc (y : Int) 0) r → Ev (fun k => L0 k acc (y : Int)) r) (e0' : ∀ acc, Ev (fun k => L0 k acc (h : Int)) acc)
    (e1 : ∀ acc (y x : Nat) r, y < h → x < w → acc.length ≤ 1000 → Ev (fun k => L1 k (if p (x : Int) (y : Int) then acc ++ [⟨(x : Int), (y : Int)⟩] else acc) (y : Int) ((x + 1 : Nat) : Int)) r → Ev (fun k => L1 k acc (y : Int) (x : Int)) r)
    (e1' : ∀ acc (y : Nat) r, y < h → Ev (fun k => L0 k acc ((y + 1 : Nat) : Int)) r → Ev (fun k => L1 k acc (y : Int) (w : Int)) r) :
    Ev (fun k => L0 k [] 0) (cellsL p w h) := by
  have inner : ∀ (n x y : Nat) (acc : List S34) r, x + n = w → y < h → acc.length ≤ 900 → Ev (fun k => L0 k (rowL p (y : Int) acc w) ((y + 1 : Nat) : Int)) r → Ev (fun k => L1 k (rowL p (y : Int) acc x) (y : Int) (x : Int)) r := by
    intro n
    induction n with
    | zero =>
      intro x y acc r hx hy hl hr
      obtain rfl : x = w := by omega
      exact e1' _ y r hy hr
    | succ n ih =>
      intro x y acc r hx hy hl hr
      have := rowL_len p (y : Int) acc x
      exact e1 _ y x r hy (by omega) (by omega) (ih (x + 1) y acc r (by omega) hy hl hr)
  have outer : ∀ (n y : Nat), y + n = h → Ev (fun k => L0 k (cellsL p w y) (y : Int)) (cellsL p w h) := by
    intro n
    induction n with
    | zero =>
      intro y hy
      obtain rfl : y = h := by omega
      exact e0' _
    | succ n ih =>
      intro y hy
      have h1 := cellsL_len p w y
      have h2 : w * y ≤ 10 * 10 := Nat.mul_le_mul hw (by omega)
      exact e0 _ y _ (by omega) (inner w 0 y _ _ (by omega) (by omega) (by omega) (ih (y + 1) (by omega)))
  exact outer h 0 (by omega)
theorem i8_wnat (x : Nat) (h : x < 10) : IntKind.i8.wrap ((x : Int) + 1) = ((x + 1 : Nat) : Int) := by
  have := i8_small (x + 1) (by omega)
  rw [← this]
  congr 1
theorem All_s (s0 s1 : Int) (W : LA 10) (hb : ∀ i, 0 ≤ rd W.l i ∧ rd W.l i < 65536) (w h : Nat) (hw : w ≤ 10) (hh : h ≤ 10) (e0 : s0 = w) (e1 : s1 = h) : Ev (fun k => spec_l01All.f k s0 s1 W) (cellsL (fr W.l) w h) := by
  show Ev (fun k => spec_l01All.l0 k [] 0 s0 s1 W) _
  refine Ev.cells (fr W.l) w h hw hh (fun k acc y => spec_l01All.l0 k acc y s0 s1 W) (fun k acc y x => spec_l01All.l1 k acc y x s0 s1 W) ?_ ?_ ?_ ?_
  · intro acc y r hy hr
    refine Ev.succ ?_
    simp only [spec_l01All.l0]
    exact Ev.pos (by omega) hr
  · intro acc
    refine Ev.succ ?_
    simp only [spec_l01All.l0]
    exact Ev.neg (by omega) (Ev.now acc)
  · intro acc y x r hy hx hl hr
    refine Ev.succ ?_
    simp only [spec_l01All.l1]
    refine Ev.pos (by omega) ?_
    rw [Free_s s0 s1 W hb (by omega) (by omega) x y (by omega) (by omega), i8_wnat x (by omega)]
    simp only [Option.bind_some]
    cases hc : fr W.l (x : Int) (y : Int) with
    | true =>
      rw [hc] at hr
      simp only [if_true] at hr ⊢
      exact Ev.pos (by omega) hr
    | false =>
      rw [hc] at hr
      simp only [Bool.false_eq_true, if_false] at hr ⊢
      exact hr
  · intro acc y r hy hr
    refine Ev.succ ?_
    simp only [spec_l01All.l1]
    rw [i8_wnat y (by omega)]
    exact Ev.neg (by omega) hr
theorem All_i (s0 s1 : Int) (W : LA 10) (hb : ∀ i, 0 ≤ rd W.l i ∧ rd W.l i < 65536) (w h : Nat) (hw : w ≤ 10) (hh : h ≤ 10) (e0 : s0 = w) (e1 : s1 = h) : Ev (fun k => impl_Room_free.f k s0 s1 W) (cellsL (fr W.l) w h) := by
  unfold impl_Room_free.f
  refine Ev.bind (a := cellsL (fr W.l) w h) ?_ (Ev.now _)
  show Ev (fun k => impl_Room_cells__64.l0 k [] s1 0 s0 s1 W s0 s1 W) _
  refine Ev.cells (fr W.l) w h hw hh (fun k acc y => impl_Room_cells__64.l0 k acc s1 y s0 s1 W s0 s1 W) (fun k acc y x => impl_Room_cells__64.l1 k acc y s1 y s0 x s0 s1 W s0 s1 W) ?_ ?_ ?_ ?_
  · intro acc y r hy hr
    refine Ev.succ ?_
    simp only [impl_Room_cells__64.l0]
    exact Ev.pos (by omega) hr
  · intro acc
    refine Ev.succ ?_
    simp only [impl_Room_cells__64.l0]
    exact Ev.neg (by omega) (Ev.now acc)
  · intro acc y x r hy hx hl hr
    refine Ev.succ ?_
    simp only [impl_Room_cells__64.l1]
    refine Ev.pos (by omega) ?_
    rw [Free_i s0 s1 W hb (by omega) (by omega) x y (by omega) (by omega), i8_wnat x (by omega)]
    simp only [Option.bind_some]
    cases hc : fr W.l (x : Int) (y : Int) with
    | true =>
      rw [hc] at hr
      simp only [if_true] at hr ⊢
      exact Ev.pos (by omega) hr
    | false =>
      rw [hc] at hr
      simp only [Bool.false_eq_true, if_false] at hr ⊢
      exact hr
  · intro acc y r hy hr
    refine Ev.succ ?_
    simp only [impl_Room_cells__64.l1]
    rw [i8_wnat y (by omega)]
    exact Ev.neg (by omega) hr
def isC (s0 s1 x y : Int) : Bool := inC x 0 (s0 - 1) && inC y 0 (s1 - 1)
def frC (s0 s1 : Int) (W : LA 10) (x y : Int) : Bool := isC s0 s1 x y && fr W.l x y
theorem isC_bounds {s0 s1 x y : Int} (h : isC s0 s1 x y = true) : (0 ≤ x ∧ x < s0) ∧ (0 ≤ y ∧ y < s1) := by
  unfold isC inC at h
  simp at h
  omega
theorem Is_s (s0 s1 : Int) (W : LA 10) (h0 : 1 ≤ s0 ∧ s0 ≤ 10) (h1 : 1 ≤ s1 ∧ s1 ≤ 10) (x y : Int) (hx : -128 ≤ x ∧ x ≤ 127) (hy : -128 ≤ y ∧ y ≤ 127) : spec_l01Is.f s0 s1 W x y = some (isC s0 s1 x y) := by
  unfold spec_l01Is.f isC
  rw [wint s0 (by omega) (by omega), wint s1 (by omega) (by omega), wint x (by omega) (by omega), wint y (by omega) (by omega), wint (s0 - 1) (by omega) (by omega), wint (s1 - 1) (by omega) (by omega), In_c, In_c]
  simp only [Option.bind_some]
  cases inC x 0 (s0 - 1) <;> simp
theorem Is_i (s0 s1 : Int) (W : LA 10) (h0 : 1 ≤ s0 ∧ s0 ≤ 10) (h1 : 1 ≤ s1 ∧ s1 ≤ 10) (x y : Int) (hx : -128 ≤ x ∧ x ≤ 127) (hy : -128 ≤ y ∧ y ≤ 127) : impl_Room_isCell.f s0 s1 W x y = some (isC s0 s1 x y) := by
  unfold impl_Room_isCell.f isC
  rw [wint s0 (by omega) (by omega), wint s1 (by omega) (by omega), wint x (by omega) (by omega), wint y (by omega) (by omega), mn_small h0.2, mn_small h1.2, wint (s0 - 1) (by omega) (by omega), wint (s1 - 1) (by omega) (by omega), Within_c, Within_c]
  simp only [Option.bind_some]
  cases inC x 0 (s0 - 1) <;> simp
theorem Fr_s (s0 s1 : Int) (W : LA 10) (hb : ∀ i, 0 ≤ rd W.l i ∧ rd W.l i < 65536) (h0 : 1 ≤ s0 ∧ s0 ≤ 10) (h1 : 1 ≤ s1 ∧ s1 ≤ 10) (x y : Int) (hx : -128 ≤ x ∧ x ≤ 127) (hy : -128 ≤ y ∧ y ≤ 127) : spec_l01Free.f s0 s1 W x y = some (frC s0 s1 W x y) := by
  cases hc : isC s0 s1 x y with
  | true =>
    have hd := isC_bounds hc
    obtain ⟨n, rfl⟩ : ∃ n : Nat, x = n := ⟨x.toNat, by omega⟩
    obtain ⟨m, rfl⟩ : ∃ m : Nat, y = m := ⟨y.toNat, by omega⟩
    rw [Free_s s0 s1 W hb (by omega) (by omega) n m (by omega) (by omega)]
    unfold frC
    rw [hc]
    rfl
  | false =>
    unfold spec_l01Free.f frC
    rw [Is_s s0 s1 W h0 h1 x y hx hy, hc]
    rfl
theorem Fr_i (s0 s1 : Int) (W : LA 10) (hb : ∀ i, 0 ≤ rd W.l i ∧ rd W.l i < 65536) (h0 : 1 ≤ s0 ∧ s0 ≤ 10) (h1 : 1 ≤ s1 ∧ s1 ≤ 10) (x y : Int) (hx : -128 ≤ x ∧ x ≤ 127) (hy : -128 ≤ y ∧ y ≤ 127) : impl_Room_isFree.f s0 s1 W x y = some (frC s0 s1 W x y) := by
  cases hc : isC s0 s1 x y with
  | true =>
    have hd := isC_bounds hc
    obtain ⟨n, rfl⟩ : ∃ n : Nat, x = n := ⟨x.toNat, by omega⟩
    obtain ⟨m, rfl⟩ : ∃ m : Nat, y = m := ⟨y.toNat, by omega⟩
    rw [Free_i s0 s1 W hb (by omega) (by omega) n m (by omega) (by omega)]
    unfold frC
    rw [hc]
    rfl
  | false =>
    unfold impl_Room_isFree.f frC
    rw [Is_i s0 s1 W h0 h1 x y hx hy, hc]
    rfl
def RB (s0 s1 : Int) (W : LA 10) : Prop := (-128 ≤ s0 ∧ s0 ≤ 127) ∧ (-128 ≤ s1 ∧ s1 ≤ 127) ∧ ∀ i, 0 ≤ rd W.l i ∧ rd W.l i < 65536
theorem rb_mk {s0 s1 : Int} {W : LA 10} (w0 : (Lit.int .i8 s0).wf = true) (w1 : (Lit.int .i8 s1).wf = true) (h : ∀ x ∈ W.l, (Lit.int .u16 x).wf = true) : RB s0 s1 W := ⟨wf_i8 w0, wf_i8 w1, rd_bound _ fun x hx => wf_u16 (h x hx)⟩
def SB (q : S34) : Prop := (-128 ≤ q.f0 ∧ q.f0 ≤ 127) ∧ (-128 ≤ q.f1 ∧ q.f1 ≤ 127)
end Go.Proofs.Ytoiiabnnddlcbaa.Q
end
section
namespace Go.Proofs.Ytoiiabnnddlcbaa.Q
open Go.RowKit Go.Proofs.YtoiiabnnddlcbaaW.PrintWords Go.Proofs.YtoiiabnnddlcbaaW.PrintLast Go.Proofs.YtoiiabnnddlcbaaW.PrintMore Go.Proofs.Ytoiiabnnddlcbaa.La Go.Proofs.Ytoiiabnnddlcbaa.PB
set_option linter.unusedVariables false
set_option linter.unusedSimpArgs false
theorem Ev.find_idx (L : Nat → Int → Option Int) (p : Nat → Bool) (n : Nat) (hyes : ∀ i : Nat, i < n → p i = true → Ev (fun k => L k (i : Int)) (i : Int))
    (hno : ∀ i : Nat, i < n → p i = false → ∀ r, Ev (fun k => L k ((i + 1 : Nat) : Int)) r → Ev (fun k => L k (i : Int)) r) (hend : Ev (fun k => L k (n : Int)) (-1)) :
    ∃ r : Int, Ev (fun k => L k 0) r ∧ decide (r ≥ 0) = (List.range n).any p := by
  have key : ∀ (m i : Nat), i + m = n → (∀ j, j < i → p j = false) → ∃ r : Int, Ev (fun k => L k (i : Int)) r ∧ decide (r ≥ 0) = (List.range n).any p := by
    intro m
    induction m with
    | zero =>
      intro i hi hf
      obtain rfl : i = n := by omega
      refine ⟨-1, hend, ?_⟩
      rw [show ((List.range i).any p) = false from ?_]
      · rfl
      · rw [List.any_eq_false]
        intro j hj
        rw [hf j (by simpa using hj)]
        exact Bool.false_ne_true
    | succ m ih =>
      intro i hi hf
      cases hp : p i with
      | true =>
        refine ⟨(i : Int), hyes i (by omega) hp, ?_⟩
        rw [show ((List.range n).any p) = true from List.any_eq_true.2 ⟨i, by simp; omega, hp⟩]
        exact decide_eq_true (by omega)
      | false =>
        obtain ⟨r, hr, hd⟩ := ih (i + 1) (by omega) (fun j hj => by
          by_cases e : j = i
          · subst e; exact hp
          · exact hf j (by omega))
        exact ⟨r, hno i (by omega) hp r hr, hd⟩
  exact key n 0 (by omega) (fun j hj => by omega)
theorem any_range {α : Type} (l : List α) (z : α) (f : α → Bool) : (List.range l.length).any (fun i => f (l.getD i z)) = l.any f := by
  rw [Bool.eq_iff_iff, List.any_eq_true, List.any_eq_true]
  constructor
  · rintro ⟨i, hi, hf⟩
    have hi' : i < l.length := by simpa using hi
    exact ⟨_, getD_mem l i z hi', hf⟩
  · rintro ⟨x, hx, hf⟩
    obtain ⟨i, hi, rfl⟩ := List.getElem_of_mem hx
    exact ⟨i, by simpa using hi, by rw [List.getD_eq_getElem?_getD, List.getElem?_eq_getElem hi]; exact hf⟩
theorem rdS_get (l : List S34) (i : Nat) : rd_T34 l (i : Int) = l.getD i z34 := by simp [rd_T34]
theorem Unless_c (b : Bool) (c : Int) : impl_unless.f b c = some (if b then 0 else c) := by
  unfold impl_unless.f
  cases b <;> rfl
def firstNZ : List Int → Int
  | [] => 0
  | c :: cs => if c = 0 then firstNZ cs else c
theorem FirstOf_ev (l : List Int) (hl : l.length ≤ 1000) : Ev (fun k => impl_firstOf.f k l) (firstNZ l) := by
  unfold impl_firstOf.f
  have key : ∀ (m i : Nat), i + m = l.length → Ev (fun k => impl_firstOf.l0 k l (l.length : Int) (i : Int)) (firstNZ (l.drop i)) := by
    intro m
    induction m with
    | zero =>
      intro i hi
      refine Ev.succ ?_
      simp only [impl_firstOf.l0]
      rw [List.drop_of_length_le (by omega)]
      exact Ev.neg (by omega) (Ev.now _)
    | succ m ih =>
      intro i hi
      refine Ev.succ ?_
      simp only [impl_firstOf.l0]
      rw [drop_get l i 0 (by omega), firstNZ, rd_nat, wnat i l.length (by omega) (by omega)]
      refine Ev.pos (by omega) (Ev.pos (by omega) (Ev.pos (by omega) ?_))
      by_cases h : l.getD i 0 = 0
      · rw [if_pos h]
        exact Ev.pos h (ih (i + 1) (by omega))
      · rw [if_neg h]
        exact Ev.neg h (Ev.now _)
  exact key l.length 0 (by omega)
def allCell (s0 s1 : Int) (l : List S34) : Bool := !(l.any fun q => !isC s0 s1 q.f0 q.f1)
def allFree (s0 s1 : Int) (W : LA 10) (l : List S34) : Bool := !(l.any fun q => !frC s0 s1 W q.f0 q.f1)
theorem NoCell_ev (s0 s1 : Int) (W : LA 10) (h0 : 1 ≤ s0 ∧ s0 ≤ 10) (h1 : 1 ≤ s1 ∧ s1 ≤ 10) (l : List S34) (hl : l.length ≤ 1073741824) (hs : ∀ q ∈ l, SB q) :
    Ev (fun k => impl_Spot_105__106.f k l s0 s1 W) (l.any fun q => !isC s0 s1 q.f0 q.f1) := by
  unfold impl_Spot_105__106.f impl_Spot_120__106.f
  obtain ⟨r, hr, hd⟩ := Ev.find_idx (fun k i => impl_Spot_120__106.l0 k l (l.length : Int) i s0 s1 W) (fun i => !isC s0 s1 (l.getD i z34).f0 (l.getD i z34).f1) l.length
    (fun i hi hp => by
      have hm := hs _ (getD_mem l i z34 hi)
      refine Ev.succ ?_
      simp only [impl_Spot_120__106.l0, impl_cellCode_1.f]
      rw [rdS_get, Is_i s0 s1 W h0 h1 _ _ hm.1 hm.2]
      simp only [Option.bind_some]
      exact Ev.pos (by omega) (Ev.pos (by omega) (Ev.pos (by omega) (Ev.pos hp (Ev.now _)))))
    (fun i hi hp r hr => by
      have hm := hs _ (getD_mem l i z34 hi)
      refine Ev.succ ?_
      simp only [impl_Spot_120__106.l0, impl_cellCode_1.f]
      rw [rdS_get, Is_i s0 s1 W h0 h1 _ _ hm.1 hm.2, wnat i l.length hi (by omega)]
      simp only [Option.bind_some]
      exact Ev.pos (by omega) (Ev.pos (by omega) (Ev.pos (by omega) (Ev.neg (by rw [hp]; exact Bool.false_ne_true) hr))))
    (by
      refine Ev.succ ?_
      simp only [impl_Spot_120__106.l0]
      exact Ev.neg (by omega) (Ev.now _))
  rw [any_range l z34 (fun q => !isC s0 s1 q.f0 q.f1)] at hd
  exact Ev.bind hr (by rw [hd]; exact Ev.now _)
theorem NoFree_ev (s0 s1 : Int) (W : LA 10) (hb : ∀ i, 0 ≤ rd W.l i ∧ rd W.l i < 65536) (h0 : 1 ≤ s0 ∧ s0 ≤ 10) (h1 : 1 ≤ s1 ∧ s1 ≤ 10) (l : List S34) (hl : l.length ≤ 1073741824) (hs : ∀ q ∈ l, SB q) :
    Ev (fun k => impl_Spot_105__109.f k l s0 s1 W) (l.any fun q => !frC s0 s1 W q.f0 q.f1) := by
  unfold impl_Spot_105__109.f impl_Spot_120__109.f
  obtain ⟨r, hr, hd⟩ := Ev.find_idx (fun k i => impl_Spot_120__109.l0 k l (l.length : Int) i s0 s1 W) (fun i => !frC s0 s1 W (l.getD i z34).f0 (l.getD i z34).f1) l.length
    (fun i hi hp => by
      have hm := hs _ (getD_mem l i z34 hi)
      refine Ev.succ ?_
      simp only [impl_Spot_120__109.l0, impl_stateCode_1.f]
      rw [rdS_get, Fr_i s0 s1 W hb h0 h1 _ _ hm.1 hm.2]
      simp only [Option.bind_some]
      exact Ev.pos (by omega) (Ev.pos (by omega) (Ev.pos (by omega) (Ev.pos hp (Ev.now _)))))
    (fun i hi hp r hr => by
      have hm := hs _ (getD_mem l i z34 hi)
      refine Ev.succ ?_
      simp only [impl_Spot_120__109.l0, impl_stateCode_1.f]
      rw [rdS_get, Fr_i s0 s1 W hb h0 h1 _ _ hm.1 hm.2, wnat i l.length hi (by omega)]
      simp only [Option.bind_some]
      exact Ev.pos (by omega) (Ev.pos (by omega) (Ev.pos (by omega) (Ev.neg (by rw [hp]; exact Bool.false_ne_true) hr))))
    (by
      refine Ev.succ ?_
      simp only [impl_Spot_120__109.l0]
      exact Ev.neg (by omega) (Ev.now _))
  rw [any_range l z34 (fun q => !frC s0 s1 W q.f0 q.f1)] at hd
  exact Ev.bind hr (by rw [hd]; exact Ev.now _)
theorem CellCode_bad (s0 s1 : Int) (W : LA 10) (l : List S34) (hv : Ev (fun k => impl_ValidRoom.f k s0 s1 W) false) : Ev (fun k => impl_cellCode.f k s0 s1 W l) 1 := by
  unfold impl_cellCode.f
  exact Ev.bind hv (Ev.neg (by simp) (Ev.now _))
theorem CellCode_ev (s0 s1 : Int) (W : LA 10) (hv : Ev (fun k => impl_ValidRoom.f k s0 s1 W) true) (h0 : 1 ≤ s0 ∧ s0 ≤ 10) (h1 : 1 ≤ s1 ∧ s1 ≤ 10) (l : List S34) (hl : l.length ≤ 1073741824) (hs : ∀ q ∈ l, SB q) :
    Ev (fun k => impl_cellCode.f k s0 s1 W l) (if allCell s0 s1 l then 0 else 2) := by
  unfold impl_cellCode.f
  refine Ev.bind hv (Ev.pos rfl (Ev.bind (NoCell_ev s0 s1 W h0 h1 l hl hs) ?_))
  rw [Unless_c]
  exact Ev.now _
theorem StateCode_ev (s0 s1 : Int) (W : LA 10) (hb : ∀ i, 0 ≤ rd W.l i ∧ rd W.l i < 65536) (h0 : 1 ≤ s0 ∧ s0 ≤ 10) (h1 : 1 ≤ s1 ∧ s1 ≤ 10) (l : List S34) (hl : l.length ≤ 1073741824) (hs : ∀ q ∈ l, SB q) :
    Ev (fun k => impl_stateCode.f k s0 s1 W l) (if allFree s0 s1 W l then 0 else 4) := by
  unfold impl_stateCode.f
  refine Ev.bind (NoFree_ev s0 s1 W hb h0 h1 l hl hs) ?_
  rw [Unless_c]
  exact Ev.now _
def isCi (s0 s1 x y : Int) : Bool := inC x 0 (mn s0 10 - 1) && inC y 0 (mn s1 10 - 1)
theorem mn_le (a : Int) : mn a 10 ≤ 10 := by unfold mn; split <;> omega
theorem mn_ge {a b : Int} (h : b ≤ a) (hb : b ≤ 10) : b ≤ mn a 10 := by unfold mn; split <;> omega
theorem Is_ig (s0 s1 : Int) (W : LA 10) (h0 : -128 ≤ s0 ∧ s0 ≤ 127) (h1 : -128 ≤ s1 ∧ s1 ≤ 127) (x y : Int) (hx : -128 ≤ x ∧ x ≤ 127) (hy : -128 ≤ y ∧ y ≤ 127) : impl_Room_isCell.f s0 s1 W x y = some (isCi s0 s1 x y) := by
  have a1 := mn_le s0
  have a2 := mn_ge h0.1 (show (-128 : Int) ≤ 10 by omega)
  have b1 := mn_le s1
  have b2 := mn_ge h1.1 (show (-128 : Int) ≤ 10 by omega)
  unfold impl_Room_isCell.f isCi
  rw [wint s0 (by omega) (by omega), wint s1 (by omega) (by omega), wint x (by omega) (by omega), wint y (by omega) (by omega), wint (mn s0 10 - 1) (by omega) (by omega), wint (mn s1 10 - 1) (by omega) (by omega), Within_c, Within_c]
  simp only [Option.bind_some]
  cases inC x 0 (mn s0 10 - 1) <;> simp
theorem Fr_ig (s0 s1 : Int) (W : LA 10) (hr : RB s0 s1 W) (x y : Int) (hx : -128 ≤ x ∧ x ≤ 127) (hy : -128 ≤ y ∧ y ≤ 127) : impl_Room_isFree.f s0 s1 W x y = some (isCi s0 s1 x y && fr W.l x y) := by
  obtain ⟨h0, h1, hb⟩ := hr
  have a1 := mn_le s0
  have b1 := mn_le s1
  unfold impl_Room_isFree.f
  rw [Is_ig s0 s1 W h0 h1 x y hx hy]
  simp only [Option.bind_some]
  cases h : isCi s0 s1 x y with
  | false => simp
  | true =>
    have hd : (0 ≤ x ∧ x ≤ mn s0 10 - 1) ∧ (0 ≤ y ∧ y ≤ mn s1 10 - 1) := by
      unfold isCi inC at h
      simp at h
      omega
    obtain ⟨n, rfl⟩ : ∃ n : Nat, x = n := ⟨x.toNat, by omega⟩
    rw [if_pos rfl, if_pos (by omega), if_pos (by omega), if_pos (by omega), shr_bit (hb _).1 (hb _).2 (by omega)]
    unfold fr
    rw [Int.toNat_natCast]
    simp
theorem StateCode_any (s0 s1 : Int) (W : LA 10) (hr : RB s0 s1 W) (l : List S34) (hl : l.length ≤ 1073741824) (hs : ∀ q ∈ l, SB q) :
    Ev (fun k => impl_stateCode.f k s0 s1 W l) (if (l.any fun q => !(isCi s0 s1 q.f0 q.f1 && fr W.l q.f0 q.f1)) then 4 else 0) := by
  unfold impl_stateCode.f
  have hN : Ev (fun k => impl_Spot_105__109.f k l s0 s1 W) (l.any fun q => !(isCi s0 s1 q.f0 q.f1 && fr W.l q.f0 q.f1)) := by
    unfold impl_Spot_105__109.f impl_Spot_120__109.f
    obtain ⟨r, hr', hd⟩ := Ev.find_idx (fun k i => impl_Spot_120__109.l0 k l (l.length : Int) i s0 s1 W) (fun i => !(isCi s0 s1 (l.getD i z34).f0 (l.getD i z34).f1 && fr W.l (l.getD i z34).f0 (l.getD i z34).f1)) l.length
      (fun i hi hp => by
        have hm := hs _ (getD_mem l i z34 hi)
        refine Ev.succ ?_
        simp only [impl_Spot_120__109.l0, impl_stateCode_1.f]
        rw [rdS_get, Fr_ig s0 s1 W hr _ _ hm.1 hm.2]
        simp only [Option.bind_some]
        exact Ev.pos (by omega) (Ev.pos (by omega) (Ev.pos (by omega) (Ev.pos hp (Ev.now _)))))
      (fun i hi hp r hr' => by
        have hm := hs _ (getD_mem l i z34 hi)
        refine Ev.succ ?_
        simp only [impl_Spot_120__109.l0, impl_stateCode_1.f]
        rw [rdS_get, Fr_ig s0 s1 W hr _ _ hm.1 hm.2, wnat i l.length hi (by omega)]
        simp only [Option.bind_some]
        exact Ev.pos (by omega) (Ev.pos (by omega) (Ev.pos (by omega) (Ev.neg (by rw [hp]; exact Bool.false_ne_true) hr'))))
      (by
        refine Ev.succ ?_
        simp only [impl_Spot_120__109.l0]
        exact Ev.neg (by omega) (Ev.now _))
    rw [any_range l z34 (fun q => !(isCi s0 s1 q.f0 q.f1 && fr W.l q.f0 q.f1))] at hd
    exact Ev.bind hr' (by rw [hd]; exact Ev.now _)
  refine Ev.bind hN ?_
  rw [Unless_c]
  cases (l.any fun q => !(isCi s0 s1 q.f0 q.f1 && fr W.l q.f0 q.f1)) <;> exact Ev.now _
end Go.Proofs.Ytoiiabnnddlcbaa.Q
end
section
namespace Go.Proofs.Ytoiiabnnddlcbaa.Q
open Go.RowKit Go.Proofs.YtoiiabnnddlcbaaW.PrintWords Go.Proofs.YtoiiabnnddlcbaaW.PrintLast Go.Proofs.YtoiiabnnddlcbaaW.PrintMore Go.Proofs.Ytoiiabnnddlcbaa.La Go.Proofs.Ytoiiabnnddlcbaa.Mp Go.Proofs.Ytoiiabnnddlcbaa.PB
set_option linter.unusedVariables false
set_option linter.unusedSimpArgs false
theorem i8_id {v : Int} (h0 : -128 ≤ v) (h1 : v ≤ 127) : IntKind.i8.wrap v = v := by simp [IntKind.wrap, IntKind.bits, IntKind.signed]; omega
def nxt (x y : Int) : Nat → S34
  | 0 => ⟨x, y - 1⟩
  | 1 => ⟨x + 1, y⟩
  | 2 => ⟨x, y + 1⟩
  | _ => ⟨x - 1, y⟩
def besL (p : Int → Int → Bool) (x y : Int) : Nat → List S34
  | 0 => []
  | d + 1 => if p (nxt x y d).f0 (nxt x y d).f1 then besL p x y d ++ [nxt x y d] else besL p x y d
def nb (s0 s1 : Int) (W : LA 10) (x y : Int) : List S34 := besL (frC s0 s1 W) x y 4
theorem besL_len (p : Int → Int → Bool) (x y : Int) : ∀ d, (besL p x y d).length ≤ d
  | 0 => by simp [besL]
  | d + 1 => by have := besL_len p x y d; rw [besL]; split <;> simp <;> omega
theorem besL_mem (p : Int → Int → Bool) (x y : Int) : ∀ d, ∀ q ∈ besL p x y d, p q.f0 q.f1 = true
  | 0 => by simp [besL]
  | d + 1 => by
    have ih := besL_mem p x y d
    rw [besL]
    split
    · rename_i hp
      intro q hq
      rcases List.mem_append.1 hq with h | h
      · exact ih q h
      · obtain rfl := List.mem_singleton.1 h
        exact hp
    · exact ih
theorem nxt_small {x y : Int} (hx : 0 ≤ x ∧ x < 10) (hy : 0 ≤ y ∧ y < 10) (d : Nat) : (-128 ≤ (nxt x y d).f0 ∧ (nxt x y d).f0 ≤ 127) ∧ (-128 ≤ (nxt x y d).f1 ∧ (nxt x y d).f1 ≤ 127) := by
  rcases d with _ | _ | _ | d <;> simp only [nxt] <;> omega
theorem Next_s {x y : Int} (hx : 0 ≤ x ∧ x < 10) (hy : 0 ≤ y ∧ y < 10) (d : Nat) (hd : d < 4) : spec_l01Next.f x y (d : Int) = some ((nxt x y d).f0, (nxt x y d).f1) := by
  unfold spec_l01Next.f
  rw [i8_id (v := y - 1) (by omega) (by omega), i8_id (v := x + 1) (by omega) (by omega), i8_id (v := y + 1) (by omega) (by omega), i8_id (v := x - 1) (by omega) (by omega)]
  rcases d with _ | _ | _ | _ | d
  · rfl
  · rfl
  · rfl
  · rfl
  · omega
theorem Next_i {x y : Int} (hx : 0 ≤ x ∧ x < 10) (hy : 0 ≤ y ∧ y < 10) (d : Nat) (hd : d < 4) : impl_NextSpot.f x y (d : Int) = some ((nxt x y d).f0, (nxt x y d).f1) := by
  unfold impl_NextSpot.f
  rw [i8_id (v := y - 1) (by omega) (by omega), i8_id (v := x + 1) (by omega) (by omega), i8_id (v := y + 1) (by omega) (by omega), i8_id (v := x - 1) (by omega) (by omega)]
  rcases d with _ | _ | _ | _ | d
  · rfl
  · rfl
  · rfl
  · rfl
  · omega
theorem Beside_s (s0 s1 : Int) (W : LA 10) (hb : ∀ i, 0 ≤ rd W.l i ∧ rd W.l i < 65536) (h0 : 1 ≤ s0 ∧ s0 ≤ 10) (h1 : 1 ≤ s1 ∧ s1 ≤ 10) (x y : Int) (hx : 0 ≤ x ∧ x < 10) (hy : 0 ≤ y ∧ y < 10) :
    Ev (fun k => spec_l01Beside.f k s0 s1 W x y) (nb s0 s1 W x y) := by
  unfold spec_l01Beside.f
  have key : ∀ n d : Nat, d + n = 4 → Ev (fun k => spec_l01Beside.l0 k (besL (frC s0 s1 W) x y d) (d : Int) s0 s1 W x y) (nb s0 s1 W x y) := by
    intro n
    induction n with
    | zero =>
      intro d hd
      obtain rfl : d = 4 := by omega
      refine Ev.succ ?_
      simp only [spec_l01Beside.l0]
      exact Ev.neg (by omega) (Ev.now _)
    | succ n ih =>
      intro d hd
      have hs := nxt_small hx hy d
      have hl := besL_len (frC s0 s1 W) x y d
      have e := ih (d + 1) (by omega)
      rw [besL] at e
      refine Ev.succ ?_
      simp only [spec_l01Beside.l0]
      refine Ev.pos (by omega) ?_
      rw [Next_s hx hy d (by omega), wnat d 4 (by omega) (by omega)]
      simp only [Option.bind_some]
      rw [Fr_s s0 s1 W hb h0 h1 _ _ hs.1 hs.2]
      simp only [Option.bind_some]
      cases hc : frC s0 s1 W (nxt x y d).f0 (nxt x y d).f1 with
      | true => rw [hc] at e; exact Ev.pos rfl (Ev.pos (by omega) e)
      | false => rw [hc] at e; exact Ev.neg Bool.false_ne_true e
  exact key 4 0 rfl
theorem Beside_i (s0 s1 : Int) (W : LA 10) (hb : ∀ i, 0 ≤ rd W.l i ∧ rd W.l i < 65536) (h0 : 1 ≤ s0 ∧ s0 ≤ 10) (h1 : 1 ≤ s1 ∧ s1 ≤ 10) (x y : Int) (hx : 0 ≤ x ∧ x < 10) (hy : 0 ≤ y ∧ y < 10) :
    Ev (fun k => impl_Room_beside.f k s0 s1 W x y) (nb s0 s1 W x y) := by
  unfold impl_Room_beside.f
  have key : ∀ n d : Nat, d + n = 4 → Ev (fun k => impl_Room_beside.l0 k (besL (frC s0 s1 W) x y d) (d : Int) s0 s1 W x y) (nb s0 s1 W x y) := by
    intro n
    induction n with
    | zero =>
      intro d hd
      obtain rfl : d = 4 := by omega
      refine Ev.succ ?_
      simp only [impl_Room_beside.l0]
      exact Ev.neg (by omega) (Ev.now _)
    | succ n ih =>
      intro d hd
      have hs := nxt_small hx hy d
      have hl := besL_len (frC s0 s1 W) x y d
      have e := ih (d + 1) (by omega)
      rw [besL] at e
      refine Ev.succ ?_
      simp only [impl_Room_beside.l0]
      refine Ev.pos (by omega) ?_
      rw [Next_i hx hy d (by omega), wnat d 4 (by omega) (by omega)]
      simp only [Option.bind_some]
      rw [Fr_i s0 s1 W hb h0 h1 _ _ hs.1 hs.2]
      simp only [Option.bind_some]
      cases hc : frC s0 s1 W (nxt x y d).f0 (nxt x y d).f1 with
      | true => rw [hc] at e; exact Ev.pos rfl (Ev.pos (by omega) e)
      | false => rw [hc] at e; exact Ev.neg Bool.false_ne_true e
  exact key 4 0 rfl
end Go.Proofs.Ytoiiabnnddlcbaa.Q
end
section
namespace Go.Proofs.Ytoiiabnnddlcbaa.Q
open Go.RowKit Go.Proofs.YtoiiabnnddlcbaaW.PrintWords Go.Proofs.YtoiiabnnddlcbaaW.PrintLast Go.Proofs.YtoiiabnnddlcbaaW.PrintMore Go.Proofs.Ytoiiabnnddlcbaa.La Go.Proofs.Ytoiiabnnddlcbaa.Mp Go.Proofs.Ytoiiabnnddlcbaa.PB
set_option linter.unusedVariables false
set_option linter.unusedSimpArgs false
theorem mget_push (x y n a b : Int) : ∀ M : MP, mget (M ++ [(x, y, n)]) a b = if (mget M a b).isSome then mget M a b else if (a == x && (b == y)) = true then some n else none
  | [] => by simp [mget]
  | e :: M => by
    have ih := mget_push x y n a b M
    simp only [List.cons_append, mget]
    split
    · simp
    · exact ih
theorem mhas_push (M : MP) (x y n a b : Int) : mhas (M ++ [(x, y, n)]) a b = (mhas M a b || (a == x && (b == y))) := by
  unfold mhas
  rw [mget_push]
  cases hg : mget M a b with
  | some v => simp
  | none => simp only [Option.isSome_none, Bool.false_eq_true, if_false, Bool.false_or]; split <;> rename_i h <;> simp_all
theorem mval_push_old (M : MP) (x y n a b : Int) (h : mhas M a b = true) : mval (M ++ [(x, y, n)]) a b = mval M a b := by
  unfold mhas at h
  unfold mval
  rw [mget_push, if_pos h]
theorem mval_push_new (M : MP) (x y n : Int) (h : mhas M x y = false) : mval (M ++ [(x, y, n)]) x y = n := by
  unfold mhas at h
  unfold mval
  rw [mget_push, if_neg (by simp [h]), if_pos (by simp)]
  rfl
theorem countP_drop {p q : Nat → Bool} (himp : ∀ i, q i = true → p i = true) : ∀ (l : List Nat) (a : Nat), a ∈ l → p a = true → q a = false → l.countP q + 1 ≤ l.countP p
  | [], a, h, _, _ => by simp at h
  | b :: l, a, h, hp, hq => by
    have mono : l.countP q ≤ l.countP p := List.countP_mono_left (fun i _ hi => himp i hi)
    rcases List.mem_cons.1 h with rfl | h
    · rw [List.countP_cons_of_neg (by simp [hq]), List.countP_cons_of_pos hp]
      omega
    · have ih := countP_drop himp l a h hp hq
      by_cases hb : q b = true
      · rw [List.countP_cons_of_pos hb, List.countP_cons_of_pos (himp b hb)]
        omega
      · rw [List.countP_cons_of_neg (by simpa using hb)]
        have : l.countP p ≤ (b :: l).countP p := by rw [List.countP_cons]; omega
        omega
def freeNo (M : MP) (i : Nat) : Bool := !mhas M ((i % 10 : Nat) : Int) ((i / 10 : Nat) : Int)
structure St (o : S34) (s0 s1 : Int) (W : LA 10) (L : List S34) (M : MP) (A : LA 100) : Prop where
  key : ∀ x y, mhas M x y = true → frC s0 s1 W x y = true
  val : ∀ x y, mhas M x y = true → 0 ≤ mval M x y ∧ mval M x y ≤ L.length
  arr : ∀ x y, 0 ≤ x ∧ x < 10 → 0 ≤ y ∧ y < 10 → rd A.l (y * 10 + x) = if mhas M x y = true then mval M x y else -1
  mem : ∀ q ∈ L, mhas M q.f0 q.f1 = true
  cnt : L.length + (List.range 100).countP (freeNo M) ≤ 100
  one : mhas M o.f0 o.f1 = true ∧ mval M o.f0 o.f1 = 0
variable {o : S34}
theorem frC_cell {s0 s1 : Int} {W : LA 10} (h0 : s0 ≤ 10) (h1 : s1 ≤ 10) {x y : Int} (h : frC s0 s1 W x y = true) : (0 ≤ x ∧ x < 10) ∧ (0 ≤ y ∧ y < 10) := by
  have : isC s0 s1 x y = true := by unfold frC at h; simp at h; exact h.1
  have := isC_bounds this
  omega
theorem St.push {s0 s1 : Int} {W : LA 10} {L : List S34} {M : MP} {A : LA 100} (h : St o s0 s1 W L M A) (h0 : s0 ≤ 10) (h1 : s1 ≤ 10) (q : S34) (hq : frC s0 s1 W q.f0 q.f1 = true) (hn : mhas M q.f0 q.f1 = false) (n : Int) (hn0 : 0 ≤ n) (hn1 : n ≤ L.length + 1) :
    St o s0 s1 W (L ++ [q]) (M ++ [(q.f0, q.f1, n)]) (LA.set A (q.f1 * 10 + q.f0) n) := by
  obtain ⟨cx, cy⟩ := frC_cell h0 h1 hq
  refine ⟨?_, ?_, ?_, ?_, ?_, ?_⟩
  · intro x y hh
    rw [mhas_push, Bool.or_eq_true] at hh
    rcases hh with hh | hh
    · exact h.key x y hh
    · simp only [Bool.and_eq_true, beq_iff_eq] at hh
      rw [hh.1, hh.2]
      exact hq
  · intro x y hh
    rw [mhas_push, Bool.or_eq_true] at hh
    rw [List.length_append, List.length_singleton]
    by_cases ho : mhas M x y = true
    · rw [mval_push_old _ _ _ _ _ _ ho]
      have := h.val x y ho
      omega
    · rcases hh with hh | hh
      · exact absurd hh ho
      · simp only [Bool.and_eq_true, beq_iff_eq] at hh
        rw [hh.1, hh.2, mval_push_new _ _ _ _ hn]
        omega
  · intro x y hx hy
    by_cases e : x = q.f0 ∧ y = q.f1
    · rw [e.1, e.2, rd_set_same _ _ _ (by omega) (by omega), mhas_push, mval_push_new _ _ _ _ hn]
      simp
    · rw [rd_set_other _ _ _ _ (by omega) (by omega) (by omega), h.arr x y hx hy, mhas_push]
      have e2 : (x == q.f0 && (y == q.f1)) = false := by
        cases hb : (x == q.f0 && (y == q.f1)) with
        | false => rfl
        | true => simp only [Bool.and_eq_true, beq_iff_eq] at hb; exact absurd hb e
      rw [e2, Bool.or_false]
      by_cases ho : mhas M x y = true
      · rw [if_pos ho, if_pos ho, mval_push_old _ _ _ _ _ _ ho]
      · rw [if_neg ho, if_neg ho]
  · intro p hp
    rw [mhas_push, Bool.or_eq_true]
    rcases List.mem_append.1 hp with hp | hp
    · exact .inl (h.mem p hp)
    · obtain rfl := List.mem_singleton.1 hp
      right
      simp
  · have hc : (q.f1 * 10 + q.f0).toNat < 100 := by omega
    have e1 : ((((q.f1 * 10 + q.f0).toNat % 10 : Nat)) : Int) = q.f0 := by omega
    have e2 : ((((q.f1 * 10 + q.f0).toNat / 10 : Nat)) : Int) = q.f1 := by omega
    have hd := countP_drop (p := freeNo M) (q := freeNo (M ++ [(q.f0, q.f1, n)])) (fun i hi => by
      unfold freeNo at hi ⊢
      rw [mhas_push] at hi
      simp only [Bool.not_eq_true', Bool.or_eq_false_iff] at hi
      rw [hi.1]
      rfl) (List.range 100) (q.f1 * 10 + q.f0).toNat (List.mem_range.2 hc) (by unfold freeNo; rw [e1, e2, hn]; rfl) (by unfold freeNo; rw [e1, e2, mhas_push]; simp)
    have := h.cnt
    rw [List.length_append, List.length_singleton]
    omega
  · exact ⟨by rw [mhas_push, h.one.1]; rfl, by rw [mval_push_old _ _ _ _ _ _ h.one.1]; exact h.one.2⟩
theorem getD_app {α : Type} (l l2 : List α) (i : Nat) (d : α) (h : i < l.length) : (l ++ l2).getD i d = l.getD i d := by
  rw [List.getD_eq_getElem?_getD, List.getElem?_append_left h, List.getD_eq_getElem?_getD]
theorem Steps_in (s0 s1 : Int) (W : LA 10) (h0 : 1 ≤ s0 ∧ s0 ≤ 10) (h1 : 1 ≤ s1 ∧ s1 ≤ 10) (i : Nat) (N : List S34) (hN : N.length ≤ 4) (hf : ∀ q ∈ N, frC s0 s1 W q.f0 q.f1 = true) : ∀ (n j : Nat), j + n = N.length → ∀ (L : List S34) (M : MP) (A : LA 100), St o s0 s1 W L M A → i < L.length →
    ∃ L' M' A', St o s0 s1 W L' M' A' ∧ L.length ≤ L'.length ∧ (∀ r, Ev (fun k => impl_Room_steps.l0 k L' ((i + 1 : Nat) : Int) s0 s1 W M') r → Ev (fun k => impl_Room_steps.l1 k L (i : Int) N (N.length : Int) (j : Int) s0 s1 W M) r) ∧
      (∀ r, Ev (fun k => spec_l01Steps.l2 k L' ((i + 1 : Nat) : Int) s0 s1 W A') r → Ev (fun k => spec_l01Steps.l3 k L (i : Int) N (j : Int) s0 s1 W A) r) := by
  intro n
  induction n with
  | zero =>
    intro j hj L M A hS hi
    have hc := hS.cnt
    refine ⟨L, M, A, hS, Nat.le_refl _, fun r hr => ?_, fun r hr => ?_⟩
    · refine Ev.succ ?_
      simp only [impl_Room_steps.l1]
      rw [wnat i 200 (by omega) (by omega)]
      exact Ev.neg (by omega) hr
    · refine Ev.succ ?_
      simp only [spec_l01Steps.l3]
      rw [wnat i 200 (by omega) (by omega)]
      exact Ev.neg (by omega) hr
  | succ n ih =>
    intro j hj L M A hS hi
    have hc := hS.cnt
    have hjl : j < N.length := by omega
    have hq := hf _ (getD_mem N j z34 hjl)
    obtain ⟨cx, cy⟩ := frC_cell h0.2 h1.2 hq
    have hp := hS.mem _ (getD_mem L i z34 hi)
    obtain ⟨px, py⟩ := frC_cell h0.2 h1.2 (hS.key _ _ hp)
    have hv := hS.val _ _ hp
    have ha := hS.arr _ _ cx cy
    have hap := hS.arr _ _ px py
    rw [if_pos hp] at hap
    by_cases hh : mhas M (N.getD j z34).f0 (N.getD j z34).f1 = true
    · obtain ⟨L', M', A', hS', hle, hI, hX⟩ := ih (j + 1) (by omega) L M A hS hi
      rw [if_pos hh] at ha
      have hvq := hS.val _ _ hh
      refine ⟨L', M', A', hS', hle, fun r hr => ?_, fun r hr => ?_⟩
      · refine Ev.succ ?_
        simp only [impl_Room_steps.l1]
        rw [rdS_get, wnat j 4 (by omega) (by omega)]
        exact Ev.pos (by omega) (Ev.pos (by omega) (Ev.pos (by omega) (Ev.pos hh (hI r hr))))
      · refine Ev.succ ?_
        simp only [spec_l01Steps.l3]
        rw [rdS_get, wnat j 4 (by omega) (by omega)]
        exact Ev.pos (by omega) (Ev.pos (by omega) (Ev.pos cy.1 (Ev.pos cy.2 (Ev.pos cx.1 (Ev.pos cx.2 (Ev.neg (by rw [ha]; omega) (hX r hr)))))))
    · have hh' : mhas M (N.getD j z34).f0 (N.getD j z34).f1 = false := by simpa using hh
      rw [if_neg hh] at ha
      have hS2 := hS.push h0.2 h1.2 (N.getD j z34) hq hh' (mval M (L.getD i z34).f0 (L.getD i z34).f1 + 1) (by omega) (by omega)
      obtain ⟨L', M', A', hS', hle, hI, hX⟩ := ih (j + 1) (by omega) _ _ _ hS2 (by rw [List.length_append]; omega)
      rw [List.length_append, List.length_singleton] at hle
      have hw : wrap64 (mval M (L.getD i z34).f0 (L.getD i z34).f1 + 1) = mval M (L.getD i z34).f0 (L.getD i z34).f1 + 1 := wint _ (by omega) (by omega)
      refine ⟨L', M', A', hS', by omega, fun r hr => ?_, fun r hr => ?_⟩
      · refine Ev.succ ?_
        simp only [impl_Room_steps.l1]
        rw [rdS_get, rdS_get, wnat j 4 (by omega) (by omega), hw]
        exact Ev.pos (by omega) (Ev.pos (by omega) (Ev.pos (by omega) (Ev.neg hh (Ev.pos (by omega) (Ev.pos (by omega) (Ev.pos (by omega) (hI r hr)))))))
      · refine Ev.succ ?_
        simp only [spec_l01Steps.l3]
        rw [rdS_get, rdS_get, wnat j 4 (by omega) (by omega), hap, hw]
        exact Ev.pos (by omega) (Ev.pos (by omega) (Ev.pos cy.1 (Ev.pos cy.2 (Ev.pos cx.1 (Ev.pos cx.2 (Ev.pos (by rw [ha]; omega) (Ev.pos (by omega) (Ev.pos (by omega) (Ev.pos py.1 (Ev.pos py.2 (Ev.pos px.1 (Ev.pos px.2 (Ev.pos (by omega) (hX r hr))))))))))))))
theorem Steps_out (s0 s1 : Int) (W : LA 10) (hb : ∀ i, 0 ≤ rd W.l i ∧ rd W.l i < 65536) (h0 : 1 ≤ s0 ∧ s0 ≤ 10) (h1 : 1 ≤ s1 ∧ s1 ≤ 10) : ∀ (n i : Nat), i + n = 101 → ∀ (L : List S34) (M : MP) (A : LA 100), St o s0 s1 W L M A → i ≤ L.length →
    ∃ L' M' A', St o s0 s1 W L' M' A' ∧ Ev (fun k => impl_Room_steps.l0 k L (i : Int) s0 s1 W M) M' ∧ Ev (fun k => spec_l01Steps.l2 k L (i : Int) s0 s1 W A) A' := by
  intro n
  induction n with
  | zero =>
    intro i hi L M A hS hl
    have := hS.cnt
    omega
  | succ n ih =>
    intro i hi L M A hS hl
    by_cases hil : i < L.length
    · have hp := hS.mem _ (getD_mem L i z34 hil)
      obtain ⟨px, py⟩ := frC_cell h0.2 h1.2 (hS.key _ _ hp)
      obtain ⟨L', M', A', hS', hle, hI, hX⟩ := Steps_in s0 s1 W h0 h1 i (nb s0 s1 W (L.getD i z34).f0 (L.getD i z34).f1) (besL_len _ _ _ 4) (besL_mem _ _ _ 4) _ 0 (Nat.zero_add _) L M A hS hil
      obtain ⟨L2, M2, A2, hS2, e1, e2⟩ := ih (i + 1) (by omega) L' M' A' hS' (by omega)
      refine ⟨L2, M2, A2, hS2, ?_, ?_⟩
      · refine Ev.succ ?_
        simp only [impl_Room_steps.l0]
        rw [rdS_get]
        exact Ev.pos (by omega) (Ev.pos (by omega) (Ev.bind (Beside_i s0 s1 W hb h0 h1 _ _ px py) (hI _ e1)))
      · refine Ev.succ ?_
        simp only [spec_l01Steps.l2]
        rw [rdS_get]
        exact Ev.pos (by omega) (Ev.pos (by omega) (Ev.bind (Beside_s s0 s1 W hb h0 h1 _ _ px py) (hX _ e2)))
    · refine ⟨L, M, A, hS, ?_, ?_⟩
      · refine Ev.succ ?_
        simp only [impl_Room_steps.l0]
        exact Ev.neg (by omega) (Ev.now _)
      · refine Ev.succ ?_
        simp only [spec_l01Steps.l2]
        exact Ev.neg (by omega) (Ev.now _)
def filled (A : LA 100) (y x : Int) : Prop := ∀ a b : Int, 0 ≤ a ∧ a < 10 → 0 ≤ b ∧ b < 10 → (b < y ∨ b = y ∧ a < x) → rd A.l (b * 10 + a) = -1
theorem Fill_in (s0 s1 : Int) (W : LA 10) (a0 a1 : Int) (y : Nat) (hy : y < 10) : ∀ (n x : Nat), x + n = 10 → ∀ A, filled A y x → ∃ A', filled A' ((y + 1 : Nat) : Int) 0 ∧ ∀ r, Ev (fun k => spec_l01Steps.l0 k ((y + 1 : Nat) : Int) s0 s1 W a0 a1 A') r → Ev (fun k => spec_l01Steps.l1 k (y : Int) (x : Int) s0 s1 W a0 a1 A) r := by
  intro n
  induction n with
  | zero =>
    intro x hx A hA
    refine ⟨A, fun a b ha hb hl => hA a b ha hb (by omega), fun r hr => ?_⟩
    refine Ev.succ ?_
    simp only [spec_l01Steps.l1]
    rw [wnat y 10 (by omega) (by omega)]
    exact Ev.neg (by omega) hr
  | succ n ih =>
    intro x hx A hA
    obtain ⟨A', hA', hr'⟩ := ih (x + 1) (by omega) (LA.set A ((y : Int) * 10 + (x : Int)) (-1)) (fun a b ha hb hl => by
      by_cases e : b = y ∧ a = x
      · rw [e.1, e.2, rd_set_same _ _ _ (by omega) (by omega)]
      · rw [rd_set_other _ _ _ _ (by omega) (by omega) (by omega)]
        exact hA a b ha hb (by omega))
    refine ⟨A', hA', fun r hr => ?_⟩
    refine Ev.succ ?_
    simp only [spec_l01Steps.l1]
    rw [wnat x 10 (by omega) (by omega)]
    exact Ev.pos (by omega) (Ev.pos (by omega) (Ev.pos (by omega) (Ev.pos (by omega) (hr' r hr))))
theorem Fill_out (s0 s1 : Int) (W : LA 10) (a0 a1 : Int) (hx : 0 ≤ a0 ∧ a0 < 10) (hy : 0 ≤ a1 ∧ a1 < 10) : ∀ (n y : Nat), y + n = 10 → ∀ A, filled A y 0 → ∃ A', filled A' 10 0 ∧ ∀ r, Ev (fun k => spec_l01Steps.l2 k [⟨a0, a1⟩] 0 s0 s1 W (LA.set A' (a1 * 10 + a0) 0)) r → Ev (fun k => spec_l01Steps.l0 k (y : Int) s0 s1 W a0 a1 A) r := by
  intro n
  induction n with
  | zero =>
    intro y hyy A hA
    obtain rfl : y = 10 := by omega
    refine ⟨A, hA, fun r hr => ?_⟩
    refine Ev.succ ?_
    simp only [spec_l01Steps.l0]
    exact Ev.neg (by omega) (Ev.pos hy.1 (Ev.pos hy.2 (Ev.pos hx.1 (Ev.pos hx.2 hr))))
  | succ n ih =>
    intro y hyy A hA
    obtain ⟨A1, hA1, h1⟩ := Fill_in s0 s1 W a0 a1 y (by omega) 10 0 rfl A hA
    obtain ⟨A', hA', h2⟩ := ih (y + 1) (by omega) A1 hA1
    refine ⟨A', hA', fun r hr => ?_⟩
    refine Ev.succ ?_
    simp only [spec_l01Steps.l0]
    exact Ev.pos (by omega) (h1 r (h2 r hr))
theorem Steps_both (s0 s1 : Int) (W : LA 10) (hb : ∀ i, 0 ≤ rd W.l i ∧ rd W.l i < 65536) (h0 : 1 ≤ s0 ∧ s0 ≤ 10) (h1 : 1 ≤ s1 ∧ s1 ≤ 10) (x y : Int) (hf : frC s0 s1 W x y = true) :
    ∃ L M A, St ⟨x, y⟩ s0 s1 W L M A ∧ Ev (fun k => impl_Room_steps.f k s0 s1 W x y) M ∧ Ev (fun k => spec_l01Steps.f k s0 s1 W x y) A := by
  obtain ⟨cx, cy⟩ := frC_cell h0.2 h1.2 hf
  obtain ⟨A', hA', h2⟩ := Fill_out s0 s1 W x y cx cy 10 0 rfl (LA.zero 100) (fun a b ha hb hl => by omega)
  have hg : ∀ a b : Int, mhas [(x, y, 0)] a b = (a == x && (b == y)) := fun a b => by
    unfold mhas mget
    cases (a == x && (b == y)) <;> rfl
  have hS : St ⟨x, y⟩ s0 s1 W [⟨x, y⟩] [(x, y, 0)] (LA.set A' (y * 10 + x) 0) := by
    refine ⟨?_, ?_, ?_, ?_, ?_, ?_⟩
    · intro a b h
      rw [hg] at h
      simp only [Bool.and_eq_true, beq_iff_eq] at h
      rw [h.1, h.2]
      exact hf
    · intro a b h
      rw [hg] at h
      simp only [Bool.and_eq_true, beq_iff_eq] at h
      rw [h.1, h.2]
      simp [mval, mget]
    · intro a b ha hb
      rw [hg]
      by_cases e : a = x ∧ b = y
      · rw [e.1, e.2, rd_set_same _ _ _ (by omega) (by omega)]
        simp [mval, mget]
      · rw [rd_set_other _ _ _ _ (by omega) (by omega) (by omega), hA' a b ha hb (by omega), if_neg (by simpa using e)]
    · intro q hq
      obtain rfl := List.mem_singleton.1 hq
      rw [hg]
      simp
    · have hc : (y * 10 + x).toNat < 100 := by omega
      have e1 : ((((y * 10 + x).toNat % 10 : Nat)) : Int) = x := by omega
      have e2 : ((((y * 10 + x).toNat / 10 : Nat)) : Int) = y := by omega
      have hd := countP_drop (p := fun _ => true) (q := freeNo [(x, y, 0)]) (fun i hi => rfl) (List.range 100) (y * 10 + x).toNat (List.mem_range.2 hc) rfl (by unfold freeNo; rw [e1, e2, hg]; simp)
      have hl : (List.range 100).countP (fun _ => true) ≤ 100 := by have := List.countP_le_length (p := fun _ : Nat => true) (l := List.range 100); rwa [List.length_range] at this
      simp only [List.length_singleton]
      omega
    · refine ⟨by rw [hg]; simp, ?_⟩
      simp [mval, mget]
  obtain ⟨L, M, A, hS', e1, e2⟩ := Steps_out s0 s1 W hb h0 h1 101 0 rfl _ _ _ hS (Nat.zero_le _)
  refine ⟨L, M, A, hS', e1, ?_⟩
  unfold spec_l01Steps.f
  exact h2 _ e2
end Go.Proofs.Ytoiiabnnddlcbaa.Q
end
section
namespace Go.Proofs.Ytoiiabnnddlcbaa.Q
open Go.RowKit Go.Proofs.YtoiiabnnddlcbaaW.PrintWords Go.Proofs.YtoiiabnnddlcbaaW.PrintLast Go.Proofs.YtoiiabnnddlcbaaW.PrintMore Go.Proofs.Ytoiiabnnddlcbaa.La Go.Proofs.Ytoiiabnnddlcbaa.Mp Go.Proofs.Ytoiiabnnddlcbaa.PB
set_option linter.unusedVariables false
set_option linter.unusedSimpArgs false
theorem rowL_filter (p g : Int → Int → Bool) (f : S34 → Bool) (y : Int) (acc : List S34) : ∀ x, (∀ a : Nat, a < x → p (a : Int) y = (g (a : Int) y && f ⟨(a : Int), y⟩)) → rowL p y (acc.filter f) x = (rowL g y acc x).filter f
  | 0, _ => rfl
  | x + 1, h => by
    have ih := rowL_filter p g f y acc x (fun a ha => h a (by omega))
    have hx := h x (by omega)
    rw [rowL, rowL, ih, hx]
    cases hg : g (x : Int) y with
    | false => simp
    | true =>
      cases hf : f ⟨(x : Int), y⟩ with
      | false => simp [hf, List.filter_append]
      | true => simp [hf, List.filter_append]
theorem cellsL_filter (p g : Int → Int → Bool) (f : S34 → Bool) (w : Nat) : ∀ h, (∀ a b : Nat, a < w → b < h → p (a : Int) (b : Int) = (g (a : Int) (b : Int) && f ⟨(a : Int), (b : Int)⟩)) → cellsL p w h = (cellsL g w h).filter f
  | 0, _ => rfl
  | h + 1, hh => by
    rw [cellsL, cellsL, cellsL_filter p g f w h (fun a b ha hb => hh a b ha (by omega))]
    exact rowL_filter p g f (h : Int) _ w (fun a ha => hh a h ha (by omega))
def freeL (s0 s1 : Int) (W : LA 10) : List S34 := cellsL (fr W.l) s0.toNat s1.toNat
theorem freeL_mem {s0 s1 : Int} {W : LA 10} (h0 : 1 ≤ s0 ∧ s0 ≤ 10) (h1 : 1 ≤ s1 ∧ s1 ≤ 10) : ∀ q ∈ freeL s0 s1 W, (0 ≤ q.f0 ∧ q.f0 < 10) ∧ (0 ≤ q.f1 ∧ q.f1 < 10) := fun q hq => by
  have := cellsL_mem (fr W.l) s0.toNat s1.toNat s1.toNat (Nat.le_refl _) q hq
  omega
theorem freeL_len {s0 s1 : Int} {W : LA 10} (h0 : 1 ≤ s0 ∧ s0 ≤ 10) (h1 : 1 ≤ s1 ∧ s1 ≤ 10) : (freeL s0 s1 W).length ≤ 100 := by
  have h := cellsL_len (fr W.l) s0.toNat s1.toNat
  have h2 : s0.toNat * s1.toNat ≤ 10 * 10 := Nat.mul_le_mul (by omega) (by omega)
  unfold freeL
  omega
theorem freeL_free {s0 s1 : Int} {W : LA 10} (h0 : 1 ≤ s0 ∧ s0 ≤ 10) (h1 : 1 ≤ s1 ∧ s1 ≤ 10) : ∀ q ∈ freeL s0 s1 W, frC s0 s1 W q.f0 q.f1 = true := fun q hq => by
  have e : freeL s0 s1 W = (cellsL (fun _ _ => true) s0.toNat s1.toNat).filter (fun q => fr W.l q.f0 q.f1) := cellsL_filter (fr W.l) (fun _ _ => true) (fun q => fr W.l q.f0 q.f1) s0.toNat s1.toNat (fun a b _ _ => by simp)
  have hb := cellsL_mem (fr W.l) s0.toNat s1.toNat s1.toNat (Nat.le_refl _) q hq
  rw [e] at hq
  have hf := (List.mem_filter.1 hq).2
  unfold frC isC inC
  simp only [hf, Bool.and_true, Bool.and_eq_true, decide_eq_true_eq]
  omega
theorem Cells_s (s0 s1 : Int) (W : LA 10) (h0 : 1 ≤ s0 ∧ s0 ≤ 10) (h1 : 1 ≤ s1 ∧ s1 ≤ 10) (l : List S34) (hl : l.length ≤ 1073741824) (hs : ∀ q ∈ l, SB q) : Ev (fun k => spec_l03Cells.f k s0 s1 W l) (allCell s0 s1 l) := by
  unfold spec_l03Cells.f
  have key : ∀ (n i : Nat), i + n = l.length → Ev (fun k => spec_l03Cells.l0 k l (i : Int) s0 s1 W) (allCell s0 s1 (l.drop i)) := by
    intro n
    induction n with
    | zero =>
      intro i hi
      obtain rfl : i = l.length := by omega
      rw [List.drop_length]
      refine Ev.succ ?_
      simp only [spec_l03Cells.l0]
      exact Ev.neg (by omega) (Ev.now _)
    | succ n ih =>
      intro i hi
      have hil : i < l.length := by omega
      have hm := hs _ (getD_mem l i z34 hil)
      refine Ev.succ ?_
      simp only [spec_l03Cells.l0]
      refine Ev.pos (by omega) (Ev.pos (by omega) ?_)
      rw [rdS_get, Is_s s0 s1 W h0 h1 _ _ hm.1 hm.2, wnat i l.length hil (by omega), drop_get l i z34 hil]
      simp only [Option.bind_some]
      cases hc : isC s0 s1 (l.getD i z34).f0 (l.getD i z34).f1 with
      | true =>
        refine Ev.pos rfl (Ev.eq (ih (i + 1) (by omega)) ?_)
        unfold allCell
        rw [List.any_cons, hc]
        rfl
      | false =>
        refine Ev.neg (by simp) (Ev.eq (Ev.now false) ?_)
        unfold allCell
        rw [List.any_cons, hc]
        rfl
  exact key l.length 0 (by omega)
theorem Asked6_bad (s0 s1 : Int) (W : LA 10) (l : List S34) (b : Bool) (hv : Ev (fun k => spec_l01Ok.f k s0 s1 W) false) : Ev (fun k => spec_l06Asked.f k s0 s1 W l b) 1 := by
  unfold spec_l06Asked.f
  exact Ev.bind hv (Ev.neg Bool.false_ne_true (Ev.now _))
theorem AskedL_ev (s0 s1 : Int) (W : LA 10) (hb : ∀ i, 0 ≤ rd W.l i ∧ rd W.l i < 65536) (h0 : 1 ≤ s0 ∧ s0 ≤ 10) (h1 : 1 ≤ s1 ∧ s1 ≤ 10) (l : List S34) (hl : l.length ≤ 1073741824) (hs : ∀ q ∈ l, SB q) :
    Ev (fun k => spec_l06Asked.l0 k l 0 s0 s1 W) (if allFree s0 s1 W l then 0 else 4) := by
  have key : ∀ (n i : Nat), i + n = l.length → Ev (fun k => spec_l06Asked.l0 k l (i : Int) s0 s1 W) (if allFree s0 s1 W (l.drop i) then 0 else 4) := by
    intro n
    induction n with
    | zero =>
      intro i hi
      obtain rfl : i = l.length := by omega
      rw [List.drop_length]
      refine Ev.succ ?_
      simp only [spec_l06Asked.l0]
      exact Ev.neg (by omega) (Ev.now _)
    | succ n ih =>
      intro i hi
      have hil : i < l.length := by omega
      have hm := hs _ (getD_mem l i z34 hil)
      refine Ev.succ ?_
      simp only [spec_l06Asked.l0]
      refine Ev.pos (by omega) (Ev.pos (by omega) ?_)
      rw [rdS_get, Fr_s s0 s1 W hb h0 h1 _ _ hm.1 hm.2, wnat i l.length hil (by omega), drop_get l i z34 hil]
      simp only [Option.bind_some]
      cases hc : frC s0 s1 W (l.getD i z34).f0 (l.getD i z34).f1 with
      | true =>
        refine Ev.pos rfl (Ev.eq (ih (i + 1) (by omega)) ?_)
        unfold allFree
        rw [List.any_cons, hc]
        rfl
      | false =>
        refine Ev.neg (by simp) (Ev.eq (Ev.now 4) ?_)
        unfold allFree
        rw [List.any_cons, hc]
        rfl
  exact key l.length 0 (by omega)
theorem Asked6_ev (s0 s1 : Int) (W : LA 10) (hb : ∀ i, 0 ≤ rd W.l i ∧ rd W.l i < 65536) (hv : Ev (fun k => spec_l01Ok.f k s0 s1 W) true) (h0 : 1 ≤ s0 ∧ s0 ≤ 10) (h1 : 1 ≤ s1 ∧ s1 ≤ 10) (l : List S34) (hl : l.length ≤ 1073741824) (hs : ∀ q ∈ l, SB q) (b : Bool) :
    Ev (fun k => spec_l06Asked.f k s0 s1 W l b) (if allCell s0 s1 l && b then (if allFree s0 s1 W l then 0 else 4) else 2) := by
  unfold spec_l06Asked.f
  refine Ev.bind hv (Ev.pos rfl (Ev.bind (Cells_s s0 s1 W h0 h1 l hl hs) ?_))
  have hj : ∀ c : Bool, Ev (fun k => spec_l06Asked.j0 k l c s0 s1 W) (if c then 2 else (if allFree s0 s1 W l then 0 else 4)) := fun c => by
    refine Ev.succ ?_
    simp only [spec_l06Asked.j0]
    cases c with
    | true => exact Ev.pos rfl (Ev.now _)
    | false => exact Ev.neg Bool.false_ne_true (AskedL_ev s0 s1 W hb h0 h1 l hl hs)
  cases hc : allCell s0 s1 l with
  | false =>
    exact Ev.neg Bool.false_ne_true (Ev.eq (hj true) (by simp))
  | true =>
    refine Ev.pos rfl (Ev.eq (hj (!b)) ?_)
    cases b <;> simp
theorem CodeMany_ev (s0 s1 : Int) (W : LA 10) (hr : RB s0 s1 W) (l : List S34) (hl : l.length ≤ 1073741824) (hs : ∀ q ∈ l, SB q) :
    ∃ ok : Bool, Ev (fun k => spec_l01Ok.f k s0 s1 W) ok ∧ Ev (fun k => impl_ValidRoom.f k s0 s1 W) ok ∧ (ok = true → (1 ≤ s0 ∧ s0 ≤ 10) ∧ (1 ≤ s1 ∧ s1 ≤ 10)) ∧
      ∃ c1 c3 : Int, Ev (fun k => impl_cellCode.f k s0 s1 W l) c1 ∧ Ev (fun k => impl_stateCode.f k s0 s1 W l) c3 ∧
        ∀ b : Bool, Ev (fun k => spec_l06Asked.f k s0 s1 W l b) (firstNZ [c1, if b then 0 else 2, c3]) ∧ (firstNZ [c1, if b then 0 else 2, c3] = 0 → allFree s0 s1 W l = true ∧ ok = true ∧ b = true) := by
  obtain ⟨ok, o1, o2, o3⟩ := Ok_both s0 s1 W hr.1 hr.2.1
  refine ⟨ok, o1, o2, o3, ?_⟩
  cases ok with
  | false =>
    refine ⟨1, _, CellCode_bad s0 s1 W _ o2, StateCode_any s0 s1 W hr _ hl hs, fun b => ⟨Asked6_bad s0 s1 W l b o1, fun h => ?_⟩⟩
    simp [firstNZ] at h
  | true =>
    obtain ⟨h0, h1⟩ := o3 rfl
    refine ⟨_, _, CellCode_ev s0 s1 W o2 h0 h1 _ hl hs, StateCode_ev s0 s1 W hr.2.2 h0 h1 _ hl hs, fun b => ?_⟩
    have e := Asked6_ev s0 s1 W hr.2.2 o1 h0 h1 l hl hs b
    cases hc : allCell s0 s1 l <;> cases b <;> cases hf : allFree s0 s1 W l <;> rw [hc, hf] at e <;> simp [firstNZ] at e ⊢ <;> exact e
end Go.Proofs.Ytoiiabnnddlcbaa.Q
end
section
namespace Go.Proofs.Ytoiiabnnddlcbaa.Q
open Go.RowKit Go.Proofs.YtoiiabnnddlcbaaW.PrintWords Go.Proofs.YtoiiabnnddlcbaaW.PrintLast Go.Proofs.YtoiiabnnddlcbaaW.PrintMore Go.Proofs.Ytoiiabnnddlcbaa.La Go.Proofs.Ytoiiabnnddlcbaa.Mp
set_option linter.unusedVariables false
set_option linter.unusedSimpArgs false
theorem wraps_u32 (n : Int) (h₀ : 0 ≤ n) (h₁ : n < 2 ^ 32) : IntKind.u32.wrap n = n := by rw [IntKind.wrap_u32]; omega
theorem u32_or (a b : Nat) (ha : a < 2 ^ 32) (hb : b < 2 ^ 32) : Go.bits .or .u32 (a : Int) (b : Int) = ((a ||| b : Nat) : Int) := (bits_nat .u32 32 (by decide) wraps_u32 a b ha hb).2
theorem u32_andNot (a b : Nat) (ha : a < 2 ^ 32) (hb : b < 2 ^ 32) : Go.bits .andNot .u32 (a : Int) (b : Int) = ((a &&& (2 ^ 32 - 1 - b) : Nat) : Int) := by
  have ha' : a % 2 ^ IntKind.u32.bits = a := Nat.mod_eq_of_lt ha
  have hb' : b % 2 ^ IntKind.u32.bits = b := Nat.mod_eq_of_lt hb
  simp only [Go.bits, BitVec.ofInt_natCast, BitVec.toNat_and, BitVec.toNat_not, BitVec.toNat_ofNat, ha', hb']
  refine wraps_u32 _ (Int.natCast_nonneg _) ?_
  have : a &&& (2 ^ IntKind.u32.bits - 1 - b) < 2 ^ 32 := Nat.lt_of_le_of_lt Nat.and_le_left ha
  exact_mod_cast this
theorem shl_one (i : Nat) (hi : i < 32) : shl .u32 1 (i : Int) = ((2 ^ i : Nat) : Int) := by
  unfold shl
  rw [Int.one_mul, Int.toNat_natCast, Nat.min_eq_left (show i ≤ IntKind.u32.bits by unfold IntKind.bits; dsimp only; omega)]
  have h : (2 : Int) ^ i < 2 ^ 32 := by
    have := Nat.pow_lt_pow_right (a := 2) (by decide) hi
    exact_mod_cast this
  have h0 : (0 : Int) ≤ 2 ^ i := Int.le_of_lt (Int.pow_pos (by omega))
  rw [wraps_u32 _ h0 h]
  exact (Int.natCast_pow 2 i).symm
theorem not_bit (b i : Nat) (hb : b < 2 ^ 32) (hi : i < 32) : (2 ^ 32 - 1 - b).testBit i = !b.testBit i := by
  have h := BitVec.getLsbD_not (x := BitVec.ofNat 32 b) (i := i)
  rw [← BitVec.testBit_toNat, ← BitVec.testBit_toNat, BitVec.toNat_not, BitVec.toNat_ofNat, Nat.mod_eq_of_lt hb] at h
  rw [h]
  simp [hi]
theorem getD_lt {l : List Nat} {B : Nat} (hB : 0 < B) (h : ∀ x ∈ l, x < B) (i : Nat) : l.getD i 0 < B := by
  by_cases hi : i < l.length
  · rw [List.getD_eq_getElem?_getD, List.getElem?_eq_getElem hi]
    exact h _ (List.getElem_mem hi)
  · rw [List.getD_eq_getElem?_getD, List.getElem?_eq_none (by omega)]
    exact hB
end Go.Proofs.Ytoiiabnnddlcbaa.Q
end
section
namespace Go.Proofs.Ytoiiabnnddlcbaa.Q
open Go.RowKit Go.Proofs.YtoiiabnnddlcbaaW.PrintWords Go.Proofs.YtoiiabnnddlcbaaW.PrintLast Go.Proofs.YtoiiabnnddlcbaaW.PrintMore Go.Proofs.Ytoiiabnnddlcbaa.La Go.Proofs.Ytoiiabnnddlcbaa.Mp Go.Proofs.Ytoiiabnnddlcbaa.PB
set_option linter.unusedVariables false
set_option linter.unusedSimpArgs false
def accN (p : Nat → Bool) : Nat → Nat
  | 0 => 0
  | i + 1 => if p i then accN p i ||| 2 ^ i else accN p i
theorem accN_lt (p : Nat → Bool) : ∀ i, accN p i < 2 ^ i
  | 0 => by simp [accN]
  | i + 1 => by
    have h := accN_lt p i
    have h2 : 2 ^ i < 2 ^ (i + 1) := Nat.pow_lt_pow_right (by decide) (by omega)
    rw [accN]
    split
    · exact Nat.or_lt_two_pow (by omega) h2
    · omega
theorem getD_end (l : List Nat) (x j : Nat) (h : l.length = j) : (l ++ [x]).getD j 0 = x := by subst h; simp [List.getD_eq_getElem?_getD]
theorem accN_bit (p : Nat → Bool) (q : Nat) : ∀ i, q < i → (accN p i).testBit q = p q
  | 0, h => by omega
  | i + 1, h => by
    rw [accN]
    by_cases hq : q = i
    · subst hq
      have hl : (accN p q).testBit q = false := Nat.testBit_lt_two_pow (accN_lt p q)
      cases hp : p q with
      | true => rw [if_pos rfl, Nat.testBit_or, hl]; simp
      | false => rw [if_neg Bool.false_ne_true, hl]
    · have ih := accN_bit p q i (by omega)
      cases hp : p i with
      | true => rw [if_pos rfl, Nat.testBit_or, ih, Nat.testBit_two_pow_of_ne (Ne.symm hq)]; simp
      | false => rw [if_neg Bool.false_ne_true, ih]
theorem accN_congr {p q : Nat → Bool} : ∀ n, (∀ i, i < n → p i = q i) → accN p n = accN q n
  | 0, _ => rfl
  | n + 1, h => by rw [accN, accN, accN_congr n (fun i hi => h i (by omega)), h n (by omega)]
theorem accN_step (p : Nat → Bool) (i : Nat) (hi : i < 20) : Go.bits .or .u32 ((accN p i : Nat) : Int) (shl .u32 1 (i : Int)) = ((accN p i ||| 2 ^ i : Nat) : Int) := by
  have h := accN_lt p i
  have h2 : 2 ^ i < 2 ^ 32 := Nat.pow_lt_pow_right (by decide) (by omega)
  rw [shl_one i (by omega), u32_or _ _ (by omega) h2]
theorem Own_i (S : List S34) (hS : S.length ≤ 20) (m : Int) (B : List Int) (hB : B.length ≤ 1000) (F : List S34) (i : Int) (s0 s1 : Int) (W : LA 10) (M : MP) (i1 : Int) (hi1 : wrap64 (i + 1) = i1) : ∀ n j : Nat, j + n = S.length → ∀ r,
    Ev (fun k => impl_Room_calls.l0 k S m (B ++ [((accN (fun q => mhas M (S.getD q z34).f0 (S.getD q z34).f1 && decide (mval M (S.getD q z34).f0 (S.getD q z34).f1 ≤ m)) S.length : Nat) : Int)]) F (F.length : Int) i1 s0 s1 W) r →
    Ev (fun k => impl_Room_calls.l1 k S m B ((accN (fun q => mhas M (S.getD q z34).f0 (S.getD q z34).f1 && decide (mval M (S.getD q z34).f0 (S.getD q z34).f1 ≤ m)) j : Nat) : Int) F (F.length : Int) i S (S.length : Int) (j : Int) s0 s1 W M) r := by
  intro n
  induction n with
  | zero =>
    intro j hj r hr
    obtain rfl : j = S.length := by omega
    refine Ev.succ ?_
    simp only [impl_Room_calls.l1]
    rw [hi1]
    exact Ev.neg (by omega) (Ev.pos (by omega) hr)
  | succ n ih =>
    intro j hj r hr
    have e := ih (j + 1) (by omega) r hr
    refine Ev.succ ?_
    simp only [impl_Room_calls.l1]
    rw [rdS_get, wnat j 20 (by omega) (by omega), accN_step _ j (by omega)]
    refine Ev.pos (by omega) (Ev.pos (by omega) (Ev.pos (by omega) ?_))
    rw [accN] at e
    by_cases h1 : mhas M (S.getD j z34).f0 (S.getD j z34).f1 = true
    · by_cases h2 : mval M (S.getD j z34).f0 (S.getD j z34).f1 ≤ m
      · simp only [h1, h2, decide_true, Bool.and_self, if_true] at e
        exact Ev.pos h1 (Ev.pos h2 e)
      · simp only [h1, h2, decide_false, Bool.and_false, Bool.false_eq_true, if_false] at e
        exact Ev.pos h1 (Ev.neg h2 e)
    · have h1' : mhas M (S.getD j z34).f0 (S.getD j z34).f1 = false := by simpa using h1
      simp only [h1', Bool.false_and, Bool.false_eq_true, if_false] at e
      exact Ev.neg h1 e
theorem Own_s (S : List S34) (hS : S.length ≤ 20) (hc : ∀ q ∈ S, (0 ≤ q.f0 ∧ q.f0 < 10) ∧ (0 ≤ q.f1 ∧ q.f1 < 10)) (m : Int) (B : List Int) (hB : B.length ≤ 1000) (F : List S34) (i : Int) (s0 s1 : Int) (W : LA 10) (A : LA 100) (i1 : Int) (hi1 : wrap64 (i + 1) = i1) : ∀ n j : Nat, j + n = S.length → ∀ r,
    Ev (fun k => spec_l06Heard.l0 k S m F (B ++ [((accN (fun q => inC (rd A.l ((S.getD q z34).f1 * 10 + (S.getD q z34).f0)) 0 m) S.length : Nat) : Int)]) i1 s0 s1 W) r →
    Ev (fun k => spec_l06Heard.l1 k S m F B i ((accN (fun q => inC (rd A.l ((S.getD q z34).f1 * 10 + (S.getD q z34).f0)) 0 m) j : Nat) : Int) (j : Int) s0 s1 W A) r := by
  intro n
  induction n with
  | zero =>
    intro j hj r hr
    obtain rfl : j = S.length := by omega
    refine Ev.succ ?_
    simp only [spec_l06Heard.l1]
    rw [hi1]
    exact Ev.neg (by omega) (Ev.pos (by omega) hr)
  | succ n ih =>
    intro j hj r hr
    have e := ih (j + 1) (by omega) r hr
    obtain ⟨cx, cy⟩ := hc _ (getD_mem S j z34 (by omega))
    refine Ev.succ ?_
    simp only [spec_l06Heard.l1]
    rw [rdS_get, wnat j 20 (by omega) (by omega), In_c, u64_int (by omega) (by omega), accN_step _ j (by omega)]
    simp only [Option.bind_some]
    refine Ev.pos (by omega) (Ev.pos (by omega) (Ev.pos cy.1 (Ev.pos cy.2 (Ev.pos cx.1 (Ev.pos cx.2 ?_)))))
    rw [accN] at e
    cases h1 : inC (rd A.l ((S.getD j z34).f1 * 10 + (S.getD j z34).f0)) 0 m with
    | true =>
      simp only [h1, if_true] at e
      exact Ev.pos rfl (Ev.pos (by omega) e)
    | false =>
      simp only [h1, Bool.false_eq_true, if_false] at e
      exact Ev.neg Bool.false_ne_true e
theorem Calls_both (s0 s1 : Int) (W : LA 10) (hb : ∀ i, 0 ≤ rd W.l i ∧ rd W.l i < 65536) (h0 : 1 ≤ s0 ∧ s0 ≤ 10) (h1 : 1 ≤ s1 ∧ s1 ≤ 10) (S : List S34) (hS : S.length ≤ 20) (hf : ∀ q ∈ S, frC s0 s1 W q.f0 q.f1 = true) (m : Int) :
    ∃ B : List Nat, B.length = (freeL s0 s1 W).length ∧ (∀ x ∈ B, x < 2 ^ S.length) ∧ (0 ≤ m → ∀ j q : Nat, j < B.length → q < S.length → S.getD q z34 = (freeL s0 s1 W).getD j z34 → (B.getD j 0).testBit q = true) ∧ Ev (fun k => spec_l06Heard.f k s0 s1 W S m) (B.map fun (x : Nat) => (x : Int)) ∧ Ev (fun k => impl_Room_calls.f k s0 s1 W S m) (B.map fun (x : Nat) => (x : Int)) := by
  have hl := freeL_len (W := W) h0 h1
  have hm := freeL_mem (W := W) h0 h1
  have hc : ∀ q ∈ S, (0 ≤ q.f0 ∧ q.f0 < 10) ∧ (0 ≤ q.f1 ∧ q.f1 < 10) := fun q hq => frC_cell h0.2 h1.2 (hf q hq)
  have hfree : ∀ q ∈ freeL s0 s1 W, frC s0 s1 W q.f0 q.f1 = true := freeL_free h0 h1
  have key : ∀ n i : Nat, i + n = (freeL s0 s1 W).length → ∀ B : List Nat, B.length = i → (∀ x ∈ B, x < 2 ^ S.length) → (0 ≤ m → ∀ j q : Nat, j < i → q < S.length → S.getD q z34 = (freeL s0 s1 W).getD j z34 → (B.getD j 0).testBit q = true) → ∃ B2 : List Nat, B2.length = (freeL s0 s1 W).length ∧ (∀ x ∈ B2, x < 2 ^ S.length) ∧ (0 ≤ m → ∀ j q : Nat, j < B2.length → q < S.length → S.getD q z34 = (freeL s0 s1 W).getD j z34 → (B2.getD j 0).testBit q = true) ∧
      Ev (fun k => spec_l06Heard.l0 k S m (freeL s0 s1 W) (B.map fun (x : Nat) => (x : Int)) (i : Int) s0 s1 W) (B2.map fun (x : Nat) => (x : Int)) ∧ Ev (fun k => impl_Room_calls.l0 k S m (B.map fun (x : Nat) => (x : Int)) (freeL s0 s1 W) ((freeL s0 s1 W).length : Int) (i : Int) s0 s1 W) (B2.map fun (x : Nat) => (x : Int)) := by
    intro n
    induction n with
    | zero =>
      intro i hi B hB hBl hBo
      refine ⟨B, by omega, hBl, fun h0 j q hj => hBo h0 j q (by omega), ?_, ?_⟩
      · refine Ev.succ ?_
        simp only [spec_l06Heard.l0]
        exact Ev.neg (by omega) (Ev.now _)
      · refine Ev.succ ?_
        simp only [impl_Room_calls.l0]
        exact Ev.neg (by omega) (Ev.now _)
    | succ n ih =>
      intro i hi B hB hBl hBo
      have hil : i < (freeL s0 s1 W).length := by omega
      obtain ⟨L, M, A, hSt, e1, e2⟩ := Steps_both s0 s1 W hb h0 h1 _ _ (hfree _ (getD_mem _ i z34 hil))
      have heq : accN (fun q => inC (rd A.l ((S.getD q z34).f1 * 10 + (S.getD q z34).f0)) 0 m) S.length = accN (fun q => mhas M (S.getD q z34).f0 (S.getD q z34).f1 && decide (mval M (S.getD q z34).f0 (S.getD q z34).f1 ≤ m)) S.length := by
        refine accN_congr _ (fun q hq => ?_)
        obtain ⟨cx, cy⟩ := hc _ (getD_mem S q z34 hq)
        have ha := hSt.arr _ _ cx cy
        rw [ha]
        cases hmm : mhas M (S.getD q z34).f0 (S.getD q z34).f1 with
        | true =>
          have hv := hSt.val _ _ hmm
          rw [if_pos rfl]
          unfold inC
          simp
          intro _
          exact hv.1
        | false =>
          rw [if_neg Bool.false_ne_true]
          unfold inC
          simp
      obtain ⟨B2, hl2, hx2, ho2, q1, q2⟩ := ih (i + 1) (by omega) (B ++ [accN (fun q => mhas M (S.getD q z34).f0 (S.getD q z34).f1 && decide (mval M (S.getD q z34).f0 (S.getD q z34).f1 ≤ m)) S.length]) (by simp [hB]) (fun x hx => by
        rcases List.mem_append.1 hx with hx | hx
        · exact hBl x hx
        · obtain rfl := List.mem_singleton.1 hx
          exact accN_lt _ _) (fun hm0 j q hj hq he => by
        by_cases hji : j < i
        · rw [getD_app _ _ _ _ (by omega)]
          exact hBo hm0 j q hji hq he
        · obtain rfl : j = i := by omega
          rw [getD_end _ _ _ hB, accN_bit _ _ _ hq, he]
          obtain ⟨a1, a2⟩ := hSt.one
          simp only [] at a1 a2
          rw [a1, a2]
          simpa using hm0)
      rw [List.map_append, List.map_cons, List.map_nil] at q1 q2
      refine ⟨B2, hl2, hx2, ho2, ?_, ?_⟩
      · refine Ev.succ ?_
        simp only [spec_l06Heard.l0]
        rw [rdS_get]
        refine Ev.pos (by omega) (Ev.pos (by omega) (Ev.bind e2 ?_))
        rw [← heq] at q1
        exact Own_s S hS hc m _ (by simp; omega) _ _ s0 s1 W A _ (wnat i 1000 (by omega) (by omega)) S.length 0 (Nat.zero_add _) _ q1
      · refine Ev.succ ?_
        simp only [impl_Room_calls.l0]
        rw [rdS_get]
        refine Ev.pos (by omega) (Ev.pos (by omega) (Ev.pos (by omega) (Ev.bind e1 ?_)))
        exact Own_i S hS m _ (by simp; omega) _ _ s0 s1 W M _ (wnat i 1000 (by omega) (by omega)) S.length 0 (Nat.zero_add _) _ q2
  obtain ⟨B, hB, hx, ho, q1, q2⟩ := key _ 0 (Nat.zero_add _) [] rfl (by simp) (by omega)
  refine ⟨B, hB, hx, ho, ?_, ?_⟩
  · unfold spec_l06Heard.f
    exact Ev.bind (All_s s0 s1 W hb s0.toNat s1.toNat (by omega) (by omega) (by omega) (by omega)) q1
  · unfold impl_Room_calls.f
    exact Ev.bind (All_i s0 s1 W hb s0.toNat s1.toNat (by omega) (by omega) (by omega) (by omega)) q2
theorem rd_cast (l : List Nat) (i : Nat) : rd (l.map fun (x : Nat) => (x : Int)) (i : Int) = ((l.getD i 0 : Nat) : Int) := by
  rw [rd_nat, List.getD_eq_getElem?_getD, List.getElem?_map, List.getD_eq_getElem?_getD]
  cases l[i]? <;> rfl
theorem firstNZ4 (a b c d : Int) : firstNZ [a, b, c, d] = if firstNZ [a, b, c] = 0 then d else firstNZ [a, b, c] := by
  by_cases ha : a = 0 <;> by_cases hb : b = 0 <;> by_cases hc : c = 0 <;> by_cases hd : d = 0 <;> simp [firstNZ, ha, hb, hc, hd]
theorem CallCode_both (s0 s1 : Int) (W : LA 10) (hr : RB s0 s1 W) (l : List S34) (hl : l.length ≤ 1073741824) (hs : ∀ q ∈ l, SB q) (m : Int) :
    ∃ c : Int, Ev (fun k => spec_l06Calling.f k s0 s1 W l m) c ∧ Ev (fun k => impl_callCode.f k s0 s1 W l m) c ∧ (c = 0 → allFree s0 s1 W l = true ∧ ((1 ≤ s0 ∧ s0 ≤ 10) ∧ (1 ≤ s1 ∧ s1 ≤ 10)) ∧ l.length ≤ 20 ∧ 0 ≤ m) := by
  obtain ⟨ok, o1, o2, o3, c1, c3, e1, e3, hh⟩ := CodeMany_ev s0 s1 W hr l hl hs
  obtain ⟨es, hz⟩ := hh (inC m 0 20)
  have hf := FirstOf_ev [c1, if inC m 0 20 then 0 else 2, c3, if decide ((l.length : Int) ≤ 20) then 0 else 3] (by simp)
  have hll : spec_l06Loud.f m = some (inC m 0 20) := by unfold spec_l06Loud.f; rw [In_c]; rfl
  have e4 := firstNZ4 c1 (if inC m 0 20 then 0 else 2) c3 (if decide ((l.length : Int) ≤ 20) then 0 else 3)
  by_cases c : firstNZ [c1, if inC m 0 20 then 0 else 2, c3] = 0
  · rw [if_pos c] at e4
    rw [e4] at hf
    refine ⟨if decide ((l.length : Int) ≤ 20) then 0 else 3, ?_, ?_, ?_⟩
    rotate_left
    · unfold impl_callCode.f
      exact Ev.bind e1 (Ev.bind (Ev.const (Within_c m 0 20)) (Ev.bind (Ev.const (Unless_c _ 2)) (Ev.bind e3 (Ev.bind (Ev.const (Unless_c _ 3)) (Ev.bind hf (Ev.now _))))))
    · intro h
      obtain ⟨a, b, d⟩ := hz c
      have h0m : 0 ≤ m := by unfold inC at d; simp at d; exact d.1
      refine ⟨a, o3 b, ?_⟩
      by_cases h20 : (l.length : Int) ≤ 20
      · omega
      · rw [decide_eq_false h20] at h
        simp at h
    · unfold spec_l06Calling.f
      refine Ev.bind (Ev.const hll) (Ev.bind es (Ev.pos c ?_))
      by_cases c4 : (l.length : Int) > 20
      · refine Ev.pos c4 (Ev.eq (Ev.now 3) ?_)
        rw [decide_eq_false (by omega)]
        rfl
      · refine Ev.neg c4 (Ev.eq (Ev.now _) ?_)
        rw [decide_eq_true (by omega), c]
        rfl
  · rw [if_neg c] at e4
    rw [e4] at hf
    refine ⟨firstNZ [c1, if inC m 0 20 then 0 else 2, c3], ?_, ?_, fun h => absurd h c⟩
    · unfold spec_l06Calling.f
      exact Ev.bind (Ev.const hll) (Ev.bind es (Ev.neg c (Ev.now _)))
    · unfold impl_callCode.f
      exact Ev.bind e1 (Ev.bind (Ev.const (Within_c m 0 20)) (Ev.bind (Ev.const (Unless_c _ 2)) (Ev.bind e3 (Ev.bind (Ev.const (Unless_c _ 3)) (Ev.bind hf (Ev.now _))))))
end Go.Proofs.Ytoiiabnnddlcbaa.Q
end
section
namespace Go.Proofs.Ytoiiabnnddlcbaa.Q
open Go.RowKit Go.Proofs.YtoiiabnnddlcbaaW.PrintWords Go.Proofs.YtoiiabnnddlcbaaW.PrintLast Go.Proofs.YtoiiabnnddlcbaaW.PrintMore Go.Proofs.Ytoiiabnnddlcbaa.La Go.Proofs.Ytoiiabnnddlcbaa.Mp Go.Proofs.Ytoiiabnnddlcbaa.PB
set_option linter.unusedVariables false
set_option linter.unusedSimpArgs false
theorem all_bits (n : Nat) (hn : n ≤ 20) : ((shl .u32 1 (n : Int)) - 1) % 4294967296 = ((2 ^ n - 1 : Nat) : Int) := by
  have h : 2 ^ n ≤ 2 ^ 20 := Nat.pow_le_pow_right (by decide) hn
  have h2 : 0 < 2 ^ n := Nat.two_pow_pos n
  rw [shl_one n (by omega)]
  omega
def pcR (v : Nat) : Nat → Nat
  | 0 => 0
  | i + 1 => pcR v i + v / 2 ^ i % 2
theorem pcR_le (v : Nat) : ∀ i, pcR v i ≤ i
  | 0 => Nat.le_refl _
  | i + 1 => by have := pcR_le v i; rw [pcR]; omega
theorem pcR_pos (v q : Nat) (h : v.testBit q = true) : ∀ i, q < i → 1 ≤ pcR v i
  | 0, hi => by omega
  | i + 1, hi => by
    rw [pcR]
    by_cases c : q = i
    · subst c
      have : v / 2 ^ q % 2 = 1 := by
        rw [Nat.testBit_eq_decide_div_mod_eq] at h
        simpa using h
      omega
    · have := pcR_pos v q h i (by omega)
      omega
theorem pcR_zero : ∀ i, pcR 0 i = 0
  | 0 => rfl
  | i + 1 => by rw [pcR, pcR_zero i, Nat.zero_div]
theorem pcR_mod (v n : Nat) : ∀ i, i ≤ n → pcR (v % 2 ^ n) i = pcR v i
  | 0, _ => rfl
  | i + 1, h => by
    rw [pcR, pcR, pcR_mod v n i (by omega)]
    have h1 : (v % 2 ^ n).testBit i = v.testBit i := by rw [Nat.testBit_mod_two_pow, decide_eq_true (by omega : i < n)]; rfl
    rw [Nat.testBit_eq_decide_div_mod_eq, Nat.testBit_eq_decide_div_mod_eq, decide_eq_decide] at h1
    have a := Nat.mod_lt (v % 2 ^ n / 2 ^ i) (by decide : 2 > 0)
    have b := Nat.mod_lt (v / 2 ^ i) (by decide : 2 > 0)
    omega
theorem pcR_add (v a : Nat) : ∀ i, pcR v (a + i) = pcR v a + pcR (v / 2 ^ a) i
  | 0 => rfl
  | i + 1 => by
    rw [← Nat.add_assoc, pcR, pcR, pcR_add v a i, Nat.div_div_eq_div_mul, ← Nat.pow_add]
    omega
theorem pcR_bytes (v : Nat) (hv : v < 2 ^ 20) : pcR v 20 = pcR (v / 65536 % 256) 8 + pcR (v / 256 % 256) 8 + pcR (v % 256) 8 := by
  have e1 := pcR_add v 8 12
  have e2 := pcR_add (v / 2 ^ 8) 8 4
  have e3 := pcR_mod v 8 8 (Nat.le_refl _)
  have e4 := pcR_mod (v / 2 ^ 8) 8 8 (Nat.le_refl _)
  have e5 := pcR_add (v / 65536 % 256) 4 4
  have e6 : v / 65536 % 256 / 2 ^ 4 = 0 := by omega
  have e7 : v / 2 ^ 8 / 2 ^ 8 = v / 65536 % 256 := by omega
  rw [e6, pcR_zero] at e5
  rw [e7] at e2
  simp only [Nat.reduceAdd, Nat.reducePow] at e1 e2 e3 e4 e5
  omega
theorem shr32_div {v : Int} {x : Nat} (hx : x < 20) : shr .u32 v (x : Int) = v / 2 ^ x := by
  unfold shr
  rw [Int.toNat_natCast, Nat.min_eq_left (show x ≤ IntKind.u32.bits by unfold IntKind.bits; dsimp only; omega)]
theorem u32_and (a b : Nat) (ha : a < 2 ^ 32) (hb : b < 2 ^ 32) : Go.bits .and .u32 (a : Int) (b : Int) = ((a &&& b : Nat) : Int) := (bits_nat .u32 32 (by decide) wraps_u32 a b ha hb).1
theorem Count_s (v : Nat) (hv : v < 2 ^ 32) : Ev (fun k => spec_l06Count.f k (v : Int)) ((pcR v 20 : Nat) : Int) := by
  have key : ∀ n j : Nat, j + n = 20 → Ev (fun k => spec_l06Count.l0 k (v : Int) ((pcR v j : Nat) : Int) (j : Int)) ((pcR v 20 : Nat) : Int) := by
    intro n
    induction n with
    | zero =>
      intro j hj
      obtain rfl : j = 20 := by omega
      refine Ev.succ ?_
      simp only [spec_l06Count.l0]
      exact Ev.neg (by omega) (Ev.now _)
    | succ n ih =>
      intro j hj
      have e := ih (j + 1) (by omega)
      have hd : v / 2 ^ j < 2 ^ 32 := Nat.lt_of_le_of_lt (Nat.div_le_self _ _) hv
      have hq : shr .u32 (v : Int) (j : Int) = ((v / 2 ^ j : Nat) : Int) := by
        rw [shr32_div (by omega), Int.natCast_ediv, Int.natCast_pow]
        rfl
      have ha : Go.bits .and .u32 ((v / 2 ^ j : Nat) : Int) 1 = ((v / 2 ^ j % 2 : Nat) : Int) := by
        have := u32_and (v / 2 ^ j) 1 hd (by decide)
        rw [Nat.and_one_is_mod] at this
        exact this
      have hle := pcR_le v j
      have hm : v / 2 ^ j % 2 < 2 := Nat.mod_lt _ (by decide)
      have w1 : wrap64 ((v / 2 ^ j % 2 : Nat) : Int) = ((v / 2 ^ j % 2 : Nat) : Int) := by generalize v / 2 ^ j % 2 = z at hm; unfold wrap64; omega
      have w2 : wrap64 (((pcR v j : Nat) : Int) + ((v / 2 ^ j % 2 : Nat) : Int)) = ((pcR v (j + 1) : Nat) : Int) := by
        rw [pcR]
        generalize v / 2 ^ j % 2 = z at hm
        generalize pcR v j = y at hle
        unfold wrap64; omega
      refine Ev.succ ?_
      simp only [spec_l06Count.l0]
      rw [u64_int (show (0 : Int) ≤ (j : Int) by omega) (by omega), hq, ha, w1, w2, wnat j 100 (by omega) (by omega)]
      exact Ev.pos (by omega) (Ev.pos (by omega) e)
  unfold spec_l06Count.f
  exact key 20 0 rfl
theorem Ones_i (v : Nat) (hv : v < 2 ^ 20) : bits_OnesCount32.f (v : Int) = some ((pcR v 20 : Nat) : Int) := by
  have hand : ∀ x : Nat, x < 2 ^ 32 → Go.bits .and .u32 (x : Int) 255 = ((x % 256 : Nat) : Int) := fun x hx => by
    have := u32_and x 255 hx (by decide)
    rw [Nat.and_two_pow_sub_one_eq_mod x 8] at this
    exact this
  unfold bits_OnesCount32.f
  rw [show (v : Int) / 16777216 = ((v / 16777216 : Nat) : Int) by omega, show (v : Int) / 65536 = ((v / 65536 : Nat) : Int) by omega, show (v : Int) / 256 = ((v / 256 : Nat) : Int) by omega,
    hand _ (by omega), hand _ (by omega), hand _ (by omega)]
  have h24 : v / 16777216 = 0 := by omega
  have m1 : v / 65536 % 256 < 256 := Nat.mod_lt _ (by decide)
  have m2 : v / 256 % 256 < 256 := Nat.mod_lt _ (by decide)
  have m3 : v % 256 < 256 := Nat.mod_lt _ (by decide)
  rw [h24, if_pos (by omega), if_pos (by omega), if_pos (by omega), if_pos (by omega), if_pos (by omega), if_pos (by omega), if_pos (by omega), if_pos (by omega)]
  generalize ht : (ByteArray.mk _) = tab
  have T : ∀ x : Nat, x < 256 → bt tab (x : Int) = ((pcR x 8 : Nat) : Int) := by
    rw [← ht]
    decide +kernel
  rw [T 0 (by decide), T _ m1, T _ m2, T _ m3, pcR_zero]
  have l1 := pcR_le (v / 65536 % 256) 8
  have l2 := pcR_le (v / 256 % 256) 8
  have l3 := pcR_le (v % 256) 8
  have hs := pcR_bytes v hv
  rw [hs]
  congr 1
  omega
def gB (c : Nat → Nat) : Nat → Nat → Nat → Nat
  | 0, _, b => b
  | n + 1, j, b => gB c n (j + 1) (if c j > c b then j else b)
theorem gB_lt (c : Nat → Nat) (L : Nat) : ∀ n j b, j + n = L → b < L → gB c n j b < L
  | 0, _, b, _, hb => hb
  | n + 1, j, b, h, hb => by
    rw [gB]
    split
    · exact gB_lt c L n (j + 1) j (by omega) (by omega)
    · exact gB_lt c L n (j + 1) b (by omega) hb
theorem gB_own (c : Nat → Nat) : ∀ n j b, c b ≤ c (gB c n j b)
  | 0, _, b => Nat.le_refl _
  | n + 1, j, b => by
    rw [gB]
    split
    · have := gB_own c n (j + 1) j
      omega
    · exact gB_own c n (j + 1) b
theorem gB_ge (c : Nat → Nat) : ∀ n j b i, j ≤ i → i < j + n → c i ≤ c (gB c n j b)
  | 0, j, b, i, h, h2 => by omega
  | n + 1, j, b, i, h, h2 => by
    rw [gB]
    by_cases e : i = j
    · subst e
      split
      · exact gB_own c n (i + 1) i
      · have := gB_own c n (i + 1) b
        omega
    · exact gB_ge c n (j + 1) _ i (by omega) (by omega)
theorem Pick_s (B : List Nat) (hBl : B.length ≤ 100) (hx : ∀ x ∈ B, x < 2 ^ 20) (F acc : List S34) (hF : F.length = B.length) (ha : acc.length < 70368744177664) (v : Nat) (hv : v < 2 ^ 20) (r : List S34 × Int) : ∀ n j b : Nat, j + n = B.length → b < B.length →
    Ev (fun k => spec_GreedyCalls.l0 k (acc ++ [F.getD (gB (fun i => pcR (B.getD i 0 &&& v) 20) n j b) z34]) (B.map fun (x : Nat) => (x : Int)) F (Go.bits .andNot .u32 (v : Int) ((B.getD (gB (fun i => pcR (B.getD i 0 &&& v) 20) n j b) 0 : Nat) : Int))) r →
    Ev (fun k => spec_GreedyCalls.l1 k acc (B.map fun (x : Nat) => (x : Int)) F (v : Int) (b : Int) (j : Int)) r := by
  have hg : ∀ i, B.getD i 0 < 2 ^ 20 := getD_lt (by decide) hx
  have hc : ∀ i, B.getD i 0 &&& v < 2 ^ 32 := fun i => by have := @Nat.and_le_right (B.getD i 0) v; omega
  have ho : ∀ i : Nat, Ev (fun k => spec_l06Count.f k (Go.bits .and .u32 (rd (B.map fun (x : Nat) => (x : Int)) (i : Int)) (v : Int))) ((pcR (B.getD i 0 &&& v) 20 : Nat) : Int) := fun i => by
    rw [rd_cast, u32_and _ _ (by have := hg i; omega) (by omega)]
    exact Count_s _ (hc i)
  intro n
  induction n with
  | zero =>
    intro j b hj hb h
    refine Ev.succ ?_
    simp only [spec_GreedyCalls.l1]
    rw [gB] at h
    rw [rd_cast B b, rdS_get]
    refine Ev.neg (by rw [List.length_map]; omega) (Ev.pos (by omega) (Ev.pos (by omega) (Ev.pos (by omega) (Ev.pos (by rw [List.length_map]; omega) h))))
  | succ n ih =>
    intro j b hj hb h
    rw [gB] at h
    have w := wnat j 100 (by omega) (by omega)
    refine Ev.succ ?_
    simp only [spec_GreedyCalls.l1]
    rw [w]
    refine Ev.pos (by rw [List.length_map]; omega) (Ev.pos (by omega) (Ev.bind (ho j) (Ev.pos (by omega) (Ev.pos (by rw [List.length_map]; omega) (Ev.bind (ho b) ?_)))))
    by_cases c : pcR (B.getD j 0 &&& v) 20 > pcR (B.getD b 0 &&& v) 20
    · rw [if_pos c] at h
      exact Ev.pos (by omega) (ih (j + 1) j (by omega) (by omega) h)
    · rw [if_neg c] at h
      exact Ev.neg (by omega) (ih (j + 1) b (by omega) hb h)
theorem Pick_i (B : List Nat) (hBl : B.length ≤ 100) (hx : ∀ x ∈ B, x < 2 ^ 20) (F acc : List S34) (hF : F.length = B.length) (ha : acc.length < 70368744177664) (v : Nat) (hv : v < 2 ^ 20) (r : List S34 × Int) : ∀ n j b : Nat, j + n = B.length → b < B.length →
    Ev (fun k => impl_GreedyCalls.l0 k (B.map fun (x : Nat) => (x : Int)) F (acc ++ [F.getD (gB (fun i => pcR (B.getD i 0 &&& v) 20) n j b) z34]) (Go.bits .andNot .u32 (v : Int) ((B.getD (gB (fun i => pcR (B.getD i 0 &&& v) 20) n j b) 0 : Nat) : Int))) r →
    Ev (fun k => impl_GreedyCalls.l1 k (B.map fun (x : Nat) => (x : Int)) F acc (v : Int) (b : Int) (B.length : Int) (j : Int)) r := by
  have hg : ∀ i, B.getD i 0 < 2 ^ 20 := getD_lt (by decide) hx
  have hc : ∀ i, B.getD i 0 &&& v < 2 ^ 20 := fun i => by have := @Nat.and_le_right (B.getD i 0) v; omega
  have ho : ∀ i : Nat, bits_OnesCount32.f (Go.bits .and .u32 (rd (B.map fun (x : Nat) => (x : Int)) (i : Int)) (v : Int)) = some ((pcR (B.getD i 0 &&& v) 20 : Nat) : Int) := fun i => by
    rw [rd_cast, u32_and _ _ (by have := hg i; omega) (by omega)]
    exact Ones_i _ (hc i)
  intro n
  induction n with
  | zero =>
    intro j b hj hb h
    refine Ev.succ ?_
    simp only [impl_GreedyCalls.l1]
    rw [gB] at h
    rw [rd_cast B b, rdS_get]
    refine Ev.neg (by omega) (Ev.pos (by omega) (Ev.pos (by omega) (Ev.pos (by omega) (Ev.pos (by rw [List.length_map]; omega) h))))
  | succ n ih =>
    intro j b hj hb h
    rw [gB] at h
    have w := wnat j 100 (by omega) (by omega)
    refine Ev.succ ?_
    simp only [impl_GreedyCalls.l1]
    rw [w]
    refine Ev.pos (by omega) (Ev.pos (by omega) (Ev.pos (by rw [List.length_map]; omega) (Ev.bind (Ev.const (ho j)) (Ev.pos (by omega) (Ev.pos (by rw [List.length_map]; omega) (Ev.bind (Ev.const (ho b)) ?_))))))
    by_cases c : pcR (B.getD j 0 &&& v) 20 > pcR (B.getD b 0 &&& v) 20
    · rw [if_pos c] at h
      exact Ev.pos (by omega) (ih (j + 1) j (by omega) (by omega) h)
    · rw [if_neg c] at h
      exact Ev.neg (by omega) (ih (j + 1) b (by omega) hb h)
theorem andNot_less (v b : Nat) (hv : v < 2 ^ 32) (hb : b < 2 ^ 32) (q : Nat) (h1 : v.testBit q = true) (h2 : b.testBit q = true) : v &&& (2 ^ 32 - 1 - b) < v := by
  have hle : v &&& (2 ^ 32 - 1 - b) ≤ v := Nat.and_le_left
  have hne : v &&& (2 ^ 32 - 1 - b) ≠ v := fun h => by
    have hq : q < 32 := by
      by_cases c : q < 32
      · exact c
      · have : v.testBit q = false := Nat.testBit_lt_two_pow (Nat.lt_of_lt_of_le hv (Nat.pow_le_pow_right (by decide) (by omega)))
        rw [this] at h1
        exact absurd h1 Bool.false_ne_true
    have e : (v &&& (2 ^ 32 - 1 - b)).testBit q = v.testBit q := by rw [h]
    rw [Nat.testBit_and, not_bit b q hb hq, h1, h2] at e
    exact absurd e (by decide)
  omega
theorem some_bit (v : Nat) (h : v ≠ 0) : ∃ q, v.testBit q = true := by
  refine Classical.byContradiction fun c => h ?_
  apply Nat.eq_of_testBit_eq
  intro i
  rw [Nat.zero_testBit]
  cases e : v.testBit i with
  | false => rfl
  | true => exact absurd ⟨i, e⟩ c
theorem pcR_some (v : Nat) (i : Nat) (h : 1 ≤ pcR v i) : ∃ q, v.testBit q = true := some_bit v (fun e => by rw [e, pcR_zero] at h; omega)
theorem Greedy_loop (B : List Nat) (hBl : B.length ≤ 100) (n : Nat) (hn : n ≤ 20) (hx : ∀ x ∈ B, x < 2 ^ n) (F : List S34) (hF : F.length = B.length) (hon : ∀ q, q < n → ∃ j, j < B.length ∧ (B.getD j 0).testBit q = true) :
    ∀ (d v : Nat) (acc : List S34), v ≤ d → v < 2 ^ n → acc.length + v ≤ 1048576 → ∃ r : List S34 × Int, r.1.length ≤ 1048576 ∧
      Ev (fun k => spec_GreedyCalls.l0 k acc (B.map fun (x : Nat) => (x : Int)) F (v : Int)) r ∧ Ev (fun k => impl_GreedyCalls.l0 k (B.map fun (x : Nat) => (x : Int)) F acc (v : Int)) r := by
  have hp20 : 2 ^ n ≤ 2 ^ 20 := Nat.pow_le_pow_right (by decide) hn
  have hx20 : ∀ x ∈ B, x < 2 ^ 20 := fun x h => Nat.lt_of_lt_of_le (hx x h) hp20
  intro d
  induction d with
  | zero =>
    intro v acc hd hv hl
    obtain rfl : v = 0 := by omega
    refine ⟨(acc, 0), by simpa using hl, ?_, ?_⟩
    · refine Ev.succ ?_
      simp only [spec_GreedyCalls.l0]
      exact Ev.pos rfl (Ev.now _)
    · refine Ev.succ ?_
      simp only [impl_GreedyCalls.l0]
      exact Ev.pos rfl (Ev.now _)
  | succ d ih =>
    intro v acc hd hv hl
    by_cases v0 : v = 0
    · exact ih v acc (by omega) hv hl
    obtain ⟨q, hq⟩ := some_bit v v0
    have hqn : q < n := by
      by_cases c : q < n
      · exact c
      · have : v.testBit q = false := Nat.testBit_lt_two_pow (Nat.lt_of_lt_of_le hv (Nat.pow_le_pow_right (by decide) (by omega)))
        rw [this] at hq
        exact absurd hq Bool.false_ne_true
    obtain ⟨j, hj, hjq⟩ := hon q hqn
    have h0 : (0 : Nat) < B.length := by omega
    have hgl := gB_lt (fun i => pcR (B.getD i 0 &&& v) 20) B.length B.length 0 0 (by omega) h0
    have hge := gB_ge (fun i => pcR (B.getD i 0 &&& v) 20) B.length 0 0 j (by omega) (by omega)
    have hone := pcR_pos (B.getD j 0 &&& v) q (by rw [Nat.testBit_and, hjq, hq]; rfl) 20 (by omega)
    have hs1 : gB (fun i => pcR (B.getD i 0 &&& v) 20) B.length 0 0 = gB (fun i => pcR (B.getD i 0 &&& v) 20) (B.length - 1) 1 0 := by
      obtain ⟨m, hm⟩ : ∃ m, B.length = m + 1 := ⟨B.length - 1, by omega⟩
      rw [hm, gB]
      simp
    generalize hb : gB (fun i => pcR (B.getD i 0 &&& v) 20) B.length 0 0 = b at *
    have hbB : B.getD b 0 < 2 ^ 20 := getD_lt (by decide) hx20 b
    obtain ⟨q2, hq2⟩ := pcR_some (B.getD b 0 &&& v) 20 (by have hge2 : pcR (B.getD j 0 &&& v) 20 ≤ pcR (B.getD b 0 &&& v) 20 := hge; omega)
    rw [Nat.testBit_and, Bool.and_eq_true] at hq2
    have hless := andNot_less v (B.getD b 0) (by omega) (by omega) q2 hq2.2 hq2.1
    obtain ⟨r, hrl, r1, r2⟩ := ih (v &&& (2 ^ 32 - 1 - B.getD b 0)) (acc ++ [F.getD b z34]) (by omega) (by omega) (by rw [List.length_append, List.length_singleton]; omega)
    rw [← u32_andNot v (B.getD b 0) (by omega) (by omega)] at r1 r2
    refine ⟨r, hrl, ?_, ?_⟩
    · refine Ev.succ ?_
      simp only [spec_GreedyCalls.l0]
      refine Ev.neg (by omega) (Pick_s B hBl hx20 F acc hF (by omega) v (by omega) r (B.length - 1) 1 0 (by omega) h0 ?_)
      rw [← hs1]
      exact r1
    · refine Ev.succ ?_
      simp only [impl_GreedyCalls.l0]
      rw [List.length_map]
      refine Ev.neg (by omega) (Pick_i B hBl hx20 F acc hF (by omega) v (by omega) r B.length 0 0 (by omega) h0 ?_)
      rw [hb]
      exact r2
theorem rowL_in (p : Int → Int → Bool) (y : Int) (acc : List S34) : ∀ x (a : Nat), (a < x ∧ p (a : Int) y = true) → (⟨(a : Int), y⟩ : S34) ∈ rowL p y acc x
  | 0, a, h => by omega
  | x + 1, a, h => by
    rw [rowL]
    by_cases e : a = x
    · subst e
      rw [if_pos h.2]
      simp
    · have := rowL_in p y acc x a ⟨by omega, h.2⟩
      split
      · exact List.mem_append_left _ this
      · exact this
theorem rowL_keep (p : Int → Int → Bool) (y : Int) (acc : List S34) (s : S34) (h : s ∈ acc) : ∀ x, s ∈ rowL p y acc x
  | 0 => h
  | x + 1 => by
    have := rowL_keep p y acc s h x
    rw [rowL]
    split
    · exact List.mem_append_left _ this
    · exact this
theorem cellsL_in (p : Int → Int → Bool) (w : Nat) : ∀ h (a b : Nat), a < w → b < h → p (a : Int) (b : Int) = true → (⟨(a : Int), (b : Int)⟩ : S34) ∈ cellsL p w h
  | 0, a, b, _, hb, _ => by omega
  | h + 1, a, b, ha, hb, hp => by
    rw [cellsL]
    by_cases e : b = h
    · subst e
      exact rowL_in p _ _ w a ⟨ha, hp⟩
    · exact rowL_keep p _ _ _ (cellsL_in p w h a b ha (by omega) hp) w
theorem freeL_in {s0 s1 : Int} {W : LA 10} (q : S34) (h : frC s0 s1 W q.f0 q.f1 = true) : q ∈ freeL s0 s1 W := by
  have hc : isC s0 s1 q.f0 q.f1 = true ∧ fr W.l q.f0 q.f1 = true := by unfold frC at h; simpa using h
  have hb := isC_bounds hc.1
  have e0 : ((q.f0.toNat : Nat) : Int) = q.f0 := by omega
  have e1 : ((q.f1.toNat : Nat) : Int) = q.f1 := by omega
  have := cellsL_in (fr W.l) s0.toNat s1.toNat q.f0.toNat q.f1.toNat (by omega) (by omega) (by rw [e0, e1]; exact hc.2)
  rw [e0, e1] at this
  exact this
theorem GreedyCalls_both (s0 s1 : Int) (W : LA 10) (hr : RB s0 s1 W) (l : List S34) (hl : l.length ≤ 1073741824) (hs : ∀ q ∈ l, SB q) (m : Int) :
    ∃ r : List S34 × Int, r.1.length ≤ 1048576 ∧ Ev (fun k => spec_GreedyCalls.f k s0 s1 W l m) r ∧ Ev (fun k => impl_GreedyCalls.f k s0 s1 W l m) r := by
  obtain ⟨c, e1, e2, hc⟩ := CallCode_both s0 s1 W hr l hl hs m
  by_cases h : c = 0
  · obtain ⟨hfree, hb, hll, hm0⟩ := hc h
    have hf : ∀ q ∈ l, frC s0 s1 W q.f0 q.f1 = true := fun q hq => by
      unfold allFree at hfree
      simp at hfree
      exact hfree q hq
    obtain ⟨B, hB, hx, ho, q1, q2⟩ := Calls_both s0 s1 W hr.2.2 hb.1 hb.2 l hll hf m
    have hfl := freeL_len (W := W) hb.1 hb.2
    have hon : ∀ q, q < l.length → ∃ j, j < B.length ∧ (B.getD j 0).testBit q = true := fun q hq => by
      have hin := freeL_in (s0 := s0) (s1 := s1) (W := W) _ (hf _ (getD_mem l q z34 hq))
      obtain ⟨j, hj, hje⟩ := List.mem_iff_getElem.1 hin
      refine ⟨j, by omega, ho hm0 j q (by omega) hq ?_⟩
      rw [List.getD_eq_getElem?_getD (l := freeL s0 s1 W), List.getElem?_eq_getElem hj, Option.getD_some, hje]
    have hp : 2 ^ l.length ≤ 2 ^ 20 := Nat.pow_le_pow_right (by decide) hll
    have hpos : 0 < 2 ^ l.length := Nat.two_pow_pos _
    obtain ⟨r, hrl, p1, p2⟩ := Greedy_loop B (by omega) l.length hll hx (freeL s0 s1 W) hB.symm hon (2 ^ l.length - 1) (2 ^ l.length - 1) [] (Nat.le_refl _) (by omega) (by simp; omega)
    have hu : IntKind.u64.wrap (l.length : Int) = (l.length : Int) := u64_int (by omega) (by omega)
    refine ⟨r, hrl, ?_, ?_⟩
    · unfold spec_GreedyCalls.f
      rw [hu, all_bits l.length hll]
      exact Ev.bind (a := []) (Ev.now _) (Ev.bind e1 (Ev.pos h (Ev.bind q1 (Ev.bind (All_s s0 s1 W hr.2.2 s0.toNat s1.toNat (by omega) (by omega) (by omega) (by omega)) (Ev.pos (by omega) p1)))))
    · unfold impl_GreedyCalls.f
      rw [all_bits l.length hll]
      exact Ev.bind e2 (Ev.pos h (Ev.bind q2 (Ev.bind (All_i s0 s1 W hr.2.2 s0.toNat s1.toNat (by omega) (by omega) (by omega) (by omega)) p2)))
  · refine ⟨([], c), by simp, ?_, ?_⟩
    · unfold spec_GreedyCalls.f
      exact Ev.bind (a := []) (Ev.now _) (Ev.bind e1 (Ev.neg h (Ev.now _)))
    · unfold impl_GreedyCalls.f
      exact Ev.bind e2 (Ev.neg h (Ev.now _))
end Go.Proofs.Ytoiiabnnddlcbaa.Q
end
section
namespace Go.Proofs.Ytoiiabnnddlcbaa.Q
open Go.RowKit Go.Proofs.YtoiiabnnddlcbaaW.PrintWords Go.Proofs.YtoiiabnnddlcbaaW.PrintLast Go.Proofs.YtoiiabnnddlcbaaW.PrintMore Go.Proofs.Ytoiiabnnddlcbaa.La Go.Proofs.Ytoiiabnnddlcbaa.PB
set_option linter.unusedVariables false
set_option linter.unusedSimpArgs false
theorem ext_rd {n : Nat} {A B : LA n} (h : ∀ j : Nat, j < n → rd A.l (j : Int) = rd B.l (j : Int)) : A = B := by
  apply LA.ext_l
  apply List.ext_getElem (by rw [A.h, B.h])
  intro j h1 h2
  have hj : j < n := by rw [A.h] at h1; exact h1
  have := h j hj
  rw [rd_nat, rd_nat, List.getD_eq_getElem?_getD, List.getD_eq_getElem?_getD, List.getElem?_eq_getElem h1, List.getElem?_eq_getElem h2] at this
  exact this
theorem toU_ev (W : LA 10) : Ev (fun k => laws_toUint16A10.f k W) W := by
  unfold laws_toUint16A10.f
  have key : ∀ (m i : Nat) (X : LA 10), i + m = 10 → (∀ j : Nat, j < i → rd X.l (j : Int) = rd W.l (j : Int)) → Ev (fun k => laws_toUint16A10.l0 k (i : Int) W X) W := by
    intro m
    induction m with
    | zero =>
      intro i X hi hX
      obtain rfl : i = 10 := by omega
      refine Ev.succ ?_
      simp only [laws_toUint16A10.l0]
      rw [ext_rd hX]
      exact Ev.neg (by omega) (Ev.now _)
    | succ m ih =>
      intro i X hi hX
      refine Ev.succ ?_
      simp only [laws_toUint16A10.l0]
      rw [wnat i 10 (by omega) (by omega)]
      refine Ev.pos (by omega) (Ev.pos (by omega) (ih (i + 1) _ (by omega) (fun j hj => ?_)))
      by_cases e : j = i
      · subst e
        exact rd_set_same X _ _ (by omega) (by omega)
      · rw [rd_set_other X _ _ _ (by omega) (by omega) (by omega)]
        exact hX j (by omega)
  exact key 10 0 _ rfl (fun j hj => by omega)
theorem toRoom_ev (s0 s1 : Int) (W : LA 10) : Ev (fun k => laws_toRoom.f k s0 s1 W) (s0, s1, W) := by
  unfold laws_toRoom.f
  exact Ev.bind (toU_ev W) (Ev.now _)
end Go.Proofs.Ytoiiabnnddlcbaa.Q
end
section
namespace Go.Proofs.Ytoiiabnnddlcbaa.Q
open Go.RowKit Go.Proofs.YtoiiabnnddlcbaaW.PrintWords Go.Proofs.YtoiiabnnddlcbaaW.PrintLast Go.Proofs.YtoiiabnnddlcbaaW.PrintMore Go.Proofs.Ytoiiabnnddlcbaa.La Go.Proofs.Ytoiiabnnddlcbaa.PB
set_option linter.unusedVariables false
set_option linter.unusedSimpArgs false
theorem markSpotS_ev (l : List S34) (a : Int) (h : l.length ≤ 1048576) (h0 : 0 ≤ a) (h1 : a ≤ 1000000000000) : ∃ l' : List S34, Ev (fun k => laws_markSpotS.f k l a) (a + 2 * l.length, l') ∧ l'.length = l.length ∧ ∀ i : Nat, i < l.length → rd_T34 l' (i : Int) = ⟨IntKind.i8.wrap (a + 2 * i), IntKind.i8.wrap (a + 2 * i + 1)⟩ := by
  unfold laws_markSpotS.f
  have key : ∀ (m i : Nat) (x : List S34), i + m = l.length → x.length = l.length → (∀ j : Nat, j < i → rd_T34 x (j : Int) = ⟨IntKind.i8.wrap (a + 2 * j), IntKind.i8.wrap (a + 2 * j + 1)⟩) → ∃ l' : List S34, Ev (fun k => laws_markSpotS.l0 k x (a + 2 * i) (i : Int)) (a + 2 * l.length, l') ∧ l'.length = l.length ∧ ∀ j : Nat, j < l.length → rd_T34 l' (j : Int) = ⟨IntKind.i8.wrap (a + 2 * j), IntKind.i8.wrap (a + 2 * j + 1)⟩ := by
    intro m
    induction m with
    | zero =>
      intro i x hi hl hx
      obtain rfl : i = l.length := by omega
      refine ⟨x, Ev.round (Ev.now _) fun k => ?_, hl, hx⟩
      simp only [laws_markSpotS.l0]
      rw [if_neg (by omega)]
    | succ m ih =>
      intro i x hi hl hx
      obtain ⟨y, hy⟩ : ∃ y : List S34, y = (x.set (i : Int).toNat (⟨IntKind.i8.wrap (a + 2 * (i : Int)), (rd_T34 x (i : Int)).f1⟩ : S34)) := ⟨_, rfl⟩
      obtain ⟨z, hz⟩ : ∃ z : List S34, z = (y.set (i : Int).toNat (⟨(rd_T34 y (i : Int)).f0, IntKind.i8.wrap (a + 2 * (i : Int) + 1)⟩ : S34)) := ⟨_, rfl⟩
      have hyl : y.length = l.length := by rw [hy, List.length_set, hl]
      have hzl : z.length = l.length := by rw [hz, List.length_set, hyl]
      have e1 : (rd_T34 y (i : Int)).f0 = IntKind.i8.wrap (a + 2 * (i : Int)) := by
        rw [hy]; simp [rd_T34, List.getElem?_set, show i < x.length by omega]
      have e2 : rd_T34 z (i : Int) = ⟨IntKind.i8.wrap (a + 2 * (i : Int)), IntKind.i8.wrap (a + 2 * (i : Int) + 1)⟩ := by
        rw [hz, e1]; simp [rd_T34, List.getElem?_set, show i < y.length by omega]
      have e3 : ∀ j : Nat, j ≠ i → rd_T34 z (j : Int) = rd_T34 x (j : Int) := fun j hj => by
        rw [hz, hy]; simp [rd_T34, List.getElem?_set, Ne.symm hj]
      obtain ⟨l', hl', hll, hlx⟩ := ih (i + 1) z (by omega) hzl (fun j hj => by
        by_cases hji : j = i
        · subst hji; exact e2
        · rw [e3 j hji]; exact hx j (by omega))
      refine ⟨l', Ev.round hl' fun k => ?_, hll, hlx⟩
      simp only [laws_markSpotS.l0, Option.bind_some]
      rw [if_pos (by omega), if_pos (by omega), wnat i l.length (by omega) (by omega)]
      rw [wint (a + 2 * (i : Int) + 1) (by omega) (by omega), wint (a + 2 * (i : Int) + 1 + 1) (by omega) (by omega), ← hy, ← hz]
      have e : (a + 2 * (i : Int) + 1 + 1) = a + 2 * ((i + 1 : Nat) : Int) := by omega
      rw [e]
  obtain ⟨l', hl', hll, hlx⟩ := key l.length 0 l (by omega) rfl (fun j hj => by omega)
  exact ⟨l', by simpa using hl', hll, hlx⟩
theorem heldSpotS_ev (l : List S34) (a : Int) (h : l.length ≤ 1048576) (h0 : 0 ≤ a) (h1 : a ≤ 1000000000000) (hx : ∀ i : Nat, i < l.length → rd_T34 l (i : Int) = ⟨IntKind.i8.wrap (a + 2 * i), IntKind.i8.wrap (a + 2 * i + 1)⟩) : Ev (fun k => laws_heldSpotS.f k l a) (a + 2 * l.length) := by
  unfold laws_heldSpotS.f
  have key : ∀ (m i : Nat), i + m = l.length → Ev (fun k => laws_heldSpotS.l0 k l (a + 2 * i) (i : Int)) (a + 2 * l.length) := by
    intro m
    induction m with
    | zero =>
      intro i hi
      obtain rfl : i = l.length := by omega
      refine Ev.round (Ev.now _) fun k => ?_
      simp only [laws_heldSpotS.l0]
      rw [if_neg (by omega)]
    | succ m ih =>
      intro i hi
      refine Ev.round (ih (i + 1) (by omega)) fun k => ?_
      simp only [laws_heldSpotS.l0]
      rw [if_pos (by omega), if_pos (by omega), hx i (by omega), wint (a + 2 * (i : Int) + 1) (by omega) (by omega)]
      rw [if_pos rfl, if_pos rfl, wnat i l.length (by omega) (by omega), wint (a + 2 * (i : Int) + 1 + 1) (by omega) (by omega)]
      have e : (a + 2 * (i : Int) + 1 + 1) = a + 2 * ((i + 1 : Nat) : Int) := by omega
      rw [e]
  have := key l.length 0 (by omega)
  simpa using this
theorem eqSpot_self (a b : Int) : laws_eqSpot.f a b a b = some true := by unfold laws_eqSpot.f; rw [if_pos rfl, if_pos rfl]
theorem eqSpotS_ev (l : List S34) (h : l.length ≤ 1048576) : Ev (fun k => laws_eqSpotS.f k l l) true := by
  unfold laws_eqSpotS.f
  refine Ev.pos rfl ?_
  have key : ∀ (m i : Nat), i + m = l.length → Ev (fun k => laws_eqSpotS.l0 k l l (i : Int)) true := by
    intro m
    induction m with
    | zero =>
      intro i hi
      obtain rfl : i = l.length := by omega
      refine Ev.round (Ev.now _) fun k => ?_
      simp only [laws_eqSpotS.l0]
      rw [if_neg (by omega)]
    | succ m ih =>
      intro i hi
      refine Ev.round (ih (i + 1) (by omega)) fun k => ?_
      simp only [laws_eqSpotS.l0]
      rw [if_pos (by omega), if_pos (by omega), if_pos (by omega), eqSpot_self]
      simp only [Option.bind_some, if_true]
      rw [wnat i l.length (by omega) (by omega)]
  exact key l.length 0 (by omega)
end Go.Proofs.Ytoiiabnnddlcbaa.Q
end
section
namespace Go.Proofs.Ytoiiabnnddlcbaa.Q
open Go.RowKit Go.Proofs.YtoiiabnnddlcbaaW.PrintWords Go.Proofs.YtoiiabnnddlcbaaW.PrintLast Go.Proofs.YtoiiabnnddlcbaaW.PrintMore Go.Proofs.Ytoiiabnnddlcbaa.La Go.Proofs.Ytoiiabnnddlcbaa.PB
set_option linter.unusedVariables false
set_option linter.unusedSimpArgs false
def cSpot (x : S28) : S34 := ⟨x.f0, x.f1⟩
theorem toSpotS_ev (l : List S28) (h : l.length ≤ 1048576) : Ev (fun k => laws_toSpotS.f k l) (l.map cSpot) := by
  unfold laws_toSpotS.f
  refine Ev.pos (by omega) (Ev.pos (by omega) ?_)
  refine Ev.map_loop (fun k x3 i => laws_toSpotS.l0 k l x3 i) cSpot z28 l (by omega) ?_ ?_ (List.replicate ((l.length : Int)).toNat z34) (by simp)
  · intro i x3 r hi hl hr
    refine Ev.round hr fun k => ?_
    simp only [laws_toSpotS.l0, laws_toSpot.f, Option.bind_some]
    rw [if_pos (by omega), if_pos (by omega), if_pos (by omega), wnat i l.length hi (by omega)]
    simp [rd_T28, cSpot]
  · intro x3 hl
    refine Ev.round (Ev.now x3) fun k => ?_
    simp only [laws_toSpotS.l0]
    rw [if_neg (by omega)]
theorem szSpotS_small (l : List S28) (h : l.length ≤ 1048576) : laws_szSpotS.f l 1048576 = some (1048576 - (l.length : Int)) := by
  unfold laws_szSpotS.f
  rw [wint _ (by omega) (by omega), if_neg (by omega)]
theorem szSpotS_big (l : List S28) (h : 1048576 < l.length) (hm : l.length ≤ maxLen) : laws_szSpotS.f l 1048576 = some (-1) := by
  unfold maxLen at hm
  unfold laws_szSpotS.f
  rw [wint _ (by omega) (by omega), if_pos (by omega)]
end Go.Proofs.Ytoiiabnnddlcbaa.Q
end
section
namespace Go.Proofs.Ytoiiabnnddlcbaa.Q
open Go.RowKit Go.Proofs.YtoiiabnnddlcbaaW.PrintWords Go.Proofs.YtoiiabnnddlcbaaW.PrintLast Go.Proofs.YtoiiabnnddlcbaaW.PrintMore Go.Proofs.Ytoiiabnnddlcbaa.La Go.Proofs.Ytoiiabnnddlcbaa.Mp Go.Proofs.Ytoiiabnnddlcbaa.PB
set_option linter.unusedVariables false
set_option linter.unusedSimpArgs false
theorem FnExactGreedyCalls (s0 s1 : Int) (W : LA 10) (l1 : List S28) (m : Int) (hr : RB s0 s1 W) (hm1 : l1.length ≤ maxLen) (hw1 : ∀ x ∈ l1, (Lit.int .i8 x.f0).wf = true ∧ (Lit.int .i8 x.f1).wf = true) (hm : (Lit.int .i64 m).wf = true) : Ev (fun k => laws_FnExactGreedyCalls.f k s0 s1 W l1 m) true := by
  unfold laws_FnExactGreedyCalls.f
  by_cases hl1 : l1.length ≤ 1048576
  rotate_left
  · exact Ev.bind (Ev.const (szSpotS_big l1 (by omega) hm1)) (Ev.pos (by decide) (Ev.now _))
  refine Ev.bind (Ev.const (szSpotS_small l1 hl1)) (Ev.neg (by omega) ?_)
  have hsb : ∀ q ∈ l1.map cSpot, SB q := fun q hq => by
    obtain ⟨x, hx, rfl⟩ := List.mem_map.1 hq
    exact ⟨wf_i8 (hw1 x hx).1, wf_i8 (hw1 x hx).2⟩
  have hlm : (l1.map cSpot).length ≤ 1048576 := by simpa using hl1
  obtain ⟨r, hrl, h1, h2⟩ := GreedyCalls_both s0 s1 W hr (l1.map cSpot) (by omega) hsb m
  have er := toRoom_ev s0 s1 W
  have e1 := toSpotS_ev l1 hl1
  have q1 := eqSpotS_ev (l1.map cSpot) hlm
  have q := eqSpotS_ev r.1 hrl
  obtain ⟨l', m1, ml, mx⟩ := markSpotS_ev r.1 1 hrl (by omega) (by omega)
  have hd := heldSpotS_ev l' 1 (by omega) (by omega) (by omega) (fun i hi => mx i (by omega))
  obtain ⟨n', n1, nl, nx⟩ := markSpotS_ev (l1.map cSpot) 1 hlm (by omega) (by omega)
  refine Ev.bind er (Ev.bind e1 (Ev.bind h1 (Ev.bind e1 (Ev.bind er (Ev.bind h2 (Ev.bind q (Ev.pos rfl ?_)))))))
  refine Ev.succ ?_
  simp only [laws_FnExactGreedyCalls.j0]
  refine Ev.neg (by simp) (Ev.bind e1 (Ev.bind q1 (Ev.pos rfl (Ev.bind n1 (Ev.neg (by omega) (Ev.bind q (Ev.pos rfl ?_)))))))
  refine Ev.succ ?_
  simp only [laws_FnExactGreedyCalls.j1]
  refine Ev.neg (by simp) (Ev.bind m1 (Ev.bind hd (Ev.neg (by omega) (Ev.pos (by rw [ml]) ?_))))
  refine Ev.bind er (Ev.bind e1 (Ev.bind h2 (Ev.bind q (Ev.pos rfl (Ev.succ ?_)))))
  simp only [laws_FnExactGreedyCalls.j2]
  exact Ev.neg (by simp) (Ev.bind hd (Ev.neg (by omega) (Ev.pos (by rw [ml]) (Ev.now _))))
end Go.Proofs.Ytoiiabnnddlcbaa.Q
end
section
namespace Go.Proofs.Ytoiiabnnddlcbaa.fnExactGreedyCalls
open Go.ChangeShapes Go.WideShapes Go.ChangeAt Go.RowKit Go.Proofs.YtoiiabnnddlcbaaW.PrintWords Go.Proofs.YtoiiabnnddlcbaaW.PrintLast Go.Proofs.Ytoiiabnnddlcbaa.La Go.Proofs.Ytoiiabnnddlcbaa.Rw Go.Proofs.Ytoiiabnnddlcbaa.PB
open Go.ChangeMaps (open_string shut_string)
set_option linter.unusedVariables false
set_option maxRecDepth 100000 in
set_option maxHeartbeats 1000000 in
theorem lifted (os : Os) (started : os.Started) (H : Type) (enc : TypeId × Value → H) :
    ReturnsInHanded {} Try.checked os 6 .any (Rows.fnExactGreedyCallsSpec.pre6 enc Try.prog Try.f6 Rows.fnExactGreedyCallsRow.domain false) (Rows.fnExactGreedyCallsSpec.post enc Try.prog Try.f6 false true false false) := by
  refine returnsInHanded_of_change_sized (C := Try.checked) own started (by kernel_rfl) Try.func6
    (ChangeSpec.witness6 (enc := enc) (C := Try.checked) false ⟨#[], #[.agg #[.int .i8 0, .int .i8 0, .int .u16 0, .int .u16 0, .int .u16 0, .int .u16 0, .int .u16 0, .int .u16 0, .int .u16 0, .int .u16 0, .int .u16 0, .int .u16 0], .slice none 0 0, .int .i64 0], []⟩ 8 (by kernel_rfl) (by kernel_rfl) (by kernel_rfl) (by kernel_rfl)) ?_
  intro W base args ds gs before hval0 hW hcnd hsz0 _
  have hval : ∀ (j : Nat) t v, Try.f6.params[j]? = some t → args[j]? = some v → Value.okWide Try.prog W .any base t v := hval0
  have hW' := hW
  obtain ⟨p, q, hA0, hV, rfl, hfz, hnd⟩ := hW
  have hA : DataW.TrodAll enc Try.prog W 0 (fun _ => true) true Try.f6.params.toList args.toList ds p := hA0
  rw [Try.params6] at hA hval
  obtain ⟨v0, vs0, d0, ds0, p0, q0, hargs, rfl, rfl, h0, r0⟩ := trodAll_cons hA
  obtain ⟨v1, vs1, d1, ds1, p1, q1, rfl, rfl, rfl, h1, r1⟩ := trodAll_cons r0
  obtain ⟨v2, vs2, d2, ds2, p2, q2, rfl, rfl, rfl, h2, r2⟩ := trodAll_cons r1
  obtain ⟨rfl, rfl, rfl⟩ := trodAll_nil r2
  obtain rfl : args = #[v0, v1, v2] := by cases args; simp_all
  obtain ⟨rfl, rfl⟩ := trodVars_none hV
  have k0 := h0
  have lt0 : ∀ x ∈ p0, x.block < W.heap.size := by obtain ⟨m, hm⟩ := k0; exact DataW.trod_lt m _ _ _ hm
  obtain ⟨a0_0, a0_1, a0_2, rfl, w0_0, w0_1, w0_2⟩ := openV26 (hval 0 26 v0 rfl rfl) h0
  have k1 := h1
  have lt1 : ∀ x ∈ p1, x.block < W.heap.size := by obtain ⟨m, hm⟩ := k1; exact DataW.trod_lt m _ _ _ hm
  obtain ⟨a1, len1, cap1, rfl⟩ := okWide_slice Try.underlying39 (hval 1 39 v1 rfl rfl)
  obtain ⟨l1, rfl, hc1, hm1, hr1, hw1⟩ := openS28 h1
  have k2 := h2
  have lt2 : ∀ x ∈ p2, x.block < W.heap.size := by obtain ⟨m, hm⟩ := k2; exact DataW.trod_lt m _ _ _ hm
  obtain ⟨a2, rfl, _, _, w2⟩ := open_int Try.underlying2 (hval 2 2 v2 rfl rfl) h2
  clear hA0 hval0 hsz0
  obtain ⟨k, hk⟩ := Ev.rounds (Q.FnExactGreedyCalls a0_0 a0_1 a0_2 l1 a2 (Q.rb_mk w0_0 w0_1 w0_2) hm1 hw1 w2)
  refine (laws_FnExactGreedyCalls.calls k a0_0 a0_1 a0_2 _ _ l1 a2 true W hr1 hc1 hk).mono fun e W' ⟨he, bel0⟩ => ?_
  subst he
  have bel : Below W.heap.size W W' := by first | exact bel0 | exact bel0.below
  exact ⟨_, rfl, _, _, _, [], _, [], hW', trodAll_mk1 (shut_bool Try.underlying4 _), (trodAll_cons_mk (Below.trod laidOut (by kernel_rfl) (of_decide_eq_true (by kernel_rfl)) k0 bel lt0) (trodAll_cons_mk (Below.trod laidOut (by kernel_rfl) (of_decide_eq_true (by kernel_rfl)) k1 bel lt1) (trodAll_cons_mk (Below.trod laidOut (by kernel_rfl) (of_decide_eq_true (by kernel_rfl)) k2 bel lt2) trodAll_mk0))), rfl, bel.frame _, fun h => by cases h⟩
theorem over : Rows.fnExactGreedyCallsRow.holds Try.pinned (OpenSpec.ofChange Rows.fnExactGreedyCallsSpec) :=
  OpenClaim.holds_of_wide 6 Try.f6 rfl rfl rfl rfl rfl rfl rfl ⟨rfl, rfl, rfl, rfl, rfl⟩ rfl rfl rfl rfl rfl (by kernel_rfl) Try.func6 (by kernel_rfl)
    (of_decide_eq_true (by kernel_rfl)) (by unfold Func.isWrapper; first | (rw [if_pos (by decide +kernel)]; kernel_rfl) | (rw [if_neg (by decide +kernel)]; exact ⟨rfl, rfl⟩))
    (fun os started H enc _ => lifted os started H enc)
end Go.Proofs.Ytoiiabnnddlcbaa.fnExactGreedyCalls
namespace Go.Proofs.Ytoiiabnnddlcbaa
theorem fnExactGreedyCalls_holds : Rows.FnExactGreedyCallsSaid := fnExactGreedyCalls.over
end Go.Proofs.Ytoiiabnnddlcbaa
end
