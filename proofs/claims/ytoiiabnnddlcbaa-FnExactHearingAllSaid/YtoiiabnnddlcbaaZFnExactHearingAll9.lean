/- The statement FnExactHearingAll of this program: what its proof uses, part 10 of 10. The call returns true for all arguments. No condition of its own. -/
import Derived.IntWalk
import Derived.Test.YtoiiabnnddlcbaaZFnExactHearingAll8
section
namespace Go.Proofs.Ytoiiabnnddlcbaa.Q
open Go.RowKit Go.Proofs.YtoiiabnnddlcbaaW.PrintWords Go.Proofs.YtoiiabnnddlcbaaW.PrintLast
set_option linter.unusedVariables false
set_option linter.unusedSimpArgs false
theorem wnat (i n : Nat) (h : i < n) (hn : n ≤ 9223372036854775807) : wrap64 ((i : Int) + 1) = ((i + 1 : Nat) : Int) := by unfold wrap64; omega
theorem wint (a : Int) (h0 : -9223372036854775808 ≤ a) (h1 : a ≤ 9223372036854775807) : wrap64 a = a := by unfold wrap64; omega
theorem rd_nat (xs : List Int) (i : Nat) : rd xs (i : Int) = xs.getD i 0 := by simp [rd]
theorem Ev.round {α : Type} {g f : Nat → Option α} {r : α} (k : Ev f r) (h : ∀ k, g (k + 1) = f k) : Ev g r := Ev.step h k
theorem Ev.eq {α : Type} {g : Nat → Option α} {r r' : α} (h : Ev g r) (e : r = r') : Ev g r' := e ▸ h
theorem Ev.ite {α : Type} {c : Prop} [Decidable c] {f g : Nat → Option α} {r : α} (h : c → Ev f r) (h' : ¬ c → Ev g r) : Ev (fun k => if c then f k else g k) r := by
  by_cases hc : c
  · simp only [hc, if_true]; exact h hc
  · simp only [hc, if_false]; exact h' hc
theorem Ev.pos {α : Type} {c : Prop} [Decidable c] {f g : Nat → Option α} {r : α} (hc : c) (h : Ev f r) : Ev (fun k => if c then f k else g k) r := by simp only [hc, if_true]; exact h
theorem Ev.neg {α : Type} {c : Prop} [Decidable c] {f g : Nat → Option α} {r : α} (hc : ¬ c) (h : Ev g r) : Ev (fun k => if c then f k else g k) r := by simp only [hc, if_false]; exact h
theorem take_set {α : Type} (xs : List α) (i : Nat) (a : α) (h : i < xs.length) : (xs.set i a).take (i + 1) = xs.take i ++ [a] := by
  rw [List.take_succ_eq_append_getElem (by simpa using h)]
  simp [List.take_set]
  rw [List.set_eq_of_length_le (by simp; omega)]
theorem take_get {α : Type} (xs : List α) (i : Nat) (d : α) (h : i < xs.length) : xs.take (i + 1) = xs.take i ++ [xs.getD i d] := by
  rw [List.take_succ_eq_append_getElem h]
  simp [List.getD_eq_getElem?_getD, List.getElem?_eq_getElem h]
theorem Ev.map_loop {α β : Type} (L : Nat → List β → Int → Option (List β)) (g : α → β) (d : α) (x0 : List α) (hn : x0.length ≤ 9223372036854775807)
    (hstep : ∀ (i : Nat) (x3 : List β) (r : List β), i < x0.length → x3.length = x0.length → Ev (fun k => L k (x3.set i (g (x0.getD i d))) ((i + 1 : Nat) : Int)) r → Ev (fun k => L k x3 (i : Int)) r)
    (hend : ∀ x3 : List β, x3.length = x0.length → Ev (fun k => L k x3 (x0.length : Int)) x3) :
    ∀ x3 : List β, x3.length = x0.length → Ev (fun k => L k x3 0) (x0.map g) := by
  have key : ∀ (n i : Nat) (x3 : List β), i + n = x0.length → x3.length = x0.length → x3.take i = (x0.take i).map g → Ev (fun k => L k x3 (i : Int)) (x0.map g) := by
    intro n
    induction n with
    | zero =>
      intro i x3 hi hl ht
      obtain rfl : i = x0.length := by omega
      have : x3 = x0.map g := by
        rw [List.take_of_length_le (by omega), List.take_of_length_le (by omega)] at ht
        exact ht
      rw [← this]
      exact hend x3 hl
    | succ n ih =>
      intro i x3 hi hl ht
      refine hstep i x3 _ (by omega) hl (ih (i + 1) _ (by omega) (by simpa using hl) ?_)
      rw [take_set _ _ _ (by omega), take_get _ _ d (by omega), ht, List.map_append]
      rfl
  intro x3 hl
  exact key x0.length 0 x3 (by omega) hl (by simp)
theorem Ev.all_loop {ρ : Type} (L : Nat → Int → Option ρ) (n : Nat) (r : ρ)
    (hstep : ∀ i : Nat, i < n → Ev (fun k => L k ((i + 1 : Nat) : Int)) r → Ev (fun k => L k (i : Int)) r)
    (hend : Ev (fun k => L k (n : Int)) r) : Ev (fun k => L k 0) r := by
  have key : ∀ (m i : Nat), i + m = n → Ev (fun k => L k (i : Int)) r := by
    intro m
    induction m with
    | zero => intro i hi; obtain rfl : i = n := by omega
              exact hend
    | succ m ih => intro i hi; exact hstep i (by omega) (ih (i + 1) (by omega))
  exact key n 0 (by omega)
def upFrom (k : Int) : Nat → List Int
  | 0 => []
  | n + 1 => k :: upFrom (k + 1) n
theorem upFrom_snoc (k : Int) (n : Nat) : upFrom k (n + 1) = upFrom k n ++ [k + n] := by
  induction n generalizing k with
  | zero => simp [upFrom]
  | succ n ih =>
    rw [upFrom, ih (k + 1)]
    simp [upFrom]
    omega
end Go.Proofs.Ytoiiabnnddlcbaa.Q
end
section
namespace Go.Proofs.Ytoiiabnnddlcbaa.Q
open Go.RowKit Go.Proofs.YtoiiabnnddlcbaaW.PrintWords Go.Proofs.YtoiiabnnddlcbaaW.PrintLast Go.Proofs.Ytoiiabnnddlcbaa.PB
set_option linter.unusedVariables false
set_option linter.unusedSimpArgs false
def inC (a lo hi : Int) : Bool := decide (lo ≤ a) && decide (a ≤ hi)
theorem In_c (a lo hi : Int) : spec_l00In.f a lo hi = some (inC a lo hi) := by
  unfold spec_l00In.f inC
  split
  · rename_i h; simp [h]
  · rename_i h; simp [h]
theorem Ev.const {α : Type} {x : Option α} {a : α} (h : x = some a) : Ev (fun _ => x) a := by subst h; exact Ev.now a
theorem Ev.succ {α : Type} {g : Nat → Option α} {r : α} (h : Ev (fun k => g (k + 1)) r) : Ev g r := Ev.step (fun _ => rfl) h
theorem getD_mem {α : Type} (l : List α) (i : Nat) (d : α) (h : i < l.length) : l.getD i d ∈ l := by
  simp [List.getD_eq_getElem?_getD, List.getElem?_eq_getElem h]
theorem drop_get {α : Type} (xs : List α) (i : Nat) (d : α) (h : i < xs.length) : xs.drop i = xs.getD i d :: xs.drop (i + 1) := by
  rw [List.drop_eq_getElem_cons h]
  simp [List.getD_eq_getElem?_getD, List.getElem?_eq_getElem h]
end Go.Proofs.Ytoiiabnnddlcbaa.Q
end
section
namespace Go.Proofs.Ytoiiabnnddlcbaa.Q
open Go.RowKit Go.Proofs.YtoiiabnnddlcbaaW.PrintWords Go.Proofs.YtoiiabnnddlcbaaW.PrintLast Go.Proofs.YtoiiabnnddlcbaaW.PrintMore Go.Proofs.Ytoiiabnnddlcbaa.PB
set_option linter.unusedVariables false
set_option linter.unusedSimpArgs false
set_option maxRecDepth 100000 in
theorem wrap_u16 (n : Int) : IntKind.u16.wrap n = n % 65536 := by simp [IntKind.wrap, IntKind.bits, IntKind.signed]
theorem wraps_u16 (n : Int) (h₀ : 0 ≤ n) (h₁ : n < 2 ^ 16) : IntKind.u16.wrap n = n := by rw [wrap_u16]; omega
theorem u16_and1 {x : Int} (h₀ : 0 ≤ x) (h₁ : x < 65536) : Go.bits .and .u16 x 1 = x % 2 := bits_mask .u16 16 (by decide) wraps_u16 1 (by decide) x h₀ h₁
def bitV (v : Int) (x : Nat) : Int := v / 2 ^ x % 2
theorem shr_bit {v : Int} (h₀ : 0 ≤ v) (h₁ : v < 65536) {x : Nat} (hx : x < 10) : Go.bits .and .u16 (shr .u16 v (x : Int)) 1 = bitV v x := by
  have hs : shr .u16 v (x : Int) = v / 2 ^ x := by
    unfold shr
    rw [Int.toNat_natCast, Nat.min_eq_left (show x ≤ IntKind.u16.bits by unfold IntKind.bits; dsimp only; omega)]
  have hp : (0 : Int) < 2 ^ x := Int.pow_pos (by omega)
  have h2 : v / 2 ^ x ≤ v := Int.ediv_le_self _ h₀
  rw [hs, u16_and1 (Int.ediv_nonneg h₀ (by omega)) (by omega)]
  rfl
theorem i8_small (x : Nat) (h : x < 128) : IntKind.i8.wrap (x : Int) = x := by simp [IntKind.wrap, IntKind.bits, IntKind.signed]; omega
theorem u64_small (x : Nat) (h : x < 128) : IntKind.u64.wrap (x : Int) = x := by simp [IntKind.wrap, IntKind.bits, IntKind.signed]; omega
theorem wf_u16 {n : Int} (h : (Lit.int .u16 n).wf = true) : 0 ≤ n ∧ n < 65536 := by
  simp [Lit.wf, IntKind.min, IntKind.max, IntKind.signed, IntKind.bits] at h
  omega
theorem wf_i8 {n : Int} (h : (Lit.int .i8 n).wf = true) : -128 ≤ n ∧ n ≤ 127 := by
  simp [Lit.wf, IntKind.min, IntKind.max, IntKind.signed, IntKind.bits] at h
  omega
theorem rd_bound (l : List Int) (h : ∀ x ∈ l, 0 ≤ x ∧ x < 65536) (i : Int) : 0 ≤ rd l i ∧ rd l i < 65536 := by
  unfold rd
  by_cases hi : i.toNat < l.length
  · exact h _ (getD_mem l _ 0 hi)
  · rw [List.getD_eq_getElem?_getD, List.getElem?_eq_none (by omega)]
    show (0:Int) ≤ 0 ∧ (0:Int) < 65536
    omega
end Go.Proofs.Ytoiiabnnddlcbaa.Q
end
section
namespace Go.Proofs.Ytoiiabnnddlcbaa.Q
open Go.RowKit Go.Proofs.YtoiiabnnddlcbaaW.PrintWords Go.Proofs.YtoiiabnnddlcbaaW.PrintLast Go.Proofs.YtoiiabnnddlcbaaW.PrintMore Go.Proofs.Ytoiiabnnddlcbaa.La Go.Proofs.Ytoiiabnnddlcbaa.PB
set_option linter.unusedVariables false
set_option linter.unusedSimpArgs false
theorem Within_c (a lo hi : Int) : impl_within.f a lo hi = some (inC a lo hi) := by
  unfold impl_within.f inC
  split
  · rename_i h; simp [h]
  · rename_i h; simp [h]
theorem u64_int {a : Int} (h0 : 0 ≤ a) (h1 : a < 128) : IntKind.u64.wrap a = a := by
  obtain ⟨n, rfl⟩ : ∃ n : Nat, a = n := ⟨a.toNat, by omega⟩
  exact u64_small n (by omega)
theorem mn_small {a : Int} (h : a ≤ 10) : mn a 10 = a := by unfold mn; split <;> omega
theorem Ok_loop (s0 s1 : Int) (W : LA 10) (h0 : 1 ≤ s0 ∧ s0 ≤ 10) : ∀ n x : Nat, x + n = 10 → ∃ b, Ev (fun k => spec_l01Ok.l0 k (x : Int) s0 s1 W) b ∧ Ev (fun k => impl_ValidRoom.l0 k W (x : Int) s0 s1 W) b := by
  have hu : IntKind.u64.wrap s0 = s0 := u64_int (by omega) (by omega)
  intro n
  induction n with
  | zero =>
    intro x hx
    obtain rfl : x = 10 := by omega
    refine ⟨true, Ev.succ ?_, Ev.succ ?_⟩
    · simp only [spec_l01Ok.l0]
      exact Ev.neg (by omega) (Ev.now true)
    · simp only [impl_ValidRoom.l0]
      exact Ev.neg (by omega) (Ev.now true)
  | succ n ih =>
    intro x hx
    obtain ⟨b, hb1, hb2⟩ := ih (x + 1) (by omega)
    by_cases p1 : shr .u16 (rd W.l (x : Int)) s0 = 0
    · by_cases p2 : (x : Int) ≥ wrap64 s1
      · by_cases p3 : rd W.l (x : Int) = 0
        · refine ⟨b, Ev.succ ?_, Ev.succ ?_⟩
          · simp only [spec_l01Ok.l0]
            rw [hu, wnat x 10 (by omega) (by omega)]
            exact Ev.pos (by omega) (Ev.pos (by omega) (Ev.pos (by omega) (Ev.pos p1 (Ev.pos p2 (Ev.pos p3 hb1)))))
          · simp only [impl_ValidRoom.l0]
            rw [wnat x 10 (by omega) (by omega)]
            exact Ev.pos (by omega) (Ev.pos (by omega) (Ev.pos (by omega) (Ev.pos p1 (Ev.pos p2 (Ev.pos p3 hb2)))))
        · refine ⟨false, Ev.succ ?_, Ev.succ ?_⟩
          · simp only [spec_l01Ok.l0]
            rw [hu]
            exact Ev.pos (by omega) (Ev.pos (by omega) (Ev.pos (by omega) (Ev.pos p1 (Ev.pos p2 (Ev.neg p3 (Ev.now false))))))
          · simp only [impl_ValidRoom.l0]
            exact Ev.pos (by omega) (Ev.pos (by omega) (Ev.pos (by omega) (Ev.pos p1 (Ev.pos p2 (Ev.neg p3 (Ev.now false))))))
      · refine ⟨b, Ev.succ ?_, Ev.succ ?_⟩
        · simp only [spec_l01Ok.l0]
          rw [hu, wnat x 10 (by omega) (by omega)]
          exact Ev.pos (by omega) (Ev.pos (by omega) (Ev.pos (by omega) (Ev.pos p1 (Ev.neg p2 hb1))))
        · simp only [impl_ValidRoom.l0]
          rw [wnat x 10 (by omega) (by omega)]
          exact Ev.pos (by omega) (Ev.pos (by omega) (Ev.pos (by omega) (Ev.pos p1 (Ev.neg p2 hb2))))
    · refine ⟨false, Ev.succ ?_, Ev.succ ?_⟩
      · simp only [spec_l01Ok.l0]
        rw [hu]
        exact Ev.pos (by omega) (Ev.pos (by omega) (Ev.pos (by omega) (Ev.neg p1 (Ev.now false))))
      · simp only [impl_ValidRoom.l0]
        exact Ev.pos (by omega) (Ev.pos (by omega) (Ev.pos (by omega) (Ev.neg p1 (Ev.now false))))
theorem Ok_both (s0 s1 : Int) (W : LA 10) (b0 : -128 ≤ s0 ∧ s0 ≤ 127) (b1 : -128 ≤ s1 ∧ s1 ≤ 127) :
    ∃ b, Ev (fun k => spec_l01Ok.f k s0 s1 W) b ∧ Ev (fun k => impl_ValidRoom.f k s0 s1 W) b ∧ (b = true → (1 ≤ s0 ∧ s0 ≤ 10) ∧ (1 ≤ s1 ∧ s1 ≤ 10)) := by
  have e0 := wint s0 (by omega) (by omega)
  have e1 := wint s1 (by omega) (by omega)
  have spec0 : ∀ b1 : Bool, Ev (fun k => spec_l01Ok.j0 k true s0 s1 W) false := fun _ => Ev.succ (by simp only [spec_l01Ok.j0]; exact Ev.pos trivial (Ev.now false))
  have impl0 : ∀ b1 : Bool, Ev (fun k => impl_ValidRoom.j0 k true s0 s1 W) false := fun _ => Ev.succ (by simp only [impl_ValidRoom.j0]; exact Ev.pos trivial (Ev.now false))
  by_cases h0 : inC s0 1 10 = true
  · by_cases h1 : inC s1 1 10 = true
    · have h0' : 1 ≤ s0 ∧ s0 ≤ 10 := by unfold inC at h0; simpa using h0
      have h1' : 1 ≤ s1 ∧ s1 ≤ 10 := by unfold inC at h1; simpa using h1
      obtain ⟨b, hb1, hb2⟩ := Ok_loop s0 s1 W h0' 10 0 rfl
      refine ⟨b, ?_, ?_, fun _ => ⟨h0', h1'⟩⟩
      · unfold spec_l01Ok.f
        rw [e0, e1, In_c, In_c, h0, h1]
        simp only [Option.bind_some, if_true, Bool.not_true]
        refine Ev.succ ?_
        simp only [spec_l01Ok.j0]
        exact Ev.neg (by simp) hb1
      · unfold impl_ValidRoom.f
        rw [e0, e1, Within_c, Within_c, h0, h1]
        simp only [Option.bind_some, if_true, Bool.not_true]
        refine Ev.succ ?_
        simp only [impl_ValidRoom.j0]
        exact Ev.neg (by simp) hb2
    · have h1' : inC s1 1 10 = false := by simpa using h1
      refine ⟨false, ?_, ?_, fun h => by cases h⟩
      · unfold spec_l01Ok.f
        rw [e0, e1, In_c, In_c, h0, h1']
        simp only [Option.bind_some, if_true, Bool.not_false]
        exact spec0 true
      · unfold impl_ValidRoom.f
        rw [e0, e1, Within_c, Within_c, h0, h1']
        simp only [Option.bind_some, if_true, Bool.not_false]
        exact impl0 true
  · have h0' : inC s0 1 10 = false := by simpa using h0
    refine ⟨false, ?_, ?_, fun h => by cases h⟩
    · unfold spec_l01Ok.f
      rw [e0, In_c, h0']
      simp only [Option.bind_some, Bool.false_eq_true, if_false]
      exact spec0 true
    · unfold impl_ValidRoom.f
      rw [e0, Within_c, h0']
      simp only [Option.bind_some, Bool.false_eq_true, if_false]
      exact impl0 true
def fr (W : List Int) (x y : Int) : Bool := bitV (rd W y) x.toNat == 0
theorem shr_div {v : Int} {x : Nat} (hx : x < 10) : shr .u16 v (x : Int) = v / 2 ^ x := by
  unfold shr
  rw [Int.toNat_natCast, Nat.min_eq_left (show x ≤ IntKind.u16.bits by unfold IntKind.bits; dsimp only; omega)]
theorem Free_s (s0 s1 : Int) (W : LA 10) (hb : ∀ i, 0 ≤ rd W.l i ∧ rd W.l i < 65536) (h0 : s0 ≤ 10) (h1 : s1 ≤ 10) (x y : Nat) (hx : (x : Int) < s0) (hy : (y : Int) < s1) :
    spec_l01Free.f s0 s1 W (x : Int) (y : Int) = some (fr W.l (x : Int) (y : Int)) := by
  unfold spec_l01Free.f spec_l01Is.f
  rw [wint s0 (by omega) (by omega), wint s1 (by omega) (by omega), wint (x : Int) (by omega) (by omega), wint (y : Int) (by omega) (by omega), wint (s0 - 1) (by omega) (by omega), wint (s1 - 1) (by omega) (by omega), In_c, In_c]
  rw [show inC (x : Int) 0 (s0 - 1) = true by unfold inC; simp; omega, show inC (y : Int) 0 (s1 - 1) = true by unfold inC; simp; omega]
  simp only [Option.bind_some, if_true]
  rw [if_pos (by omega), if_pos (by omega), u64_int (by omega) (by omega), if_pos (by omega), shr_div (by omega)]
  have hn : 0 ≤ rd W.l (y : Int) / 2 ^ x := Int.ediv_nonneg (hb _).1 (Int.le_of_lt (Int.pow_pos (by omega)))
  rw [Int.tmod_eq_emod_of_nonneg hn]
  unfold fr bitV
  rw [Int.toNat_natCast]
theorem Free_i (s0 s1 : Int) (W : LA 10) (hb : ∀ i, 0 ≤ rd W.l i ∧ rd W.l i < 65536) (h0 : s0 ≤ 10) (h1 : s1 ≤ 10) (x y : Nat) (hx : (x : Int) < s0) (hy : (y : Int) < s1) :
    impl_Room_isFree.f s0 s1 W (x : Int) (y : Int) = some (fr W.l (x : Int) (y : Int)) := by
  unfold impl_Room_isFree.f impl_Room_isCell.f
  rw [wint s0 (by omega) (by omega), wint s1 (by omega) (by omega), wint (x : Int) (by omega) (by omega), wint (y : Int) (by omega) (by omega), mn_small h0, mn_small h1, wint (s0 - 1) (by omega) (by omega), wint (s1 - 1) (by omega) (by omega), Within_c, Within_c]
  rw [show inC (x : Int) 0 (s0 - 1) = true by unfold inC; simp; omega, show inC (y : Int) 0 (s1 - 1) = true by unfold inC; simp; omega]
  simp only [Option.bind_some, if_true]
  rw [if_pos (by omega), if_pos (by omega), if_pos (by omega), shr_bit (hb _).1 (hb _).2 (by omega)]
  unfold fr
  rw [Int.toNat_natCast]
def rowL (p : Int → Int → Bool) (y : Int) (acc : List S34) : Nat → List S34
  | 0 => acc
  | x + 1 => if p (x : Int) y then rowL p y acc x ++ [⟨(x : Int), y⟩] else rowL p y acc x
def cellsL (p : Int → Int → Bool) (w : Nat) : Nat → List S34
  | 0 => []
  | y + 1 => rowL p (y : Int) (cellsL p w y) w
theorem rowL_len (p : Int → Int → Bool) (y : Int) (acc : List S34) : ∀ x, (rowL p y acc x).length ≤ acc.length + x
  | 0 => by simp [rowL]
  | x + 1 => by have := rowL_len p y acc x; rw [rowL]; split <;> simp <;> omega
theorem cellsL_len (p : Int → Int → Bool) (w : Nat) : ∀ y, (cellsL p w y).length ≤ w * y
  | 0 => by simp [cellsL]
  | y + 1 => by
    have h1 := cellsL_len p w y
    have h2 := rowL_len p (y : Int) (cellsL p w y) w
    rw [cellsL, Nat.mul_succ]
    omega
theorem rowL_mem (p : Int → Int → Bool) (w : Nat) (y : Int) (acc : List S34) (P : S34 → Prop) (ha : ∀ q ∈ acc, P q) (hp : ∀ x : Nat, x < w → P ⟨(x : Int), y⟩) : ∀ x, x ≤ w → ∀ q ∈ rowL p y acc x, P q
  | 0, _ => ha
  | x + 1, hx => by
    have ih := rowL_mem p w y acc P ha hp x (by omega)
    rw [rowL]
    split
    · intro q hq
      rcases List.mem_append.1 hq with h | h
      · exact ih q h
      · obtain rfl := List.mem_singleton.1 h
        exact hp x (by omega)
    · exact ih
theorem cellsL_mem (p : Int → Int → Bool) (w h : Nat) : ∀ y, y ≤ h → ∀ q ∈ cellsL p w y, (0 ≤ q.f0 ∧ q.f0 < w) ∧ (0 ≤ q.f1 ∧ q.f1 < h)
  | 0, _ => fun q hq => by simp [cellsL] at hq
  | y + 1, hy => rowL_mem p w (y : Int) _ _ (cellsL_mem p w h y (by omega)) (fun x hx => ⟨⟨by simp, by dsimp only; omega⟩, ⟨by simp, by dsimp only; omega⟩⟩) w (Nat.le_refl _)
theorem Ev.cells (p : Int → Int → Bool) (w h : Nat) (hw : w ≤ 10) (hh : h ≤ 10) (L0 : Nat → List S34 → Int → Option (List S34)) (L1 : Nat → List S34 → Int → Int → Option (List S34))
    (e0 : ∀ acc (y : Nat) r, y < h → Ev (fun k => L1 k acc (y : Int) 0) r → Ev (fun k => L0 k acc (y : Int)) r) (e0' : ∀ acc, Ev (fun k => L0 k acc (h : Int)) acc)
    (e1 : ∀ acc (y x : Nat) r, y < h → x < w → acc.length ≤ 1000 → Ev (fun k => L1 k (if p (x : Int) (y : Int) then acc ++ [⟨(x : Int), (y : Int)⟩] else acc) (y : Int) ((x + 1 : Nat) : Int)) r → Ev (fun k => L1 k acc (y : Int) (x : Int)) r)
    (e1' : ∀ acc (y : Nat) r, y < h → Ev (fun k => L0 k acc ((y + 1 : Nat) : Int)) r → Ev (fun k => L1 k acc (y : Int) (w : Int)) r) :
    Ev (fun k => L0 k [] 0) (cellsL p w h) := by
  have inner : ∀ (n x y : Nat) (acc : List S34) r, x + n = w → y < h → acc.length ≤ 900 → Ev (fun k => L0 k (rowL p (y : Int) acc w) ((y + 1 : Nat) : Int)) r → Ev (fun k => L1 k (rowL p (y : Int) acc x) (y : Int) (x : Int)) r := by
    intro n
    induction n with
    | zero =>
      intro x y acc r hx hy hl hr
      obtain rfl : x = w := by omega
      exact e1' _ y r hy hr
    | succ n ih =>
      intro x y acc r hx hy hl hr
      have := rowL_len p (y : Int) acc x
      exact e1 _ y x r hy (by omega) (by omega) (ih (x + 1) y acc r (by omega) hy hl hr)
  have outer : ∀ (n y : Nat), y + n = h → Ev (fun k => L0 k (cellsL p w y) (y : Int)) (cellsL p w h) := by
    intro n
    induction n with
    | zero =>
      intro y hy
      obtain rfl : y = h := by omega
      exact e0' _
    | succ n ih =>
      intro y hy
      have h1 := cellsL_len p w y
      have h2 : w * y ≤ 10 * 10 := Nat.mul_le_mul hw (by omega)
      exact e0 _ y _ (by omega) (inner w 0 y _ _ (by omega) (by omega) (by omega) (ih (y + 1) (by omega)))
  exact outer h 0 (by omega)
theorem i8_wnat (x : Nat) (h : x < 10) : IntKind.i8.wrap ((x : Int) + 1) = ((x + 1 : Nat) : Int) := by
  have := i8_small (x + 1) (by omega)
  rw [← this]
  congr 1
theorem All_s (s0 s1 : Int) (W : LA 10) (hb : ∀ i, 0 ≤ rd W.l i ∧ rd W.l i < 65536) (w h : Nat) (hw : w ≤ 10) (hh : h ≤ 10) (e0 : s0 = w) (e1 : s1 = h) : Ev (fun k => spec_l01All.f k s0 s1 W) (cellsL (fr W.l) w h) := by
  show Ev (fun k => spec_l01All.l0 k [] 0 s0 s1 W) _
  refine Ev.cells (fr W.l) w h hw hh (fun k acc y => spec_l01All.l0 k acc y s0 s1 W) (fun k acc y x => spec_l01All.l1 k acc y x s0 s1 W) ?_ ?_ ?_ ?_
  · intro acc y r hy hr
    refine Ev.succ ?_
    simp only [spec_l01All.l0]
    exact Ev.pos (by omega) hr
  · intro acc
    refine Ev.succ ?_
    simp only [spec_l01All.l0]
    exact Ev.neg (by omega) (Ev.now acc)
  · intro acc y x r hy hx hl hr
    refine Ev.succ ?_
    simp only [spec_l01All.l1]
    refine Ev.pos (by omega) ?_
    rw [Free_s s0 s1 W hb (by omega) (by omega) x y (by omega) (by omega), i8_wnat x (by omega)]
    simp only [Option.bind_some]
    cases hc : fr W.l (x : Int) (y : Int) with
    | true =>
      rw [hc] at hr
      simp only [if_true] at hr ⊢
      exact Ev.pos (by omega) hr
    | false =>
      rw [hc] at hr
      simp only [Bool.false_eq_true, if_false] at hr ⊢
      exact hr
  · intro acc y r hy hr
    refine Ev.succ ?_
    simp only [spec_l01All.l1]
    rw [i8_wnat y (by omega)]
    exact Ev.neg (by omega) hr
def isC (s0 s1 x y : Int) : Bool := inC x 0 (s0 - 1) && inC y 0 (s1 - 1)
theorem Is_s (s0 s1 : Int) (W : LA 10) (h0 : 1 ≤ s0 ∧ s0 ≤ 10) (h1 : 1 ≤ s1 ∧ s1 ≤ 10) (x y : Int) (hx : -128 ≤ x ∧ x ≤ 127) (hy : -128 ≤ y ∧ y ≤ 127) : spec_l01Is.f s0 s1 W x y = some (isC s0 s1 x y) := by
  unfold spec_l01Is.f isC
  rw [wint s0 (by omega) (by omega), wint s1 (by omega) (by omega), wint x (by omega) (by omega), wint y (by omega) (by omega), wint (s0 - 1) (by omega) (by omega), wint (s1 - 1) (by omega) (by omega), In_c, In_c]
  simp only [Option.bind_some]
  cases inC x 0 (s0 - 1) <;> simp
theorem Is_i (s0 s1 : Int) (W : LA 10) (h0 : 1 ≤ s0 ∧ s0 ≤ 10) (h1 : 1 ≤ s1 ∧ s1 ≤ 10) (x y : Int) (hx : -128 ≤ x ∧ x ≤ 127) (hy : -128 ≤ y ∧ y ≤ 127) : impl_Room_isCell.f s0 s1 W x y = some (isC s0 s1 x y) := by
  unfold impl_Room_isCell.f isC
  rw [wint s0 (by omega) (by omega), wint s1 (by omega) (by omega), wint x (by omega) (by omega), wint y (by omega) (by omega), mn_small h0.2, mn_small h1.2, wint (s0 - 1) (by omega) (by omega), wint (s1 - 1) (by omega) (by omega), Within_c, Within_c]
  simp only [Option.bind_some]
  cases inC x 0 (s0 - 1) <;> simp
def RB (s0 s1 : Int) (W : LA 10) : Prop := (-128 ≤ s0 ∧ s0 ≤ 127) ∧ (-128 ≤ s1 ∧ s1 ≤ 127) ∧ ∀ i, 0 ≤ rd W.l i ∧ rd W.l i < 65536
theorem rb_mk {s0 s1 : Int} {W : LA 10} (w0 : (Lit.int .i8 s0).wf = true) (w1 : (Lit.int .i8 s1).wf = true) (h : ∀ x ∈ W.l, (Lit.int .u16 x).wf = true) : RB s0 s1 W := ⟨wf_i8 w0, wf_i8 w1, rd_bound _ fun x hx => wf_u16 (h x hx)⟩
def SB (q : S34) : Prop := (-128 ≤ q.f0 ∧ q.f0 ≤ 127) ∧ (-128 ≤ q.f1 ∧ q.f1 ≤ 127)
end Go.Proofs.Ytoiiabnnddlcbaa.Q
end
section
namespace Go.Proofs.Ytoiiabnnddlcbaa.Q
open Go.RowKit Go.Proofs.YtoiiabnnddlcbaaW.PrintWords Go.Proofs.YtoiiabnnddlcbaaW.PrintLast Go.Proofs.YtoiiabnnddlcbaaW.PrintMore Go.Proofs.Ytoiiabnnddlcbaa.La Go.Proofs.Ytoiiabnnddlcbaa.PB
set_option linter.unusedVariables false
set_option linter.unusedSimpArgs false
theorem Ev.find_idx (L : Nat → Int → Option Int) (p : Nat → Bool) (n : Nat) (hyes : ∀ i : Nat, i < n → p i = true → Ev (fun k => L k (i : Int)) (i : Int))
    (hno : ∀ i : Nat, i < n → p i = false → ∀ r, Ev (fun k => L k ((i + 1 : Nat) : Int)) r → Ev (fun k => L k (i : Int)) r) (hend : Ev (fun k => L k (n : Int)) (-1)) :
    ∃ r : Int, Ev (fun k => L k 0) r ∧ decide (r ≥ 0) = (List.range n).any p := by
  have key : ∀ (m i : Nat), i + m = n → (∀ j, j < i → p j = false) → ∃ r : Int, Ev (fun k => L k (i : Int)) r ∧ decide (r ≥ 0) = (List.range n).any p := by
    intro m
    induction m with
    | zero =>
      intro i hi hf
      obtain rfl : i = n := by omega
      refine ⟨-1, hend, ?_⟩
      rw [show ((List.range i).any p) = false from ?_]
      · rfl
      · rw [List.any_eq_false]
        intro j hj
        rw [hf j (by simpa using hj)]
        exact Bool.false_ne_true
    | succ m ih =>
      intro i hi hf
      cases hp : p i with
      | true =>
        refine ⟨(i : Int), hyes i (by omega) hp, ?_⟩
        rw [show ((List.range n).any p) = true from List.any_eq_true.2 ⟨i, by simp; omega, hp⟩]
        exact decide_eq_true (by omega)
      | false =>
        obtain ⟨r, hr, hd⟩ := ih (i + 1) (by omega) (fun j hj => by
          by_cases e : j = i
          · subst e; exact hp
          · exact hf j (by omega))
        exact ⟨r, hno i (by omega) hp r hr, hd⟩
  exact key n 0 (by omega) (fun j hj => by omega)
theorem any_range {α : Type} (l : List α) (z : α) (f : α → Bool) : (List.range l.length).any (fun i => f (l.getD i z)) = l.any f := by
  rw [Bool.eq_iff_iff, List.any_eq_true, List.any_eq_true]
  constructor
  · rintro ⟨i, hi, hf⟩
    have hi' : i < l.length := by simpa using hi
    exact ⟨_, getD_mem l i z hi', hf⟩
  · rintro ⟨x, hx, hf⟩
    obtain ⟨i, hi, rfl⟩ := List.getElem_of_mem hx
    exact ⟨i, by simpa using hi, by rw [List.getD_eq_getElem?_getD, List.getElem?_eq_getElem hi]; exact hf⟩
theorem rdS_get (l : List S34) (i : Nat) : rd_T34 l (i : Int) = l.getD i z34 := by simp [rd_T34]
theorem Unless_c (b : Bool) (c : Int) : impl_unless.f b c = some (if b then 0 else c) := by
  unfold impl_unless.f
  cases b <;> rfl
def allCell (s0 s1 : Int) (l : List S34) : Bool := !(l.any fun q => !isC s0 s1 q.f0 q.f1)
theorem NoCell_ev (s0 s1 : Int) (W : LA 10) (h0 : 1 ≤ s0 ∧ s0 ≤ 10) (h1 : 1 ≤ s1 ∧ s1 ≤ 10) (l : List S34) (hl : l.length ≤ 1073741824) (hs : ∀ q ∈ l, SB q) :
    Ev (fun k => impl_Spot_105__106.f k l s0 s1 W) (l.any fun q => !isC s0 s1 q.f0 q.f1) := by
  unfold impl_Spot_105__106.f impl_Spot_120__106.f
  obtain ⟨r, hr, hd⟩ := Ev.find_idx (fun k i => impl_Spot_120__106.l0 k l (l.length : Int) i s0 s1 W) (fun i => !isC s0 s1 (l.getD i z34).f0 (l.getD i z34).f1) l.length
    (fun i hi hp => by
      have hm := hs _ (getD_mem l i z34 hi)
      refine Ev.succ ?_
      simp only [impl_Spot_120__106.l0, impl_cellCode_1.f]
      rw [rdS_get, Is_i s0 s1 W h0 h1 _ _ hm.1 hm.2]
      simp only [Option.bind_some]
      exact Ev.pos (by omega) (Ev.pos (by omega) (Ev.pos (by omega) (Ev.pos hp (Ev.now _)))))
    (fun i hi hp r hr => by
      have hm := hs _ (getD_mem l i z34 hi)
      refine Ev.succ ?_
      simp only [impl_Spot_120__106.l0, impl_cellCode_1.f]
      rw [rdS_get, Is_i s0 s1 W h0 h1 _ _ hm.1 hm.2, wnat i l.length hi (by omega)]
      simp only [Option.bind_some]
      exact Ev.pos (by omega) (Ev.pos (by omega) (Ev.pos (by omega) (Ev.neg (by rw [hp]; exact Bool.false_ne_true) hr))))
    (by
      refine Ev.succ ?_
      simp only [impl_Spot_120__106.l0]
      exact Ev.neg (by omega) (Ev.now _))
  rw [any_range l z34 (fun q => !isC s0 s1 q.f0 q.f1)] at hd
  exact Ev.bind hr (by rw [hd]; exact Ev.now _)
theorem CellCode_bad (s0 s1 : Int) (W : LA 10) (l : List S34) (hv : Ev (fun k => impl_ValidRoom.f k s0 s1 W) false) : Ev (fun k => impl_cellCode.f k s0 s1 W l) 1 := by
  unfold impl_cellCode.f
  exact Ev.bind hv (Ev.neg (by simp) (Ev.now _))
theorem CellCode_ev (s0 s1 : Int) (W : LA 10) (hv : Ev (fun k => impl_ValidRoom.f k s0 s1 W) true) (h0 : 1 ≤ s0 ∧ s0 ≤ 10) (h1 : 1 ≤ s1 ∧ s1 ≤ 10) (l : List S34) (hl : l.length ≤ 1073741824) (hs : ∀ q ∈ l, SB q) :
    Ev (fun k => impl_cellCode.f k s0 s1 W l) (if allCell s0 s1 l then 0 else 2) := by
  unfold impl_cellCode.f
  refine Ev.bind hv (Ev.pos rfl (Ev.bind (NoCell_ev s0 s1 W h0 h1 l hl hs) ?_))
  rw [Unless_c]
  exact Ev.now _
def RRe (f : Nat → Bool) (e : Bool) : Nat → Nat → Bool
  | 0, _ => e
  | n + 1, i => f i && RRe f e n (i + 1)
theorem RRe_and (f : Nat → Bool) (e : Bool) : ∀ n i, RRe f e n i = (RRe f true n i && e)
  | 0, _ => by simp [RRe]
  | n + 1, i => by rw [RRe, RRe, RRe_and f e n (i + 1), Bool.and_assoc]
theorem RRe_congr {f g : Nat → Bool} (e : Bool) : ∀ n i, (∀ j, i ≤ j → j < i + n → f j = g j) → RRe f e n i = RRe g e n i
  | 0, _, _ => rfl
  | n + 1, i, h => by rw [RRe, RRe, h i (by omega) (by omega), RRe_congr e n (i + 1) (fun j h1 h2 => h j (by omega) (by omega))]
theorem RRe_true (f : Nat → Bool) : ∀ n i, RRe f true n i = true ↔ ∀ j, i ≤ j → j < i + n → f j = true
  | 0, i => ⟨fun _ j h1 h2 => by omega, fun _ => rfl⟩
  | n + 1, i => by
    rw [RRe, Bool.and_eq_true, RRe_true f n (i + 1)]
    exact ⟨fun ⟨h1, h2⟩ j h3 h4 => by
      by_cases e : j = i
      · subst e; exact h1
      · exact h2 j (by omega) (by omega), fun h => ⟨h i (by omega) (by omega), fun j h1 h2 => h j (by omega) (by omega)⟩⟩
theorem Ev.loopB (L : Nat → Int → Option Bool) (f : Nat → Bool) (e : Bool) (N : Nat) (hstep : ∀ i : Nat, i < N → ∀ r, Ev (fun k => L k ((i + 1 : Nat) : Int)) r → Ev (fun k => L k (i : Int)) (f i && r)) (hend : Ev (fun k => L k (N : Int)) e) : Ev (fun k => L k 0) (RRe f e N 0) := by
  have key : ∀ n i : Nat, i + n = N → Ev (fun k => L k (i : Int)) (RRe f e n i) := by
    intro n
    induction n with
    | zero =>
      intro i hi
      obtain rfl : i = N := (by omega)
      exact hend
    | succ n ih => intro i hi; exact hstep i (by omega) _ (ih (i + 1) (by omega))
  exact key N 0 (by omega)
end Go.Proofs.Ytoiiabnnddlcbaa.Q
end
section
namespace Go.Proofs.Ytoiiabnnddlcbaa.Q
open Go.RowKit Go.Proofs.YtoiiabnnddlcbaaW.PrintWords Go.Proofs.YtoiiabnnddlcbaaW.PrintLast Go.Proofs.YtoiiabnnddlcbaaW.PrintMore Go.Proofs.Ytoiiabnnddlcbaa.La Go.Proofs.Ytoiiabnnddlcbaa.PB
set_option linter.unusedVariables false
set_option linter.unusedSimpArgs false
theorem sg_pos {n : Int} (h : 0 < n) : soundSg n = 1 := by
  unfold soundSg mx mn
  (repeat' split) <;> omega
theorem sg_neg {n : Int} (h : n < 0) : soundSg n = -1 := by
  unfold soundSg mx mn
  (repeat' split) <;> omega
theorem mx_abs (n : Int) : mx n (-n) = if n < 0 then -n else n := by
  unfold mx
  (repeat' split) <;> omega
theorem Max_abs (n : Int) (h0 : -1000 ≤ n) (h1 : n ≤ 1000) : spec_l06Size.f n = some (mx n (-n)) := by
  unfold spec_l06Size.f spec_l00Max.f mx
  rw [wint (-n) (by omega) (by omega)]
  (repeat' split) <;> first | rfl | omega | (simp only [Option.bind_some]; congr 1; omega)
def soundJ (x y h v : Int) : Int :=
  if 2 * v > 5 * h then (if y < 0 then 0 else 4) else if 2 * h > 5 * v then (if x > 0 then 2 else 6) else if x > 0 then (if y < 0 then 1 else 3) else if y > 0 then 5 else 7
theorem sound_ev (x y h v : Int) (h0 : 0 ≤ h) (h1 : h ≤ 1000) (v0 : 0 ≤ v) (v1 : v ≤ 1000) : ∀ b : Bool, Ev (fun k => spec_l06Sound.j0 k x y h v b) (if b = true then 8 else soundJ x y h v) := by
  have e1 : wrap64 (2 * v) = 2 * v := wint _ (by omega) (by omega)
  have e2 : wrap64 (5 * h) = 5 * h := wint _ (by omega) (by omega)
  have e3 : wrap64 (2 * h) = 2 * h := wint _ (by omega) (by omega)
  have e4 : wrap64 (5 * v) = 5 * v := wint _ (by omega) (by omega)
  intro b
  refine Ev.succ ?_
  simp only [spec_l06Sound.j0, e1, e2]
  cases b with
  | true => simpa using Ev.now (8 : Int)
  | false =>
    simp only [Bool.false_eq_true, if_false, soundJ]
    by_cases c1 : 2 * v > 5 * h
    · rw [if_pos c1]
      refine Ev.pos c1 (Ev.succ ?_)
      simp only [spec_l06Sound.j1, e1, e2, e3, e4]
      by_cases y1 : y < 0
      · rw [if_pos y1]; exact Ev.pos (by simpa using y1) (Ev.now _)
      · rw [if_neg y1]; exact Ev.neg (by simpa using y1) (Ev.pos c1 (Ev.now _))
    · rw [if_neg c1]
      refine Ev.neg c1 (Ev.succ ?_)
      simp only [spec_l06Sound.j1, e1, e2, e3, e4]
      refine Ev.neg (by simp) (Ev.neg c1 ?_)
      by_cases c2 : 2 * h > 5 * v
      · rw [if_pos c2]
        refine Ev.pos c2 (Ev.succ ?_)
        simp only [spec_l06Sound.j2, e3, e4]
        by_cases x1 : x > 0
        · rw [if_pos x1]; exact Ev.pos (by simpa using x1) (Ev.now _)
        · rw [if_neg x1]; exact Ev.neg (by simpa using x1) (Ev.pos c2 (Ev.now _))
      · rw [if_neg c2]
        refine Ev.neg c2 (Ev.succ ?_)
        simp only [spec_l06Sound.j2, e3, e4]
        refine Ev.neg (by simp) (Ev.neg c2 ?_)
        by_cases x1 : x > 0
        · rw [if_pos x1]
          refine Ev.pos x1 (Ev.succ ?_)
          simp only [spec_l06Sound.j3]
          by_cases y1 : y < 0
          · rw [if_pos y1]; exact Ev.pos (by simpa using y1) (Ev.now _)
          · rw [if_neg y1]; exact Ev.neg (by simpa using y1) (Ev.pos x1 (Ev.now _))
        · rw [if_neg x1]
          refine Ev.neg x1 (Ev.succ ?_)
          simp only [spec_l06Sound.j3]
          refine Ev.neg (by simp) (Ev.neg x1 ?_)
          by_cases y1 : y > 0
          · rw [if_pos y1, if_pos y1]; exact Ev.now _
          · rw [if_neg y1, if_neg y1]; exact Ev.now _
theorem sound_tab (x y h v : Int) (hh : h = if x < 0 then -x else x) (hv : v = if y < 0 then -y else y) :
    soundTab (soundSg (if 2 * h > 5 * v then 0 else y)) (soundSg (if 2 * v > 5 * h then 0 else x)) = if (h == 0 && v == 0) = true then 8 else soundJ x y h v := by
  have s0 : soundSg 0 = 0 := by decide
  rcases Int.lt_trichotomy x 0 with hx | rfl | hx <;> rcases Int.lt_trichotomy y 0 with hy | rfl | hy
  all_goals (first | rw [if_pos hx] at hh | rw [if_neg (by omega)] at hh)
  all_goals (first | rw [if_pos hy] at hv | rw [if_neg (by omega)] at hv)
  all_goals (have hz : ((h == 0 && v == 0) = true) ↔ (h = 0 ∧ v = 0) := by simp)
  all_goals by_cases c1 : 2 * v > 5 * h <;> by_cases c2 : 2 * h > 5 * v
  all_goals (first | (exfalso; omega) | skip)
  all_goals (unfold soundJ; simp only [c1, c2, if_true, if_false, hz, s0])
  all_goals (try rw [sg_pos hx]) 
  all_goals (try rw [sg_neg hx])
  all_goals (try rw [sg_pos hy])
  all_goals (try rw [sg_neg hy])
  all_goals (first | rw [if_pos (by omega)] | rw [if_neg (by omega)])
  all_goals (repeat' split) <;> first | rfl | omega
def sndC (a0_0 a0_1 a1_0 a1_1 : Int) : Int := if (mx (a1_0 - a0_0) (-(a1_0 - a0_0)) == 0 && mx (a1_1 - a0_1) (-(a1_1 - a0_1)) == 0) = true then 8 else soundJ (a1_0 - a0_0) (a1_1 - a0_1) (mx (a1_0 - a0_0) (-(a1_0 - a0_0))) (mx (a1_1 - a0_1) (-(a1_1 - a0_1)))
theorem Sound_both (a0_0 a0_1 a1_0 a1_1 : Int) (b0 : -128 ≤ a0_0 ∧ a0_0 ≤ 127) (b1 : -128 ≤ a0_1 ∧ a0_1 ≤ 127) (b2 : -128 ≤ a1_0 ∧ a1_0 ≤ 127) (b3 : -128 ≤ a1_1 ∧ a1_1 ≤ 127) :
    Ev (fun k => spec_l06Sound.f k a0_0 a0_1 a1_0 a1_1) (sndC a0_0 a0_1 a1_0 a1_1) ∧ impl_SoundFrom.f a0_0 a0_1 a1_0 a1_1 = some (sndC a0_0 a0_1 a1_0 a1_1) := by
  unfold sndC
  have ex : wrap64 (wrap64 a1_0 - wrap64 a0_0) = a1_0 - a0_0 := by rw [wint a1_0 (by omega) (by omega), wint a0_0 (by omega) (by omega)]; exact wint _ (by omega) (by omega)
  have ey : wrap64 (wrap64 a1_1 - wrap64 a0_1) = a1_1 - a0_1 := by rw [wint a1_1 (by omega) (by omega), wint a0_1 (by omega) (by omega)]; exact wint _ (by omega) (by omega)
  generalize hx : a1_0 - a0_0 = x at ex
  generalize hy : a1_1 - a0_1 = y at ey
  have hxb : -255 ≤ x ∧ x ≤ 255 := by omega
  have hyb : -255 ≤ y ∧ y ≤ 255 := by omega
  have hh := mx_abs x
  have hv := mx_abs y
  generalize hhh : mx x (-x) = h at hh
  generalize hvv : mx y (-y) = v at hv
  have hhb : 0 ≤ h ∧ h ≤ 255 := by rw [hh]; split <;> omega
  have hvb : 0 ≤ v ∧ v ≤ 255 := by rw [hv]; split <;> omega
  have hi : impl_SoundFrom.f a0_0 a0_1 a1_0 a1_1 = some (if (h == 0 && v == 0) = true then 8 else soundJ x y h v) := by
    unfold impl_SoundFrom.f
    rw [ex, ey, wint (-x) (by omega) (by omega), wint (-y) (by omega) (by omega), hhh, hvv, wint (2 * v) (by omega) (by omega), wint (5 * h) (by omega) (by omega), wint (2 * h) (by omega) (by omega), wint (5 * v) (by omega) (by omega), sound_tab x y h v hh hv]
  refine ⟨?_, hi⟩
  unfold spec_l06Sound.f
  have m1 : spec_l06Size.f (wrap64 (wrap64 a1_0 - wrap64 a0_0)) = some h := by rw [ex, Max_abs x (by omega) (by omega), hhh]
  have m2 : spec_l06Size.f (wrap64 (wrap64 a1_1 - wrap64 a0_1)) = some v := by rw [ey, Max_abs y (by omega) (by omega), hvv]
  refine Ev.bind (Ev.const m1) (Ev.bind (Ev.const m2) ?_)
  rw [ex, ey]
  by_cases c : h = 0
  · refine Ev.pos c (Ev.eq (sound_ev x y h v hhb.1 (by omega) hvb.1 (by omega) (v == 0)) ?_)
    simp [c]
  · refine Ev.neg c (Ev.eq (sound_ev x y h v hhb.1 (by omega) hvb.1 (by omega) false) ?_)
    simp [c]
end Go.Proofs.Ytoiiabnnddlcbaa.Q
end
section
namespace Go.Proofs.Ytoiiabnnddlcbaa.Q
open Go.RowKit Go.Proofs.YtoiiabnnddlcbaaW.PrintWords Go.Proofs.YtoiiabnnddlcbaaW.PrintLast Go.Proofs.YtoiiabnnddlcbaaW.PrintMore Go.Proofs.Ytoiiabnnddlcbaa.La Go.Proofs.Ytoiiabnnddlcbaa.PB
set_option linter.unusedVariables false
set_option linter.unusedSimpArgs false
def hears (l1 : List S34) (l2 : List Int) (x y : Int) (j : Nat) : Bool := sndC x y (l1.getD j z34).f0 (l1.getD j z34).f1 == rd l2 (j : Int)
def heardB (l1 : List S34) (l2 : List Int) (q : S34) : Bool := RRe (hears l1 l2 q.f0 q.f1) true l1.length 0
def loudB (l2 : List Int) : Bool := RRe (fun i => inC (rd l2 (i : Int)) 0 8) true l2.length 0
theorem Cells_s (s0 s1 : Int) (W : LA 10) (h0 : 1 ≤ s0 ∧ s0 ≤ 10) (h1 : 1 ≤ s1 ∧ s1 ≤ 10) (l : List S34) (hl : l.length ≤ 1073741824) (hs : ∀ q ∈ l, SB q) : Ev (fun k => spec_l03Cells.f k s0 s1 W l) (allCell s0 s1 l) := by
  unfold spec_l03Cells.f
  have key : ∀ (n i : Nat), i + n = l.length → Ev (fun k => spec_l03Cells.l0 k l (i : Int) s0 s1 W) (allCell s0 s1 (l.drop i)) := by
    intro n
    induction n with
    | zero =>
      intro i hi
      obtain rfl : i = l.length := by omega
      rw [List.drop_length]
      refine Ev.succ ?_
      simp only [spec_l03Cells.l0]
      exact Ev.neg (by omega) (Ev.now _)
    | succ n ih =>
      intro i hi
      have hil : i < l.length := by omega
      have hm := hs _ (getD_mem l i z34 hil)
      refine Ev.succ ?_
      simp only [spec_l03Cells.l0]
      refine Ev.pos (by omega) (Ev.pos (by omega) ?_)
      rw [rdS_get, Is_s s0 s1 W h0 h1 _ _ hm.1 hm.2, wnat i l.length hil (by omega), drop_get l i z34 hil]
      simp only [Option.bind_some]
      cases hc : isC s0 s1 (l.getD i z34).f0 (l.getD i z34).f1 with
      | true =>
        refine Ev.pos rfl (Ev.eq (ih (i + 1) (by omega)) ?_)
        unfold allCell
        rw [List.any_cons, hc]
        rfl
      | false =>
        refine Ev.neg (by simp) (Ev.eq (Ev.now false) ?_)
        unfold allCell
        rw [List.any_cons, hc]
        rfl
  exact key l.length 0 (by omega)
theorem Loud_i (l : List Int) (hl : l.length ≤ 1073741824) : Ev (fun k => slices_ContainsFunc_int64_int64__60.f k l) (!loudB l) := by
  unfold slices_ContainsFunc_int64_int64__60.f slices_IndexFunc_int64_int64__60.f
  obtain ⟨r, hr, hd⟩ := Ev.find_idx (fun k i => slices_IndexFunc_int64_int64__60.l0 k l (l.length : Int) i) (fun i => !inC (rd l (i : Int)) 0 8) l.length
    (fun i hi hp => by
      refine Ev.succ ?_
      simp only [slices_IndexFunc_int64_int64__60.l0, impl_HearingAll_1.f]
      rw [Within_c]
      simp only [Option.bind_some]
      exact Ev.pos (by omega) (Ev.pos (by omega) (Ev.pos (by omega) (Ev.pos hp (Ev.now _)))))
    (fun i hi hp r hr => by
      refine Ev.succ ?_
      simp only [slices_IndexFunc_int64_int64__60.l0, impl_HearingAll_1.f]
      rw [Within_c, wnat i l.length hi (by omega)]
      simp only [Option.bind_some]
      exact Ev.pos (by omega) (Ev.pos (by omega) (Ev.pos (by omega) (Ev.neg (by rw [hp]; exact Bool.false_ne_true) hr))))
    (by
      refine Ev.succ ?_
      simp only [slices_IndexFunc_int64_int64__60.l0]
      exact Ev.neg (by omega) (Ev.now _))
  refine Ev.bind hr ?_
  rw [hd]
  refine Ev.eq (Ev.now _) ?_
  unfold loudB
  rw [Bool.eq_iff_iff, List.any_eq_true]
  have := RRe_true (fun i => inC (rd l (i : Int)) 0 8) l.length 0
  cases hb : RRe (fun i => inC (rd l (i : Int)) 0 8) true l.length 0 with
  | true =>
    have h2 := this.1 hb
    constructor
    · rintro ⟨i, hi, hp⟩
      rw [h2 i (by omega) (by have := List.mem_range.1 hi; omega)] at hp
      exact absurd hp (by decide)
    · intro h; exact absurd h (by decide)
  | false =>
    constructor
    · intro _; rfl
    · intro _
      refine Classical.byContradiction fun hn => ?_
      have h3 : RRe (fun i => inC (rd l (i : Int)) 0 8) true l.length 0 = true := this.2 (fun j _ hj => by
        cases hc : inC (rd l (j : Int)) 0 8 with
        | true => rfl
        | false => exact absurd ⟨j, List.mem_range.2 (by omega), by rw [hc]; rfl⟩ hn)
      rw [h3] at hb
      cases hb
theorem Loud_s (l1 l2 : List _) (x8 : List S34) (s0 s1 : Int) (W : LA 10) (hl : l2.length ≤ 1073741824) (r : List S34 × Int) :
    ∀ (n i : Nat) (b : Bool), i + n = l2.length → Ev (fun k => spec_HearingAll.l0 k l1 l2 x8 (b && RRe (fun i => inC (rd l2 (i : Int)) 0 8) true n i) (l2.length : Int) s0 s1 W) r → Ev (fun k => spec_HearingAll.l0 k l1 l2 x8 b (i : Int) s0 s1 W) r := by
  intro n
  induction n with
  | zero =>
    intro i b hi h
    obtain rfl : i = l2.length := by omega
    rw [RRe, Bool.and_true] at h
    exact h
  | succ n ih =>
    intro i b hi h
    refine Ev.succ ?_
    simp only [spec_HearingAll.l0]
    refine Ev.pos (by omega) ?_
    rw [In_c, wnat i l2.length (by omega) (by omega)]
    simp only [Option.bind_some]
    cases b with
    | true =>
      refine Ev.pos rfl (Ev.pos (by omega) (ih (i + 1) _ (by omega) ?_))
      rw [RRe, Bool.true_and] at h
      exact h
    | false =>
      refine Ev.neg (by simp) (ih (i + 1) false (by omega) ?_)
      rw [Bool.false_and] at h ⊢
      exact h
theorem Inner_s (l1 : List S34) (l2 : List Int) (x8 F : List S34) (i : Nat) (hi : i < F.length) (hF : F.length ≤ 1000) (hl : l1.length ≤ 1073741824) (he : l1.length = l2.length) (hq : SB (F.getD i z34)) (hs : ∀ q ∈ l1, SB q) (r : List S34 × Int) :
    ∀ (n j : Nat) (b : Bool), j + n = l1.length → Ev (fun k => spec_HearingAll.l2 k l1 l2 x8 F (i : Int) (b && RRe (hears l1 l2 (F.getD i z34).f0 (F.getD i z34).f1) true n j) (l1.length : Int)) r → Ev (fun k => spec_HearingAll.l2 k l1 l2 x8 F (i : Int) b (j : Int)) r := by
  intro n
  induction n with
  | zero =>
    intro j b hj h
    obtain rfl : j = l1.length := by omega
    rw [RRe, Bool.and_true] at h
    exact h
  | succ n ih =>
    intro j b hj h
    have hm := hs _ (getD_mem l1 j z34 (by omega))
    refine Ev.succ ?_
    simp only [spec_HearingAll.l2]
    refine Ev.pos (by omega) ?_
    rw [wnat j l1.length (by omega) (by omega)]
    cases b with
    | true =>
      refine Ev.pos rfl (Ev.pos (by omega) (Ev.pos (by omega) (Ev.pos (by omega) ?_)))
      rw [rdS_get, rdS_get]
      refine Ev.bind (Sound_both _ _ _ _ hq.1 hq.2 hm.1 hm.2).1 (Ev.pos (by omega) (ih (j + 1) _ (by omega) ?_))
      rw [RRe, Bool.true_and] at h
      exact h
    | false =>
      refine Ev.neg (by simp) (ih (j + 1) false (by omega) ?_)
      rw [Bool.false_and] at h ⊢
      exact h
theorem Outer_s (l1 : List S34) (l2 : List Int) (F : List S34) (hF : F.length ≤ 1000) (hl : l1.length ≤ 1073741824) (he : l1.length = l2.length) (hq : ∀ q ∈ F, SB q) (hs : ∀ q ∈ l1, SB q) :
    ∀ (n i : Nat) (A : List S34), i + n = F.length → A.length ≤ i → Ev (fun k => spec_HearingAll.l1 k l1 l2 A F (i : Int)) (A ++ (F.drop i).filter (heardB l1 l2), 0) := by
  intro n
  induction n with
  | zero =>
    intro i A hi hA
    obtain rfl : i = F.length := by omega
    rw [List.drop_length, List.filter_nil, List.append_nil]
    refine Ev.succ ?_
    simp only [spec_HearingAll.l1]
    exact Ev.neg (by omega) (Ev.now _)
  | succ n ih =>
    intro i A hi hA
    have hiF : i < F.length := by omega
    refine Ev.succ ?_
    simp only [spec_HearingAll.l1]
    refine Ev.pos (by omega) (Inner_s l1 l2 A F i hiF hF hl he (hq _ (getD_mem F i z34 hiF)) hs _ l1.length 0 true (by omega) ?_)
    rw [Bool.true_and, drop_get F i z34 hiF, List.filter_cons]
    have hb : RRe (hears l1 l2 (F.getD i z34).f0 (F.getD i z34).f1) true l1.length 0 = heardB l1 l2 (F.getD i z34) := rfl
    rw [hb]
    refine Ev.succ ?_
    simp only [spec_HearingAll.l2]
    refine Ev.neg (by omega) ?_
    rw [rdS_get, wnat i F.length hiF (by omega)]
    cases heardB l1 l2 (F.getD i z34) with
    | true =>
      refine Ev.pos rfl (Ev.pos (by omega) (Ev.pos (by omega) (Ev.pos (by omega) ?_)))
      refine Ev.eq (ih (i + 1) (A ++ [F.getD i z34]) (by omega) (by rw [List.length_append]; simp only [List.length_cons, List.length_nil]; omega)) ?_
      simp
    | false =>
      refine Ev.neg (by simp) ?_
      refine Ev.eq (ih (i + 1) A (by omega) (by omega)) ?_
      simp
theorem rowL_filter (p : Int → Int → Bool) (b : S34 → Bool) (y : Int) (acc : List S34) : ∀ x, (rowL p y acc x).filter b = rowL (fun x y => b ⟨x, y⟩ && p x y) y (acc.filter b) x
  | 0 => rfl
  | x + 1 => by
    have ih := rowL_filter p b y acc x
    rw [rowL, rowL]
    cases hp : p (x : Int) y with
    | false => simp [ih]
    | true =>
      cases hb : b ⟨(x : Int), y⟩ with
      | false => simp [List.filter_append, ih, hb]
      | true => simp [List.filter_append, ih, hb]
theorem cellsL_filter (p : Int → Int → Bool) (b : S34 → Bool) (w : Nat) : ∀ h, (cellsL p w h).filter b = cellsL (fun x y => b ⟨x, y⟩ && p x y) w h
  | 0 => rfl
  | h + 1 => by rw [cellsL, cellsL, rowL_filter, cellsL_filter p b w h]
theorem Clo_h (s0 s1 : Int) (W : LA 10) (hb : ∀ i, 0 ≤ rd W.l i ∧ rd W.l i < 65536) (w h : Nat) (hw : w ≤ 10) (hh : h ≤ 10) (e0 : s0 = w) (e1 : s1 = h) (l1 : List S34) (l2 : List Int) (hl : l1.length ≤ 1073741824) (he : l1.length = l2.length) (hs : ∀ q ∈ l1, SB q) (x y : Nat) (hx : x < w) (hy : y < h) :
    Ev (fun k => impl_HearingAll_2.f k (x : Int) (y : Int) l1 l2 s0 s1 W) (heardB l1 l2 ⟨(x : Int), (y : Int)⟩ && fr W.l (x : Int) (y : Int)) := by
  unfold impl_HearingAll_2.f heardB
  rw [← RRe_and]
  refine Ev.loopB (fun k i => impl_HearingAll_2.l0 k l1 (l1.length : Int) i l2 s0 s1 W (x : Int) (y : Int)) _ _ l1.length (fun j hj r hr => ?_) ?_
  · have hm := hs _ (getD_mem l1 j z34 hj)
    refine Ev.succ ?_
    simp only [impl_HearingAll_2.l0]
    refine Ev.pos (by omega) (Ev.pos (by omega) (Ev.pos (by omega) ?_))
    rw [rdS_get, (Sound_both (x : Int) (y : Int) _ _ (by omega) (by omega) hm.1 hm.2).2, wnat j l1.length hj (by omega)]
    simp only [Option.bind_some]
    refine Ev.pos (by omega) ?_
    have hhe : hears l1 l2 (x : Int) (y : Int) j = (sndC (x : Int) (y : Int) (l1.getD j z34).f0 (l1.getD j z34).f1 == rd l2 (j : Int)) := rfl
    by_cases h1 : sndC (x : Int) (y : Int) (l1.getD j z34).f0 (l1.getD j z34).f1 = rd l2 (j : Int)
    · rw [show (hears l1 l2 (x : Int) (y : Int) j) = true by rw [hhe, h1]; simp, Bool.true_and]
      exact Ev.pos h1 hr
    · rw [show (hears l1 l2 (x : Int) (y : Int) j) = false by rw [hhe]; simpa using h1, Bool.false_and]
      exact Ev.neg h1 (Ev.now false)
  · refine Ev.succ ?_
    simp only [impl_HearingAll_2.l0]
    refine Ev.neg (by omega) ?_
    rw [Free_i s0 s1 W hb (by omega) (by omega) x y (by omega) (by omega)]
    exact Ev.now _
theorem Cells_h (s0 s1 : Int) (W : LA 10) (hb : ∀ i, 0 ≤ rd W.l i ∧ rd W.l i < 65536) (w h : Nat) (hw : w ≤ 10) (hh : h ≤ 10) (e0 : s0 = w) (e1 : s1 = h) (l1 : List S34) (l2 : List Int) (hl : l1.length ≤ 1073741824) (he : l1.length = l2.length) (hs : ∀ q ∈ l1, SB q) :
    Ev (fun k => impl_Room_cells__63.f k s0 s1 W l1 l2 s0 s1 W) (cellsL (fun x y => heardB l1 l2 ⟨x, y⟩ && fr W.l x y) w h) := by
  show Ev (fun k => impl_Room_cells__63.l0 k [] s1 0 l1 l2 s0 s1 W s0 s1 W) _
  refine Ev.cells (fun x y => heardB l1 l2 ⟨x, y⟩ && fr W.l x y) w h hw hh (fun k acc y => impl_Room_cells__63.l0 k acc s1 y l1 l2 s0 s1 W s0 s1 W) (fun k acc y x => impl_Room_cells__63.l1 k acc y s1 y s0 x l1 l2 s0 s1 W s0 s1 W) ?_ ?_ ?_ ?_
  · intro acc y r hy hr
    refine Ev.succ ?_
    simp only [impl_Room_cells__63.l0]
    exact Ev.pos (by omega) hr
  · intro acc
    refine Ev.succ ?_
    simp only [impl_Room_cells__63.l0]
    exact Ev.neg (by omega) (Ev.now acc)
  · intro acc y x r hy hx hl2 hr
    refine Ev.succ ?_
    simp only [impl_Room_cells__63.l1]
    refine Ev.pos (by omega) (Ev.bind (Clo_h s0 s1 W hb w h hw hh e0 e1 l1 l2 hl he hs x y hx hy) ?_)
    rw [i8_wnat x (by omega)]
    cases hc : (heardB l1 l2 ⟨(x : Int), (y : Int)⟩ && fr W.l (x : Int) (y : Int)) with
    | true =>
      rw [hc] at hr
      simp only [if_true] at hr ⊢
      exact Ev.pos (by omega) hr
    | false =>
      rw [hc] at hr
      simp only [Bool.false_eq_true, if_false] at hr ⊢
      exact hr
  · intro acc y r hy hr
    refine Ev.succ ?_
    simp only [impl_Room_cells__63.l1]
    rw [i8_wnat y (by omega)]
    exact Ev.neg (by omega) hr
theorem HearingAll_both (s0 s1 : Int) (W : LA 10) (hr : RB s0 s1 W) (l1 : List S34) (l2 : List Int) (hl : l1.length ≤ 1073741824) (hl2 : l2.length ≤ 1073741824) (hs : ∀ q ∈ l1, SB q) :
    ∃ r : List S34 × Int, r.1.length ≤ 1048576 ∧ Ev (fun k => spec_HearingAll.f k s0 s1 W l1 l2) r ∧ Ev (fun k => impl_HearingAll.f k s0 s1 W l1 l2) r := by
  obtain ⟨b, h1, h2, h3⟩ := Ok_both s0 s1 W hr.1 hr.2.1
  cases b with
  | false =>
    refine ⟨([], 1), by simp, ?_, ?_⟩
    · unfold spec_HearingAll.f
      simp only [Option.bind_some]
      exact Ev.bind h1 (Ev.neg (by simp) (Ev.now _))
    · unfold impl_HearingAll.f
      exact Ev.bind (CellCode_bad s0 s1 W l1 h2) (Ev.neg (by omega) (Ev.now _))
  | true =>
    obtain ⟨hw, hh⟩ := h3 rfl
    obtain ⟨w, e0⟩ : ∃ n : Nat, s0 = n := ⟨s0.toNat, by omega⟩
    obtain ⟨h, e1⟩ : ∃ n : Nat, s1 = n := ⟨s1.toNat, by omega⟩
    have hcc := CellCode_ev s0 s1 W h2 hw hh l1 hl hs
    have hcs := Cells_s s0 s1 W hw hh l1 hl hs
    have hlo := Loud_i l2 hl2
    have bad : ∀ b : Bool, (b && loudB l2) = false → Ev (fun k => spec_HearingAll.j0 k l1 l2 [] b s0 s1 W) ([], 2) := by
      intro b hb
      refine Ev.succ ?_
      simp only [spec_HearingAll.j0]
      refine Loud_s l1 l2 [] s0 s1 W hl2 _ l2.length 0 b (by omega) ?_
      rw [show (b && RRe (fun i => inC (rd l2 (i : Int)) 0 8) true l2.length 0) = false from hb]
      refine Ev.succ ?_
      simp only [spec_HearingAll.l0]
      exact Ev.neg (by omega) (Ev.neg (by simp) (Ev.now _))
    by_cases he : l1.length = l2.length
    · cases hc : allCell s0 s1 l1 with
      | false =>
        rw [hc] at hcc hcs
        refine ⟨([], 2), by simp, ?_, ?_⟩
        · unfold spec_HearingAll.f
          simp only [Option.bind_some]
          exact Ev.bind h1 (Ev.pos rfl (Ev.pos (by omega) (Ev.bind hcs (bad false (by simp)))))
        · unfold impl_HearingAll.f
          exact Ev.bind hcc (Ev.neg (by simp) (Ev.now _))
      | true =>
        rw [hc] at hcc hcs
        cases hd : loudB l2 with
        | false =>
          rw [hd] at hlo
          refine ⟨([], 2), by simp, ?_, ?_⟩
          · unfold spec_HearingAll.f
            simp only [Option.bind_some]
            exact Ev.bind h1 (Ev.pos rfl (Ev.pos (by omega) (Ev.bind hcs (bad true (by rw [hd]; rfl)))))
          · unfold impl_HearingAll.f
            exact Ev.bind hcc (Ev.pos rfl (Ev.pos (by omega) (Ev.bind hlo (Ev.pos rfl (Ev.now _)))))
        | true =>
          rw [hd] at hlo
          have ha := All_s s0 s1 W hr.2.2 w h (by omega) (by omega) e0 e1
          have hlen := cellsL_len (fr W.l) w h
          have hlen2 : w * h ≤ 10 * 10 := Nat.mul_le_mul (by omega) (by omega)
          have hm : ∀ q ∈ cellsL (fr W.l) w h, SB q := fun q hq => by
            have := cellsL_mem (fr W.l) w h h (Nat.le_refl _) q hq
            unfold SB
            omega
          have ho := Outer_s l1 l2 (cellsL (fr W.l) w h) (by omega) hl he hm hs (cellsL (fr W.l) w h).length 0 [] (by omega) (by simp)
          rw [List.drop_zero, List.nil_append, cellsL_filter] at ho
          have hlen3 := cellsL_len (fun x y => heardB l1 l2 ⟨x, y⟩ && fr W.l x y) w h
          refine ⟨(cellsL (fun x y => heardB l1 l2 ⟨x, y⟩ && fr W.l x y) w h, 0), by dsimp only; omega, ?_, ?_⟩
          · unfold spec_HearingAll.f
            simp only [Option.bind_some]
            refine Ev.bind h1 (Ev.pos rfl (Ev.pos (by omega) (Ev.bind hcs ?_)))
            refine Ev.succ ?_
            simp only [spec_HearingAll.j0]
            refine Loud_s l1 l2 [] s0 s1 W hl2 _ l2.length 0 true (by omega) ?_
            rw [show (true && RRe (fun i => inC (rd l2 (i : Int)) 0 8) true l2.length 0) = true from hd]
            refine Ev.succ ?_
            simp only [spec_HearingAll.l0]
            exact Ev.neg (by omega) (Ev.pos (by trivial) (Ev.bind ha ho))
          · unfold impl_HearingAll.f
            exact Ev.bind hcc (Ev.pos rfl (Ev.pos (by omega) (Ev.bind hlo (Ev.neg (by simp) (Ev.bind (Cells_h s0 s1 W hr.2.2 w h (by omega) (by omega) e0 e1 l1 l2 hl he hs) (Ev.now _))))))
    · have hni : ¬ (l1.length : Int) = (l2.length : Int) := by omega
      refine ⟨([], 2), by simp, ?_, ?_⟩
      · unfold spec_HearingAll.f
        simp only [Option.bind_some]
        exact Ev.bind h1 (Ev.pos rfl (Ev.neg hni (bad false (by simp))))
      · unfold impl_HearingAll.f
        cases hc : allCell s0 s1 l1 with
        | false => rw [hc] at hcc; exact Ev.bind hcc (Ev.neg (by simp) (Ev.now _))
        | true => rw [hc] at hcc; exact Ev.bind hcc (Ev.pos rfl (Ev.neg hni (Ev.now _)))
end Go.Proofs.Ytoiiabnnddlcbaa.Q
end
section
namespace Go.Proofs.Ytoiiabnnddlcbaa.Q
open Go.RowKit Go.Proofs.YtoiiabnnddlcbaaW.PrintWords Go.Proofs.YtoiiabnnddlcbaaW.PrintLast Go.Proofs.YtoiiabnnddlcbaaW.PrintMore Go.Proofs.Ytoiiabnnddlcbaa.La Go.Proofs.Ytoiiabnnddlcbaa.PB
set_option linter.unusedVariables false
set_option linter.unusedSimpArgs false
theorem ext_rd {n : Nat} {A B : LA n} (h : ∀ j : Nat, j < n → rd A.l (j : Int) = rd B.l (j : Int)) : A = B := by
  apply LA.ext_l
  apply List.ext_getElem (by rw [A.h, B.h])
  intro j h1 h2
  have hj : j < n := by rw [A.h] at h1; exact h1
  have := h j hj
  rw [rd_nat, rd_nat, List.getD_eq_getElem?_getD, List.getD_eq_getElem?_getD, List.getElem?_eq_getElem h1, List.getElem?_eq_getElem h2] at this
  exact this
theorem toU_ev (W : LA 10) : Ev (fun k => laws_toUint16A10.f k W) W := by
  unfold laws_toUint16A10.f
  have key : ∀ (m i : Nat) (X : LA 10), i + m = 10 → (∀ j : Nat, j < i → rd X.l (j : Int) = rd W.l (j : Int)) → Ev (fun k => laws_toUint16A10.l0 k (i : Int) W X) W := by
    intro m
    induction m with
    | zero =>
      intro i X hi hX
      obtain rfl : i = 10 := by omega
      refine Ev.succ ?_
      simp only [laws_toUint16A10.l0]
      rw [ext_rd hX]
      exact Ev.neg (by omega) (Ev.now _)
    | succ m ih =>
      intro i X hi hX
      refine Ev.succ ?_
      simp only [laws_toUint16A10.l0]
      rw [wnat i 10 (by omega) (by omega)]
      refine Ev.pos (by omega) (Ev.pos (by omega) (ih (i + 1) _ (by omega) (fun j hj => ?_)))
      by_cases e : j = i
      · subst e
        exact rd_set_same X _ _ (by omega) (by omega)
      · rw [rd_set_other X _ _ _ (by omega) (by omega) (by omega)]
        exact hX j (by omega)
  exact key 10 0 _ rfl (fun j hj => by omega)
theorem toRoom_ev (s0 s1 : Int) (W : LA 10) : Ev (fun k => laws_toRoom.f k s0 s1 W) (s0, s1, W) := by
  unfold laws_toRoom.f
  exact Ev.bind (toU_ev W) (Ev.now _)
end Go.Proofs.Ytoiiabnnddlcbaa.Q
end
section
namespace Go.Proofs.Ytoiiabnnddlcbaa.Q
open Go.RowKit Go.Proofs.YtoiiabnnddlcbaaW.PrintWords Go.Proofs.YtoiiabnnddlcbaaW.PrintLast Go.Proofs.YtoiiabnnddlcbaaW.PrintMore Go.Proofs.Ytoiiabnnddlcbaa.La Go.Proofs.Ytoiiabnnddlcbaa.PB
set_option linter.unusedVariables false
set_option linter.unusedSimpArgs false
theorem markSpotS_ev (l : List S34) (a : Int) (h : l.length ≤ 1048576) (h0 : 0 ≤ a) (h1 : a ≤ 1000000000000) : ∃ l' : List S34, Ev (fun k => laws_markSpotS.f k l a) (a + 2 * l.length, l') ∧ l'.length = l.length ∧ ∀ i : Nat, i < l.length → rd_T34 l' (i : Int) = ⟨IntKind.i8.wrap (a + 2 * i), IntKind.i8.wrap (a + 2 * i + 1)⟩ := by
  unfold laws_markSpotS.f
  have key : ∀ (m i : Nat) (x : List S34), i + m = l.length → x.length = l.length → (∀ j : Nat, j < i → rd_T34 x (j : Int) = ⟨IntKind.i8.wrap (a + 2 * j), IntKind.i8.wrap (a + 2 * j + 1)⟩) → ∃ l' : List S34, Ev (fun k => laws_markSpotS.l0 k x (a + 2 * i) (i : Int)) (a + 2 * l.length, l') ∧ l'.length = l.length ∧ ∀ j : Nat, j < l.length → rd_T34 l' (j : Int) = ⟨IntKind.i8.wrap (a + 2 * j), IntKind.i8.wrap (a + 2 * j + 1)⟩ := by
    intro m
    induction m with
    | zero =>
      intro i x hi hl hx
      obtain rfl : i = l.length := by omega
      refine ⟨x, Ev.round (Ev.now _) fun k => ?_, hl, hx⟩
      simp only [laws_markSpotS.l0]
      rw [if_neg (by omega)]
    | succ m ih =>
      intro i x hi hl hx
      obtain ⟨y, hy⟩ : ∃ y : List S34, y = (x.set (i : Int).toNat (⟨IntKind.i8.wrap (a + 2 * (i : Int)), (rd_T34 x (i : Int)).f1⟩ : S34)) := ⟨_, rfl⟩
      obtain ⟨z, hz⟩ : ∃ z : List S34, z = (y.set (i : Int).toNat (⟨(rd_T34 y (i : Int)).f0, IntKind.i8.wrap (a + 2 * (i : Int) + 1)⟩ : S34)) := ⟨_, rfl⟩
      have hyl : y.length = l.length := by rw [hy, List.length_set, hl]
      have hzl : z.length = l.length := by rw [hz, List.length_set, hyl]
      have e1 : (rd_T34 y (i : Int)).f0 = IntKind.i8.wrap (a + 2 * (i : Int)) := by
        rw [hy]; simp [rd_T34, List.getElem?_set, show i < x.length by omega]
      have e2 : rd_T34 z (i : Int) = ⟨IntKind.i8.wrap (a + 2 * (i : Int)), IntKind.i8.wrap (a + 2 * (i : Int) + 1)⟩ := by
        rw [hz, e1]; simp [rd_T34, List.getElem?_set, show i < y.length by omega]
      have e3 : ∀ j : Nat, j ≠ i → rd_T34 z (j : Int) = rd_T34 x (j : Int) := fun j hj => by
        rw [hz, hy]; simp [rd_T34, List.getElem?_set, Ne.symm hj]
      obtain ⟨l', hl', hll, hlx⟩ := ih (i + 1) z (by omega) hzl (fun j hj => by
        by_cases hji : j = i
        · subst hji; exact e2
        · rw [e3 j hji]; exact hx j (by omega))
      refine ⟨l', Ev.round hl' fun k => ?_, hll, hlx⟩
      simp only [laws_markSpotS.l0, Option.bind_some]
      rw [if_pos (by omega), if_pos (by omega), wnat i l.length (by omega) (by omega)]
      rw [wint (a + 2 * (i : Int) + 1) (by omega) (by omega), wint (a + 2 * (i : Int) + 1 + 1) (by omega) (by omega), ← hy, ← hz]
      have e : (a + 2 * (i : Int) + 1 + 1) = a + 2 * ((i + 1 : Nat) : Int) := by omega
      rw [e]
  obtain ⟨l', hl', hll, hlx⟩ := key l.length 0 l (by omega) rfl (fun j hj => by omega)
  exact ⟨l', by simpa using hl', hll, hlx⟩
theorem heldSpotS_ev (l : List S34) (a : Int) (h : l.length ≤ 1048576) (h0 : 0 ≤ a) (h1 : a ≤ 1000000000000) (hx : ∀ i : Nat, i < l.length → rd_T34 l (i : Int) = ⟨IntKind.i8.wrap (a + 2 * i), IntKind.i8.wrap (a + 2 * i + 1)⟩) : Ev (fun k => laws_heldSpotS.f k l a) (a + 2 * l.length) := by
  unfold laws_heldSpotS.f
  have key : ∀ (m i : Nat), i + m = l.length → Ev (fun k => laws_heldSpotS.l0 k l (a + 2 * i) (i : Int)) (a + 2 * l.length) := by
    intro m
    induction m with
    | zero =>
      intro i hi
      obtain rfl : i = l.length := by omega
      refine Ev.round (Ev.now _) fun k => ?_
      simp only [laws_heldSpotS.l0]
      rw [if_neg (by omega)]
    | succ m ih =>
      intro i hi
      refine Ev.round (ih (i + 1) (by omega)) fun k => ?_
      simp only [laws_heldSpotS.l0]
      rw [if_pos (by omega), if_pos (by omega), hx i (by omega), wint (a + 2 * (i : Int) + 1) (by omega) (by omega)]
      rw [if_pos rfl, if_pos rfl, wnat i l.length (by omega) (by omega), wint (a + 2 * (i : Int) + 1 + 1) (by omega) (by omega)]
      have e : (a + 2 * (i : Int) + 1 + 1) = a + 2 * ((i + 1 : Nat) : Int) := by omega
      rw [e]
  have := key l.length 0 (by omega)
  simpa using this
theorem eqSpot_self (a b : Int) : laws_eqSpot.f a b a b = some true := by unfold laws_eqSpot.f; rw [if_pos rfl, if_pos rfl]
theorem eqSpotS_ev (l : List S34) (h : l.length ≤ 1048576) : Ev (fun k => laws_eqSpotS.f k l l) true := by
  unfold laws_eqSpotS.f
  refine Ev.pos rfl ?_
  have key : ∀ (m i : Nat), i + m = l.length → Ev (fun k => laws_eqSpotS.l0 k l l (i : Int)) true := by
    intro m
    induction m with
    | zero =>
      intro i hi
      obtain rfl : i = l.length := by omega
      refine Ev.round (Ev.now _) fun k => ?_
      simp only [laws_eqSpotS.l0]
      rw [if_neg (by omega)]
    | succ m ih =>
      intro i hi
      refine Ev.round (ih (i + 1) (by omega)) fun k => ?_
      simp only [laws_eqSpotS.l0]
      rw [if_pos (by omega), if_pos (by omega), if_pos (by omega), eqSpot_self]
      simp only [Option.bind_some, if_true]
      rw [wnat i l.length (by omega) (by omega)]
  exact key l.length 0 (by omega)
end Go.Proofs.Ytoiiabnnddlcbaa.Q
end
section
namespace Go.Proofs.Ytoiiabnnddlcbaa.Q
open Go.RowKit Go.Proofs.YtoiiabnnddlcbaaW.PrintWords Go.Proofs.YtoiiabnnddlcbaaW.PrintLast Go.Proofs.YtoiiabnnddlcbaaW.PrintMore Go.Proofs.Ytoiiabnnddlcbaa.La Go.Proofs.Ytoiiabnnddlcbaa.PB
set_option linter.unusedVariables false
set_option linter.unusedSimpArgs false
theorem toInt64S_ev (l : List Int) (h : l.length ≤ 1048576) : Ev (fun k => laws_toInt64S.f k l) l := by
  unfold laws_toInt64S.f
  refine Ev.pos (by omega) (Ev.pos (by omega) ?_)
  have := Ev.map_loop (fun k x3 i => laws_toInt64S.l0 k l x3 i) (fun x => x) 0 l (by omega) ?_ ?_ (List.replicate ((l.length : Int)).toNat 0) (by simp)
  · simpa using this
  · intro i x3 r hi hl hr
    refine Ev.round hr fun k => ?_
    simp only [laws_toInt64S.l0]
    rw [if_pos (by omega), if_pos (by omega), if_pos (by omega), wnat i l.length hi (by omega)]
    simp [rd]
  · intro x3 hl
    refine Ev.round (Ev.now x3) fun k => ?_
    simp only [laws_toInt64S.l0]
    rw [if_neg (by omega)]
theorem eqInt64S_ev (l : List Int) (h : l.length ≤ 1048576) : Ev (fun k => laws_eqInt64S.f k l l) true := by
  unfold laws_eqInt64S.f
  refine Ev.pos rfl ?_
  refine Ev.all_loop (fun k i => laws_eqInt64S.l0 k l l i) l.length true (fun i hi hr => ?_) ?_
  · refine Ev.round hr fun k => ?_
    simp only [laws_eqInt64S.l0]
    rw [if_pos (by omega), if_pos (by omega), if_pos (by omega), if_pos trivial, wnat i l.length hi (by omega)]
  · refine Ev.round (Ev.now true) fun k => ?_
    simp only [laws_eqInt64S.l0]
    rw [if_neg (by omega)]
theorem markInt64S_ev (l : List Int) (a : Int) (h : l.length ≤ 1048576) (h0 : 0 ≤ a) (h1 : a ≤ 1000000000000) : Ev (fun k => laws_markInt64S.f k l a) (a + l.length, upFrom a l.length) := by
  unfold laws_markInt64S.f
  have key : ∀ (n i : Nat) (x : List Int), i + n = l.length → x.length = l.length → x.take i = upFrom a i → Ev (fun k => laws_markInt64S.l0 k x (a + i) (i : Int)) (a + l.length, upFrom a l.length) := by
    intro n
    induction n with
    | zero =>
      intro i x hi hl ht
      obtain rfl : i = l.length := by omega
      refine Ev.round (Ev.now _) fun k => ?_
      simp only [laws_markInt64S.l0]
      rw [if_neg (by omega), ← ht, List.take_of_length_le (by omega)]
    | succ n ih =>
      intro i x hi hl ht
      refine Ev.round (ih (i + 1) (x.set i (a + i)) (by omega) (by simpa using hl) (by rw [take_set _ _ _ (by omega), ht, upFrom_snoc])) fun k => ?_
      simp only [laws_markInt64S.l0]
      rw [if_pos (by omega), if_pos (by omega), wnat i l.length (by omega) (by omega), wint _ (by omega) (by omega)]
      simp [Int.add_assoc]
  simpa using key l.length 0 l (by omega) rfl (by simp [upFrom])
def cSpot (x : S28) : S34 := ⟨x.f0, x.f1⟩
theorem toSpotS_ev (l : List S28) (h : l.length ≤ 1048576) : Ev (fun k => laws_toSpotS.f k l) (l.map cSpot) := by
  unfold laws_toSpotS.f
  refine Ev.pos (by omega) (Ev.pos (by omega) ?_)
  refine Ev.map_loop (fun k x3 i => laws_toSpotS.l0 k l x3 i) cSpot z28 l (by omega) ?_ ?_ (List.replicate ((l.length : Int)).toNat z34) (by simp)
  · intro i x3 r hi hl hr
    refine Ev.round hr fun k => ?_
    simp only [laws_toSpotS.l0, laws_toSpot.f, Option.bind_some]
    rw [if_pos (by omega), if_pos (by omega), if_pos (by omega), wnat i l.length hi (by omega)]
    simp [rd_T28, cSpot]
  · intro x3 hl
    refine Ev.round (Ev.now x3) fun k => ?_
    simp only [laws_toSpotS.l0]
    rw [if_neg (by omega)]
theorem szSpotS_small (l : List S28) (h : l.length ≤ 1048576) : laws_szSpotS.f l 1048576 = some (1048576 - (l.length : Int)) := by
  unfold laws_szSpotS.f
  rw [wint _ (by omega) (by omega), if_neg (by omega)]
theorem szSpotS_big (l : List S28) (h : 1048576 < l.length) (hm : l.length ≤ maxLen) : laws_szSpotS.f l 1048576 = some (-1) := by
  unfold maxLen at hm
  unfold laws_szSpotS.f
  rw [wint _ (by omega) (by omega), if_pos (by omega)]
end Go.Proofs.Ytoiiabnnddlcbaa.Q
end
section
namespace Go.Proofs.Ytoiiabnnddlcbaa.Q
open Go.RowKit Go.Proofs.YtoiiabnnddlcbaaW.PrintWords Go.Proofs.YtoiiabnnddlcbaaW.PrintLast Go.Proofs.YtoiiabnnddlcbaaW.PrintMore Go.Proofs.Ytoiiabnnddlcbaa.La Go.Proofs.Ytoiiabnnddlcbaa.PB
set_option linter.unusedVariables false
set_option linter.unusedSimpArgs false
theorem FnExactHearingAll (s0 s1 : Int) (W : LA 10) (l1 : List S28) (l2 : List Int) (hr : RB s0 s1 W) (hm1 : l1.length ≤ maxLen) (hw1 : ∀ x ∈ l1, (Lit.int .i8 x.f0).wf = true ∧ (Lit.int .i8 x.f1).wf = true) (hm2 : l2.length ≤ maxLen) (hw2 : ∀ x ∈ l2, (Lit.int .i64 x).wf = true) : Ev (fun k => laws_FnExactHearingAll.f k s0 s1 W l1 l2) true := by
  unfold laws_FnExactHearingAll.f
  by_cases hi2 : (l2.length : Int) > 1048576
  · exact Ev.pos hi2 (Ev.now _)
  refine Ev.neg hi2 ?_
  have hl2 : l2.length ≤ 1048576 := by omega
  by_cases hl1 : l1.length ≤ 1048576
  rotate_left
  · exact Ev.bind (Ev.const (szSpotS_big l1 (by omega) hm1)) (Ev.pos (by decide) (Ev.now _))
  refine Ev.bind (Ev.const (szSpotS_small l1 hl1)) (Ev.neg (by omega) ?_)
  have hsb : ∀ q ∈ l1.map cSpot, SB q := fun q hq => by
    obtain ⟨x, hx, rfl⟩ := List.mem_map.1 hq
    exact ⟨wf_i8 (hw1 x hx).1, wf_i8 (hw1 x hx).2⟩
  have hlm : (l1.map cSpot).length ≤ 1048576 := by simpa using hl1
  obtain ⟨r, hrl, h1, h2⟩ := HearingAll_both s0 s1 W hr (l1.map cSpot) l2 (by omega) (by omega) hsb
  have er := toRoom_ev s0 s1 W
  have e1 := toSpotS_ev l1 hl1
  have e2 := toInt64S_ev l2 hl2
  have q1 := eqSpotS_ev (l1.map cSpot) hlm
  have q2 := eqInt64S_ev l2 hl2
  have q := eqSpotS_ev r.1 hrl
  obtain ⟨l', m1, ml, mx⟩ := markSpotS_ev r.1 1 hrl (by omega) (by omega)
  have hd := heldSpotS_ev l' 1 (by omega) (by omega) (by omega) (fun i hi => mx i (by omega))
  obtain ⟨n', n1, nl, nx⟩ := markSpotS_ev (l1.map cSpot) 1 hlm (by omega) (by omega)
  have n2 := markInt64S_ev l2 (1 + 2 * (l1.map cSpot).length) hl2 (by omega) (by omega)
  refine Ev.bind er (Ev.bind e1 (Ev.bind e2 (Ev.bind h1 (Ev.bind e1 (Ev.bind e2 (Ev.bind er (Ev.bind h2 (Ev.bind q (Ev.pos rfl ?_)))))))))
  refine Ev.succ ?_
  simp only [laws_FnExactHearingAll.j0]
  refine Ev.neg (by simp) (Ev.bind e1 (Ev.bind q1 (Ev.pos rfl (Ev.bind e2 (Ev.bind q2 (Ev.pos rfl (Ev.bind n1 (Ev.bind n2 (Ev.neg (by omega) (Ev.bind q (Ev.pos rfl ?_)))))))))))
  refine Ev.succ ?_
  simp only [laws_FnExactHearingAll.j1]
  refine Ev.neg (by simp) (Ev.bind m1 (Ev.bind hd (Ev.neg (by omega) (Ev.pos (by rw [ml]) ?_))))
  refine Ev.bind er (Ev.bind e1 (Ev.bind e2 (Ev.bind h2 (Ev.bind q (Ev.pos rfl (Ev.succ ?_))))))
  simp only [laws_FnExactHearingAll.j2]
  exact Ev.neg (by simp) (Ev.bind hd (Ev.neg (by omega) (Ev.pos (by rw [ml]) (Ev.now _))))
end Go.Proofs.Ytoiiabnnddlcbaa.Q
end
section
namespace Go.Proofs.Ytoiiabnnddlcbaa.fnExactHearingAll
open Go.ChangeShapes Go.WideShapes Go.ChangeAt Go.RowKit Go.Proofs.YtoiiabnnddlcbaaW.PrintWords Go.Proofs.YtoiiabnnddlcbaaW.PrintLast Go.Proofs.Ytoiiabnnddlcbaa.La Go.Proofs.Ytoiiabnnddlcbaa.Rw Go.Proofs.Ytoiiabnnddlcbaa.PB
open Go.ChangeMaps (open_string shut_string)
set_option linter.unusedVariables false
set_option maxRecDepth 100000 in
set_option maxHeartbeats 1000000 in
theorem lifted (os : Os) (started : os.Started) (H : Type) (enc : TypeId × Value → H) :
    ReturnsInHanded {} Try.checked os 4 .any (Rows.fnExactHearingAllSpec.pre6 enc Try.prog Try.f4 Rows.fnExactHearingAllRow.domain false) (Rows.fnExactHearingAllSpec.post enc Try.prog Try.f4 false true false false) := by
  refine returnsInHanded_of_change_sized (C := Try.checked) own started (by kernel_rfl) Try.func4
    (ChangeSpec.witness6 (enc := enc) (C := Try.checked) false ⟨#[], #[.agg #[.int .i8 0, .int .i8 0, .int .u16 0, .int .u16 0, .int .u16 0, .int .u16 0, .int .u16 0, .int .u16 0, .int .u16 0, .int .u16 0, .int .u16 0, .int .u16 0], .slice none 0 0, .slice none 0 0], []⟩ 8 (by kernel_rfl) (by kernel_rfl) (by kernel_rfl) (by kernel_rfl)) ?_
  intro W base args ds gs before hval0 hW hcnd hsz0 _
  have hval : ∀ (j : Nat) t v, Try.f4.params[j]? = some t → args[j]? = some v → Value.okWide Try.prog W .any base t v := hval0
  have hW' := hW
  obtain ⟨p, q, hA0, hV, rfl, hfz, hnd⟩ := hW
  have hA : DataW.TrodAll enc Try.prog W 0 (fun _ => true) true Try.f4.params.toList args.toList ds p := hA0
  rw [Try.params4] at hA hval
  obtain ⟨v0, vs0, d0, ds0, p0, q0, hargs, rfl, rfl, h0, r0⟩ := trodAll_cons hA
  obtain ⟨v1, vs1, d1, ds1, p1, q1, rfl, rfl, rfl, h1, r1⟩ := trodAll_cons r0
  obtain ⟨v2, vs2, d2, ds2, p2, q2, rfl, rfl, rfl, h2, r2⟩ := trodAll_cons r1
  obtain ⟨rfl, rfl, rfl⟩ := trodAll_nil r2
  obtain rfl : args = #[v0, v1, v2] := by cases args; simp_all
  obtain ⟨rfl, rfl⟩ := trodVars_none hV
  have k0 := h0
  have lt0 : ∀ x ∈ p0, x.block < W.heap.size := by obtain ⟨m, hm⟩ := k0; exact DataW.trod_lt m _ _ _ hm
  obtain ⟨a0_0, a0_1, a0_2, rfl, w0_0, w0_1, w0_2⟩ := openV26 (hval 0 26 v0 rfl rfl) h0
  have k1 := h1
  have lt1 : ∀ x ∈ p1, x.block < W.heap.size := by obtain ⟨m, hm⟩ := k1; exact DataW.trod_lt m _ _ _ hm
  obtain ⟨a1, len1, cap1, rfl⟩ := okWide_slice Try.underlying39 (hval 1 39 v1 rfl rfl)
  obtain ⟨l1, rfl, hc1, hm1, hr1, hw1⟩ := openS28 h1
  have k2 := h2
  have lt2 : ∀ x ∈ p2, x.block < W.heap.size := by obtain ⟨m, hm⟩ := k2; exact DataW.trod_lt m _ _ _ hm
  obtain ⟨a2, len2, cap2, rfl⟩ := okWide_slice Try.underlying40 (hval 2 40 v2 rfl rfl)
  obtain ⟨l2, rfl, hr2, hm2, hw2, hc2⟩ := openI40 h2
  clear hA0 hval0 hsz0
  obtain ⟨k, hk⟩ := Ev.rounds (Q.FnExactHearingAll a0_0 a0_1 a0_2 l1 l2 (Q.rb_mk w0_0 w0_1 w0_2) hm1 hw1 hm2 hw2)
  refine (laws_FnExactHearingAll.calls k a0_0 a0_1 a0_2 _ _ l1 _ _ l2 true W hr1 hc1 hr2 hc2 hk).mono fun e W' ⟨he, bel0⟩ => ?_
  subst he
  have bel : Below W.heap.size W W' := by first | exact bel0 | exact bel0.below
  exact ⟨_, rfl, _, _, _, [], _, [], hW', trodAll_mk1 (shut_bool Try.underlying4 _), (trodAll_cons_mk (Below.trod laidOut (by kernel_rfl) (of_decide_eq_true (by kernel_rfl)) k0 bel lt0) (trodAll_cons_mk (Below.trod laidOut (by kernel_rfl) (of_decide_eq_true (by kernel_rfl)) k1 bel lt1) (trodAll_cons_mk (Below.trod laidOut (by kernel_rfl) (of_decide_eq_true (by kernel_rfl)) k2 bel lt2) trodAll_mk0))), rfl, bel.frame _, fun h => by cases h⟩
theorem over : Rows.fnExactHearingAllRow.holds Try.pinned (OpenSpec.ofChange Rows.fnExactHearingAllSpec) :=
  OpenClaim.holds_of_wide 4 Try.f4 rfl rfl rfl rfl rfl rfl rfl ⟨rfl, rfl, rfl, rfl, rfl⟩ rfl rfl rfl rfl rfl (by kernel_rfl) Try.func4 (by kernel_rfl)
    (of_decide_eq_true (by kernel_rfl)) (by unfold Func.isWrapper; first | (rw [if_pos (by decide +kernel)]; kernel_rfl) | (rw [if_neg (by decide +kernel)]; exact ⟨rfl, rfl⟩))
    (fun os started H enc _ => lifted os started H enc)
end Go.Proofs.Ytoiiabnnddlcbaa.fnExactHearingAll
namespace Go.Proofs.Ytoiiabnnddlcbaa
theorem fnExactHearingAll_holds : Rows.FnExactHearingAllSaid := fnExactHearingAll.over
end Go.Proofs.Ytoiiabnnddlcbaa
end
