/- The statement FnExactCalledFrom of this program: what its proof uses, part 14 of 14. The call returns true for all arguments. No condition of its own. -/
import Derived.IntWalk
import Derived.Test.YtoiiabnnddlcbaaZFnExactCalledFrom12
section
namespace Go.Proofs.Ytoiiabnnddlcbaa.Q
open Go.RowKit Go.Proofs.YtoiiabnnddlcbaaW.PrintWords Go.Proofs.YtoiiabnnddlcbaaW.PrintLast
set_option linter.unusedVariables false
set_option linter.unusedSimpArgs false
theorem wnat (i n : Nat) (h : i < n) (hn : n ≤ 9223372036854775807) : wrap64 ((i : Int) + 1) = ((i + 1 : Nat) : Int) := by unfold wrap64; omega
theorem wint (a : Int) (h0 : -9223372036854775808 ≤ a) (h1 : a ≤ 9223372036854775807) : wrap64 a = a := by unfold wrap64; omega
theorem rd_nat (xs : List Int) (i : Nat) : rd xs (i : Int) = xs.getD i 0 := by simp [rd]
theorem Ev.round {α : Type} {g f : Nat → Option α} {r : α} (k : Ev f r) (h : ∀ k, g (k + 1) = f k) : Ev g r := Ev.step h k
theorem Ev.eq {α : Type} {g : Nat → Option α} {r r' : α} (h : Ev g r) (e : r = r') : Ev g r' := e ▸ h
theorem Ev.ite {α : Type} {c : Prop} [Decidable c] {f g : Nat → Option α} {r : α} (h : c → Ev f r) (h' : ¬ c → Ev g r) : Ev (fun k => if c then f k else g k) r := by
  by_cases hc : c
  · simp only [hc, if_true]; exact h hc
  · simp only [hc, if_false]; exact h' hc
theorem Ev.pos {α : Type} {c : Prop} [Decidable c] {f g : Nat → Option α} {r : α} (hc : c) (h : Ev f r) : Ev (fun k => if c then f k else g k) r := by simp only [hc, if_true]; exact h
theorem Ev.neg {α : Type} {c : Prop} [Decidable c] {f g : Nat → Option α} {r : α} (hc : ¬ c) (h : Ev g r) : Ev (fun k => if c then f k else g k) r := by simp only [hc, if_false]; exact h
theorem take_get {α : Type} (xs : List α) (i : Nat) (d : α) (h : i < xs.length) : xs.take (i + 1) = xs.take i ++ [xs.getD i d] := by
  rw [List.take_succ_eq_append_getElem h]
  simp [List.getD_eq_getElem?_getD, List.getElem?_eq_getElem h]
end Go.Proofs.Ytoiiabnnddlcbaa.Q
end
section
namespace Go.Proofs.Ytoiiabnnddlcbaa.Q
open Go.RowKit Go.Proofs.YtoiiabnnddlcbaaW.PrintWords Go.Proofs.YtoiiabnnddlcbaaW.PrintLast Go.Proofs.Ytoiiabnnddlcbaa.PB
set_option linter.unusedVariables false
set_option linter.unusedSimpArgs false
def inC (a lo hi : Int) : Bool := decide (lo ≤ a) && decide (a ≤ hi)
theorem In_c (a lo hi : Int) : spec_l00In.f a lo hi = some (inC a lo hi) := by
  unfold spec_l00In.f inC
  split
  · rename_i h; simp [h]
  · rename_i h; simp [h]
theorem Ev.const {α : Type} {x : Option α} {a : α} (h : x = some a) : Ev (fun _ => x) a := by subst h; exact Ev.now a
theorem Ev.succ {α : Type} {g : Nat → Option α} {r : α} (h : Ev (fun k => g (k + 1)) r) : Ev g r := Ev.step (fun _ => rfl) h
theorem getD_mem {α : Type} (l : List α) (i : Nat) (d : α) (h : i < l.length) : l.getD i d ∈ l := by
  simp [List.getD_eq_getElem?_getD, List.getElem?_eq_getElem h]
theorem drop_get {α : Type} (xs : List α) (i : Nat) (d : α) (h : i < xs.length) : xs.drop i = xs.getD i d :: xs.drop (i + 1) := by
  rw [List.drop_eq_getElem_cons h]
  simp [List.getD_eq_getElem?_getD, List.getElem?_eq_getElem h]
end Go.Proofs.Ytoiiabnnddlcbaa.Q
end
section
namespace Go.Proofs.Ytoiiabnnddlcbaa.Q
open Go.RowKit Go.Proofs.YtoiiabnnddlcbaaW.PrintWords Go.Proofs.YtoiiabnnddlcbaaW.PrintLast Go.Proofs.YtoiiabnnddlcbaaW.PrintMore Go.Proofs.Ytoiiabnnddlcbaa.PB
set_option linter.unusedVariables false
set_option linter.unusedSimpArgs false
set_option maxRecDepth 100000 in
theorem wrap_u16 (n : Int) : IntKind.u16.wrap n = n % 65536 := by simp [IntKind.wrap, IntKind.bits, IntKind.signed]
theorem wraps_u16 (n : Int) (h₀ : 0 ≤ n) (h₁ : n < 2 ^ 16) : IntKind.u16.wrap n = n := by rw [wrap_u16]; omega
theorem u16_and1 {x : Int} (h₀ : 0 ≤ x) (h₁ : x < 65536) : Go.bits .and .u16 x 1 = x % 2 := bits_mask .u16 16 (by decide) wraps_u16 1 (by decide) x h₀ h₁
def bitV (v : Int) (x : Nat) : Int := v / 2 ^ x % 2
theorem shr_bit {v : Int} (h₀ : 0 ≤ v) (h₁ : v < 65536) {x : Nat} (hx : x < 10) : Go.bits .and .u16 (shr .u16 v (x : Int)) 1 = bitV v x := by
  have hs : shr .u16 v (x : Int) = v / 2 ^ x := by
    unfold shr
    rw [Int.toNat_natCast, Nat.min_eq_left (show x ≤ IntKind.u16.bits by unfold IntKind.bits; dsimp only; omega)]
  have hp : (0 : Int) < 2 ^ x := Int.pow_pos (by omega)
  have h2 : v / 2 ^ x ≤ v := Int.ediv_le_self _ h₀
  rw [hs, u16_and1 (Int.ediv_nonneg h₀ (by omega)) (by omega)]
  rfl
theorem i8_small (x : Nat) (h : x < 128) : IntKind.i8.wrap (x : Int) = x := by simp [IntKind.wrap, IntKind.bits, IntKind.signed]; omega
theorem u64_small (x : Nat) (h : x < 128) : IntKind.u64.wrap (x : Int) = x := by simp [IntKind.wrap, IntKind.bits, IntKind.signed]; omega
theorem wf_u16 {n : Int} (h : (Lit.int .u16 n).wf = true) : 0 ≤ n ∧ n < 65536 := by
  simp [Lit.wf, IntKind.min, IntKind.max, IntKind.signed, IntKind.bits] at h
  omega
theorem wf_i8 {n : Int} (h : (Lit.int .i8 n).wf = true) : -128 ≤ n ∧ n ≤ 127 := by
  simp [Lit.wf, IntKind.min, IntKind.max, IntKind.signed, IntKind.bits] at h
  omega
theorem rd_bound (l : List Int) (h : ∀ x ∈ l, 0 ≤ x ∧ x < 65536) (i : Int) : 0 ≤ rd l i ∧ rd l i < 65536 := by
  unfold rd
  by_cases hi : i.toNat < l.length
  · exact h _ (getD_mem l _ 0 hi)
  · rw [List.getD_eq_getElem?_getD, List.getElem?_eq_none (by omega)]
    show (0:Int) ≤ 0 ∧ (0:Int) < 65536
    omega
end Go.Proofs.Ytoiiabnnddlcbaa.Q
end
section
namespace Go.Proofs.Ytoiiabnnddlcbaa.Q
open Go.RowKit Go.Proofs.YtoiiabnnddlcbaaW.PrintWords Go.Proofs.YtoiiabnnddlcbaaW.PrintLast Go.Proofs.YtoiiabnnddlcbaaW.PrintMore Go.Proofs.Ytoiiabnnddlcbaa.La Go.Proofs.Ytoiiabnnddlcbaa.PB
set_option linter.unusedVariables false
set_option linter.unusedSimpArgs false
theorem Within_c (a lo hi : Int) : impl_within.f a lo hi = some (inC a lo hi) := by
  unfold impl_within.f inC
  split
  · rename_i h; simp [h]
  · rename_i h; simp [h]
theorem u64_int {a : Int} (h0 : 0 ≤ a) (h1 : a < 128) : IntKind.u64.wrap a = a := by
  obtain ⟨n, rfl⟩ : ∃ n : Nat, a = n := ⟨a.toNat, by omega⟩
  exact u64_small n (by omega)
theorem mn_small {a : Int} (h : a ≤ 10) : mn a 10 = a := by unfold mn; split <;> omega
theorem Ok_loop (s0 s1 : Int) (W : LA 10) (h0 : 1 ≤ s0 ∧ s0 ≤ 10) : ∀ n x : Nat, x + n = 10 → ∃ b, Ev (fun k => spec_l01Ok.l0 k (x : Int) s0 s1 W) b ∧ Ev (fun k => impl_ValidRoom.l0 k W (x : Int) s0 s1 W) b := by
  have hu : IntKind.u64.wrap s0 = s0 := u64_int (by omega) (by omega)
  intro n
  induction n with
  | zero =>
    intro x hx
    obtain rfl : x = 10 := by omega
    refine ⟨true, Ev.succ ?_, Ev.succ ?_⟩
    · simp only [spec_l01Ok.l0]
      exact Ev.neg (by omega) (Ev.now true)
    · simp only [impl_ValidRoom.l0]
      exact Ev.neg (by omega) (Ev.now true)
  | succ n ih =>
    intro x hx
    obtain ⟨b, hb1, hb2⟩ := ih (x + 1) (by omega)
    by_cases p1 : shr .u16 (rd W.l (x : Int)) s0 = 0
    · by_cases p2 : (x : Int) ≥ wrap64 s1
      · by_cases p3 : rd W.l (x : Int) = 0
        · refine ⟨b, Ev.succ ?_, Ev.succ ?_⟩
          · simp only [spec_l01Ok.l0]
            rw [hu, wnat x 10 (by omega) (by omega)]
            exact Ev.pos (by omega) (Ev.pos (by omega) (Ev.pos (by omega) (Ev.pos p1 (Ev.pos p2 (Ev.pos p3 hb1)))))
          · simp only [impl_ValidRoom.l0]
            rw [wnat x 10 (by omega) (by omega)]
            exact Ev.pos (by omega) (Ev.pos (by omega) (Ev.pos (by omega) (Ev.pos p1 (Ev.pos p2 (Ev.pos p3 hb2)))))
        · refine ⟨false, Ev.succ ?_, Ev.succ ?_⟩
          · simp only [spec_l01Ok.l0]
            rw [hu]
            exact Ev.pos (by omega) (Ev.pos (by omega) (Ev.pos (by omega) (Ev.pos p1 (Ev.pos p2 (Ev.neg p3 (Ev.now false))))))
          · simp only [impl_ValidRoom.l0]
            exact Ev.pos (by omega) (Ev.pos (by omega) (Ev.pos (by omega) (Ev.pos p1 (Ev.pos p2 (Ev.neg p3 (Ev.now false))))))
      · refine ⟨b, Ev.succ ?_, Ev.succ ?_⟩
        · simp only [spec_l01Ok.l0]
          rw [hu, wnat x 10 (by omega) (by omega)]
          exact Ev.pos (by omega) (Ev.pos (by omega) (Ev.pos (by omega) (Ev.pos p1 (Ev.neg p2 hb1))))
        · simp only [impl_ValidRoom.l0]
          rw [wnat x 10 (by omega) (by omega)]
          exact Ev.pos (by omega) (Ev.pos (by omega) (Ev.pos (by omega) (Ev.pos p1 (Ev.neg p2 hb2))))
    · refine ⟨false, Ev.succ ?_, Ev.succ ?_⟩
      · simp only [spec_l01Ok.l0]
        rw [hu]
        exact Ev.pos (by omega) (Ev.pos (by omega) (Ev.pos (by omega) (Ev.neg p1 (Ev.now false))))
      · simp only [impl_ValidRoom.l0]
        exact Ev.pos (by omega) (Ev.pos (by omega) (Ev.pos (by omega) (Ev.neg p1 (Ev.now false))))
theorem Ok_both (s0 s1 : Int) (W : LA 10) (b0 : -128 ≤ s0 ∧ s0 ≤ 127) (b1 : -128 ≤ s1 ∧ s1 ≤ 127) :
    ∃ b, Ev (fun k => spec_l01Ok.f k s0 s1 W) b ∧ Ev (fun k => impl_ValidRoom.f k s0 s1 W) b ∧ (b = true → (1 ≤ s0 ∧ s0 ≤ 10) ∧ (1 ≤ s1 ∧ s1 ≤ 10)) := by
  have e0 := wint s0 (by omega) (by omega)
  have e1 := wint s1 (by omega) (by omega)
  have spec0 : ∀ b1 : Bool, Ev (fun k => spec_l01Ok.j0 k true s0 s1 W) false := fun _ => Ev.succ (by simp only [spec_l01Ok.j0]; exact Ev.pos trivial (Ev.now false))
  have impl0 : ∀ b1 : Bool, Ev (fun k => impl_ValidRoom.j0 k true s0 s1 W) false := fun _ => Ev.succ (by simp only [impl_ValidRoom.j0]; exact Ev.pos trivial (Ev.now false))
  by_cases h0 : inC s0 1 10 = true
  · by_cases h1 : inC s1 1 10 = true
    · have h0' : 1 ≤ s0 ∧ s0 ≤ 10 := by unfold inC at h0; simpa using h0
      have h1' : 1 ≤ s1 ∧ s1 ≤ 10 := by unfold inC at h1; simpa using h1
      obtain ⟨b, hb1, hb2⟩ := Ok_loop s0 s1 W h0' 10 0 rfl
      refine ⟨b, ?_, ?_, fun _ => ⟨h0', h1'⟩⟩
      · unfold spec_l01Ok.f
        rw [e0, e1, In_c, In_c, h0, h1]
        simp only [Option.bind_some, if_true, Bool.not_true]
        refine Ev.succ ?_
        simp only [spec_l01Ok.j0]
        exact Ev.neg (by simp) hb1
      · unfold impl_ValidRoom.f
        rw [e0, e1, Within_c, Within_c, h0, h1]
        simp only [Option.bind_some, if_true, Bool.not_true]
        refine Ev.succ ?_
        simp only [impl_ValidRoom.j0]
        exact Ev.neg (by simp) hb2
    · have h1' : inC s1 1 10 = false := by simpa using h1
      refine ⟨false, ?_, ?_, fun h => by cases h⟩
      · unfold spec_l01Ok.f
        rw [e0, e1, In_c, In_c, h0, h1']
        simp only [Option.bind_some, if_true, Bool.not_false]
        exact spec0 true
      · unfold impl_ValidRoom.f
        rw [e0, e1, Within_c, Within_c, h0, h1']
        simp only [Option.bind_some, if_true, Bool.not_false]
        exact impl0 true
  · have h0' : inC s0 1 10 = false := by simpa using h0
    refine ⟨false, ?_, ?_, fun h => by cases h⟩
    · unfold spec_l01Ok.f
      rw [e0, In_c, h0']
      simp only [Option.bind_some, Bool.false_eq_true, if_false]
      exact spec0 true
    · unfold impl_ValidRoom.f
      rw [e0, Within_c, h0']
      simp only [Option.bind_some, Bool.false_eq_true, if_false]
      exact impl0 true
def fr (W : List Int) (x y : Int) : Bool := bitV (rd W y) x.toNat == 0
theorem shr_div {v : Int} {x : Nat} (hx : x < 10) : shr .u16 v (x : Int) = v / 2 ^ x := by
  unfold shr
  rw [Int.toNat_natCast, Nat.min_eq_left (show x ≤ IntKind.u16.bits by unfold IntKind.bits; dsimp only; omega)]
theorem Free_s (s0 s1 : Int) (W : LA 10) (hb : ∀ i, 0 ≤ rd W.l i ∧ rd W.l i < 65536) (h0 : s0 ≤ 10) (h1 : s1 ≤ 10) (x y : Nat) (hx : (x : Int) < s0) (hy : (y : Int) < s1) :
    spec_l01Free.f s0 s1 W (x : Int) (y : Int) = some (fr W.l (x : Int) (y : Int)) := by
  unfold spec_l01Free.f spec_l01Is.f
  rw [wint s0 (by omega) (by omega), wint s1 (by omega) (by omega), wint (x : Int) (by omega) (by omega), wint (y : Int) (by omega) (by omega), wint (s0 - 1) (by omega) (by omega), wint (s1 - 1) (by omega) (by omega), In_c, In_c]
  rw [show inC (x : Int) 0 (s0 - 1) = true by unfold inC; simp; omega, show inC (y : Int) 0 (s1 - 1) = true by unfold inC; simp; omega]
  simp only [Option.bind_some, if_true]
  rw [if_pos (by omega), if_pos (by omega), u64_int (by omega) (by omega), if_pos (by omega), shr_div (by omega)]
  have hn : 0 ≤ rd W.l (y : Int) / 2 ^ x := Int.ediv_nonneg (hb _).1 (Int.le_of_lt (Int.pow_pos (by omega)))
  rw [Int.tmod_eq_emod_of_nonneg hn]
  unfold fr bitV
  rw [Int.toNat_natCast]
theorem Free_i (s0 s1 : Int) (W : LA 10) (hb : ∀ i, 0 ≤ rd W.l i ∧ rd W.l i < 65536) (h0 : s0 ≤ 10) (h1 : s1 ≤ 10) (x y : Nat) (hx : (x : Int) < s0) (hy : (y : Int) < s1) :
    impl_Room_isFree.f s0 s1 W (x : Int) (y : Int) = some (fr W.l (x : Int) (y : Int)) := by
  unfold impl_Room_isFree.f impl_Room_isCell.f
  rw [wint s0 (by omega) (by omega), wint s1 (by omega) (by omega), wint (x : Int) (by omega) (by omega), wint (y : Int) (by omega) (by omega), mn_small h0, mn_small h1, wint (s0 - 1) (by omega) (by omega), wint (s1 - 1) (by omega) (by omega), Within_c, Within_c]
  rw [show inC (x : Int) 0 (s0 - 1) = true by unfold inC; simp; omega, show inC (y : Int) 0 (s1 - 1) = true by unfold inC; simp; omega]
  simp only [Option.bind_some, if_true]
  rw [if_pos (by omega), if_pos (by omega), if_pos (by omega), shr_bit (hb _).1 (hb _).2 (by omega)]
  unfold fr
  rw [Int.toNat_natCast]
def rowL (p : Int → Int → Bool) (y : Int) (acc : List S34) : Nat → List S34
  | 0 => acc
  | x + 1 => if p (x : Int) y then rowL p y acc x ++ [⟨(x : Int), y⟩] else rowL p y acc x
def cellsL (p : Int → Int → Bool) (w : Nat) : Nat → List S34
  | 0 => []
  | y + 1 => rowL p (y : Int) (cellsL p w y) w
theorem rowL_len (p : Int → Int → Bool) (y : Int) (acc : List S34) : ∀ x, (rowL p y acc x).length ≤ acc.length + x
  | 0 => by simp [rowL]
  | x + 1 => by have := rowL_len p y acc x; rw [rowL]; split <;> simp <;> omega
theorem cellsL_len (p : Int → Int → Bool) (w : Nat) : ∀ y, (cellsL p w y).length ≤ w * y
  | 0 => by simp [cellsL]
  | y + 1 => by
    have h1 := cellsL_len p w y
    have h2 := rowL_len p (y : Int) (cellsL p w y) w
    rw [cellsL, Nat.mul_succ]
    omega
theorem rowL_mem (p : Int → Int → Bool) (w : Nat) (y : Int) (acc : List S34) (P : S34 → Prop) (ha : ∀ q ∈ acc, P q) (hp : ∀ x : Nat, x < w → P ⟨(x : Int), y⟩) : ∀ x, x ≤ w → ∀ q ∈ rowL p y acc x, P q
  | 0, _ => ha
  | x + 1, hx => by
    have ih := rowL_mem p w y acc P ha hp x (by omega)
    rw [rowL]
    split
    · intro q hq
      rcases List.mem_append.1 hq with h | h
      · exact ih q h
      · obtain rfl := List.mem_singleton.1 h
        exact hp x (by omega)
    · exact ih
theorem cellsL_mem (p : Int → Int → Bool) (w h : Nat) : ∀ y, y ≤ h → ∀ q ∈ cellsL p w y, (0 ≤ q.f0 ∧ q.f0 < w) ∧ (0 ≤ q.f1 ∧ q.f1 < h)
  | 0, _ => fun q hq => by simp [cellsL] at hq
  | y + 1, hy => rowL_mem p w (y : Int) _ _ (cellsL_mem p w h y (by omega)) (fun x hx => ⟨⟨by simp, by dsimp only; omega⟩, ⟨by simp, by dsimp only; omega⟩⟩) w (Nat.le_refl _)
theorem Ev.cells (p : Int → Int → Bool) (w h : Nat) (hw : w ≤ 10) (hh : h ≤ 10) (L0 : Nat → List S34 → Int → Option (List S34)) (L1 : Nat → List S34 → Int → Int → Option (List S34))
    (e0 : ∀ acc (y : Nat) r, y < h → Ev (fun k => L1 k acc (y : Int) 0) r → Ev (fun k => L0 k acc (y : Int)) r) (e0' : ∀ acc, Ev (fun k => L0 k acc (h : Int)) acc)
    (e1 : ∀ acc (y x : Nat) r, y < h → x < w → acc.length ≤ 1000 → Ev (fun k => L1 k (if p (x : Int) (y : Int) then acc ++ [⟨(x : Int), (y : Int)⟩] else acc) (y : Int) ((x + 1 : Nat) : Int)) r → Ev (fun k => L1 k acc (y : Int) (x : Int)) r)
    (e1' : ∀ acc (y : Nat) r, y < h → Ev (fun k => L0 k acc ((y + 1 : Nat) : Int)) r → Ev (fun k => L1 k acc (y : Int) (w : Int)) r) :
    Ev (fun k => L0 k [] 0) (cellsL p w h) := by
  have inner : ∀ (n x y : Nat) (acc : List S34) r, x + n = w → y < h → acc.length ≤ 900 → Ev (fun k => L0 k (rowL p (y : Int) acc w) ((y + 1 : Nat) : Int)) r → Ev (fun k => L1 k (rowL p (y : Int) acc x) (y : Int) (x : Int)) r := by
    intro n
    induction n with
    | zero =>
      intro x y acc r hx hy hl hr
      obtain rfl : x = w := by omega
      exact e1' _ y r hy hr
    | succ n ih =>
      intro x y acc r hx hy hl hr
      have := rowL_len p (y : Int) acc x
      exact e1 _ y x r hy (by omega) (by omega) (ih (x + 1) y acc r (by omega) hy hl hr)
  have outer : ∀ (n y : Nat), y + n = h → Ev (fun k => L0 k (cellsL p w y) (y : Int)) (cellsL p w h) := by
    intro n
    induction n with
    | zero =>
      intro y hy
      obtain rfl : y = h := by omega
      exact e0' _
    | succ n ih =>
      intro y hy
      have h1 := cellsL_len p w y
      have h2 : w * y ≤ 10 * 10 := Nat.mul_le_mul hw (by omega)
      exact e0 _ y _ (by omega) (inner w 0 y _ _ (by omega) (by omega) (by omega) (ih (y + 1) (by omega)))
  exact outer h 0 (by omega)
theorem i8_wnat (x : Nat) (h : x < 10) : IntKind.i8.wrap ((x : Int) + 1) = ((x + 1 : Nat) : Int) := by
  have := i8_small (x + 1) (by omega)
  rw [← this]
  congr 1
theorem All_s (s0 s1 : Int) (W : LA 10) (hb : ∀ i, 0 ≤ rd W.l i ∧ rd W.l i < 65536) (w h : Nat) (hw : w ≤ 10) (hh : h ≤ 10) (e0 : s0 = w) (e1 : s1 = h) : Ev (fun k => spec_l01All.f k s0 s1 W) (cellsL (fr W.l) w h) := by
  show Ev (fun k => spec_l01All.l0 k [] 0 s0 s1 W) _
  refine Ev.cells (fr W.l) w h hw hh (fun k acc y => spec_l01All.l0 k acc y s0 s1 W) (fun k acc y x => spec_l01All.l1 k acc y x s0 s1 W) ?_ ?_ ?_ ?_
  · intro acc y r hy hr
    refine Ev.succ ?_
    simp only [spec_l01All.l0]
    exact Ev.pos (by omega) hr
  · intro acc
    refine Ev.succ ?_
    simp only [spec_l01All.l0]
    exact Ev.neg (by omega) (Ev.now acc)
  · intro acc y x r hy hx hl hr
    refine Ev.succ ?_
    simp only [spec_l01All.l1]
    refine Ev.pos (by omega) ?_
    rw [Free_s s0 s1 W hb (by omega) (by omega) x y (by omega) (by omega), i8_wnat x (by omega)]
    simp only [Option.bind_some]
    cases hc : fr W.l (x : Int) (y : Int) with
    | true =>
      rw [hc] at hr
      simp only [if_true] at hr ⊢
      exact Ev.pos (by omega) hr
    | false =>
      rw [hc] at hr
      simp only [Bool.false_eq_true, if_false] at hr ⊢
      exact hr
  · intro acc y r hy hr
    refine Ev.succ ?_
    simp only [spec_l01All.l1]
    rw [i8_wnat y (by omega)]
    exact Ev.neg (by omega) hr
def isC (s0 s1 x y : Int) : Bool := inC x 0 (s0 - 1) && inC y 0 (s1 - 1)
def frC (s0 s1 : Int) (W : LA 10) (x y : Int) : Bool := isC s0 s1 x y && fr W.l x y
theorem isC_bounds {s0 s1 x y : Int} (h : isC s0 s1 x y = true) : (0 ≤ x ∧ x < s0) ∧ (0 ≤ y ∧ y < s1) := by
  unfold isC inC at h
  simp at h
  omega
theorem Is_s (s0 s1 : Int) (W : LA 10) (h0 : 1 ≤ s0 ∧ s0 ≤ 10) (h1 : 1 ≤ s1 ∧ s1 ≤ 10) (x y : Int) (hx : -128 ≤ x ∧ x ≤ 127) (hy : -128 ≤ y ∧ y ≤ 127) : spec_l01Is.f s0 s1 W x y = some (isC s0 s1 x y) := by
  unfold spec_l01Is.f isC
  rw [wint s0 (by omega) (by omega), wint s1 (by omega) (by omega), wint x (by omega) (by omega), wint y (by omega) (by omega), wint (s0 - 1) (by omega) (by omega), wint (s1 - 1) (by omega) (by omega), In_c, In_c]
  simp only [Option.bind_some]
  cases inC x 0 (s0 - 1) <;> simp
theorem Is_i (s0 s1 : Int) (W : LA 10) (h0 : 1 ≤ s0 ∧ s0 ≤ 10) (h1 : 1 ≤ s1 ∧ s1 ≤ 10) (x y : Int) (hx : -128 ≤ x ∧ x ≤ 127) (hy : -128 ≤ y ∧ y ≤ 127) : impl_Room_isCell.f s0 s1 W x y = some (isC s0 s1 x y) := by
  unfold impl_Room_isCell.f isC
  rw [wint s0 (by omega) (by omega), wint s1 (by omega) (by omega), wint x (by omega) (by omega), wint y (by omega) (by omega), mn_small h0.2, mn_small h1.2, wint (s0 - 1) (by omega) (by omega), wint (s1 - 1) (by omega) (by omega), Within_c, Within_c]
  simp only [Option.bind_some]
  cases inC x 0 (s0 - 1) <;> simp
theorem Fr_s (s0 s1 : Int) (W : LA 10) (hb : ∀ i, 0 ≤ rd W.l i ∧ rd W.l i < 65536) (h0 : 1 ≤ s0 ∧ s0 ≤ 10) (h1 : 1 ≤ s1 ∧ s1 ≤ 10) (x y : Int) (hx : -128 ≤ x ∧ x ≤ 127) (hy : -128 ≤ y ∧ y ≤ 127) : spec_l01Free.f s0 s1 W x y = some (frC s0 s1 W x y) := by
  cases hc : isC s0 s1 x y with
  | true =>
    have hd := isC_bounds hc
    obtain ⟨n, rfl⟩ : ∃ n : Nat, x = n := ⟨x.toNat, by omega⟩
    obtain ⟨m, rfl⟩ : ∃ m : Nat, y = m := ⟨y.toNat, by omega⟩
    rw [Free_s s0 s1 W hb (by omega) (by omega) n m (by omega) (by omega)]
    unfold frC
    rw [hc]
    rfl
  | false =>
    unfold spec_l01Free.f frC
    rw [Is_s s0 s1 W h0 h1 x y hx hy, hc]
    rfl
theorem Fr_i (s0 s1 : Int) (W : LA 10) (hb : ∀ i, 0 ≤ rd W.l i ∧ rd W.l i < 65536) (h0 : 1 ≤ s0 ∧ s0 ≤ 10) (h1 : 1 ≤ s1 ∧ s1 ≤ 10) (x y : Int) (hx : -128 ≤ x ∧ x ≤ 127) (hy : -128 ≤ y ∧ y ≤ 127) : impl_Room_isFree.f s0 s1 W x y = some (frC s0 s1 W x y) := by
  cases hc : isC s0 s1 x y with
  | true =>
    have hd := isC_bounds hc
    obtain ⟨n, rfl⟩ : ∃ n : Nat, x = n := ⟨x.toNat, by omega⟩
    obtain ⟨m, rfl⟩ : ∃ m : Nat, y = m := ⟨y.toNat, by omega⟩
    rw [Free_i s0 s1 W hb (by omega) (by omega) n m (by omega) (by omega)]
    unfold frC
    rw [hc]
    rfl
  | false =>
    unfold impl_Room_isFree.f frC
    rw [Is_i s0 s1 W h0 h1 x y hx hy, hc]
    rfl
def RB (s0 s1 : Int) (W : LA 10) : Prop := (-128 ≤ s0 ∧ s0 ≤ 127) ∧ (-128 ≤ s1 ∧ s1 ≤ 127) ∧ ∀ i, 0 ≤ rd W.l i ∧ rd W.l i < 65536
theorem rb_mk {s0 s1 : Int} {W : LA 10} (w0 : (Lit.int .i8 s0).wf = true) (w1 : (Lit.int .i8 s1).wf = true) (h : ∀ x ∈ W.l, (Lit.int .u16 x).wf = true) : RB s0 s1 W := ⟨wf_i8 w0, wf_i8 w1, rd_bound _ fun x hx => wf_u16 (h x hx)⟩
def SB (q : S34) : Prop := (-128 ≤ q.f0 ∧ q.f0 ≤ 127) ∧ (-128 ≤ q.f1 ∧ q.f1 ≤ 127)
end Go.Proofs.Ytoiiabnnddlcbaa.Q
end
section
namespace Go.Proofs.Ytoiiabnnddlcbaa.Q
open Go.RowKit Go.Proofs.YtoiiabnnddlcbaaW.PrintWords Go.Proofs.YtoiiabnnddlcbaaW.PrintLast Go.Proofs.YtoiiabnnddlcbaaW.PrintMore Go.Proofs.Ytoiiabnnddlcbaa.La Go.Proofs.Ytoiiabnnddlcbaa.PB
set_option linter.unusedVariables false
set_option linter.unusedSimpArgs false
theorem Ev.find_idx (L : Nat → Int → Option Int) (p : Nat → Bool) (n : Nat) (hyes : ∀ i : Nat, i < n → p i = true → Ev (fun k => L k (i : Int)) (i : Int))
    (hno : ∀ i : Nat, i < n → p i = false → ∀ r, Ev (fun k => L k ((i + 1 : Nat) : Int)) r → Ev (fun k => L k (i : Int)) r) (hend : Ev (fun k => L k (n : Int)) (-1)) :
    ∃ r : Int, Ev (fun k => L k 0) r ∧ decide (r ≥ 0) = (List.range n).any p := by
  have key : ∀ (m i : Nat), i + m = n → (∀ j, j < i → p j = false) → ∃ r : Int, Ev (fun k => L k (i : Int)) r ∧ decide (r ≥ 0) = (List.range n).any p := by
    intro m
    induction m with
    | zero =>
      intro i hi hf
      obtain rfl : i = n := by omega
      refine ⟨-1, hend, ?_⟩
      rw [show ((List.range i).any p) = false from ?_]
      · rfl
      · rw [List.any_eq_false]
        intro j hj
        rw [hf j (by simpa using hj)]
        exact Bool.false_ne_true
    | succ m ih =>
      intro i hi hf
      cases hp : p i with
      | true =>
        refine ⟨(i : Int), hyes i (by omega) hp, ?_⟩
        rw [show ((List.range n).any p) = true from List.any_eq_true.2 ⟨i, by simp; omega, hp⟩]
        exact decide_eq_true (by omega)
      | false =>
        obtain ⟨r, hr, hd⟩ := ih (i + 1) (by omega) (fun j hj => by
          by_cases e : j = i
          · subst e; exact hp
          · exact hf j (by omega))
        exact ⟨r, hno i (by omega) hp r hr, hd⟩
  exact key n 0 (by omega) (fun j hj => by omega)
theorem any_range {α : Type} (l : List α) (z : α) (f : α → Bool) : (List.range l.length).any (fun i => f (l.getD i z)) = l.any f := by
  rw [Bool.eq_iff_iff, List.any_eq_true, List.any_eq_true]
  constructor
  · rintro ⟨i, hi, hf⟩
    have hi' : i < l.length := by simpa using hi
    exact ⟨_, getD_mem l i z hi', hf⟩
  · rintro ⟨x, hx, hf⟩
    obtain ⟨i, hi, rfl⟩ := List.getElem_of_mem hx
    exact ⟨i, by simpa using hi, by rw [List.getD_eq_getElem?_getD, List.getElem?_eq_getElem hi]; exact hf⟩
theorem rdS_get (l : List S34) (i : Nat) : rd_T34 l (i : Int) = l.getD i z34 := by simp [rd_T34]
theorem Unless_c (b : Bool) (c : Int) : impl_unless.f b c = some (if b then 0 else c) := by
  unfold impl_unless.f
  cases b <;> rfl
def firstNZ : List Int → Int
  | [] => 0
  | c :: cs => if c = 0 then firstNZ cs else c
theorem FirstOf_ev (l : List Int) (hl : l.length ≤ 1000) : Ev (fun k => impl_firstOf.f k l) (firstNZ l) := by
  unfold impl_firstOf.f
  have key : ∀ (m i : Nat), i + m = l.length → Ev (fun k => impl_firstOf.l0 k l (l.length : Int) (i : Int)) (firstNZ (l.drop i)) := by
    intro m
    induction m with
    | zero =>
      intro i hi
      refine Ev.succ ?_
      simp only [impl_firstOf.l0]
      rw [List.drop_of_length_le (by omega)]
      exact Ev.neg (by omega) (Ev.now _)
    | succ m ih =>
      intro i hi
      refine Ev.succ ?_
      simp only [impl_firstOf.l0]
      rw [drop_get l i 0 (by omega), firstNZ, rd_nat, wnat i l.length (by omega) (by omega)]
      refine Ev.pos (by omega) (Ev.pos (by omega) (Ev.pos (by omega) ?_))
      by_cases h : l.getD i 0 = 0
      · rw [if_pos h]
        exact Ev.pos h (ih (i + 1) (by omega))
      · rw [if_neg h]
        exact Ev.neg h (Ev.now _)
  exact key l.length 0 (by omega)
def allCell (s0 s1 : Int) (l : List S34) : Bool := !(l.any fun q => !isC s0 s1 q.f0 q.f1)
def allFree (s0 s1 : Int) (W : LA 10) (l : List S34) : Bool := !(l.any fun q => !frC s0 s1 W q.f0 q.f1)
theorem NoCell_ev (s0 s1 : Int) (W : LA 10) (h0 : 1 ≤ s0 ∧ s0 ≤ 10) (h1 : 1 ≤ s1 ∧ s1 ≤ 10) (l : List S34) (hl : l.length ≤ 1073741824) (hs : ∀ q ∈ l, SB q) :
    Ev (fun k => impl_Spot_105__106.f k l s0 s1 W) (l.any fun q => !isC s0 s1 q.f0 q.f1) := by
  unfold impl_Spot_105__106.f impl_Spot_120__106.f
  obtain ⟨r, hr, hd⟩ := Ev.find_idx (fun k i => impl_Spot_120__106.l0 k l (l.length : Int) i s0 s1 W) (fun i => !isC s0 s1 (l.getD i z34).f0 (l.getD i z34).f1) l.length
    (fun i hi hp => by
      have hm := hs _ (getD_mem l i z34 hi)
      refine Ev.succ ?_
      simp only [impl_Spot_120__106.l0, impl_cellCode_1.f]
      rw [rdS_get, Is_i s0 s1 W h0 h1 _ _ hm.1 hm.2]
      simp only [Option.bind_some]
      exact Ev.pos (by omega) (Ev.pos (by omega) (Ev.pos (by omega) (Ev.pos hp (Ev.now _)))))
    (fun i hi hp r hr => by
      have hm := hs _ (getD_mem l i z34 hi)
      refine Ev.succ ?_
      simp only [impl_Spot_120__106.l0, impl_cellCode_1.f]
      rw [rdS_get, Is_i s0 s1 W h0 h1 _ _ hm.1 hm.2, wnat i l.length hi (by omega)]
      simp only [Option.bind_some]
      exact Ev.pos (by omega) (Ev.pos (by omega) (Ev.pos (by omega) (Ev.neg (by rw [hp]; exact Bool.false_ne_true) hr))))
    (by
      refine Ev.succ ?_
      simp only [impl_Spot_120__106.l0]
      exact Ev.neg (by omega) (Ev.now _))
  rw [any_range l z34 (fun q => !isC s0 s1 q.f0 q.f1)] at hd
  exact Ev.bind hr (by rw [hd]; exact Ev.now _)
theorem NoFree_ev (s0 s1 : Int) (W : LA 10) (hb : ∀ i, 0 ≤ rd W.l i ∧ rd W.l i < 65536) (h0 : 1 ≤ s0 ∧ s0 ≤ 10) (h1 : 1 ≤ s1 ∧ s1 ≤ 10) (l : List S34) (hl : l.length ≤ 1073741824) (hs : ∀ q ∈ l, SB q) :
    Ev (fun k => impl_Spot_105__109.f k l s0 s1 W) (l.any fun q => !frC s0 s1 W q.f0 q.f1) := by
  unfold impl_Spot_105__109.f impl_Spot_120__109.f
  obtain ⟨r, hr, hd⟩ := Ev.find_idx (fun k i => impl_Spot_120__109.l0 k l (l.length : Int) i s0 s1 W) (fun i => !frC s0 s1 W (l.getD i z34).f0 (l.getD i z34).f1) l.length
    (fun i hi hp => by
      have hm := hs _ (getD_mem l i z34 hi)
      refine Ev.succ ?_
      simp only [impl_Spot_120__109.l0, impl_stateCode_1.f]
      rw [rdS_get, Fr_i s0 s1 W hb h0 h1 _ _ hm.1 hm.2]
      simp only [Option.bind_some]
      exact Ev.pos (by omega) (Ev.pos (by omega) (Ev.pos (by omega) (Ev.pos hp (Ev.now _)))))
    (fun i hi hp r hr => by
      have hm := hs _ (getD_mem l i z34 hi)
      refine Ev.succ ?_
      simp only [impl_Spot_120__109.l0, impl_stateCode_1.f]
      rw [rdS_get, Fr_i s0 s1 W hb h0 h1 _ _ hm.1 hm.2, wnat i l.length hi (by omega)]
      simp only [Option.bind_some]
      exact Ev.pos (by omega) (Ev.pos (by omega) (Ev.pos (by omega) (Ev.neg (by rw [hp]; exact Bool.false_ne_true) hr))))
    (by
      refine Ev.succ ?_
      simp only [impl_Spot_120__109.l0]
      exact Ev.neg (by omega) (Ev.now _))
  rw [any_range l z34 (fun q => !frC s0 s1 W q.f0 q.f1)] at hd
  exact Ev.bind hr (by rw [hd]; exact Ev.now _)
theorem CellCode_bad (s0 s1 : Int) (W : LA 10) (l : List S34) (hv : Ev (fun k => impl_ValidRoom.f k s0 s1 W) false) : Ev (fun k => impl_cellCode.f k s0 s1 W l) 1 := by
  unfold impl_cellCode.f
  exact Ev.bind hv (Ev.neg (by simp) (Ev.now _))
theorem CellCode_ev (s0 s1 : Int) (W : LA 10) (hv : Ev (fun k => impl_ValidRoom.f k s0 s1 W) true) (h0 : 1 ≤ s0 ∧ s0 ≤ 10) (h1 : 1 ≤ s1 ∧ s1 ≤ 10) (l : List S34) (hl : l.length ≤ 1073741824) (hs : ∀ q ∈ l, SB q) :
    Ev (fun k => impl_cellCode.f k s0 s1 W l) (if allCell s0 s1 l then 0 else 2) := by
  unfold impl_cellCode.f
  refine Ev.bind hv (Ev.pos rfl (Ev.bind (NoCell_ev s0 s1 W h0 h1 l hl hs) ?_))
  rw [Unless_c]
  exact Ev.now _
theorem StateCode_ev (s0 s1 : Int) (W : LA 10) (hb : ∀ i, 0 ≤ rd W.l i ∧ rd W.l i < 65536) (h0 : 1 ≤ s0 ∧ s0 ≤ 10) (h1 : 1 ≤ s1 ∧ s1 ≤ 10) (l : List S34) (hl : l.length ≤ 1073741824) (hs : ∀ q ∈ l, SB q) :
    Ev (fun k => impl_stateCode.f k s0 s1 W l) (if allFree s0 s1 W l then 0 else 4) := by
  unfold impl_stateCode.f
  refine Ev.bind (NoFree_ev s0 s1 W hb h0 h1 l hl hs) ?_
  rw [Unless_c]
  exact Ev.now _
def isCi (s0 s1 x y : Int) : Bool := inC x 0 (mn s0 10 - 1) && inC y 0 (mn s1 10 - 1)
theorem mn_le (a : Int) : mn a 10 ≤ 10 := by unfold mn; split <;> omega
theorem mn_ge {a b : Int} (h : b ≤ a) (hb : b ≤ 10) : b ≤ mn a 10 := by unfold mn; split <;> omega
theorem Is_ig (s0 s1 : Int) (W : LA 10) (h0 : -128 ≤ s0 ∧ s0 ≤ 127) (h1 : -128 ≤ s1 ∧ s1 ≤ 127) (x y : Int) (hx : -128 ≤ x ∧ x ≤ 127) (hy : -128 ≤ y ∧ y ≤ 127) : impl_Room_isCell.f s0 s1 W x y = some (isCi s0 s1 x y) := by
  have a1 := mn_le s0
  have a2 := mn_ge h0.1 (show (-128 : Int) ≤ 10 by omega)
  have b1 := mn_le s1
  have b2 := mn_ge h1.1 (show (-128 : Int) ≤ 10 by omega)
  unfold impl_Room_isCell.f isCi
  rw [wint s0 (by omega) (by omega), wint s1 (by omega) (by omega), wint x (by omega) (by omega), wint y (by omega) (by omega), wint (mn s0 10 - 1) (by omega) (by omega), wint (mn s1 10 - 1) (by omega) (by omega), Within_c, Within_c]
  simp only [Option.bind_some]
  cases inC x 0 (mn s0 10 - 1) <;> simp
theorem Fr_ig (s0 s1 : Int) (W : LA 10) (hr : RB s0 s1 W) (x y : Int) (hx : -128 ≤ x ∧ x ≤ 127) (hy : -128 ≤ y ∧ y ≤ 127) : impl_Room_isFree.f s0 s1 W x y = some (isCi s0 s1 x y && fr W.l x y) := by
  obtain ⟨h0, h1, hb⟩ := hr
  have a1 := mn_le s0
  have b1 := mn_le s1
  unfold impl_Room_isFree.f
  rw [Is_ig s0 s1 W h0 h1 x y hx hy]
  simp only [Option.bind_some]
  cases h : isCi s0 s1 x y with
  | false => simp
  | true =>
    have hd : (0 ≤ x ∧ x ≤ mn s0 10 - 1) ∧ (0 ≤ y ∧ y ≤ mn s1 10 - 1) := by
      unfold isCi inC at h
      simp at h
      omega
    obtain ⟨n, rfl⟩ : ∃ n : Nat, x = n := ⟨x.toNat, by omega⟩
    rw [if_pos rfl, if_pos (by omega), if_pos (by omega), if_pos (by omega), shr_bit (hb _).1 (hb _).2 (by omega)]
    unfold fr
    rw [Int.toNat_natCast]
    simp
theorem StateCode_any (s0 s1 : Int) (W : LA 10) (hr : RB s0 s1 W) (l : List S34) (hl : l.length ≤ 1073741824) (hs : ∀ q ∈ l, SB q) :
    Ev (fun k => impl_stateCode.f k s0 s1 W l) (if (l.any fun q => !(isCi s0 s1 q.f0 q.f1 && fr W.l q.f0 q.f1)) then 4 else 0) := by
  unfold impl_stateCode.f
  have hN : Ev (fun k => impl_Spot_105__109.f k l s0 s1 W) (l.any fun q => !(isCi s0 s1 q.f0 q.f1 && fr W.l q.f0 q.f1)) := by
    unfold impl_Spot_105__109.f impl_Spot_120__109.f
    obtain ⟨r, hr', hd⟩ := Ev.find_idx (fun k i => impl_Spot_120__109.l0 k l (l.length : Int) i s0 s1 W) (fun i => !(isCi s0 s1 (l.getD i z34).f0 (l.getD i z34).f1 && fr W.l (l.getD i z34).f0 (l.getD i z34).f1)) l.length
      (fun i hi hp => by
        have hm := hs _ (getD_mem l i z34 hi)
        refine Ev.succ ?_
        simp only [impl_Spot_120__109.l0, impl_stateCode_1.f]
        rw [rdS_get, Fr_ig s0 s1 W hr _ _ hm.1 hm.2]
        simp only [Option.bind_some]
        exact Ev.pos (by omega) (Ev.pos (by omega) (Ev.pos (by omega) (Ev.pos hp (Ev.now _)))))
      (fun i hi hp r hr' => by
        have hm := hs _ (getD_mem l i z34 hi)
        refine Ev.succ ?_
        simp only [impl_Spot_120__109.l0, impl_stateCode_1.f]
        rw [rdS_get, Fr_ig s0 s1 W hr _ _ hm.1 hm.2, wnat i l.length hi (by omega)]
        simp only [Option.bind_some]
        exact Ev.pos (by omega) (Ev.pos (by omega) (Ev.pos (by omega) (Ev.neg (by rw [hp]; exact Bool.false_ne_true) hr'))))
      (by
        refine Ev.succ ?_
        simp only [impl_Spot_120__109.l0]
        exact Ev.neg (by omega) (Ev.now _))
    rw [any_range l z34 (fun q => !(isCi s0 s1 q.f0 q.f1 && fr W.l q.f0 q.f1))] at hd
    exact Ev.bind hr' (by rw [hd]; exact Ev.now _)
  refine Ev.bind hN ?_
  rw [Unless_c]
  cases (l.any fun q => !(isCi s0 s1 q.f0 q.f1 && fr W.l q.f0 q.f1)) <;> exact Ev.now _
end Go.Proofs.Ytoiiabnnddlcbaa.Q
end
section
namespace Go.Proofs.Ytoiiabnnddlcbaa.Q
open Go.RowKit Go.Proofs.YtoiiabnnddlcbaaW.PrintWords Go.Proofs.YtoiiabnnddlcbaaW.PrintLast Go.Proofs.YtoiiabnnddlcbaaW.PrintMore Go.Proofs.Ytoiiabnnddlcbaa.La Go.Proofs.Ytoiiabnnddlcbaa.Mp Go.Proofs.Ytoiiabnnddlcbaa.PB
set_option linter.unusedVariables false
set_option linter.unusedSimpArgs false
theorem i8_id {v : Int} (h0 : -128 ≤ v) (h1 : v ≤ 127) : IntKind.i8.wrap v = v := by simp [IntKind.wrap, IntKind.bits, IntKind.signed]; omega
def nxt (x y : Int) : Nat → S34
  | 0 => ⟨x, y - 1⟩
  | 1 => ⟨x + 1, y⟩
  | 2 => ⟨x, y + 1⟩
  | _ => ⟨x - 1, y⟩
def besL (p : Int → Int → Bool) (x y : Int) : Nat → List S34
  | 0 => []
  | d + 1 => if p (nxt x y d).f0 (nxt x y d).f1 then besL p x y d ++ [nxt x y d] else besL p x y d
def nb (s0 s1 : Int) (W : LA 10) (x y : Int) : List S34 := besL (frC s0 s1 W) x y 4
theorem besL_len (p : Int → Int → Bool) (x y : Int) : ∀ d, (besL p x y d).length ≤ d
  | 0 => by simp [besL]
  | d + 1 => by have := besL_len p x y d; rw [besL]; split <;> simp <;> omega
theorem besL_mem (p : Int → Int → Bool) (x y : Int) : ∀ d, ∀ q ∈ besL p x y d, p q.f0 q.f1 = true
  | 0 => by simp [besL]
  | d + 1 => by
    have ih := besL_mem p x y d
    rw [besL]
    split
    · rename_i hp
      intro q hq
      rcases List.mem_append.1 hq with h | h
      · exact ih q h
      · obtain rfl := List.mem_singleton.1 h
        exact hp
    · exact ih
theorem nxt_small {x y : Int} (hx : 0 ≤ x ∧ x < 10) (hy : 0 ≤ y ∧ y < 10) (d : Nat) : (-128 ≤ (nxt x y d).f0 ∧ (nxt x y d).f0 ≤ 127) ∧ (-128 ≤ (nxt x y d).f1 ∧ (nxt x y d).f1 ≤ 127) := by
  rcases d with _ | _ | _ | d <;> simp only [nxt] <;> omega
theorem Next_s {x y : Int} (hx : 0 ≤ x ∧ x < 10) (hy : 0 ≤ y ∧ y < 10) (d : Nat) (hd : d < 4) : spec_l01Next.f x y (d : Int) = some ((nxt x y d).f0, (nxt x y d).f1) := by
  unfold spec_l01Next.f
  rw [i8_id (v := y - 1) (by omega) (by omega), i8_id (v := x + 1) (by omega) (by omega), i8_id (v := y + 1) (by omega) (by omega), i8_id (v := x - 1) (by omega) (by omega)]
  rcases d with _ | _ | _ | _ | d
  · rfl
  · rfl
  · rfl
  · rfl
  · omega
theorem Next_i {x y : Int} (hx : 0 ≤ x ∧ x < 10) (hy : 0 ≤ y ∧ y < 10) (d : Nat) (hd : d < 4) : impl_NextSpot.f x y (d : Int) = some ((nxt x y d).f0, (nxt x y d).f1) := by
  unfold impl_NextSpot.f
  rw [i8_id (v := y - 1) (by omega) (by omega), i8_id (v := x + 1) (by omega) (by omega), i8_id (v := y + 1) (by omega) (by omega), i8_id (v := x - 1) (by omega) (by omega)]
  rcases d with _ | _ | _ | _ | d
  · rfl
  · rfl
  · rfl
  · rfl
  · omega
theorem Beside_s (s0 s1 : Int) (W : LA 10) (hb : ∀ i, 0 ≤ rd W.l i ∧ rd W.l i < 65536) (h0 : 1 ≤ s0 ∧ s0 ≤ 10) (h1 : 1 ≤ s1 ∧ s1 ≤ 10) (x y : Int) (hx : 0 ≤ x ∧ x < 10) (hy : 0 ≤ y ∧ y < 10) :
    Ev (fun k => spec_l01Beside.f k s0 s1 W x y) (nb s0 s1 W x y) := by
  unfold spec_l01Beside.f
  have key : ∀ n d : Nat, d + n = 4 → Ev (fun k => spec_l01Beside.l0 k (besL (frC s0 s1 W) x y d) (d : Int) s0 s1 W x y) (nb s0 s1 W x y) := by
    intro n
    induction n with
    | zero =>
      intro d hd
      obtain rfl : d = 4 := by omega
      refine Ev.succ ?_
      simp only [spec_l01Beside.l0]
      exact Ev.neg (by omega) (Ev.now _)
    | succ n ih =>
      intro d hd
      have hs := nxt_small hx hy d
      have hl := besL_len (frC s0 s1 W) x y d
      have e := ih (d + 1) (by omega)
      rw [besL] at e
      refine Ev.succ ?_
      simp only [spec_l01Beside.l0]
      refine Ev.pos (by omega) ?_
      rw [Next_s hx hy d (by omega), wnat d 4 (by omega) (by omega)]
      simp only [Option.bind_some]
      rw [Fr_s s0 s1 W hb h0 h1 _ _ hs.1 hs.2]
      simp only [Option.bind_some]
      cases hc : frC s0 s1 W (nxt x y d).f0 (nxt x y d).f1 with
      | true => rw [hc] at e; exact Ev.pos rfl (Ev.pos (by omega) e)
      | false => rw [hc] at e; exact Ev.neg Bool.false_ne_true e
  exact key 4 0 rfl
theorem Beside_i (s0 s1 : Int) (W : LA 10) (hb : ∀ i, 0 ≤ rd W.l i ∧ rd W.l i < 65536) (h0 : 1 ≤ s0 ∧ s0 ≤ 10) (h1 : 1 ≤ s1 ∧ s1 ≤ 10) (x y : Int) (hx : 0 ≤ x ∧ x < 10) (hy : 0 ≤ y ∧ y < 10) :
    Ev (fun k => impl_Room_beside.f k s0 s1 W x y) (nb s0 s1 W x y) := by
  unfold impl_Room_beside.f
  have key : ∀ n d : Nat, d + n = 4 → Ev (fun k => impl_Room_beside.l0 k (besL (frC s0 s1 W) x y d) (d : Int) s0 s1 W x y) (nb s0 s1 W x y) := by
    intro n
    induction n with
    | zero =>
      intro d hd
      obtain rfl : d = 4 := by omega
      refine Ev.succ ?_
      simp only [impl_Room_beside.l0]
      exact Ev.neg (by omega) (Ev.now _)
    | succ n ih =>
      intro d hd
      have hs := nxt_small hx hy d
      have hl := besL_len (frC s0 s1 W) x y d
      have e := ih (d + 1) (by omega)
      rw [besL] at e
      refine Ev.succ ?_
      simp only [impl_Room_beside.l0]
      refine Ev.pos (by omega) ?_
      rw [Next_i hx hy d (by omega), wnat d 4 (by omega) (by omega)]
      simp only [Option.bind_some]
      rw [Fr_i s0 s1 W hb h0 h1 _ _ hs.1 hs.2]
      simp only [Option.bind_some]
      cases hc : frC s0 s1 W (nxt x y d).f0 (nxt x y d).f1 with
      | true => rw [hc] at e; exact Ev.pos rfl (Ev.pos (by omega) e)
      | false => rw [hc] at e; exact Ev.neg Bool.false_ne_true e
  exact key 4 0 rfl
end Go.Proofs.Ytoiiabnnddlcbaa.Q
end
section
namespace Go.Proofs.Ytoiiabnnddlcbaa.Q
open Go.RowKit Go.Proofs.YtoiiabnnddlcbaaW.PrintWords Go.Proofs.YtoiiabnnddlcbaaW.PrintLast Go.Proofs.YtoiiabnnddlcbaaW.PrintMore Go.Proofs.Ytoiiabnnddlcbaa.La Go.Proofs.Ytoiiabnnddlcbaa.Mp Go.Proofs.Ytoiiabnnddlcbaa.PB
set_option linter.unusedVariables false
set_option linter.unusedSimpArgs false
theorem mget_push (x y n a b : Int) : ∀ M : MP, mget (M ++ [(x, y, n)]) a b = if (mget M a b).isSome then mget M a b else if (a == x && (b == y)) = true then some n else none
  | [] => by simp [mget]
  | e :: M => by
    have ih := mget_push x y n a b M
    simp only [List.cons_append, mget]
    split
    · simp
    · exact ih
theorem mhas_push (M : MP) (x y n a b : Int) : mhas (M ++ [(x, y, n)]) a b = (mhas M a b || (a == x && (b == y))) := by
  unfold mhas
  rw [mget_push]
  cases hg : mget M a b with
  | some v => simp
  | none => simp only [Option.isSome_none, Bool.false_eq_true, if_false, Bool.false_or]; split <;> rename_i h <;> simp_all
theorem mval_push_old (M : MP) (x y n a b : Int) (h : mhas M a b = true) : mval (M ++ [(x, y, n)]) a b = mval M a b := by
  unfold mhas at h
  unfold mval
  rw [mget_push, if_pos h]
theorem mval_push_new (M : MP) (x y n : Int) (h : mhas M x y = false) : mval (M ++ [(x, y, n)]) x y = n := by
  unfold mhas at h
  unfold mval
  rw [mget_push, if_neg (by simp [h]), if_pos (by simp)]
  rfl
theorem countP_drop {p q : Nat → Bool} (himp : ∀ i, q i = true → p i = true) : ∀ (l : List Nat) (a : Nat), a ∈ l → p a = true → q a = false → l.countP q + 1 ≤ l.countP p
  | [], a, h, _, _ => by simp at h
  | b :: l, a, h, hp, hq => by
    have mono : l.countP q ≤ l.countP p := List.countP_mono_left (fun i _ hi => himp i hi)
    rcases List.mem_cons.1 h with rfl | h
    · rw [List.countP_cons_of_neg (by simp [hq]), List.countP_cons_of_pos hp]
      omega
    · have ih := countP_drop himp l a h hp hq
      by_cases hb : q b = true
      · rw [List.countP_cons_of_pos hb, List.countP_cons_of_pos (himp b hb)]
        omega
      · rw [List.countP_cons_of_neg (by simpa using hb)]
        have : l.countP p ≤ (b :: l).countP p := by rw [List.countP_cons]; omega
        omega
def freeNo (M : MP) (i : Nat) : Bool := !mhas M ((i % 10 : Nat) : Int) ((i / 10 : Nat) : Int)
structure St (s0 s1 : Int) (W : LA 10) (L : List S34) (M : MP) (A : LA 100) : Prop where
  key : ∀ x y, mhas M x y = true → frC s0 s1 W x y = true
  val : ∀ x y, mhas M x y = true → 0 ≤ mval M x y ∧ mval M x y ≤ L.length
  arr : ∀ x y, 0 ≤ x ∧ x < 10 → 0 ≤ y ∧ y < 10 → rd A.l (y * 10 + x) = if mhas M x y = true then mval M x y else -1
  mem : ∀ q ∈ L, mhas M q.f0 q.f1 = true
  cnt : L.length + (List.range 100).countP (freeNo M) ≤ 100
theorem frC_cell {s0 s1 : Int} {W : LA 10} (h0 : s0 ≤ 10) (h1 : s1 ≤ 10) {x y : Int} (h : frC s0 s1 W x y = true) : (0 ≤ x ∧ x < 10) ∧ (0 ≤ y ∧ y < 10) := by
  have : isC s0 s1 x y = true := by unfold frC at h; simp at h; exact h.1
  have := isC_bounds this
  omega
theorem St.push {s0 s1 : Int} {W : LA 10} {L : List S34} {M : MP} {A : LA 100} (h : St s0 s1 W L M A) (h0 : s0 ≤ 10) (h1 : s1 ≤ 10) (q : S34) (hq : frC s0 s1 W q.f0 q.f1 = true) (hn : mhas M q.f0 q.f1 = false) (n : Int) (hn0 : 0 ≤ n) (hn1 : n ≤ L.length + 1) :
    St s0 s1 W (L ++ [q]) (M ++ [(q.f0, q.f1, n)]) (LA.set A (q.f1 * 10 + q.f0) n) := by
  obtain ⟨cx, cy⟩ := frC_cell h0 h1 hq
  refine ⟨?_, ?_, ?_, ?_, ?_⟩
  · intro x y hh
    rw [mhas_push, Bool.or_eq_true] at hh
    rcases hh with hh | hh
    · exact h.key x y hh
    · simp only [Bool.and_eq_true, beq_iff_eq] at hh
      rw [hh.1, hh.2]
      exact hq
  · intro x y hh
    rw [mhas_push, Bool.or_eq_true] at hh
    rw [List.length_append, List.length_singleton]
    by_cases ho : mhas M x y = true
    · rw [mval_push_old _ _ _ _ _ _ ho]
      have := h.val x y ho
      omega
    · rcases hh with hh | hh
      · exact absurd hh ho
      · simp only [Bool.and_eq_true, beq_iff_eq] at hh
        rw [hh.1, hh.2, mval_push_new _ _ _ _ hn]
        omega
  · intro x y hx hy
    by_cases e : x = q.f0 ∧ y = q.f1
    · rw [e.1, e.2, rd_set_same _ _ _ (by omega) (by omega), mhas_push, mval_push_new _ _ _ _ hn]
      simp
    · rw [rd_set_other _ _ _ _ (by omega) (by omega) (by omega), h.arr x y hx hy, mhas_push]
      have e2 : (x == q.f0 && (y == q.f1)) = false := by
        cases hb : (x == q.f0 && (y == q.f1)) with
        | false => rfl
        | true => simp only [Bool.and_eq_true, beq_iff_eq] at hb; exact absurd hb e
      rw [e2, Bool.or_false]
      by_cases ho : mhas M x y = true
      · rw [if_pos ho, if_pos ho, mval_push_old _ _ _ _ _ _ ho]
      · rw [if_neg ho, if_neg ho]
  · intro p hp
    rw [mhas_push, Bool.or_eq_true]
    rcases List.mem_append.1 hp with hp | hp
    · exact .inl (h.mem p hp)
    · obtain rfl := List.mem_singleton.1 hp
      right
      simp
  · have hc : (q.f1 * 10 + q.f0).toNat < 100 := by omega
    have e1 : ((((q.f1 * 10 + q.f0).toNat % 10 : Nat)) : Int) = q.f0 := by omega
    have e2 : ((((q.f1 * 10 + q.f0).toNat / 10 : Nat)) : Int) = q.f1 := by omega
    have hd := countP_drop (p := freeNo M) (q := freeNo (M ++ [(q.f0, q.f1, n)])) (fun i hi => by
      unfold freeNo at hi ⊢
      rw [mhas_push] at hi
      simp only [Bool.not_eq_true', Bool.or_eq_false_iff] at hi
      rw [hi.1]
      rfl) (List.range 100) (q.f1 * 10 + q.f0).toNat (List.mem_range.2 hc) (by unfold freeNo; rw [e1, e2, hn]; rfl) (by unfold freeNo; rw [e1, e2, mhas_push]; simp)
    have := h.cnt
    rw [List.length_append, List.length_singleton]
    omega
theorem Steps_in (s0 s1 : Int) (W : LA 10) (h0 : 1 ≤ s0 ∧ s0 ≤ 10) (h1 : 1 ≤ s1 ∧ s1 ≤ 10) (i : Nat) (N : List S34) (hN : N.length ≤ 4) (hf : ∀ q ∈ N, frC s0 s1 W q.f0 q.f1 = true) : ∀ (n j : Nat), j + n = N.length → ∀ (L : List S34) (M : MP) (A : LA 100), St s0 s1 W L M A → i < L.length →
    ∃ L' M' A', St s0 s1 W L' M' A' ∧ L.length ≤ L'.length ∧ (∀ r, Ev (fun k => impl_Room_steps.l0 k L' ((i + 1 : Nat) : Int) s0 s1 W M') r → Ev (fun k => impl_Room_steps.l1 k L (i : Int) N (N.length : Int) (j : Int) s0 s1 W M) r) ∧
      (∀ r, Ev (fun k => spec_l01Steps.l2 k L' ((i + 1 : Nat) : Int) s0 s1 W A') r → Ev (fun k => spec_l01Steps.l3 k L (i : Int) N (j : Int) s0 s1 W A) r) := by
  intro n
  induction n with
  | zero =>
    intro j hj L M A hS hi
    have hc := hS.cnt
    refine ⟨L, M, A, hS, Nat.le_refl _, fun r hr => ?_, fun r hr => ?_⟩
    · refine Ev.succ ?_
      simp only [impl_Room_steps.l1]
      rw [wnat i 200 (by omega) (by omega)]
      exact Ev.neg (by omega) hr
    · refine Ev.succ ?_
      simp only [spec_l01Steps.l3]
      rw [wnat i 200 (by omega) (by omega)]
      exact Ev.neg (by omega) hr
  | succ n ih =>
    intro j hj L M A hS hi
    have hc := hS.cnt
    have hjl : j < N.length := by omega
    have hq := hf _ (getD_mem N j z34 hjl)
    obtain ⟨cx, cy⟩ := frC_cell h0.2 h1.2 hq
    have hp := hS.mem _ (getD_mem L i z34 hi)
    obtain ⟨px, py⟩ := frC_cell h0.2 h1.2 (hS.key _ _ hp)
    have hv := hS.val _ _ hp
    have ha := hS.arr _ _ cx cy
    have hap := hS.arr _ _ px py
    rw [if_pos hp] at hap
    by_cases hh : mhas M (N.getD j z34).f0 (N.getD j z34).f1 = true
    · obtain ⟨L', M', A', hS', hle, hI, hX⟩ := ih (j + 1) (by omega) L M A hS hi
      rw [if_pos hh] at ha
      have hvq := hS.val _ _ hh
      refine ⟨L', M', A', hS', hle, fun r hr => ?_, fun r hr => ?_⟩
      · refine Ev.succ ?_
        simp only [impl_Room_steps.l1]
        rw [rdS_get, wnat j 4 (by omega) (by omega)]
        exact Ev.pos (by omega) (Ev.pos (by omega) (Ev.pos (by omega) (Ev.pos hh (hI r hr))))
      · refine Ev.succ ?_
        simp only [spec_l01Steps.l3]
        rw [rdS_get, wnat j 4 (by omega) (by omega)]
        exact Ev.pos (by omega) (Ev.pos (by omega) (Ev.pos cy.1 (Ev.pos cy.2 (Ev.pos cx.1 (Ev.pos cx.2 (Ev.neg (by rw [ha]; omega) (hX r hr)))))))
    · have hh' : mhas M (N.getD j z34).f0 (N.getD j z34).f1 = false := by simpa using hh
      rw [if_neg hh] at ha
      have hS2 := hS.push h0.2 h1.2 (N.getD j z34) hq hh' (mval M (L.getD i z34).f0 (L.getD i z34).f1 + 1) (by omega) (by omega)
      obtain ⟨L', M', A', hS', hle, hI, hX⟩ := ih (j + 1) (by omega) _ _ _ hS2 (by rw [List.length_append]; omega)
      rw [List.length_append, List.length_singleton] at hle
      have hw : wrap64 (mval M (L.getD i z34).f0 (L.getD i z34).f1 + 1) = mval M (L.getD i z34).f0 (L.getD i z34).f1 + 1 := wint _ (by omega) (by omega)
      refine ⟨L', M', A', hS', by omega, fun r hr => ?_, fun r hr => ?_⟩
      · refine Ev.succ ?_
        simp only [impl_Room_steps.l1]
        rw [rdS_get, rdS_get, wnat j 4 (by omega) (by omega), hw]
        exact Ev.pos (by omega) (Ev.pos (by omega) (Ev.pos (by omega) (Ev.neg hh (Ev.pos (by omega) (Ev.pos (by omega) (Ev.pos (by omega) (hI r hr)))))))
      · refine Ev.succ ?_
        simp only [spec_l01Steps.l3]
        rw [rdS_get, rdS_get, wnat j 4 (by omega) (by omega), hap, hw]
        exact Ev.pos (by omega) (Ev.pos (by omega) (Ev.pos cy.1 (Ev.pos cy.2 (Ev.pos cx.1 (Ev.pos cx.2 (Ev.pos (by rw [ha]; omega) (Ev.pos (by omega) (Ev.pos (by omega) (Ev.pos py.1 (Ev.pos py.2 (Ev.pos px.1 (Ev.pos px.2 (Ev.pos (by omega) (hX r hr))))))))))))))
theorem Steps_out (s0 s1 : Int) (W : LA 10) (hb : ∀ i, 0 ≤ rd W.l i ∧ rd W.l i < 65536) (h0 : 1 ≤ s0 ∧ s0 ≤ 10) (h1 : 1 ≤ s1 ∧ s1 ≤ 10) : ∀ (n i : Nat), i + n = 101 → ∀ (L : List S34) (M : MP) (A : LA 100), St s0 s1 W L M A → i ≤ L.length →
    ∃ L' M' A', St s0 s1 W L' M' A' ∧ Ev (fun k => impl_Room_steps.l0 k L (i : Int) s0 s1 W M) M' ∧ Ev (fun k => spec_l01Steps.l2 k L (i : Int) s0 s1 W A) A' := by
  intro n
  induction n with
  | zero =>
    intro i hi L M A hS hl
    have := hS.cnt
    omega
  | succ n ih =>
    intro i hi L M A hS hl
    by_cases hil : i < L.length
    · have hp := hS.mem _ (getD_mem L i z34 hil)
      obtain ⟨px, py⟩ := frC_cell h0.2 h1.2 (hS.key _ _ hp)
      obtain ⟨L', M', A', hS', hle, hI, hX⟩ := Steps_in s0 s1 W h0 h1 i (nb s0 s1 W (L.getD i z34).f0 (L.getD i z34).f1) (besL_len _ _ _ 4) (besL_mem _ _ _ 4) _ 0 (Nat.zero_add _) L M A hS hil
      obtain ⟨L2, M2, A2, hS2, e1, e2⟩ := ih (i + 1) (by omega) L' M' A' hS' (by omega)
      refine ⟨L2, M2, A2, hS2, ?_, ?_⟩
      · refine Ev.succ ?_
        simp only [impl_Room_steps.l0]
        rw [rdS_get]
        exact Ev.pos (by omega) (Ev.pos (by omega) (Ev.bind (Beside_i s0 s1 W hb h0 h1 _ _ px py) (hI _ e1)))
      · refine Ev.succ ?_
        simp only [spec_l01Steps.l2]
        rw [rdS_get]
        exact Ev.pos (by omega) (Ev.pos (by omega) (Ev.bind (Beside_s s0 s1 W hb h0 h1 _ _ px py) (hX _ e2)))
    · refine ⟨L, M, A, hS, ?_, ?_⟩
      · refine Ev.succ ?_
        simp only [impl_Room_steps.l0]
        exact Ev.neg (by omega) (Ev.now _)
      · refine Ev.succ ?_
        simp only [spec_l01Steps.l2]
        exact Ev.neg (by omega) (Ev.now _)
def filled (A : LA 100) (y x : Int) : Prop := ∀ a b : Int, 0 ≤ a ∧ a < 10 → 0 ≤ b ∧ b < 10 → (b < y ∨ b = y ∧ a < x) → rd A.l (b * 10 + a) = -1
theorem Fill_in (s0 s1 : Int) (W : LA 10) (a0 a1 : Int) (y : Nat) (hy : y < 10) : ∀ (n x : Nat), x + n = 10 → ∀ A, filled A y x → ∃ A', filled A' ((y + 1 : Nat) : Int) 0 ∧ ∀ r, Ev (fun k => spec_l01Steps.l0 k ((y + 1 : Nat) : Int) s0 s1 W a0 a1 A') r → Ev (fun k => spec_l01Steps.l1 k (y : Int) (x : Int) s0 s1 W a0 a1 A) r := by
  intro n
  induction n with
  | zero =>
    intro x hx A hA
    refine ⟨A, fun a b ha hb hl => hA a b ha hb (by omega), fun r hr => ?_⟩
    refine Ev.succ ?_
    simp only [spec_l01Steps.l1]
    rw [wnat y 10 (by omega) (by omega)]
    exact Ev.neg (by omega) hr
  | succ n ih =>
    intro x hx A hA
    obtain ⟨A', hA', hr'⟩ := ih (x + 1) (by omega) (LA.set A ((y : Int) * 10 + (x : Int)) (-1)) (fun a b ha hb hl => by
      by_cases e : b = y ∧ a = x
      · rw [e.1, e.2, rd_set_same _ _ _ (by omega) (by omega)]
      · rw [rd_set_other _ _ _ _ (by omega) (by omega) (by omega)]
        exact hA a b ha hb (by omega))
    refine ⟨A', hA', fun r hr => ?_⟩
    refine Ev.succ ?_
    simp only [spec_l01Steps.l1]
    rw [wnat x 10 (by omega) (by omega)]
    exact Ev.pos (by omega) (Ev.pos (by omega) (Ev.pos (by omega) (Ev.pos (by omega) (hr' r hr))))
theorem Fill_out (s0 s1 : Int) (W : LA 10) (a0 a1 : Int) (hx : 0 ≤ a0 ∧ a0 < 10) (hy : 0 ≤ a1 ∧ a1 < 10) : ∀ (n y : Nat), y + n = 10 → ∀ A, filled A y 0 → ∃ A', filled A' 10 0 ∧ ∀ r, Ev (fun k => spec_l01Steps.l2 k [⟨a0, a1⟩] 0 s0 s1 W (LA.set A' (a1 * 10 + a0) 0)) r → Ev (fun k => spec_l01Steps.l0 k (y : Int) s0 s1 W a0 a1 A) r := by
  intro n
  induction n with
  | zero =>
    intro y hyy A hA
    obtain rfl : y = 10 := by omega
    refine ⟨A, hA, fun r hr => ?_⟩
    refine Ev.succ ?_
    simp only [spec_l01Steps.l0]
    exact Ev.neg (by omega) (Ev.pos hy.1 (Ev.pos hy.2 (Ev.pos hx.1 (Ev.pos hx.2 hr))))
  | succ n ih =>
    intro y hyy A hA
    obtain ⟨A1, hA1, h1⟩ := Fill_in s0 s1 W a0 a1 y (by omega) 10 0 rfl A hA
    obtain ⟨A', hA', h2⟩ := ih (y + 1) (by omega) A1 hA1
    refine ⟨A', hA', fun r hr => ?_⟩
    refine Ev.succ ?_
    simp only [spec_l01Steps.l0]
    exact Ev.pos (by omega) (h1 r (h2 r hr))
theorem Steps_both (s0 s1 : Int) (W : LA 10) (hb : ∀ i, 0 ≤ rd W.l i ∧ rd W.l i < 65536) (h0 : 1 ≤ s0 ∧ s0 ≤ 10) (h1 : 1 ≤ s1 ∧ s1 ≤ 10) (x y : Int) (hf : frC s0 s1 W x y = true) :
    ∃ L M A, St s0 s1 W L M A ∧ Ev (fun k => impl_Room_steps.f k s0 s1 W x y) M ∧ Ev (fun k => spec_l01Steps.f k s0 s1 W x y) A := by
  obtain ⟨cx, cy⟩ := frC_cell h0.2 h1.2 hf
  obtain ⟨A', hA', h2⟩ := Fill_out s0 s1 W x y cx cy 10 0 rfl (LA.zero 100) (fun a b ha hb hl => by omega)
  have hg : ∀ a b : Int, mhas [(x, y, 0)] a b = (a == x && (b == y)) := fun a b => by
    unfold mhas mget
    cases (a == x && (b == y)) <;> rfl
  have hS : St s0 s1 W [⟨x, y⟩] [(x, y, 0)] (LA.set A' (y * 10 + x) 0) := by
    refine ⟨?_, ?_, ?_, ?_, ?_⟩
    · intro a b h
      rw [hg] at h
      simp only [Bool.and_eq_true, beq_iff_eq] at h
      rw [h.1, h.2]
      exact hf
    · intro a b h
      rw [hg] at h
      simp only [Bool.and_eq_true, beq_iff_eq] at h
      rw [h.1, h.2]
      simp [mval, mget]
    · intro a b ha hb
      rw [hg]
      by_cases e : a = x ∧ b = y
      · rw [e.1, e.2, rd_set_same _ _ _ (by omega) (by omega)]
        simp [mval, mget]
      · rw [rd_set_other _ _ _ _ (by omega) (by omega) (by omega), hA' a b ha hb (by omega), if_neg (by simpa using e)]
    · intro q hq
      obtain rfl := List.mem_singleton.1 hq
      rw [hg]
      simp
    · have hc : (y * 10 + x).toNat < 100 := by omega
      have e1 : ((((y * 10 + x).toNat % 10 : Nat)) : Int) = x := by omega
      have e2 : ((((y * 10 + x).toNat / 10 : Nat)) : Int) = y := by omega
      have hd := countP_drop (p := fun _ => true) (q := freeNo [(x, y, 0)]) (fun i hi => rfl) (List.range 100) (y * 10 + x).toNat (List.mem_range.2 hc) rfl (by unfold freeNo; rw [e1, e2, hg]; simp)
      have hl : (List.range 100).countP (fun _ => true) ≤ 100 := by have := List.countP_le_length (p := fun _ : Nat => true) (l := List.range 100); rwa [List.length_range] at this
      simp only [List.length_singleton]
      omega
  obtain ⟨L, M, A, hS', e1, e2⟩ := Steps_out s0 s1 W hb h0 h1 101 0 rfl _ _ _ hS (Nat.zero_le _)
  refine ⟨L, M, A, hS', e1, ?_⟩
  unfold spec_l01Steps.f
  exact h2 _ e2
end Go.Proofs.Ytoiiabnnddlcbaa.Q
end
section
namespace Go.Proofs.Ytoiiabnnddlcbaa.Q
open Go.RowKit Go.Proofs.YtoiiabnnddlcbaaW.PrintWords Go.Proofs.YtoiiabnnddlcbaaW.PrintLast Go.Proofs.YtoiiabnnddlcbaaW.PrintMore Go.Proofs.Ytoiiabnnddlcbaa.La Go.Proofs.Ytoiiabnnddlcbaa.Mp Go.Proofs.Ytoiiabnnddlcbaa.PB
set_option linter.unusedVariables false
set_option linter.unusedSimpArgs false
theorem rowL_filter (p g : Int → Int → Bool) (f : S34 → Bool) (y : Int) (acc : List S34) : ∀ x, (∀ a : Nat, a < x → p (a : Int) y = (g (a : Int) y && f ⟨(a : Int), y⟩)) → rowL p y (acc.filter f) x = (rowL g y acc x).filter f
  | 0, _ => rfl
  | x + 1, h => by
    have ih := rowL_filter p g f y acc x (fun a ha => h a (by omega))
    have hx := h x (by omega)
    rw [rowL, rowL, ih, hx]
    cases hg : g (x : Int) y with
    | false => simp
    | true =>
      cases hf : f ⟨(x : Int), y⟩ with
      | false => simp [hf, List.filter_append]
      | true => simp [hf, List.filter_append]
theorem cellsL_filter (p g : Int → Int → Bool) (f : S34 → Bool) (w : Nat) : ∀ h, (∀ a b : Nat, a < w → b < h → p (a : Int) (b : Int) = (g (a : Int) (b : Int) && f ⟨(a : Int), (b : Int)⟩)) → cellsL p w h = (cellsL g w h).filter f
  | 0, _ => rfl
  | h + 1, hh => by
    rw [cellsL, cellsL, cellsL_filter p g f w h (fun a b ha hb => hh a b ha (by omega))]
    exact rowL_filter p g f (h : Int) _ w (fun a ha => hh a h ha (by omega))
theorem Near_i (s0 s1 : Int) (W : LA 10) (w h : Nat) (hw : w ≤ 10) (hh : h ≤ 10) (e0 : s0 = w) (e1 : s1 = h) (M : MP) (most : Int) : Ev (fun k => impl_Room_cells__111.f k s0 s1 W M most) (cellsL (fun x y => mhas M x y && decide (mval M x y ≤ most)) w h) := by
  show Ev (fun k => impl_Room_cells__111.l0 k [] s1 0 most M s0 s1 W) _
  refine Ev.cells (fun x y => mhas M x y && decide (mval M x y ≤ most)) w h hw hh (fun k acc y => impl_Room_cells__111.l0 k acc s1 y most M s0 s1 W) (fun k acc y x => impl_Room_cells__111.l1 k acc y s1 y s0 x most M s0 s1 W) ?_ ?_ ?_ ?_
  · intro acc y r hy hr
    refine Ev.succ ?_
    simp only [impl_Room_cells__111.l0]
    exact Ev.pos (by omega) hr
  · intro acc
    refine Ev.succ ?_
    simp only [impl_Room_cells__111.l0]
    exact Ev.neg (by omega) (Ev.now acc)
  · intro acc y x r hy hx hl hr
    refine Ev.succ ?_
    simp only [impl_Room_cells__111.l1]
    refine Ev.pos (by omega) ?_
    have e : impl_Room_near_1.f (x : Int) (y : Int) M most = some (mhas M x y && decide (mval M x y ≤ most)) := by
      unfold impl_Room_near_1.f
      cases mhas M (x : Int) (y : Int) <;> simp
    rw [e, i8_wnat x (by omega)]
    simp only [Option.bind_some]
    cases hc : (mhas M (x : Int) (y : Int) && decide (mval M (x : Int) (y : Int) ≤ most)) with
    | true =>
      simp only [hc, if_true] at hr ⊢
      exact Ev.pos (by omega) hr
    | false =>
      simp only [hc, Bool.false_eq_true, if_false] at hr ⊢
      exact hr
  · intro acc y r hy hr
    refine Ev.succ ?_
    simp only [impl_Room_cells__111.l1]
    rw [i8_wnat y (by omega)]
    exact Ev.neg (by omega) hr
theorem NearL_s (most : Int) (A : LA 100) (N : List S34) (hl : N.length ≤ 1000) (hN : ∀ q ∈ N, (0 ≤ q.f0 ∧ q.f0 < 10) ∧ (0 ≤ q.f1 ∧ q.f1 < 10)) : Ev (fun k => spec_l01Near.l0 k most [] N 0 A) (N.filter fun q => inC (rd A.l (q.f1 * 10 + q.f0)) 0 most) := by
  have key : ∀ n j : Nat, j + n = N.length → Ev (fun k => spec_l01Near.l0 k most ((N.take j).filter fun q => inC (rd A.l (q.f1 * 10 + q.f0)) 0 most) N (j : Int) A) (N.filter fun q => inC (rd A.l (q.f1 * 10 + q.f0)) 0 most) := by
    intro n
    induction n with
    | zero =>
      intro j hj
      obtain rfl : j = N.length := by omega
      refine Ev.succ ?_
      simp only [spec_l01Near.l0]
      refine Ev.neg (by omega) ?_
      rw [List.take_length]
      exact Ev.now _
    | succ n ih =>
      intro j hj
      have hjl : j < N.length := by omega
      obtain ⟨cx, cy⟩ := hN _ (getD_mem N j z34 hjl)
      have e := ih (j + 1) (by omega)
      rw [take_get N j z34 hjl, List.filter_append] at e
      have hlen : ((N.take j).filter fun q => inC (rd A.l (q.f1 * 10 + q.f0)) 0 most).length ≤ 1000 := by
        have := List.length_filter_le (fun q => inC (rd A.l (q.f1 * 10 + q.f0)) 0 most) (N.take j)
        rw [List.length_take] at this
        omega
      refine Ev.succ ?_
      simp only [spec_l01Near.l0]
      rw [rdS_get, wnat j 1000 (by omega) (by omega), In_c]
      simp only [Option.bind_some]
      refine Ev.pos (by omega) (Ev.pos (by omega) (Ev.pos cy.1 (Ev.pos cy.2 (Ev.pos cx.1 (Ev.pos cx.2 ?_)))))
      cases hc : inC (rd A.l ((N.getD j z34).f1 * 10 + (N.getD j z34).f0)) 0 most with
      | true =>
        simp only [List.filter_cons, List.filter_nil, hc, if_true] at e
        exact Ev.pos rfl (Ev.pos (by omega) e)
      | false =>
        simp only [List.filter_cons, List.filter_nil, hc, Bool.false_eq_true, if_false, List.append_nil] at e
        exact Ev.neg Bool.false_ne_true e
  exact key N.length 0 (Nat.zero_add _)
def freeL (s0 s1 : Int) (W : LA 10) : List S34 := cellsL (fr W.l) s0.toNat s1.toNat
theorem freeL_mem {s0 s1 : Int} {W : LA 10} (h0 : 1 ≤ s0 ∧ s0 ≤ 10) (h1 : 1 ≤ s1 ∧ s1 ≤ 10) : ∀ q ∈ freeL s0 s1 W, (0 ≤ q.f0 ∧ q.f0 < 10) ∧ (0 ≤ q.f1 ∧ q.f1 < 10) := fun q hq => by
  have := cellsL_mem (fr W.l) s0.toNat s1.toNat s1.toNat (Nat.le_refl _) q hq
  omega
theorem freeL_len {s0 s1 : Int} {W : LA 10} (h0 : 1 ≤ s0 ∧ s0 ≤ 10) (h1 : 1 ≤ s1 ∧ s1 ≤ 10) : (freeL s0 s1 W).length ≤ 100 := by
  have h := cellsL_len (fr W.l) s0.toNat s1.toNat
  have h2 : s0.toNat * s1.toNat ≤ 10 * 10 := Nat.mul_le_mul (by omega) (by omega)
  unfold freeL
  omega
theorem Near_both (s0 s1 : Int) (W : LA 10) (hb : ∀ i, 0 ≤ rd W.l i ∧ rd W.l i < 65536) (h0 : 1 ≤ s0 ∧ s0 ≤ 10) (h1 : 1 ≤ s1 ∧ s1 ≤ 10) (x y : Int) (hf : frC s0 s1 W x y = true) (most : Int) :
    ∃ l, l.length ≤ 100 ∧ Ev (fun k => spec_l01Near.f k s0 s1 W x y most) l ∧ Ev (fun k => impl_Room_near.f k s0 s1 W x y most) l := by
  obtain ⟨L, M, A, hS, e1, e2⟩ := Steps_both s0 s1 W hb h0 h1 x y hf
  refine ⟨(freeL s0 s1 W).filter fun q => inC (rd A.l (q.f1 * 10 + q.f0)) 0 most, ?_, ?_, ?_⟩
  · exact Nat.le_trans (List.length_filter_le _ _) (freeL_len h0 h1)
  · unfold spec_l01Near.f
    refine Ev.bind e2 (Ev.bind (All_s s0 s1 W hb s0.toNat s1.toNat (by omega) (by omega) (by omega) (by omega)) ?_)
    have := freeL_len (W := W) h0 h1
    exact NearL_s most A _ (by unfold freeL at this; omega) (freeL_mem h0 h1)
  · unfold impl_Room_near.f
    refine Ev.bind e1 (Ev.bind (Near_i s0 s1 W s0.toNat s1.toNat (by omega) (by omega) (by omega) (by omega) M most) (Ev.eq (Ev.now _) ?_))
    refine cellsL_filter _ _ _ _ _ (fun a b ha hb => ?_)
    have ha' := hS.arr (a : Int) (b : Int) (by omega) (by omega)
    dsimp only
    rw [ha']
    cases hm : mhas M (a : Int) (b : Int) with
    | true =>
      have hk := hS.key _ _ hm
      have hv := hS.val _ _ hm
      have hfr : fr W.l (a : Int) (b : Int) = true := by unfold frC at hk; simp at hk; exact hk.2
      rw [hfr, if_pos rfl]
      unfold inC
      simp
      intro _
      exact hv.1
    | false =>
      rw [if_neg Bool.false_ne_true]
      unfold inC
      simp
theorem Cells_s (s0 s1 : Int) (W : LA 10) (h0 : 1 ≤ s0 ∧ s0 ≤ 10) (h1 : 1 ≤ s1 ∧ s1 ≤ 10) (l : List S34) (hl : l.length ≤ 1073741824) (hs : ∀ q ∈ l, SB q) : Ev (fun k => spec_l03Cells.f k s0 s1 W l) (allCell s0 s1 l) := by
  unfold spec_l03Cells.f
  have key : ∀ (n i : Nat), i + n = l.length → Ev (fun k => spec_l03Cells.l0 k l (i : Int) s0 s1 W) (allCell s0 s1 (l.drop i)) := by
    intro n
    induction n with
    | zero =>
      intro i hi
      obtain rfl : i = l.length := by omega
      rw [List.drop_length]
      refine Ev.succ ?_
      simp only [spec_l03Cells.l0]
      exact Ev.neg (by omega) (Ev.now _)
    | succ n ih =>
      intro i hi
      have hil : i < l.length := by omega
      have hm := hs _ (getD_mem l i z34 hil)
      refine Ev.succ ?_
      simp only [spec_l03Cells.l0]
      refine Ev.pos (by omega) (Ev.pos (by omega) ?_)
      rw [rdS_get, Is_s s0 s1 W h0 h1 _ _ hm.1 hm.2, wnat i l.length hil (by omega), drop_get l i z34 hil]
      simp only [Option.bind_some]
      cases hc : isC s0 s1 (l.getD i z34).f0 (l.getD i z34).f1 with
      | true =>
        refine Ev.pos rfl (Ev.eq (ih (i + 1) (by omega)) ?_)
        unfold allCell
        rw [List.any_cons, hc]
        rfl
      | false =>
        refine Ev.neg (by simp) (Ev.eq (Ev.now false) ?_)
        unfold allCell
        rw [List.any_cons, hc]
        rfl
  exact key l.length 0 (by omega)
theorem Asked6_bad (s0 s1 : Int) (W : LA 10) (l : List S34) (b : Bool) (hv : Ev (fun k => spec_l01Ok.f k s0 s1 W) false) : Ev (fun k => spec_l06Asked.f k s0 s1 W l b) 1 := by
  unfold spec_l06Asked.f
  exact Ev.bind hv (Ev.neg Bool.false_ne_true (Ev.now _))
theorem AskedL_ev (s0 s1 : Int) (W : LA 10) (hb : ∀ i, 0 ≤ rd W.l i ∧ rd W.l i < 65536) (h0 : 1 ≤ s0 ∧ s0 ≤ 10) (h1 : 1 ≤ s1 ∧ s1 ≤ 10) (l : List S34) (hl : l.length ≤ 1073741824) (hs : ∀ q ∈ l, SB q) :
    Ev (fun k => spec_l06Asked.l0 k l 0 s0 s1 W) (if allFree s0 s1 W l then 0 else 4) := by
  have key : ∀ (n i : Nat), i + n = l.length → Ev (fun k => spec_l06Asked.l0 k l (i : Int) s0 s1 W) (if allFree s0 s1 W (l.drop i) then 0 else 4) := by
    intro n
    induction n with
    | zero =>
      intro i hi
      obtain rfl : i = l.length := by omega
      rw [List.drop_length]
      refine Ev.succ ?_
      simp only [spec_l06Asked.l0]
      exact Ev.neg (by omega) (Ev.now _)
    | succ n ih =>
      intro i hi
      have hil : i < l.length := by omega
      have hm := hs _ (getD_mem l i z34 hil)
      refine Ev.succ ?_
      simp only [spec_l06Asked.l0]
      refine Ev.pos (by omega) (Ev.pos (by omega) ?_)
      rw [rdS_get, Fr_s s0 s1 W hb h0 h1 _ _ hm.1 hm.2, wnat i l.length hil (by omega), drop_get l i z34 hil]
      simp only [Option.bind_some]
      cases hc : frC s0 s1 W (l.getD i z34).f0 (l.getD i z34).f1 with
      | true =>
        refine Ev.pos rfl (Ev.eq (ih (i + 1) (by omega)) ?_)
        unfold allFree
        rw [List.any_cons, hc]
        rfl
      | false =>
        refine Ev.neg (by simp) (Ev.eq (Ev.now 4) ?_)
        unfold allFree
        rw [List.any_cons, hc]
        rfl
  exact key l.length 0 (by omega)
theorem Asked6_ev (s0 s1 : Int) (W : LA 10) (hb : ∀ i, 0 ≤ rd W.l i ∧ rd W.l i < 65536) (hv : Ev (fun k => spec_l01Ok.f k s0 s1 W) true) (h0 : 1 ≤ s0 ∧ s0 ≤ 10) (h1 : 1 ≤ s1 ∧ s1 ≤ 10) (l : List S34) (hl : l.length ≤ 1073741824) (hs : ∀ q ∈ l, SB q) (b : Bool) :
    Ev (fun k => spec_l06Asked.f k s0 s1 W l b) (if allCell s0 s1 l && b then (if allFree s0 s1 W l then 0 else 4) else 2) := by
  unfold spec_l06Asked.f
  refine Ev.bind hv (Ev.pos rfl (Ev.bind (Cells_s s0 s1 W h0 h1 l hl hs) ?_))
  have hj : ∀ c : Bool, Ev (fun k => spec_l06Asked.j0 k l c s0 s1 W) (if c then 2 else (if allFree s0 s1 W l then 0 else 4)) := fun c => by
    refine Ev.succ ?_
    simp only [spec_l06Asked.j0]
    cases c with
    | true => exact Ev.pos rfl (Ev.now _)
    | false => exact Ev.neg Bool.false_ne_true (AskedL_ev s0 s1 W hb h0 h1 l hl hs)
  cases hc : allCell s0 s1 l with
  | false =>
    exact Ev.neg Bool.false_ne_true (Ev.eq (hj true) (by simp))
  | true =>
    refine Ev.pos rfl (Ev.eq (hj (!b)) ?_)
    cases b <;> simp
theorem CodeMany_ev (s0 s1 : Int) (W : LA 10) (hr : RB s0 s1 W) (l : List S34) (hl : l.length ≤ 1073741824) (hs : ∀ q ∈ l, SB q) :
    ∃ ok : Bool, Ev (fun k => spec_l01Ok.f k s0 s1 W) ok ∧ Ev (fun k => impl_ValidRoom.f k s0 s1 W) ok ∧ (ok = true → (1 ≤ s0 ∧ s0 ≤ 10) ∧ (1 ≤ s1 ∧ s1 ≤ 10)) ∧
      ∃ c1 c3 : Int, Ev (fun k => impl_cellCode.f k s0 s1 W l) c1 ∧ Ev (fun k => impl_stateCode.f k s0 s1 W l) c3 ∧
        ∀ b : Bool, Ev (fun k => spec_l06Asked.f k s0 s1 W l b) (firstNZ [c1, if b then 0 else 2, c3]) ∧ (firstNZ [c1, if b then 0 else 2, c3] = 0 → allFree s0 s1 W l = true ∧ ok = true ∧ b = true) := by
  obtain ⟨ok, o1, o2, o3⟩ := Ok_both s0 s1 W hr.1 hr.2.1
  refine ⟨ok, o1, o2, o3, ?_⟩
  cases ok with
  | false =>
    refine ⟨1, _, CellCode_bad s0 s1 W _ o2, StateCode_any s0 s1 W hr _ hl hs, fun b => ⟨Asked6_bad s0 s1 W l b o1, fun h => ?_⟩⟩
    simp [firstNZ] at h
  | true =>
    obtain ⟨h0, h1⟩ := o3 rfl
    refine ⟨_, _, CellCode_ev s0 s1 W o2 h0 h1 _ hl hs, StateCode_ev s0 s1 W hr.2.2 h0 h1 _ hl hs, fun b => ?_⟩
    have e := Asked6_ev s0 s1 W hr.2.2 o1 h0 h1 l hl hs b
    cases hc : allCell s0 s1 l <;> cases b <;> cases hf : allFree s0 s1 W l <;> rw [hc, hf] at e <;> simp [firstNZ] at e ⊢ <;> exact e
end Go.Proofs.Ytoiiabnnddlcbaa.Q
end
section
namespace Go.Proofs.Ytoiiabnnddlcbaa.Q
open Go.RowKit Go.Proofs.YtoiiabnnddlcbaaW.PrintWords Go.Proofs.YtoiiabnnddlcbaaW.PrintLast Go.Proofs.YtoiiabnnddlcbaaW.PrintMore Go.Proofs.Ytoiiabnnddlcbaa.La Go.Proofs.Ytoiiabnnddlcbaa.Mp Go.Proofs.Ytoiiabnnddlcbaa.PB
set_option linter.unusedVariables false
set_option linter.unusedSimpArgs false
theorem CalledFrom_both (s0 s1 : Int) (W : LA 10) (hr : RB s0 s1 W) (x y : Int) (hx : -128 ≤ x ∧ x ≤ 127) (hy : -128 ≤ y ∧ y ≤ 127) (m : Int) :
    ∃ r : List S34 × Int, r.1.length ≤ 1048576 ∧ Ev (fun k => spec_CalledFrom.f k s0 s1 W x y m) r ∧ Ev (fun k => impl_CalledFrom.f k s0 s1 W x y m) r := by
  have hsb : ∀ q ∈ [(⟨x, y⟩ : S34)], SB q := by
    intro q hq
    rw [List.mem_singleton] at hq
    subst hq
    exact ⟨hx, hy⟩
  obtain ⟨ok, o1, o2, o3, c1, c3, e1, e3, hs⟩ := CodeMany_ev s0 s1 W hr [⟨x, y⟩] (by simp) hsb
  obtain ⟨es, hz⟩ := hs (inC m 0 20)
  have hf := FirstOf_ev [c1, if inC m 0 20 then 0 else 2, c3] (by simp)
  have hl : spec_l06Loud.f m = some (inC m 0 20) := by unfold spec_l06Loud.f; rw [In_c]; rfl
  by_cases hc : firstNZ [c1, if inC m 0 20 then 0 else 2, c3] = 0
  · obtain ⟨hfree, hok, _⟩ := hz hc
    obtain ⟨h0, h1⟩ := o3 hok
    have hfr : frC s0 s1 W x y = true := by unfold allFree at hfree; simpa using hfree
    obtain ⟨l, hll, n1, n2⟩ := Near_both s0 s1 W hr.2.2 h0 h1 x y hfr m
    refine ⟨(l, 0), by dsimp only; omega, ?_, ?_⟩
    · unfold spec_CalledFrom.f
      exact Ev.bind (Ev.const hl) (Ev.bind es (Ev.pos hc (Ev.bind n1 (Ev.now _))))
    · unfold impl_CalledFrom.f
      exact Ev.bind e1 (Ev.bind (Ev.const (Within_c m 0 20)) (Ev.bind (Ev.const (Unless_c _ 2)) (Ev.bind e3 (Ev.bind hf (Ev.pos hc (Ev.bind n2 (Ev.now _)))))))
  · refine ⟨([], firstNZ [c1, if inC m 0 20 then 0 else 2, c3]), by simp, ?_, ?_⟩
    · unfold spec_CalledFrom.f
      exact Ev.bind (Ev.const hl) (Ev.bind es (Ev.neg hc (Ev.now _)))
    · unfold impl_CalledFrom.f
      exact Ev.bind e1 (Ev.bind (Ev.const (Within_c m 0 20)) (Ev.bind (Ev.const (Unless_c _ 2)) (Ev.bind e3 (Ev.bind hf (Ev.neg hc (Ev.now _))))))
end Go.Proofs.Ytoiiabnnddlcbaa.Q
end
section
namespace Go.Proofs.Ytoiiabnnddlcbaa.Q
open Go.RowKit Go.Proofs.YtoiiabnnddlcbaaW.PrintWords Go.Proofs.YtoiiabnnddlcbaaW.PrintLast Go.Proofs.YtoiiabnnddlcbaaW.PrintMore Go.Proofs.Ytoiiabnnddlcbaa.La Go.Proofs.Ytoiiabnnddlcbaa.PB
set_option linter.unusedVariables false
set_option linter.unusedSimpArgs false
theorem ext_rd {n : Nat} {A B : LA n} (h : ∀ j : Nat, j < n → rd A.l (j : Int) = rd B.l (j : Int)) : A = B := by
  apply LA.ext_l
  apply List.ext_getElem (by rw [A.h, B.h])
  intro j h1 h2
  have hj : j < n := by rw [A.h] at h1; exact h1
  have := h j hj
  rw [rd_nat, rd_nat, List.getD_eq_getElem?_getD, List.getD_eq_getElem?_getD, List.getElem?_eq_getElem h1, List.getElem?_eq_getElem h2] at this
  exact this
theorem toU_ev (W : LA 10) : Ev (fun k => laws_toUint16A10.f k W) W := by
  unfold laws_toUint16A10.f
  have key : ∀ (m i : Nat) (X : LA 10), i + m = 10 → (∀ j : Nat, j < i → rd X.l (j : Int) = rd W.l (j : Int)) → Ev (fun k => laws_toUint16A10.l0 k (i : Int) W X) W := by
    intro m
    induction m with
    | zero =>
      intro i X hi hX
      obtain rfl : i = 10 := by omega
      refine Ev.succ ?_
      simp only [laws_toUint16A10.l0]
      rw [ext_rd hX]
      exact Ev.neg (by omega) (Ev.now _)
    | succ m ih =>
      intro i X hi hX
      refine Ev.succ ?_
      simp only [laws_toUint16A10.l0]
      rw [wnat i 10 (by omega) (by omega)]
      refine Ev.pos (by omega) (Ev.pos (by omega) (ih (i + 1) _ (by omega) (fun j hj => ?_)))
      by_cases e : j = i
      · subst e
        exact rd_set_same X _ _ (by omega) (by omega)
      · rw [rd_set_other X _ _ _ (by omega) (by omega) (by omega)]
        exact hX j (by omega)
  exact key 10 0 _ rfl (fun j hj => by omega)
theorem toRoom_ev (s0 s1 : Int) (W : LA 10) : Ev (fun k => laws_toRoom.f k s0 s1 W) (s0, s1, W) := by
  unfold laws_toRoom.f
  exact Ev.bind (toU_ev W) (Ev.now _)
theorem toSpot_c (x y : Int) : laws_toSpot.f x y = some (x, y) := rfl
end Go.Proofs.Ytoiiabnnddlcbaa.Q
end
section
namespace Go.Proofs.Ytoiiabnnddlcbaa.Q
open Go.RowKit Go.Proofs.YtoiiabnnddlcbaaW.PrintWords Go.Proofs.YtoiiabnnddlcbaaW.PrintLast Go.Proofs.YtoiiabnnddlcbaaW.PrintMore Go.Proofs.Ytoiiabnnddlcbaa.La Go.Proofs.Ytoiiabnnddlcbaa.PB
set_option linter.unusedVariables false
set_option linter.unusedSimpArgs false
theorem markSpotS_ev (l : List S34) (a : Int) (h : l.length ≤ 1048576) (h0 : 0 ≤ a) (h1 : a ≤ 1000000000000) : ∃ l' : List S34, Ev (fun k => laws_markSpotS.f k l a) (a + 2 * l.length, l') ∧ l'.length = l.length ∧ ∀ i : Nat, i < l.length → rd_T34 l' (i : Int) = ⟨IntKind.i8.wrap (a + 2 * i), IntKind.i8.wrap (a + 2 * i + 1)⟩ := by
  unfold laws_markSpotS.f
  have key : ∀ (m i : Nat) (x : List S34), i + m = l.length → x.length = l.length → (∀ j : Nat, j < i → rd_T34 x (j : Int) = ⟨IntKind.i8.wrap (a + 2 * j), IntKind.i8.wrap (a + 2 * j + 1)⟩) → ∃ l' : List S34, Ev (fun k => laws_markSpotS.l0 k x (a + 2 * i) (i : Int)) (a + 2 * l.length, l') ∧ l'.length = l.length ∧ ∀ j : Nat, j < l.length → rd_T34 l' (j : Int) = ⟨IntKind.i8.wrap (a + 2 * j), IntKind.i8.wrap (a + 2 * j + 1)⟩ := by
    intro m
    induction m with
    | zero =>
      intro i x hi hl hx
      obtain rfl : i = l.length := by omega
      refine ⟨x, Ev.round (Ev.now _) fun k => ?_, hl, hx⟩
      simp only [laws_markSpotS.l0]
      rw [if_neg (by omega)]
    | succ m ih =>
      intro i x hi hl hx
      obtain ⟨y, hy⟩ : ∃ y : List S34, y = (x.set (i : Int).toNat (⟨IntKind.i8.wrap (a + 2 * (i : Int)), (rd_T34 x (i : Int)).f1⟩ : S34)) := ⟨_, rfl⟩
      obtain ⟨z, hz⟩ : ∃ z : List S34, z = (y.set (i : Int).toNat (⟨(rd_T34 y (i : Int)).f0, IntKind.i8.wrap (a + 2 * (i : Int) + 1)⟩ : S34)) := ⟨_, rfl⟩
      have hyl : y.length = l.length := by rw [hy, List.length_set, hl]
      have hzl : z.length = l.length := by rw [hz, List.length_set, hyl]
      have e1 : (rd_T34 y (i : Int)).f0 = IntKind.i8.wrap (a + 2 * (i : Int)) := by
        rw [hy]; simp [rd_T34, List.getElem?_set, show i < x.length by omega]
      have e2 : rd_T34 z (i : Int) = ⟨IntKind.i8.wrap (a + 2 * (i : Int)), IntKind.i8.wrap (a + 2 * (i : Int) + 1)⟩ := by
        rw [hz, e1]; simp [rd_T34, List.getElem?_set, show i < y.length by omega]
      have e3 : ∀ j : Nat, j ≠ i → rd_T34 z (j : Int) = rd_T34 x (j : Int) := fun j hj => by
        rw [hz, hy]; simp [rd_T34, List.getElem?_set, Ne.symm hj]
      obtain ⟨l', hl', hll, hlx⟩ := ih (i + 1) z (by omega) hzl (fun j hj => by
        by_cases hji : j = i
        · subst hji; exact e2
        · rw [e3 j hji]; exact hx j (by omega))
      refine ⟨l', Ev.round hl' fun k => ?_, hll, hlx⟩
      simp only [laws_markSpotS.l0, Option.bind_some]
      rw [if_pos (by omega), if_pos (by omega), wnat i l.length (by omega) (by omega)]
      rw [wint (a + 2 * (i : Int) + 1) (by omega) (by omega), wint (a + 2 * (i : Int) + 1 + 1) (by omega) (by omega), ← hy, ← hz]
      have e : (a + 2 * (i : Int) + 1 + 1) = a + 2 * ((i + 1 : Nat) : Int) := by omega
      rw [e]
  obtain ⟨l', hl', hll, hlx⟩ := key l.length 0 l (by omega) rfl (fun j hj => by omega)
  exact ⟨l', by simpa using hl', hll, hlx⟩
theorem heldSpotS_ev (l : List S34) (a : Int) (h : l.length ≤ 1048576) (h0 : 0 ≤ a) (h1 : a ≤ 1000000000000) (hx : ∀ i : Nat, i < l.length → rd_T34 l (i : Int) = ⟨IntKind.i8.wrap (a + 2 * i), IntKind.i8.wrap (a + 2 * i + 1)⟩) : Ev (fun k => laws_heldSpotS.f k l a) (a + 2 * l.length) := by
  unfold laws_heldSpotS.f
  have key : ∀ (m i : Nat), i + m = l.length → Ev (fun k => laws_heldSpotS.l0 k l (a + 2 * i) (i : Int)) (a + 2 * l.length) := by
    intro m
    induction m with
    | zero =>
      intro i hi
      obtain rfl : i = l.length := by omega
      refine Ev.round (Ev.now _) fun k => ?_
      simp only [laws_heldSpotS.l0]
      rw [if_neg (by omega)]
    | succ m ih =>
      intro i hi
      refine Ev.round (ih (i + 1) (by omega)) fun k => ?_
      simp only [laws_heldSpotS.l0]
      rw [if_pos (by omega), if_pos (by omega), hx i (by omega), wint (a + 2 * (i : Int) + 1) (by omega) (by omega)]
      rw [if_pos rfl, if_pos rfl, wnat i l.length (by omega) (by omega), wint (a + 2 * (i : Int) + 1 + 1) (by omega) (by omega)]
      have e : (a + 2 * (i : Int) + 1 + 1) = a + 2 * ((i + 1 : Nat) : Int) := by omega
      rw [e]
  have := key l.length 0 (by omega)
  simpa using this
theorem eqSpot_self (a b : Int) : laws_eqSpot.f a b a b = some true := by unfold laws_eqSpot.f; rw [if_pos rfl, if_pos rfl]
theorem eqSpotS_ev (l : List S34) (h : l.length ≤ 1048576) : Ev (fun k => laws_eqSpotS.f k l l) true := by
  unfold laws_eqSpotS.f
  refine Ev.pos rfl ?_
  have key : ∀ (m i : Nat), i + m = l.length → Ev (fun k => laws_eqSpotS.l0 k l l (i : Int)) true := by
    intro m
    induction m with
    | zero =>
      intro i hi
      obtain rfl : i = l.length := by omega
      refine Ev.round (Ev.now _) fun k => ?_
      simp only [laws_eqSpotS.l0]
      rw [if_neg (by omega)]
    | succ m ih =>
      intro i hi
      refine Ev.round (ih (i + 1) (by omega)) fun k => ?_
      simp only [laws_eqSpotS.l0]
      rw [if_pos (by omega), if_pos (by omega), if_pos (by omega), eqSpot_self]
      simp only [Option.bind_some, if_true]
      rw [wnat i l.length (by omega) (by omega)]
  exact key l.length 0 (by omega)
end Go.Proofs.Ytoiiabnnddlcbaa.Q
end
section
namespace Go.Proofs.Ytoiiabnnddlcbaa.Q
open Go.RowKit Go.Proofs.YtoiiabnnddlcbaaW.PrintWords Go.Proofs.YtoiiabnnddlcbaaW.PrintLast Go.Proofs.YtoiiabnnddlcbaaW.PrintMore Go.Proofs.Ytoiiabnnddlcbaa.La Go.Proofs.Ytoiiabnnddlcbaa.Mp Go.Proofs.Ytoiiabnnddlcbaa.PB
set_option linter.unusedVariables false
set_option linter.unusedSimpArgs false
theorem FnExactCalledFrom (s0 s1 : Int) (W : LA 10) (x y m : Int) (hr : RB s0 s1 W) (hx : (Lit.int .i8 x).wf = true) (hy : (Lit.int .i8 y).wf = true) (hm : (Lit.int .i64 m).wf = true) : Ev (fun k => laws_FnExactCalledFrom.f k s0 s1 W x y m) true := by
  unfold laws_FnExactCalledFrom.f
  obtain ⟨r, hrl, h1, h2⟩ := CalledFrom_both s0 s1 W hr x y (wf_i8 hx) (wf_i8 hy) m
  have er := toRoom_ev s0 s1 W
  have q := eqSpotS_ev r.1 hrl
  obtain ⟨l', m1, ml, mx⟩ := markSpotS_ev r.1 1 hrl (by omega) (by omega)
  have hd := heldSpotS_ev l' 1 (by omega) (by omega) (by omega) (fun i hi => mx i (by omega))
  refine Ev.bind er (Ev.bind (Ev.const (toSpot_c x y)) (Ev.bind h1 (Ev.bind er (Ev.bind (Ev.const (toSpot_c x y)) (Ev.bind h2 (Ev.bind q (Ev.pos rfl ?_)))))))
  refine Ev.succ ?_
  simp only [laws_FnExactCalledFrom.j0]
  refine Ev.neg (by simp) (Ev.bind m1 (Ev.bind hd (Ev.neg (by omega) (Ev.pos (by rw [ml]) ?_))))
  refine Ev.bind er (Ev.bind (Ev.const (toSpot_c x y)) (Ev.bind h2 (Ev.bind q (Ev.pos rfl (Ev.succ ?_)))))
  simp only [laws_FnExactCalledFrom.j1]
  exact Ev.neg (by simp) (Ev.bind hd (Ev.neg (by omega) (Ev.pos (by rw [ml]) (Ev.now _))))
end Go.Proofs.Ytoiiabnnddlcbaa.Q
end
section
namespace Go.Proofs.Ytoiiabnnddlcbaa.fnExactCalledFrom
open Go.ChangeShapes Go.WideShapes Go.ChangeAt Go.RowKit Go.Proofs.YtoiiabnnddlcbaaW.PrintWords Go.Proofs.YtoiiabnnddlcbaaW.PrintLast Go.Proofs.Ytoiiabnnddlcbaa.La Go.Proofs.Ytoiiabnnddlcbaa.Rw Go.Proofs.Ytoiiabnnddlcbaa.PB
open Go.ChangeMaps (open_string shut_string)
set_option linter.unusedVariables false
set_option maxRecDepth 100000 in
set_option maxHeartbeats 1000000 in
theorem lifted (os : Os) (started : os.Started) (H : Type) (enc : TypeId × Value → H) :
    ReturnsInHanded {} Try.checked os 5 .any (Rows.fnExactCalledFromSpec.pre6 enc Try.prog Try.f5 Rows.fnExactCalledFromRow.domain false) (Rows.fnExactCalledFromSpec.post enc Try.prog Try.f5 false true false false) := by
  refine returnsInHanded_of_change_sized (C := Try.checked) own started (by kernel_rfl) Try.func5
    (ChangeSpec.witness6 (enc := enc) (C := Try.checked) false ⟨#[], #[.agg #[.int .i8 0, .int .i8 0, .int .u16 0, .int .u16 0, .int .u16 0, .int .u16 0, .int .u16 0, .int .u16 0, .int .u16 0, .int .u16 0, .int .u16 0, .int .u16 0], .agg #[.int .i8 0, .int .i8 0], .int .i64 0], []⟩ 8 (by kernel_rfl) (by kernel_rfl) (by kernel_rfl) (by kernel_rfl)) ?_
  intro W base args ds gs before hval0 hW hcnd hsz0 _
  have hval : ∀ (j : Nat) t v, Try.f5.params[j]? = some t → args[j]? = some v → Value.okWide Try.prog W .any base t v := hval0
  have hW' := hW
  obtain ⟨p, q, hA0, hV, rfl, hfz, hnd⟩ := hW
  have hA : DataW.TrodAll enc Try.prog W 0 (fun _ => true) true Try.f5.params.toList args.toList ds p := hA0
  rw [Try.params5] at hA hval
  obtain ⟨v0, vs0, d0, ds0, p0, q0, hargs, rfl, rfl, h0, r0⟩ := trodAll_cons hA
  obtain ⟨v1, vs1, d1, ds1, p1, q1, rfl, rfl, rfl, h1, r1⟩ := trodAll_cons r0
  obtain ⟨v2, vs2, d2, ds2, p2, q2, rfl, rfl, rfl, h2, r2⟩ := trodAll_cons r1
  obtain ⟨rfl, rfl, rfl⟩ := trodAll_nil r2
  obtain rfl : args = #[v0, v1, v2] := by cases args; simp_all
  obtain ⟨rfl, rfl⟩ := trodVars_none hV
  have k0 := h0
  have lt0 : ∀ x ∈ p0, x.block < W.heap.size := by obtain ⟨m, hm⟩ := k0; exact DataW.trod_lt m _ _ _ hm
  obtain ⟨a0_0, a0_1, a0_2, rfl, w0_0, w0_1, w0_2⟩ := openV26 (hval 0 26 v0 rfl rfl) h0
  have k1 := h1
  have lt1 : ∀ x ∈ p1, x.block < W.heap.size := by obtain ⟨m, hm⟩ := k1; exact DataW.trod_lt m _ _ _ hm
  obtain ⟨a1_0, a1_1, rfl, w1_0, w1_1⟩ := openV28 (hval 1 28 v1 rfl rfl) h1
  have k2 := h2
  have lt2 : ∀ x ∈ p2, x.block < W.heap.size := by obtain ⟨m, hm⟩ := k2; exact DataW.trod_lt m _ _ _ hm
  obtain ⟨a2, rfl, _, _, w2⟩ := open_int Try.underlying2 (hval 2 2 v2 rfl rfl) h2
  clear hA0 hval0 hsz0
  obtain ⟨k, hk⟩ := Ev.rounds (Q.FnExactCalledFrom a0_0 a0_1 a0_2 a1_0 a1_1 a2 (Q.rb_mk w0_0 w0_1 w0_2) w1_0 w1_1 w2)
  refine (laws_FnExactCalledFrom.calls k a0_0 a0_1 a0_2 a1_0 a1_1 a2 true W  hk).mono fun e W' ⟨he, bel0⟩ => ?_
  subst he
  have bel : Below W.heap.size W W' := by first | exact bel0 | exact bel0.below
  exact ⟨_, rfl, _, _, _, [], _, [], hW', trodAll_mk1 (shut_bool Try.underlying4 _), (trodAll_cons_mk (Below.trod laidOut (by kernel_rfl) (of_decide_eq_true (by kernel_rfl)) k0 bel lt0) (trodAll_cons_mk (Below.trod laidOut (by kernel_rfl) (of_decide_eq_true (by kernel_rfl)) k1 bel lt1) (trodAll_cons_mk (Below.trod laidOut (by kernel_rfl) (of_decide_eq_true (by kernel_rfl)) k2 bel lt2) trodAll_mk0))), rfl, bel.frame _, fun h => by cases h⟩
theorem over : Rows.fnExactCalledFromRow.holds Try.pinned (OpenSpec.ofChange Rows.fnExactCalledFromSpec) :=
  OpenClaim.holds_of_wide 5 Try.f5 rfl rfl rfl rfl rfl rfl rfl ⟨rfl, rfl, rfl, rfl, rfl⟩ rfl rfl rfl rfl rfl (by kernel_rfl) Try.func5 (by kernel_rfl)
    (of_decide_eq_true (by kernel_rfl)) (by unfold Func.isWrapper; first | (rw [if_pos (by decide +kernel)]; kernel_rfl) | (rw [if_neg (by decide +kernel)]; exact ⟨rfl, rfl⟩))
    (fun os started H enc _ => lifted os started H enc)
end Go.Proofs.Ytoiiabnnddlcbaa.fnExactCalledFrom
namespace Go.Proofs.Ytoiiabnnddlcbaa
theorem fnExactCalledFrom_holds : Rows.FnExactCalledFromSaid := fnExactCalledFrom.over
end Go.Proofs.Ytoiiabnnddlcbaa
end
