/- The statement FnExactMovesCrowd of this program: what its proof uses, part 11 of 12. The call returns true for all arguments. No condition of its own. -/
import Derived.IntWalk
import Derived.Test.YtdedijjbdkoekaaDoorZFnExactMovesCrowd9
section
namespace Go.Proofs.YtdedijjbdkoekaaDoor.Q
open Go.RowKit Go.Proofs.YtdedijjbdkoekaaDoorW.PrintWords Go.Proofs.YtdedijjbdkoekaaDoorW.PrintLast
set_option linter.unusedVariables false
set_option linter.unusedSimpArgs false
theorem wnat (i n : Nat) (h : i < n) (hn : n ≤ 9223372036854775807) : wrap64 ((i : Int) + 1) = ((i + 1 : Nat) : Int) := by unfold wrap64; omega
theorem wint (a : Int) (h0 : -9223372036854775808 ≤ a) (h1 : a ≤ 9223372036854775807) : wrap64 a = a := by unfold wrap64; omega
theorem rd_nat (xs : List Int) (i : Nat) : rd xs (i : Int) = xs.getD i 0 := by simp [rd]
theorem Ev.round {α : Type} {g f : Nat → Option α} {r : α} (k : Ev f r) (h : ∀ k, g (k + 1) = f k) : Ev g r := Ev.step h k
theorem Ev.eq {α : Type} {g : Nat → Option α} {r r' : α} (h : Ev g r) (e : r = r') : Ev g r' := e ▸ h
theorem Ev.ite {α : Type} {c : Prop} [Decidable c] {f g : Nat → Option α} {r : α} (h : c → Ev f r) (h' : ¬ c → Ev g r) : Ev (fun k => if c then f k else g k) r := by
  by_cases hc : c
  · simp only [hc, if_true]; exact h hc
  · simp only [hc, if_false]; exact h' hc
theorem Ev.pos {α : Type} {c : Prop} [Decidable c] {f g : Nat → Option α} {r : α} (hc : c) (h : Ev f r) : Ev (fun k => if c then f k else g k) r := by simp only [hc, if_true]; exact h
theorem Ev.neg {α : Type} {c : Prop} [Decidable c] {f g : Nat → Option α} {r : α} (hc : ¬ c) (h : Ev g r) : Ev (fun k => if c then f k else g k) r := by simp only [hc, if_false]; exact h
end Go.Proofs.YtdedijjbdkoekaaDoor.Q
end
section
namespace Go.Proofs.YtdedijjbdkoekaaDoor.Q
open Go.RowKit Go.Proofs.YtdedijjbdkoekaaDoorW.PrintWords Go.Proofs.YtdedijjbdkoekaaDoorW.PrintLast Go.Proofs.YtdedijjbdkoekaaDoor.PB
set_option linter.unusedVariables false
set_option linter.unusedSimpArgs false
def inC (a lo hi : Int) : Bool := decide (lo ≤ a) && decide (a ≤ hi)
theorem In_c (a lo hi : Int) : spec_l00In.f a lo hi = some (inC a lo hi) := by
  unfold spec_l00In.f inC
  split
  · rename_i h; simp [h]
  · rename_i h; simp [h]
theorem Ev.const {α : Type} {x : Option α} {a : α} (h : x = some a) : Ev (fun _ => x) a := by subst h; exact Ev.now a
theorem Ev.succ {α : Type} {g : Nat → Option α} {r : α} (h : Ev (fun k => g (k + 1)) r) : Ev g r := Ev.step (fun _ => rfl) h
theorem getD_mem {α : Type} (l : List α) (i : Nat) (d : α) (h : i < l.length) : l.getD i d ∈ l := by
  simp [List.getD_eq_getElem?_getD, List.getElem?_eq_getElem h]
theorem drop_get {α : Type} (xs : List α) (i : Nat) (d : α) (h : i < xs.length) : xs.drop i = xs.getD i d :: xs.drop (i + 1) := by
  rw [List.drop_eq_getElem_cons h]
  simp [List.getD_eq_getElem?_getD, List.getElem?_eq_getElem h]
end Go.Proofs.YtdedijjbdkoekaaDoor.Q
end
section
namespace Go.Proofs.YtdedijjbdkoekaaDoor.Q
open Go.RowKit Go.Proofs.YtdedijjbdkoekaaDoorW.PrintWords Go.Proofs.YtdedijjbdkoekaaDoorW.PrintLast Go.Proofs.YtdedijjbdkoekaaDoorW.PrintMore Go.Proofs.YtdedijjbdkoekaaDoor.PB
set_option linter.unusedVariables false
set_option linter.unusedSimpArgs false
set_option maxRecDepth 100000 in
theorem wrap_u16 (n : Int) : IntKind.u16.wrap n = n % 65536 := by simp [IntKind.wrap, IntKind.bits, IntKind.signed]
theorem wraps_u16 (n : Int) (h₀ : 0 ≤ n) (h₁ : n < 2 ^ 16) : IntKind.u16.wrap n = n := by rw [wrap_u16]; omega
theorem u16_and1 {x : Int} (h₀ : 0 ≤ x) (h₁ : x < 65536) : Go.bits .and .u16 x 1 = x % 2 := bits_mask .u16 16 (by decide) wraps_u16 1 (by decide) x h₀ h₁
def bitV (v : Int) (x : Nat) : Int := v / 2 ^ x % 2
theorem shr_bit {v : Int} (h₀ : 0 ≤ v) (h₁ : v < 65536) {x : Nat} (hx : x < 10) : Go.bits .and .u16 (shr .u16 v (x : Int)) 1 = bitV v x := by
  have hs : shr .u16 v (x : Int) = v / 2 ^ x := by
    unfold shr
    rw [Int.toNat_natCast, Nat.min_eq_left (show x ≤ IntKind.u16.bits by unfold IntKind.bits; dsimp only; omega)]
  have hp : (0 : Int) < 2 ^ x := Int.pow_pos (by omega)
  have h2 : v / 2 ^ x ≤ v := Int.ediv_le_self _ h₀
  rw [hs, u16_and1 (Int.ediv_nonneg h₀ (by omega)) (by omega)]
  rfl
theorem i8_small (x : Nat) (h : x < 128) : IntKind.i8.wrap (x : Int) = x := by simp [IntKind.wrap, IntKind.bits, IntKind.signed]; omega
theorem u64_small (x : Nat) (h : x < 128) : IntKind.u64.wrap (x : Int) = x := by simp [IntKind.wrap, IntKind.bits, IntKind.signed]; omega
theorem wf_u16 {n : Int} (h : (Lit.int .u16 n).wf = true) : 0 ≤ n ∧ n < 65536 := by
  simp [Lit.wf, IntKind.min, IntKind.max, IntKind.signed, IntKind.bits] at h
  omega
theorem wf_i8 {n : Int} (h : (Lit.int .i8 n).wf = true) : -128 ≤ n ∧ n ≤ 127 := by
  simp [Lit.wf, IntKind.min, IntKind.max, IntKind.signed, IntKind.bits] at h
  omega
theorem rd_bound (l : List Int) (h : ∀ x ∈ l, 0 ≤ x ∧ x < 65536) (i : Int) : 0 ≤ rd l i ∧ rd l i < 65536 := by
  unfold rd
  by_cases hi : i.toNat < l.length
  · exact h _ (getD_mem l _ 0 hi)
  · rw [List.getD_eq_getElem?_getD, List.getElem?_eq_none (by omega)]
    show (0:Int) ≤ 0 ∧ (0:Int) < 65536
    omega
end Go.Proofs.YtdedijjbdkoekaaDoor.Q
end
section
namespace Go.Proofs.YtdedijjbdkoekaaDoor.Q
open Go.RowKit Go.Proofs.YtdedijjbdkoekaaDoorW.PrintWords Go.Proofs.YtdedijjbdkoekaaDoorW.PrintLast Go.Proofs.YtdedijjbdkoekaaDoorW.PrintMore Go.Proofs.YtdedijjbdkoekaaDoor.La Go.Proofs.YtdedijjbdkoekaaDoor.PB
set_option linter.unusedVariables false
set_option linter.unusedSimpArgs false
theorem Within_c (a lo hi : Int) : impl_within.f a lo hi = some (inC a lo hi) := by
  unfold impl_within.f inC
  split
  · rename_i h; simp [h]
  · rename_i h; simp [h]
theorem u64_int {a : Int} (h0 : 0 ≤ a) (h1 : a < 128) : IntKind.u64.wrap a = a := by
  obtain ⟨n, rfl⟩ : ∃ n : Nat, a = n := ⟨a.toNat, by omega⟩
  exact u64_small n (by omega)
theorem mn_small {a : Int} (h : a ≤ 10) : mn a 10 = a := by unfold mn; split <;> omega
theorem Ok_loop (s0 s1 : Int) (W : LA 10) (h0 : 1 ≤ s0 ∧ s0 ≤ 10) : ∀ n x : Nat, x + n = 10 → ∃ b, Ev (fun k => spec_l01Ok.l0 k (x : Int) s0 s1 W) b ∧ Ev (fun k => impl_ValidRoom.l0 k W (x : Int) s0 s1 W) b := by
  have hu : IntKind.u64.wrap s0 = s0 := u64_int (by omega) (by omega)
  intro n
  induction n with
  | zero =>
    intro x hx
    obtain rfl : x = 10 := by omega
    refine ⟨true, Ev.succ ?_, Ev.succ ?_⟩
    · simp only [spec_l01Ok.l0]
      exact Ev.neg (by omega) (Ev.now true)
    · simp only [impl_ValidRoom.l0]
      exact Ev.neg (by omega) (Ev.now true)
  | succ n ih =>
    intro x hx
    obtain ⟨b, hb1, hb2⟩ := ih (x + 1) (by omega)
    by_cases p1 : shr .u16 (rd W.l (x : Int)) s0 = 0
    · by_cases p2 : (x : Int) ≥ wrap64 s1
      · by_cases p3 : rd W.l (x : Int) = 0
        · refine ⟨b, Ev.succ ?_, Ev.succ ?_⟩
          · simp only [spec_l01Ok.l0]
            rw [hu, wnat x 10 (by omega) (by omega)]
            exact Ev.pos (by omega) (Ev.pos (by omega) (Ev.pos (by omega) (Ev.pos p1 (Ev.pos p2 (Ev.pos p3 hb1)))))
          · simp only [impl_ValidRoom.l0]
            rw [wnat x 10 (by omega) (by omega)]
            exact Ev.pos (by omega) (Ev.pos (by omega) (Ev.pos (by omega) (Ev.pos p1 (Ev.pos p2 (Ev.pos p3 hb2)))))
        · refine ⟨false, Ev.succ ?_, Ev.succ ?_⟩
          · simp only [spec_l01Ok.l0]
            rw [hu]
            exact Ev.pos (by omega) (Ev.pos (by omega) (Ev.pos (by omega) (Ev.pos p1 (Ev.pos p2 (Ev.neg p3 (Ev.now false))))))
          · simp only [impl_ValidRoom.l0]
            exact Ev.pos (by omega) (Ev.pos (by omega) (Ev.pos (by omega) (Ev.pos p1 (Ev.pos p2 (Ev.neg p3 (Ev.now false))))))
      · refine ⟨b, Ev.succ ?_, Ev.succ ?_⟩
        · simp only [spec_l01Ok.l0]
          rw [hu, wnat x 10 (by omega) (by omega)]
          exact Ev.pos (by omega) (Ev.pos (by omega) (Ev.pos (by omega) (Ev.pos p1 (Ev.neg p2 hb1))))
        · simp only [impl_ValidRoom.l0]
          rw [wnat x 10 (by omega) (by omega)]
          exact Ev.pos (by omega) (Ev.pos (by omega) (Ev.pos (by omega) (Ev.pos p1 (Ev.neg p2 hb2))))
    · refine ⟨false, Ev.succ ?_, Ev.succ ?_⟩
      · simp only [spec_l01Ok.l0]
        rw [hu]
        exact Ev.pos (by omega) (Ev.pos (by omega) (Ev.pos (by omega) (Ev.neg p1 (Ev.now false))))
      · simp only [impl_ValidRoom.l0]
        exact Ev.pos (by omega) (Ev.pos (by omega) (Ev.pos (by omega) (Ev.neg p1 (Ev.now false))))
theorem Ok_both (s0 s1 : Int) (W : LA 10) (b0 : -128 ≤ s0 ∧ s0 ≤ 127) (b1 : -128 ≤ s1 ∧ s1 ≤ 127) :
    ∃ b, Ev (fun k => spec_l01Ok.f k s0 s1 W) b ∧ Ev (fun k => impl_ValidRoom.f k s0 s1 W) b ∧ (b = true → (1 ≤ s0 ∧ s0 ≤ 10) ∧ (1 ≤ s1 ∧ s1 ≤ 10)) := by
  have e0 := wint s0 (by omega) (by omega)
  have e1 := wint s1 (by omega) (by omega)
  have spec0 : ∀ b1 : Bool, Ev (fun k => spec_l01Ok.j0 k true s0 s1 W) false := fun _ => Ev.succ (by simp only [spec_l01Ok.j0]; exact Ev.pos trivial (Ev.now false))
  have impl0 : ∀ b1 : Bool, Ev (fun k => impl_ValidRoom.j0 k true s0 s1 W) false := fun _ => Ev.succ (by simp only [impl_ValidRoom.j0]; exact Ev.pos trivial (Ev.now false))
  by_cases h0 : inC s0 1 10 = true
  · by_cases h1 : inC s1 1 10 = true
    · have h0' : 1 ≤ s0 ∧ s0 ≤ 10 := by unfold inC at h0; simpa using h0
      have h1' : 1 ≤ s1 ∧ s1 ≤ 10 := by unfold inC at h1; simpa using h1
      obtain ⟨b, hb1, hb2⟩ := Ok_loop s0 s1 W h0' 10 0 rfl
      refine ⟨b, ?_, ?_, fun _ => ⟨h0', h1'⟩⟩
      · unfold spec_l01Ok.f
        rw [e0, e1, In_c, In_c, h0, h1]
        simp only [Option.bind_some, if_true, Bool.not_true]
        refine Ev.succ ?_
        simp only [spec_l01Ok.j0]
        exact Ev.neg (by simp) hb1
      · unfold impl_ValidRoom.f
        rw [e0, e1, Within_c, Within_c, h0, h1]
        simp only [Option.bind_some, if_true, Bool.not_true]
        refine Ev.succ ?_
        simp only [impl_ValidRoom.j0]
        exact Ev.neg (by simp) hb2
    · have h1' : inC s1 1 10 = false := by simpa using h1
      refine ⟨false, ?_, ?_, fun h => by cases h⟩
      · unfold spec_l01Ok.f
        rw [e0, e1, In_c, In_c, h0, h1']
        simp only [Option.bind_some, if_true, Bool.not_false]
        exact spec0 true
      · unfold impl_ValidRoom.f
        rw [e0, e1, Within_c, Within_c, h0, h1']
        simp only [Option.bind_some, if_true, Bool.not_false]
        exact impl0 true
  · have h0' : inC s0 1 10 = false := by simpa using h0
    refine ⟨false, ?_, ?_, fun h => by cases h⟩
    · unfold spec_l01Ok.f
      rw [e0, In_c, h0']
      simp only [Option.bind_some, Bool.false_eq_true, if_false]
      exact spec0 true
    · unfold impl_ValidRoom.f
      rw [e0, Within_c, h0']
      simp only [Option.bind_some, Bool.false_eq_true, if_false]
      exact impl0 true
def fr (W : List Int) (x y : Int) : Bool := bitV (rd W y) x.toNat == 0
theorem shr_div {v : Int} {x : Nat} (hx : x < 10) : shr .u16 v (x : Int) = v / 2 ^ x := by
  unfold shr
  rw [Int.toNat_natCast, Nat.min_eq_left (show x ≤ IntKind.u16.bits by unfold IntKind.bits; dsimp only; omega)]
theorem Free_s (s0 s1 : Int) (W : LA 10) (hb : ∀ i, 0 ≤ rd W.l i ∧ rd W.l i < 65536) (h0 : s0 ≤ 10) (h1 : s1 ≤ 10) (x y : Nat) (hx : (x : Int) < s0) (hy : (y : Int) < s1) :
    spec_l01Free.f s0 s1 W (x : Int) (y : Int) = some (fr W.l (x : Int) (y : Int)) := by
  unfold spec_l01Free.f spec_l01Is.f
  rw [wint s0 (by omega) (by omega), wint s1 (by omega) (by omega), wint (x : Int) (by omega) (by omega), wint (y : Int) (by omega) (by omega), wint (s0 - 1) (by omega) (by omega), wint (s1 - 1) (by omega) (by omega), In_c, In_c]
  rw [show inC (x : Int) 0 (s0 - 1) = true by unfold inC; simp; omega, show inC (y : Int) 0 (s1 - 1) = true by unfold inC; simp; omega]
  simp only [Option.bind_some, if_true]
  rw [if_pos (by omega), if_pos (by omega), u64_int (by omega) (by omega), if_pos (by omega), shr_div (by omega)]
  have hn : 0 ≤ rd W.l (y : Int) / 2 ^ x := Int.ediv_nonneg (hb _).1 (Int.le_of_lt (Int.pow_pos (by omega)))
  rw [Int.tmod_eq_emod_of_nonneg hn]
  unfold fr bitV
  rw [Int.toNat_natCast]
theorem Free_i (s0 s1 : Int) (W : LA 10) (hb : ∀ i, 0 ≤ rd W.l i ∧ rd W.l i < 65536) (h0 : s0 ≤ 10) (h1 : s1 ≤ 10) (x y : Nat) (hx : (x : Int) < s0) (hy : (y : Int) < s1) :
    impl_Room_isFree.f s0 s1 W (x : Int) (y : Int) = some (fr W.l (x : Int) (y : Int)) := by
  unfold impl_Room_isFree.f impl_Room_isCell.f
  rw [wint s0 (by omega) (by omega), wint s1 (by omega) (by omega), wint (x : Int) (by omega) (by omega), wint (y : Int) (by omega) (by omega), mn_small h0, mn_small h1, wint (s0 - 1) (by omega) (by omega), wint (s1 - 1) (by omega) (by omega), Within_c, Within_c]
  rw [show inC (x : Int) 0 (s0 - 1) = true by unfold inC; simp; omega, show inC (y : Int) 0 (s1 - 1) = true by unfold inC; simp; omega]
  simp only [Option.bind_some, if_true]
  rw [if_pos (by omega), if_pos (by omega), if_pos (by omega), shr_bit (hb _).1 (hb _).2 (by omega)]
  unfold fr
  rw [Int.toNat_natCast]
def rowL (p : Int → Int → Bool) (y : Int) (acc : List S41) : Nat → List S41
  | 0 => acc
  | x + 1 => if p (x : Int) y then rowL p y acc x ++ [⟨(x : Int), y⟩] else rowL p y acc x
def cellsL (p : Int → Int → Bool) (w : Nat) : Nat → List S41
  | 0 => []
  | y + 1 => rowL p (y : Int) (cellsL p w y) w
theorem rowL_len (p : Int → Int → Bool) (y : Int) (acc : List S41) : ∀ x, (rowL p y acc x).length ≤ acc.length + x
  | 0 => by simp [rowL]
  | x + 1 => by have := rowL_len p y acc x; rw [rowL]; split <;> simp <;> omega
theorem cellsL_len (p : Int → Int → Bool) (w : Nat) : ∀ y, (cellsL p w y).length ≤ w * y
  | 0 => by simp [cellsL]
  | y + 1 => by
    have h1 := cellsL_len p w y
    have h2 := rowL_len p (y : Int) (cellsL p w y) w
    rw [cellsL, Nat.mul_succ]
    omega
theorem rowL_mem (p : Int → Int → Bool) (w : Nat) (y : Int) (acc : List S41) (P : S41 → Prop) (ha : ∀ q ∈ acc, P q) (hp : ∀ x : Nat, x < w → P ⟨(x : Int), y⟩) : ∀ x, x ≤ w → ∀ q ∈ rowL p y acc x, P q
  | 0, _ => ha
  | x + 1, hx => by
    have ih := rowL_mem p w y acc P ha hp x (by omega)
    rw [rowL]
    split
    · intro q hq
      rcases List.mem_append.1 hq with h | h
      · exact ih q h
      · obtain rfl := List.mem_singleton.1 h
        exact hp x (by omega)
    · exact ih
theorem cellsL_mem (p : Int → Int → Bool) (w h : Nat) : ∀ y, y ≤ h → ∀ q ∈ cellsL p w y, (0 ≤ q.f0 ∧ q.f0 < w) ∧ (0 ≤ q.f1 ∧ q.f1 < h)
  | 0, _ => fun q hq => by simp [cellsL] at hq
  | y + 1, hy => rowL_mem p w (y : Int) _ _ (cellsL_mem p w h y (by omega)) (fun x hx => ⟨⟨by simp, by dsimp only; omega⟩, ⟨by simp, by dsimp only; omega⟩⟩) w (Nat.le_refl _)
theorem Ev.cells (p : Int → Int → Bool) (w h : Nat) (hw : w ≤ 10) (hh : h ≤ 10) (L0 : Nat → List S41 → Int → Option (List S41)) (L1 : Nat → List S41 → Int → Int → Option (List S41))
    (e0 : ∀ acc (y : Nat) r, y < h → Ev (fun k => L1 k acc (y : Int) 0) r → Ev (fun k => L0 k acc (y : Int)) r) (e0' : ∀ acc, Ev (fun k => L0 k acc (h : Int)) acc)
    (e1 : ∀ acc (y x : Nat) r, y < h → x < w → acc.length ≤ 1000 → Ev (fun k => L1 k (if p (x : Int) (y : Int) then acc ++ [⟨(x : Int), (y : Int)⟩] else acc) (y : Int) ((x + 1 : Nat) : Int)) r → Ev (fun k => L1 k acc (y : Int) (x : Int)) r)
    (e1' : ∀ acc (y : Nat) r, y < h → Ev (fun k => L0 k acc ((y + 1 : Nat) : Int)) r → Ev (fun k => L1 k acc (y : Int) (w : Int)) r) :
    Ev (fun k => L0 k [] 0) (cellsL p w h) := by
  have inner : ∀ (n x y : Nat) (acc : List S41) r, x + n = w → y < h → acc.length ≤ 900 → Ev (fun k => L0 k (rowL p (y : Int) acc w) ((y + 1 : Nat) : Int)) r → Ev (fun k => L1 k (rowL p (y : Int) acc x) (y : Int) (x : Int)) r := by
    intro n
    induction n with
    | zero =>
      intro x y acc r hx hy hl hr
      obtain rfl : x = w := by omega
      exact e1' _ y r hy hr
    | succ n ih =>
      intro x y acc r hx hy hl hr
      have := rowL_len p (y : Int) acc x
      exact e1 _ y x r hy (by omega) (by omega) (ih (x + 1) y acc r (by omega) hy hl hr)
  have outer : ∀ (n y : Nat), y + n = h → Ev (fun k => L0 k (cellsL p w y) (y : Int)) (cellsL p w h) := by
    intro n
    induction n with
    | zero =>
      intro y hy
      obtain rfl : y = h := by omega
      exact e0' _
    | succ n ih =>
      intro y hy
      have h1 := cellsL_len p w y
      have h2 : w * y ≤ 10 * 10 := Nat.mul_le_mul hw (by omega)
      exact e0 _ y _ (by omega) (inner w 0 y _ _ (by omega) (by omega) (by omega) (ih (y + 1) (by omega)))
  exact outer h 0 (by omega)
theorem i8_wnat (x : Nat) (h : x < 10) : IntKind.i8.wrap ((x : Int) + 1) = ((x + 1 : Nat) : Int) := by
  have := i8_small (x + 1) (by omega)
  rw [← this]
  congr 1
theorem All_s (s0 s1 : Int) (W : LA 10) (hb : ∀ i, 0 ≤ rd W.l i ∧ rd W.l i < 65536) (w h : Nat) (hw : w ≤ 10) (hh : h ≤ 10) (e0 : s0 = w) (e1 : s1 = h) : Ev (fun k => spec_l01All.f k s0 s1 W) (cellsL (fr W.l) w h) := by
  show Ev (fun k => spec_l01All.l0 k [] 0 s0 s1 W) _
  refine Ev.cells (fr W.l) w h hw hh (fun k acc y => spec_l01All.l0 k acc y s0 s1 W) (fun k acc y x => spec_l01All.l1 k acc y x s0 s1 W) ?_ ?_ ?_ ?_
  · intro acc y r hy hr
    refine Ev.succ ?_
    simp only [spec_l01All.l0]
    exact Ev.pos (by omega) hr
  · intro acc
    refine Ev.succ ?_
    simp only [spec_l01All.l0]
    exact Ev.neg (by omega) (Ev.now acc)
  · intro acc y x r hy hx hl hr
    refine Ev.succ ?_
    simp only [spec_l01All.l1]
    refine Ev.pos (by omega) ?_
    rw [Free_s s0 s1 W hb (by omega) (by omega) x y (by omega) (by omega), i8_wnat x (by omega)]
    simp only [Option.bind_some]
    cases hc : fr W.l (x : Int) (y : Int) with
    | true =>
      rw [hc] at hr
      simp only [if_true] at hr ⊢
      exact Ev.pos (by omega) hr
    | false =>
      rw [hc] at hr
      simp only [Bool.false_eq_true, if_false] at hr ⊢
      exact hr
  · intro acc y r hy hr
    refine Ev.succ ?_
    simp only [spec_l01All.l1]
    rw [i8_wnat y (by omega)]
    exact Ev.neg (by omega) hr
theorem All_i (s0 s1 : Int) (W : LA 10) (hb : ∀ i, 0 ≤ rd W.l i ∧ rd W.l i < 65536) (w h : Nat) (hw : w ≤ 10) (hh : h ≤ 10) (e0 : s0 = w) (e1 : s1 = h) : Ev (fun k => impl_Room_free.f k s0 s1 W) (cellsL (fr W.l) w h) := by
  unfold impl_Room_free.f
  refine Ev.bind (a := cellsL (fr W.l) w h) ?_ (Ev.now _)
  show Ev (fun k => impl_Room_cells__51.l0 k [] s1 0 s0 s1 W s0 s1 W) _
  refine Ev.cells (fr W.l) w h hw hh (fun k acc y => impl_Room_cells__51.l0 k acc s1 y s0 s1 W s0 s1 W) (fun k acc y x => impl_Room_cells__51.l1 k acc y s1 y s0 x s0 s1 W s0 s1 W) ?_ ?_ ?_ ?_
  · intro acc y r hy hr
    refine Ev.succ ?_
    simp only [impl_Room_cells__51.l0]
    exact Ev.pos (by omega) hr
  · intro acc
    refine Ev.succ ?_
    simp only [impl_Room_cells__51.l0]
    exact Ev.neg (by omega) (Ev.now acc)
  · intro acc y x r hy hx hl hr
    refine Ev.succ ?_
    simp only [impl_Room_cells__51.l1]
    refine Ev.pos (by omega) ?_
    rw [Free_i s0 s1 W hb (by omega) (by omega) x y (by omega) (by omega), i8_wnat x (by omega)]
    simp only [Option.bind_some]
    cases hc : fr W.l (x : Int) (y : Int) with
    | true =>
      rw [hc] at hr
      simp only [if_true] at hr ⊢
      exact Ev.pos (by omega) hr
    | false =>
      rw [hc] at hr
      simp only [Bool.false_eq_true, if_false] at hr ⊢
      exact hr
  · intro acc y r hy hr
    refine Ev.succ ?_
    simp only [impl_Room_cells__51.l1]
    rw [i8_wnat y (by omega)]
    exact Ev.neg (by omega) hr
def isC (s0 s1 x y : Int) : Bool := inC x 0 (s0 - 1) && inC y 0 (s1 - 1)
def frC (s0 s1 : Int) (W : LA 10) (x y : Int) : Bool := isC s0 s1 x y && fr W.l x y
theorem isC_bounds {s0 s1 x y : Int} (h : isC s0 s1 x y = true) : (0 ≤ x ∧ x < s0) ∧ (0 ≤ y ∧ y < s1) := by
  unfold isC inC at h
  simp at h
  omega
theorem Is_s (s0 s1 : Int) (W : LA 10) (h0 : 1 ≤ s0 ∧ s0 ≤ 10) (h1 : 1 ≤ s1 ∧ s1 ≤ 10) (x y : Int) (hx : -128 ≤ x ∧ x ≤ 127) (hy : -128 ≤ y ∧ y ≤ 127) : spec_l01Is.f s0 s1 W x y = some (isC s0 s1 x y) := by
  unfold spec_l01Is.f isC
  rw [wint s0 (by omega) (by omega), wint s1 (by omega) (by omega), wint x (by omega) (by omega), wint y (by omega) (by omega), wint (s0 - 1) (by omega) (by omega), wint (s1 - 1) (by omega) (by omega), In_c, In_c]
  simp only [Option.bind_some]
  cases inC x 0 (s0 - 1) <;> simp
theorem Is_i (s0 s1 : Int) (W : LA 10) (h0 : 1 ≤ s0 ∧ s0 ≤ 10) (h1 : 1 ≤ s1 ∧ s1 ≤ 10) (x y : Int) (hx : -128 ≤ x ∧ x ≤ 127) (hy : -128 ≤ y ∧ y ≤ 127) : impl_Room_isCell.f s0 s1 W x y = some (isC s0 s1 x y) := by
  unfold impl_Room_isCell.f isC
  rw [wint s0 (by omega) (by omega), wint s1 (by omega) (by omega), wint x (by omega) (by omega), wint y (by omega) (by omega), mn_small h0.2, mn_small h1.2, wint (s0 - 1) (by omega) (by omega), wint (s1 - 1) (by omega) (by omega), Within_c, Within_c]
  simp only [Option.bind_some]
  cases inC x 0 (s0 - 1) <;> simp
theorem Fr_s (s0 s1 : Int) (W : LA 10) (hb : ∀ i, 0 ≤ rd W.l i ∧ rd W.l i < 65536) (h0 : 1 ≤ s0 ∧ s0 ≤ 10) (h1 : 1 ≤ s1 ∧ s1 ≤ 10) (x y : Int) (hx : -128 ≤ x ∧ x ≤ 127) (hy : -128 ≤ y ∧ y ≤ 127) : spec_l01Free.f s0 s1 W x y = some (frC s0 s1 W x y) := by
  cases hc : isC s0 s1 x y with
  | true =>
    have hd := isC_bounds hc
    obtain ⟨n, rfl⟩ : ∃ n : Nat, x = n := ⟨x.toNat, by omega⟩
    obtain ⟨m, rfl⟩ : ∃ m : Nat, y = m := ⟨y.toNat, by omega⟩
    rw [Free_s s0 s1 W hb (by omega) (by omega) n m (by omega) (by omega)]
    unfold frC
    rw [hc]
    rfl
  | false =>
    unfold spec_l01Free.f frC
    rw [Is_s s0 s1 W h0 h1 x y hx hy, hc]
    rfl
theorem Fr_i (s0 s1 : Int) (W : LA 10) (hb : ∀ i, 0 ≤ rd W.l i ∧ rd W.l i < 65536) (h0 : 1 ≤ s0 ∧ s0 ≤ 10) (h1 : 1 ≤ s1 ∧ s1 ≤ 10) (x y : Int) (hx : -128 ≤ x ∧ x ≤ 127) (hy : -128 ≤ y ∧ y ≤ 127) : impl_Room_isFree.f s0 s1 W x y = some (frC s0 s1 W x y) := by
  cases hc : isC s0 s1 x y with
  | true =>
    have hd := isC_bounds hc
    obtain ⟨n, rfl⟩ : ∃ n : Nat, x = n := ⟨x.toNat, by omega⟩
    obtain ⟨m, rfl⟩ : ∃ m : Nat, y = m := ⟨y.toNat, by omega⟩
    rw [Free_i s0 s1 W hb (by omega) (by omega) n m (by omega) (by omega)]
    unfold frC
    rw [hc]
    rfl
  | false =>
    unfold impl_Room_isFree.f frC
    rw [Is_i s0 s1 W h0 h1 x y hx hy, hc]
    rfl
def RB (s0 s1 : Int) (W : LA 10) : Prop := (-128 ≤ s0 ∧ s0 ≤ 127) ∧ (-128 ≤ s1 ∧ s1 ≤ 127) ∧ ∀ i, 0 ≤ rd W.l i ∧ rd W.l i < 65536
theorem rb_mk {s0 s1 : Int} {W : LA 10} (w0 : (Lit.int .i8 s0).wf = true) (w1 : (Lit.int .i8 s1).wf = true) (h : ∀ x ∈ W.l, (Lit.int .u16 x).wf = true) : RB s0 s1 W := ⟨wf_i8 w0, wf_i8 w1, rd_bound _ fun x hx => wf_u16 (h x hx)⟩
def CB (C : LA 40) : Prop := ∀ i, 0 ≤ rd C.l i ∧ rd C.l i < 65536
theorem cb_mk {C : LA 40} (h : ∀ x ∈ C.l, (Lit.int .u16 x).wf = true) : CB C := rd_bound _ fun x hx => wf_u16 (h x hx)
end Go.Proofs.YtdedijjbdkoekaaDoor.Q
end
section
namespace Go.Proofs.YtdedijjbdkoekaaDoor.Q
open Go.RowKit Go.Proofs.YtdedijjbdkoekaaDoorW.PrintWords Go.Proofs.YtdedijjbdkoekaaDoorW.PrintLast Go.Proofs.YtdedijjbdkoekaaDoorW.PrintMore Go.Proofs.YtdedijjbdkoekaaDoor.La Go.Proofs.YtdedijjbdkoekaaDoor.PB
set_option linter.unusedVariables false
set_option linter.unusedSimpArgs false
def putA (C : LA 40) (x y d : Int) : LA 40 := LA.set C (d * 10 + y) (Go.bits .or .u16 (rd C.l (d * 10 + y)) (shl .u16 1 x))
theorem putA_s (C : LA 40) (x y d : Int) (hx : 0 ≤ x ∧ x < 10) (hy : 0 ≤ y ∧ y < 10) (hd : 0 ≤ d ∧ d < 4) : spec_l06Put.f C x y d = some (putA C x y d) := by
  unfold spec_l06Put.f putA
  rw [if_pos (by omega), if_pos (by omega), if_pos (by omega), if_pos (by omega), u64_int hx.1 (by omega)]
theorem putA_i (C : LA 40) (x y d : Int) (hx : 0 ≤ x ∧ x < 10) (hy : 0 ≤ y ∧ y < 10) (hd : 0 ≤ d ∧ d < 4) : impl_Crowd_set.f C x y d = some (putA C x y d) := by
  unfold impl_Crowd_set.f putA
  rw [if_pos (by omega), if_pos (by omega), if_pos (by omega), if_pos (by omega), if_pos (by omega)]
theorem ext_rd {n : Nat} {A B : LA n} (h : ∀ j : Nat, j < n → rd A.l (j : Int) = rd B.l (j : Int)) : A = B := by
  apply LA.ext_l
  apply List.ext_getElem (by rw [A.h, B.h])
  intro j h1 h2
  have hj : j < n := by rw [A.h] at h1; exact h1
  have := h j hj
  rw [rd_nat, rd_nat, List.getD_eq_getElem?_getD, List.getD_eq_getElem?_getD, List.getElem?_eq_getElem h1, List.getElem?_eq_getElem h2] at this
  exact this
theorem rdT_get (l : List S41) (i : Nat) : rd_T41 l (i : Int) = l.getD i z41 := by simp [rd_T41]
def foldA (C : LA 40) (p : S41) : Nat → LA 40
  | 0 => C
  | d + 1 => putA (foldA C p d) p.f0 p.f1 (d : Int)
def plainA : List S41 → LA 40 → LA 40
  | [], C => C
  | p :: ps, C => plainA ps (foldA C p 4)
theorem Plain_ev (l : List S41) (hm : ∀ q ∈ l, (0 ≤ q.f0 ∧ q.f0 < 10) ∧ (0 ≤ q.f1 ∧ q.f1 < 10)) (hl : l.length ≤ 1000) :
    ∀ (n i : Nat) (C : LA 40), i + n = l.length → Ev (fun k => spec_l06Plain.l0 k l (i : Int) C) (plainA (l.drop i) C) := by
  intro n
  induction n with
  | zero =>
    intro i C hi
    obtain rfl : i = l.length := by omega
    rw [List.drop_length]
    refine Ev.succ ?_
    simp only [spec_l06Plain.l0]
    exact Ev.neg (by omega) (Ev.now _)
  | succ n ih =>
    intro i C hi
    have hil : i < l.length := by omega
    have hp := hm _ (getD_mem l i z41 hil)
    refine Ev.succ ?_
    simp only [spec_l06Plain.l0]
    refine Ev.pos (by omega) ?_
    rw [drop_get l i z41 hil]
    have inner : ∀ n d : Nat, d + n = 4 → Ev (fun k => spec_l06Plain.l1 k l (i : Int) (d : Int) (foldA C (l.getD i z41) d)) (plainA (l.getD i z41 :: l.drop (i + 1)) C) := by
      intro n
      induction n with
      | zero =>
        intro d hd
        obtain rfl : d = 4 := by omega
        refine Ev.succ ?_
        simp only [spec_l06Plain.l1]
        rw [wnat i l.length hil (by omega)]
        exact Ev.neg (by omega) (ih (i + 1) _ (by omega))
      | succ n ihn =>
        intro d hd
        refine Ev.succ ?_
        simp only [spec_l06Plain.l1]
        refine Ev.pos (by omega) (Ev.pos (by omega) (Ev.pos (by omega) ?_))
        rw [rdT_get, putA_s _ _ _ (d : Int) hp.1 hp.2 ⟨by omega, by omega⟩, wnat d 4 (by omega) (by omega)]
        exact Ev.bind (Ev.now _) (ihn (d + 1) (by omega))
    exact inner 4 0 rfl
def InvA (C : LA 40) (M : Nat → Nat → Nat → Bool) : Prop := ∀ d y : Nat, d < 4 → y < 10 → ∃ n : Nat, rd C.l ((d : Int) * 10 + (y : Int)) = n ∧ n < 2 ^ 16 ∧ ∀ x : Nat, n.testBit x = M d x y
theorem shl_pow (x : Nat) (hx : x < 10) : shl .u16 1 (x : Int) = ((2 ^ x : Nat) : Int) := by
  unfold shl
  rw [Int.one_mul, Int.toNat_natCast, Nat.min_eq_left (show x ≤ IntKind.u16.bits by unfold IntKind.bits; dsimp only; omega), wrap_u16]
  have h3 : 2 ^ x ≤ 2 ^ 9 := Nat.pow_le_pow_right (by omega) (by omega)
  have h2 : (2 : Int) ^ x = ((2 ^ x : Nat) : Int) := by simp
  rw [h2]
  generalize 2 ^ x = m at h3 ⊢
  omega
theorem InvA.put {C : LA 40} {M : Nat → Nat → Nat → Bool} (hb : InvA C M) (x y d : Nat) (hx : x < 10) (hy : y < 10) (hd : d < 4) : InvA (putA C (x : Int) (y : Int) (d : Int)) (fun d' x' y' => M d' x' y' || (decide (d' = d) && decide (x' = x) && decide (y' = y))) := by
  intro d' y' hd' hy'
  by_cases he : d' = d ∧ y' = y
  · obtain ⟨rfl, rfl⟩ := he
    obtain ⟨n, hn, hlt, ht⟩ := hb d' y' hd hy
    have hp : 2 ^ x < 2 ^ 16 := Nat.pow_lt_pow_right (by omega) (by omega)
    refine ⟨n ||| 2 ^ x, ?_, Nat.or_lt_two_pow hlt hp, fun x' => ?_⟩
    · rw [putA, rd_set_same _ _ _ (by omega) (by omega), hn, shl_pow x hx]
      exact (bits_nat .u16 16 (by decide) wraps_u16 n (2 ^ x) hlt hp).2
    · rw [Nat.testBit_or, Nat.testBit_two_pow, ht x']
      by_cases hxx : x' = x
      · subst hxx; simp
      · simp [hxx, Ne.symm hxx]
  · obtain ⟨n, hn, hlt, ht⟩ := hb d' y' hd' hy'
    refine ⟨n, ?_, hlt, fun x' => ?_⟩
    · rw [putA, rd_set_other _ _ _ _ (by omega) (by omega) (by omega), hn]
    · rw [ht x']
      by_cases h1 : d' = d
      · have h2 : ¬ y' = y := fun h2 => he ⟨h1, h2⟩
        simp [h2]
      · simp [h1]
theorem InvA.congr {C : LA 40} {M M' : Nat → Nat → Nat → Bool} (h : InvA C M) (e : ∀ d x y, d < 4 → M d x y = M' d x y) : InvA C M' :=
  fun d y hd hy => by obtain ⟨n, h1, h2, h3⟩ := h d y hd hy; exact ⟨n, h1, h2, fun x => (h3 x).trans (e d x y hd)⟩
theorem InvA.fold {C : LA 40} {M : Nat → Nat → Nat → Bool} (h : InvA C M) (p : S41) (x y : Nat) (hx : x < 10) (hy : y < 10) (e0 : p.f0 = x) (e1 : p.f1 = y) : ∀ d, d ≤ 4 → InvA (foldA C p d) (fun d' x' y' => M d' x' y' || (decide (d' < d) && decide (x' = x) && decide (y' = y)))
  | 0, _ => h.congr fun d' x' y' _ => by simp
  | d + 1, hd => by
    have ih := InvA.fold h p x y hx hy e0 e1 d (by omega)
    rw [foldA, e0, e1]
    refine (ih.put x y d hx hy (by omega)).congr fun d' x' y' _ => ?_
    by_cases h1 : d' < d
    · have h2 : ¬ d' = d := by omega
      have h3 : d' < d + 1 := by omega
      simp [h1, h2, h3]
    · by_cases h2 : d' = d
      · subst h2; simp
      · have h3 : ¬ d' < d + 1 := by omega
        simp [h1, h2, h3]
theorem InvA.plain : ∀ (l : List S41) {C : LA 40} {M : Nat → Nat → Nat → Bool}, InvA C M → (∀ q ∈ l, (0 ≤ q.f0 ∧ q.f0 < 10) ∧ (0 ≤ q.f1 ∧ q.f1 < 10)) → InvA (plainA l C) (fun d x y => M d x y || l.any fun q => decide (q.f0 = (x : Int)) && decide (q.f1 = (y : Int)))
  | [], _, _, h, _ => h.congr fun d x y _ => by simp
  | p :: ps, C, M, h, hm => by
    have hp := hm p (by simp)
    obtain ⟨x, hx⟩ : ∃ n : Nat, p.f0 = n := ⟨p.f0.toNat, by omega⟩
    obtain ⟨y, hy⟩ : ∃ n : Nat, p.f1 = n := ⟨p.f1.toNat, by omega⟩
    have h1 := InvA.plain ps (h.fold p x y (by omega) (by omega) hx hy 4 (by omega)) (fun q hq => hm q (by simp [hq]))
    refine h1.congr fun d x' y' hd => ?_
    have e0 : decide (p.f0 = (x' : Int)) = decide (x' = x) := by rw [hx]; exact decide_eq_decide.2 ⟨fun h => by omega, fun h => by omega⟩
    have e1 : decide (p.f1 = (y' : Int)) = decide (y' = y) := by rw [hy]; exact decide_eq_decide.2 ⟨fun h => by omega, fun h => by omega⟩
    have e2 : decide (d < 4) = true := decide_eq_true hd
    rw [List.any_cons, e0, e1, e2, Bool.true_and, Bool.or_assoc]
theorem InvA.zero : InvA (LA.zero 40) (fun _ _ _ => false) :=
  fun d y hd hy => ⟨0, rd_zero _, by omega, fun x => Nat.zero_testBit x⟩
theorem row_any (p : Int → Int → Bool) (y : Nat) (acc : List S41) (x' y' : Nat) : ∀ n : Nat, ((rowL p (y : Int) acc n).any fun q => decide (q.f0 = (x' : Int)) && decide (q.f1 = (y' : Int))) = ((acc.any fun q => decide (q.f0 = (x' : Int)) && decide (q.f1 = (y' : Int))) || (decide (x' < n) && decide (y' = y) && p (x' : Int) (y' : Int)))
  | 0 => by simp [rowL]
  | n + 1 => by
    have ih := row_any p y acc x' y' n
    rw [rowL]
    by_cases h1 : x' = n
    · subst h1
      by_cases h2 : y' = y
      · subst h2
        cases hp : p (x' : Int) (y' : Int) with
        | true => rw [if_pos rfl, List.any_append, ih]; simp
        | false => rw [if_neg (by simp), ih]; simp [hp]
      · split
        · rw [List.any_append, ih]
          have : ¬ (y : Int) = (y' : Int) := by omega
          simp [h2, this]
        · rw [ih]; simp [h2]
    · have hlt : decide (x' < n + 1) = decide (x' < n) := decide_eq_decide.2 ⟨fun h => by omega, fun h => by omega⟩
      have hne : ¬ (n : Int) = (x' : Int) := by omega
      rw [hlt]
      split
      · rw [List.any_append, ih]; simp [hne]
      · exact ih
theorem cells_any (p : Int → Int → Bool) (w : Nat) (x y : Nat) : ∀ h : Nat, ((cellsL p w h).any fun q => decide (q.f0 = (x : Int)) && decide (q.f1 = (y : Int))) = (decide (x < w) && decide (y < h) && p (x : Int) (y : Int))
  | 0 => by simp [cellsL]
  | h + 1 => by
    rw [cellsL, row_any, cells_any p w x y h]
    by_cases h1 : y < h
    · have h2 : ¬ y = h := by omega
      have h3 : y < h + 1 := by omega
      simp [h1, h2, h3]
    · by_cases h2 : y = h
      · subst h2; simp
      · have h3 : ¬ y < h + 1 := by omega
        simp [h1, h2, h3]
theorem plain_bits (W : List Int) (w h : Nat) (hw : w ≤ 10) (hh : h ≤ 10) : InvA (plainA (cellsL (fr W) w h) (LA.zero 40)) (fun d x y => decide (x < w) && decide (y < h) && fr W (x : Int) (y : Int)) := by
  have hm : ∀ q ∈ cellsL (fr W) w h, (0 ≤ q.f0 ∧ q.f0 < 10) ∧ (0 ≤ q.f1 ∧ q.f1 < 10) := fun q hq => by
    have := cellsL_mem (fr W) w h h (Nat.le_refl _) q hq
    omega
  exact (InvA.plain _ InvA.zero hm).congr fun d x y _ => by rw [cells_any, Bool.false_or]
theorem InvA.ext {C C' : LA 40} {M M' : Nat → Nat → Nat → Bool} (h : InvA C M) (h' : InvA C' M') (e : ∀ d x y, d < 4 → y < 10 → M d x y = M' d x y) : C = C' := by
  refine ext_rd fun j hj => ?_
  obtain ⟨n, h1, h2, h3⟩ := h (j / 10) (j % 10) (by omega) (by omega)
  obtain ⟨m, g1, g2, g3⟩ := h' (j / 10) (j % 10) (by omega) (by omega)
  have ej : ((j / 10 : Nat) : Int) * 10 + ((j % 10 : Nat) : Int) = (j : Int) := by omega
  rw [ej] at h1 g1
  rw [h1, g1]
  have : n = m := Nat.eq_of_testBit_eq fun x => by rw [h3, g3, e _ _ _ (by omega) (by omega)]
  rw [this]
def hasA (C : LA 40) (x y d : Int) : Bool := Go.bits .and .u16 (shr .u16 (rd C.l (d * 10 + y)) x) 1 == 1
theorem has_s (C : LA 40) (x y d : Int) (hx : 0 ≤ x ∧ x < 10) (hy : 0 ≤ y ∧ y < 10) (hd : 0 ≤ d ∧ d < 4) : spec_l06Has.f C x y d = some (hasA C x y d) := by
  unfold spec_l06Has.f hasA
  rw [if_pos hd.1, if_pos hd.2, if_pos hy.1, if_pos hy.2, u64_int hx.1 (by omega), if_pos hx.1]
theorem has_i (C : LA 40) (x y d : Int) (hx : 0 ≤ x ∧ x < 10) (hy : 0 ≤ y ∧ y < 10) (hd : 0 ≤ d ∧ d < 4) : impl_Crowd_has.f C x y d = some (hasA C x y d) := by
  unfold impl_Crowd_has.f hasA
  rw [if_pos hd.1, if_pos hd.2, if_pos hy.1, if_pos hy.2, if_pos hx.1]
theorem spot_s (i : Nat) (hi : i < 100) : spec_l06Spot.f (i : Int) = some (((i % 10 : Nat) : Int), ((i / 10 : Nat) : Int)) := by
  unfold spec_l06Spot.f
  rw [Int.tmod_eq_emod_of_nonneg (by omega), Int.tdiv_eq_ediv_of_nonneg (by omega)]
  have e1 : ((i : Int) % 10) = ((i % 10 : Nat) : Int) := by omega
  have e2 : ((i : Int) / 10) = ((i / 10 : Nat) : Int) := by omega
  rw [e1, e2, i8_small _ (by omega), wint _ (by omega) (by omega), i8_small _ (by omega)]
theorem bit16 (a : Nat) (ha : a < 2 ^ 16) (x : Nat) (hx : x < 16) : (Go.bits .and .u16 (shr .u16 (a : Int) (x : Int)) 1 = 1) ↔ a.testBit x = true := by
  have hs : shr .u16 (a : Int) (x : Int) = ((a / 2 ^ x : Nat) : Int) := by
    unfold shr
    rw [Int.toNat_natCast, Nat.min_eq_left (show x ≤ IntKind.u16.bits by unfold IntKind.bits; dsimp only; omega)]
    simp
  have hle : a / 2 ^ x ≤ a := Nat.div_le_self _ _
  rw [hs, Nat.testBit_eq_decide_div_mod_eq, decide_eq_true_iff]
  generalize a / 2 ^ x = q at hle ⊢
  rw [u16_and1 (by omega) (by omega)]
  omega
theorem InvA.has {C : LA 40} {M : Nat → Nat → Nat → Bool} (h : InvA C M) (x y d : Nat) (hx : x < 16) (hy : y < 10) (hd : d < 4) : hasA C (x : Int) (y : Int) (d : Int) = M d x y := by
  obtain ⟨n, h1, h2, h3⟩ := h d y hd hy
  unfold hasA
  rw [h1, ← h3 x]
  have := bit16 n h2 x hx
  cases hb : n.testBit x with
  | true => rw [this.2 hb]; rfl
  | false =>
    rw [beq_eq_false_iff_ne]
    intro e
    rw [this.1 e] at hb
    cases hb
def crow (S : List (Nat × Nat × Nat)) : LA 40 := S.foldl (fun C p => putA C (p.1 : Int) (p.2.1 : Int) (p.2.2 : Int)) (LA.zero 40)
def inR (p : Nat × Nat × Nat) : Prop := p.1 < 10 ∧ p.2.1 < 10 ∧ p.2.2 < 4
theorem crow_snoc (S : List (Nat × Nat × Nat)) (p : Nat × Nat × Nat) : crow (S ++ [p]) = putA (crow S) (p.1 : Int) (p.2.1 : Int) (p.2.2 : Int) := by
  unfold crow
  rw [List.foldl_append]
  rfl
theorem crow_inv0 : ∀ (S : List (Nat × Nat × Nat)) (C : LA 40) (M : Nat → Nat → Nat → Bool), InvA C M → (∀ p ∈ S, inR p) → InvA (S.foldl (fun C p => putA C (p.1 : Int) (p.2.1 : Int) (p.2.2 : Int)) C) (fun d x y => M d x y || decide ((x, y, d) ∈ S))
  | [], C, M, h, _ => h.congr fun d x y _ => by simp
  | p :: S, C, M, h, hr => by
    have hp := hr p (by simp)
    have h1 := crow_inv0 S _ _ (h.put p.1 p.2.1 p.2.2 hp.1 hp.2.1 hp.2.2) (fun q hq => hr q (by simp [hq]))
    refine h1.congr fun d x y _ => ?_
    rw [Bool.or_assoc]
    congr 1
    rw [Bool.eq_iff_iff]
    obtain ⟨a, b, c⟩ := p
    simp only [Bool.or_eq_true, Bool.and_eq_true, decide_eq_true_eq, List.mem_cons, Prod.mk.injEq]
    constructor
    · rintro (⟨⟨h1, h2⟩, h3⟩ | h1)
      · exact .inl ⟨h2, h3, h1⟩
      · exact .inr h1
    · rintro (⟨h1, h2, h3⟩ | h1)
      · exact .inl ⟨⟨h3, h1⟩, h2⟩
      · exact .inr h1
theorem crow_inv (S : List (Nat × Nat × Nat)) (hr : ∀ p ∈ S, inR p) : InvA (crow S) (fun d x y => decide ((x, y, d) ∈ S)) := (crow_inv0 S _ _ InvA.zero hr).congr fun d x y _ => by rw [Bool.false_or]
theorem crow_ext {S T : List (Nat × Nat × Nat)} (hS : ∀ p ∈ S, inR p) (e : ∀ p, p ∈ S ↔ p ∈ T) : crow S = crow T :=
  (crow_inv S hS).ext (crow_inv T fun p hp => hS p ((e p).2 hp)) fun d x y _ _ => decide_eq_decide.2 (e _)
theorem crow_has (S : List (Nat × Nat × Nat)) (hr : ∀ p ∈ S, inR p) (x y d : Nat) (hx : x < 16) (hy : y < 10) (hd : d < 4) : hasA (crow S) (x : Int) (y : Int) (d : Int) = decide ((x, y, d) ∈ S) := (crow_inv S hr).has x y d hx hy hd
end Go.Proofs.YtdedijjbdkoekaaDoor.Q
end
section
namespace Go.Proofs.YtdedijjbdkoekaaDoor.Q
open Go.RowKit Go.Proofs.YtdedijjbdkoekaaDoorW.PrintWords Go.Proofs.YtdedijjbdkoekaaDoorW.PrintLast Go.Proofs.YtdedijjbdkoekaaDoorW.PrintMore Go.Proofs.YtdedijjbdkoekaaDoor.La Go.Proofs.YtdedijjbdkoekaaDoor.PB
set_option linter.unusedVariables false
set_option linter.unusedSimpArgs false
def RRe (f : Nat → Bool) (e : Bool) : Nat → Nat → Bool
  | 0, _ => e
  | n + 1, i => f i && RRe f e n (i + 1)
theorem RRe_and (f : Nat → Bool) (e : Bool) : ∀ n i, RRe f e n i = (RRe f true n i && e)
  | 0, _ => by simp [RRe]
  | n + 1, i => by rw [RRe, RRe, RRe_and f e n (i + 1), Bool.and_assoc]
theorem RRe_congr {f g : Nat → Bool} (e : Bool) : ∀ n i, (∀ j, i ≤ j → j < i + n → f j = g j) → RRe f e n i = RRe g e n i
  | 0, _, _ => rfl
  | n + 1, i, h => by rw [RRe, RRe, h i (by omega) (by omega), RRe_congr e n (i + 1) (fun j h1 h2 => h j (by omega) (by omega))]
theorem RRe_true (f : Nat → Bool) : ∀ n i, RRe f true n i = true ↔ ∀ j, i ≤ j → j < i + n → f j = true
  | 0, i => ⟨fun _ j h1 h2 => by omega, fun _ => rfl⟩
  | n + 1, i => by
    rw [RRe, Bool.and_eq_true, RRe_true f n (i + 1)]
    exact ⟨fun ⟨h1, h2⟩ j h3 h4 => by
      by_cases e : j = i
      · subst e; exact h1
      · exact h2 j (by omega) (by omega), fun h => ⟨h i (by omega) (by omega), fun j h1 h2 => h j (by omega) (by omega)⟩⟩
theorem Ev.loopB (L : Nat → Int → Option Bool) (f : Nat → Bool) (e : Bool) (N : Nat) (hstep : ∀ i : Nat, i < N → ∀ r, Ev (fun k => L k ((i + 1 : Nat) : Int)) r → Ev (fun k => L k (i : Int)) (f i && r)) (hend : Ev (fun k => L k (N : Int)) e) : Ev (fun k => L k 0) (RRe f e N 0) := by
  have key : ∀ n i : Nat, i + n = N → Ev (fun k => L k (i : Int)) (RRe f e n i) := by
    intro n
    induction n with
    | zero =>
      intro i hi
      obtain rfl : i = N := (by omega)
      exact hend
    | succ n ih => intro i hi; exact hstep i (by omega) _ (ih (i + 1) (by omega))
  exact key N 0 (by omega)
theorem andNot_zero (a b : Nat) (ha : a < 2 ^ 16) (hb : b < 2 ^ 16) : (Go.bits .andNot .u16 (a : Int) (b : Int) = 0) ↔ ∀ x, x < 16 → a.testBit x = true → b.testBit x = true := by
  have h16 : IntKind.u16.bits = 16 := rfl
  have e : Go.bits .andNot .u16 (a : Int) (b : Int) = (((BitVec.ofNat 16 a &&& ~~~ BitVec.ofNat 16 b).toNat : Nat) : Int) := by
    unfold Go.bits
    simp only [BitVec.ofInt_natCast]
    have hlt := (BitVec.ofNat 16 a &&& ~~~ BitVec.ofNat 16 b).isLt
    exact wraps_u16 _ (Int.natCast_nonneg _) (Int.lt_of_lt_of_le (Int.ofNat_lt.2 hlt) (by decide))
  rw [e]
  constructor
  · intro h x hx hax
    have h0 : (BitVec.ofNat 16 a &&& ~~~ BitVec.ofNat 16 b) = 0#16 := BitVec.toNat_eq.2 (by simpa using Int.ofNat.inj h)
    have h1 := congrArg (fun v => BitVec.getLsbD v x) h0
    simp only [BitVec.getLsbD_and, BitVec.getLsbD_not, BitVec.getLsbD_ofNat, BitVec.getLsbD_zero, hx, decide_true, Bool.true_and, hax] at h1
    simpa using h1
  · intro h
    have h0 : (BitVec.ofNat 16 a &&& ~~~ BitVec.ofNat 16 b) = 0#16 := BitVec.eq_of_getLsbD_eq (fun i hi => by
      simp only [BitVec.getLsbD_and, BitVec.getLsbD_not, BitVec.getLsbD_ofNat, BitVec.getLsbD_zero, hi, decide_true, Bool.true_and]
      cases h1 : a.testBit i with
      | false => simp
      | true => simp [h i hi h1])
    rw [h0]
    rfl
def freeB (W : List Int) (w h x y : Nat) : Bool := decide (x < w) && decide (y < h) && fr W (x : Int) (y : Int)
theorem isFree_c (s0 s1 : Int) (W : LA 10) (hb : ∀ i, 0 ≤ rd W.l i ∧ rd W.l i < 65536) (w h : Nat) (hw : w ≤ 10) (hh : h ≤ 10) (e0 : s0 = w) (e1 : s1 = h) (x y : Nat) (hx : x < 16) (hy : y < 10) : impl_Room_isFree.f s0 s1 W (x : Int) (y : Int) = some (freeB W.l w h x y) := by
  unfold freeB
  by_cases h1 : x < w
  · by_cases h2 : y < h
    · rw [Free_i s0 s1 W hb (by omega) (by omega) x y (by omega) (by omega)]
      simp [h1, h2]
    · unfold impl_Room_isFree.f impl_Room_isCell.f
      rw [wint s0 (by omega) (by omega), wint s1 (by omega) (by omega), wint (x : Int) (by omega) (by omega), wint (y : Int) (by omega) (by omega), mn_small (by omega), mn_small (by omega), wint (s0 - 1) (by omega) (by omega), wint (s1 - 1) (by omega) (by omega), Within_c, Within_c]
      rw [show inC (x : Int) 0 (s0 - 1) = true by unfold inC; simp; omega, show inC (y : Int) 0 (s1 - 1) = false by unfold inC; simp; omega]
      simp [h2]
  · unfold impl_Room_isFree.f impl_Room_isCell.f
    rw [wint s0 (by omega) (by omega), wint s1 (by omega) (by omega), wint (x : Int) (by omega) (by omega), wint (y : Int) (by omega) (by omega), mn_small (by omega), mn_small (by omega), wint (s0 - 1) (by omega) (by omega), wint (s1 - 1) (by omega) (by omega), Within_c]
    rw [show inC (x : Int) 0 (s0 - 1) = false by unfold inC; simp; omega]
    simp [h1]
theorem i8_wnat16 (x : Nat) (h : x < 16) : IntKind.i8.wrap ((x : Int) + 1) = ((x + 1 : Nat) : Int) := by
  have := i8_small (x + 1) (by omega)
  rw [← this]
  congr 1
def bitB (v : Int) (x : Nat) : Bool := decide (Go.bits .and .u16 (shr .u16 v (x : Int)) 1 = 1)
theorem isIn_ev (C : LA 40) (s0 s1 : Int) (W : LA 10) (hb : ∀ i, 0 ≤ rd W.l i ∧ rd W.l i < 65536) (w h : Nat) (hw : w ≤ 10) (hh : h ≤ 10) (e0 : s0 = w) (e1 : s1 = h) :
    Ev (fun k => impl_Crowd_isIn.f k C s0 s1 W) (RRe (fun d => RRe (fun y => RRe (fun x => !bitB (rd C.l ((d : Int) * 10 + (y : Int))) x || freeB W.l w h x y) true 16 0) true 10 0) true 4 0) := by
  show Ev (fun k => impl_Crowd_isIn.l0 k C 0 s0 s1 W) _
  refine Ev.loopB (fun k i => impl_Crowd_isIn.l0 k C i s0 s1 W) _ true 4 (fun d hd r hr => ?_) ?_
  · refine Ev.succ ?_
    simp only [impl_Crowd_isIn.l0]
    refine Ev.pos (by omega) (Ev.pos (by omega) ?_)
    rw [← RRe_and]
    refine Ev.loopB (fun k i => impl_Crowd_isIn.l1 k C (d : Int) (LA.row C 10 (d : Int)) i s0 s1 W) _ r 10 (fun y hy r2 hr2 => ?_) ?_
    · refine Ev.succ ?_
      simp only [impl_Crowd_isIn.l1]
      refine Ev.pos (by omega) (Ev.pos (by omega) ?_)
      rw [rd_row C 10 (d : Int) (y : Int) (by omega) (by omega), ← RRe_and]
      refine Ev.loopB (fun k i => impl_Crowd_isIn.l2 k (y : Int) (rd C.l ((d : Int) * ((10 : Nat) : Int) + (y : Int))) C (d : Int) (LA.row C 10 (d : Int)) (y : Int) i s0 s1 W) _ r2 16 (fun x hx r3 hr3 => ?_) ?_
      · refine Ev.succ ?_
        simp only [impl_Crowd_isIn.l2]
        refine Ev.pos (by omega) (Ev.pos (by omega) ?_)
        rw [i8_small y (by omega), isFree_c s0 s1 W hb w h hw hh e0 e1 x y hx hy, i8_wnat16 x hx]
        simp only [Option.bind_some]
        by_cases h1 : Go.bits .and .u16 (shr .u16 (rd C.l ((d : Int) * ((10 : Nat) : Int) + (y : Int))) (x : Int)) 1 = 1
        · refine Ev.pos h1 ?_
          have hbt : bitB (rd C.l ((d : Int) * 10 + (y : Int))) x = true := decide_eq_true h1
          rw [hbt, Bool.not_true, Bool.false_or]
          cases hf : freeB W.l w h x y with
          | true => exact Ev.pos rfl (by rw [Bool.true_and]; exact hr3)
          | false => exact Ev.neg (by simp) (by rw [Bool.false_and]; exact Ev.now false)
        · refine Ev.neg h1 ?_
          have hbt : bitB (rd C.l ((d : Int) * 10 + (y : Int))) x = false := decide_eq_false h1
          rw [hbt, Bool.not_false, Bool.true_or, Bool.true_and]
          exact hr3
      · refine Ev.succ ?_
        simp only [impl_Crowd_isIn.l2]
        rw [wnat y 10 hy (by omega)]
        exact Ev.neg (by omega) hr2
    · refine Ev.succ ?_
      simp only [impl_Crowd_isIn.l1]
      rw [wnat d 4 hd (by omega)]
      exact Ev.neg (by omega) hr
  · refine Ev.succ ?_
    simp only [impl_Crowd_isIn.l0]
    exact Ev.neg (by omega) (Ev.now true)
theorem okLoop_ev (C P : LA 40) :
    Ev (fun k => spec_l06Ok.l0 k 0 C P) (RRe (fun d => RRe (fun y => decide (Go.bits .andNot .u16 (rd C.l ((d : Int) * 10 + (y : Int))) (rd P.l ((d : Int) * 10 + (y : Int))) = 0)) true 10 0) true 4 0) := by
  refine Ev.loopB (fun k i => spec_l06Ok.l0 k i C P) _ true 4 (fun d hd r hr => ?_) ?_
  · refine Ev.succ ?_
    simp only [spec_l06Ok.l0]
    refine Ev.pos (by omega) ?_
    rw [← RRe_and]
    refine Ev.loopB (fun k i => spec_l06Ok.l1 k (d : Int) i C P) _ r 10 (fun y hy r2 hr2 => ?_) ?_
    · refine Ev.succ ?_
      simp only [spec_l06Ok.l1]
      refine Ev.pos (by omega) (Ev.pos (by omega) (Ev.pos (by omega) (Ev.pos (by omega) ?_)))
      rw [wnat y 10 hy (by omega)]
      by_cases h1 : Go.bits .andNot .u16 (rd C.l ((d : Int) * 10 + (y : Int))) (rd P.l ((d : Int) * 10 + (y : Int))) = 0
      · rw [decide_eq_true h1, Bool.true_and]
        exact Ev.pos h1 hr2
      · rw [decide_eq_false h1, Bool.false_and]
        exact Ev.neg h1 (Ev.now false)
    · refine Ev.succ ?_
      simp only [spec_l06Ok.l1]
      rw [wnat d 4 hd (by omega)]
      exact Ev.neg (by omega) hr
  · refine Ev.succ ?_
    simp only [spec_l06Ok.l0]
    exact Ev.neg (by omega) (Ev.now true)
def VA (w h : Nat) (W : LA 10) (C : LA 40) : Prop := ∀ x y d : Nat, x < 16 → y < 10 → d < 4 → hasA C (x : Int) (y : Int) (d : Int) = true → freeB W.l w h x y = true
theorem Valid_core (s0 s1 : Int) (W : LA 10) (C : LA 40) (hr : RB s0 s1 W) (hc : CB C) :
    ∃ r, Ev (fun k => spec_l06Ok.f k s0 s1 W C) r ∧ Ev (fun k => impl_ValidCrowd.f k s0 s1 W C) r ∧ (r = true → ∃ w h : Nat, s0 = w ∧ s1 = h ∧ (1 ≤ w ∧ w ≤ 10) ∧ (1 ≤ h ∧ h ≤ 10) ∧ VA w h W C) := by
  have hb := hr.2.2
  obtain ⟨b, h1, h2, h3⟩ := Ok_both s0 s1 W hr.1 hr.2.1
  cases b with
  | false =>
    refine ⟨false, ?_, ?_, fun h => by cases h⟩
    · unfold spec_l06Ok.f
      refine Ev.bind (a := false) h1 ?_
      exact Ev.neg (by simp) (Ev.now _)
    · unfold impl_ValidCrowd.f
      refine Ev.bind h2 ?_
      exact Ev.neg (by simp) (Ev.now _)
  | true =>
    obtain ⟨hw, hh⟩ := h3 rfl
    obtain ⟨w, e0⟩ : ∃ n : Nat, s0 = n := ⟨s0.toNat, by omega⟩
    obtain ⟨h, e1⟩ : ∃ n : Nat, s1 = n := ⟨s1.toNat, by omega⟩
    have ha := All_s s0 s1 W hb w h (by omega) (by omega) e0 e1
    have hlen := cellsL_len (fr W.l) w h
    have hm : ∀ q ∈ cellsL (fr W.l) w h, (0 ≤ q.f0 ∧ q.f0 < 10) ∧ (0 ≤ q.f1 ∧ q.f1 < 10) := fun q hq => by
      have := cellsL_mem (fr W.l) w h h (Nat.le_refl _) q hq
      omega
    have hl : (cellsL (fr W.l) w h).length ≤ 1000 := by
      have : w * h ≤ 10 * 10 := Nat.mul_le_mul (by omega) (by omega)
      omega
    have p1 := Plain_ev _ hm hl (cellsL (fr W.l) w h).length 0 (LA.zero 40) (by omega)
    have hbits := plain_bits W.l w h (by omega) (by omega)
    rw [List.drop_zero] at p1
    obtain ⟨P, hP⟩ : ∃ P, plainA (cellsL (fr W.l) w h) (LA.zero 40) = P := ⟨_, rfl⟩
    rw [hP] at p1 hbits
    have q1 : Ev (fun k => spec_l06Plain.f k s0 s1 W) P := by
      unfold spec_l06Plain.f
      exact Ev.bind ha p1
    have i1 := okLoop_ev C P
    have i2 := isIn_ev C s0 s1 W hb w h (by omega) (by omega) e0 e1
    have same : (RRe (fun d => RRe (fun y => decide (Go.bits .andNot .u16 (rd C.l ((d : Int) * 10 + (y : Int))) (rd P.l ((d : Int) * 10 + (y : Int))) = 0)) true 10 0) true 4 0) = (RRe (fun d => RRe (fun y => RRe (fun x => !bitB (rd C.l ((d : Int) * 10 + (y : Int))) x || freeB W.l w h x y) true 16 0) true 10 0) true 4 0) := by
      refine RRe_congr true 4 0 (fun d _ hd => RRe_congr true 10 0 (fun y _ hy => ?_))
      obtain ⟨n, hn, hlt, ht⟩ := hbits d y (by omega) (by omega)
      obtain ⟨m, hmm⟩ : ∃ m : Nat, rd C.l ((d : Int) * 10 + (y : Int)) = m := ⟨(rd C.l ((d : Int) * 10 + (y : Int))).toNat, by have := (hc ((d : Int) * 10 + (y : Int))).1; omega⟩
      have hmlt : m < 2 ^ 16 := by have := (hc ((d : Int) * 10 + (y : Int))).2; omega
      rw [hn, hmm]
      rw [Bool.eq_iff_iff, decide_eq_true_iff, andNot_zero m n hmlt hlt, RRe_true]
      constructor
      · intro hall x _ hx
        by_cases hbx : m.testBit x = true
        · have hf := hall x (by omega) hbx
          rw [ht x] at hf
          rw [show freeB W.l w h x y = true from hf, Bool.or_true]
        · have : bitB (m : Int) x = false := decide_eq_false (fun hh' => hbx ((bit16 m hmlt x (by omega)).1 hh'))
          rw [this]
          rfl
      · intro hall x hx hbx
        have hx2 := hall x (by omega) (by omega)
        have : bitB (m : Int) x = true := decide_eq_true ((bit16 m hmlt x hx).2 hbx)
        rw [this, Bool.not_true, Bool.false_or] at hx2
        rw [ht x]
        exact hx2
    refine ⟨_, ?_, Ev.eq ?_ same.symm, fun hr => ?_⟩
    rotate_left
    · unfold impl_ValidCrowd.f
      refine Ev.bind h2 ?_
      exact Ev.pos rfl (Ev.bind i2 (Ev.now _))
    · rw [same] at hr
      refine ⟨w, h, e0, e1, by omega, by omega, fun x y d hx hy hd hbit => ?_⟩
      have r1 := (RRe_true _ 4 0).1 hr d (by omega) (by omega)
      have r2 := (RRe_true _ 10 0).1 r1 y (by omega) (by omega)
      have r3 := (RRe_true _ 16 0).1 r2 x (by omega) (by omega)
      have hb2 : bitB (rd C.l ((d : Int) * 10 + (y : Int))) x = true := by
        unfold hasA at hbit
        unfold bitB
        simpa using hbit
      rw [hb2, Bool.not_true, Bool.false_or] at r3
      exact r3
    · unfold spec_l06Ok.f
      exact Ev.bind h1 (Ev.pos rfl (Ev.bind q1 i1))
end Go.Proofs.YtdedijjbdkoekaaDoor.Q
end
section
namespace Go.Proofs.YtdedijjbdkoekaaDoor.Q
open Go.RowKit Go.Proofs.YtdedijjbdkoekaaDoorW.PrintWords Go.Proofs.YtdedijjbdkoekaaDoorW.PrintLast Go.Proofs.YtdedijjbdkoekaaDoorW.PrintMore Go.Proofs.YtdedijjbdkoekaaDoor.La Go.Proofs.YtdedijjbdkoekaaDoor.PB
set_option linter.unusedVariables false
set_option linter.unusedSimpArgs false
def nx (x y d : Int) : Int × Int := if d = 0 then (x, y - 1) else if d = 1 then (x + 1, y) else if d = 2 then (x, y + 1) else if d = 3 then (x - 1, y) else (x, y)
theorem i8_id (a : Int) (h0 : -128 ≤ a) (h1 : a ≤ 127) : IntKind.i8.wrap a = a := by
  simp [IntKind.wrap, IntKind.bits, IntKind.signed]
  split <;> omega
theorem Next_s (x y d : Int) (hx : 0 ≤ x ∧ x < 10) (hy : 0 ≤ y ∧ y < 10) : spec_l01Next.f x y d = some (nx x y d) := by
  unfold spec_l01Next.f nx
  rw [i8_id (y - 1) (by omega) (by omega), i8_id (x + 1) (by omega) (by omega), i8_id (y + 1) (by omega) (by omega), i8_id (x - 1) (by omega) (by omega)]
  (repeat' split) <;> rfl
theorem Next_i (x y d : Int) (hx : 0 ≤ x ∧ x < 10) (hy : 0 ≤ y ∧ y < 10) : impl_NextSpot.f x y d = some (nx x y d) := by
  unfold impl_NextSpot.f nx
  rw [i8_id (y - 1) (by omega) (by omega), i8_id (x + 1) (by omega) (by omega), i8_id (y + 1) (by omega) (by omega), i8_id (x - 1) (by omega) (by omega)]
  (repeat' split) <;> rfl
theorem nx_bound (x y d : Int) (hx : 0 ≤ x ∧ x < 10) (hy : 0 ≤ y ∧ y < 10) : (-128 ≤ (nx x y d).1 ∧ (nx x y d).1 ≤ 127) ∧ (-128 ≤ (nx x y d).2 ∧ (nx x y d).2 ≤ 127) := by
  unfold nx
  (repeat' split) <;> (dsimp only; omega)
def mv (s0 s1 : Int) (W : LA 10) (m : Int) (p : Nat × Nat × Nat) : Option (Nat × Nat × Nat) :=
  if m = 102 then (if frC s0 s1 W (nx p.1 p.2.1 p.2.2).1 (nx p.1 p.2.1 p.2.2).2 then some ((nx p.1 p.2.1 p.2.2).1.toNat, (nx p.1 p.2.1 p.2.2).2.toNat, p.2.2) else none)
  else if m = 98 then (if frC s0 s1 W (nx p.1 p.2.1 p.2.2).1 (nx p.1 p.2.1 p.2.2).2 then none else some p)
  else if m = 108 then some (p.1, p.2.1, (p.2.2 + 3) % 4) else if m = 114 then some (p.1, p.2.1, (p.2.2 + 1) % 4) else some p
theorem frC_nat {s0 s1 : Int} {W : LA 10} {a b : Int} (h0 : s0 ≤ 10) (h1 : s1 ≤ 10) (h : frC s0 s1 W a b = true) : (0 ≤ a ∧ a < 10) ∧ (0 ≤ b ∧ b < 10) := by
  unfold frC at h
  simp only [Bool.and_eq_true] at h
  have := isC_bounds h.1
  omega
theorem mv_inR (s0 s1 : Int) (W : LA 10) (h0 : s0 ≤ 10) (h1 : s1 ≤ 10) (m : Int) (p q : Nat × Nat × Nat) (hp : inR p) (h : mv s0 s1 W m p = some q) : inR q := by
  obtain ⟨p1, p2, p3⟩ := hp
  unfold mv at h
  split at h
  · split at h
    · rename_i hf
      have := frC_nat h0 h1 hf
      obtain rfl := Option.some.inj h
      refine ⟨?_, ?_, p3⟩
      · show (nx p.1 p.2.1 p.2.2).1.toNat < 10
        omega
      · show (nx p.1 p.2.1 p.2.2).2.toNat < 10
        omega
    · cases h
  · split at h
    · split at h
      · cases h
      · obtain rfl := Option.some.inj h
        exact ⟨p1, p2, p3⟩
    · split at h
      · obtain rfl := Option.some.inj h
        exact ⟨p1, p2, Nat.mod_lt _ (by omega)⟩
      · split at h
        · obtain rfl := Option.some.inj h
          exact ⟨p1, p2, Nat.mod_lt _ (by omega)⟩
        · obtain rfl := Option.some.inj h
          exact ⟨p1, p2, p3⟩
theorem mv_free (s0 s1 : Int) (W : LA 10) (h0 : s0 ≤ 10) (h1 : s1 ≤ 10) (m : Int) (p q : Nat × Nat × Nat) (hp : frC s0 s1 W (p.1 : Int) (p.2.1 : Int) = true) (h : mv s0 s1 W m p = some q) : frC s0 s1 W (q.1 : Int) (q.2.1 : Int) = true := by
  unfold mv at h
  split at h
  · split at h
    · rename_i hf
      have := frC_nat h0 h1 hf
      obtain rfl := Option.some.inj h
      show frC s0 s1 W (((nx p.1 p.2.1 p.2.2).1.toNat : Nat) : Int) (((nx p.1 p.2.1 p.2.2).2.toNat : Nat) : Int) = true
      rw [Int.toNat_of_nonneg (by omega), Int.toNat_of_nonneg (by omega)]
      exact hf
    · cases h
  · split at h
    · split at h
      · cases h
      · obtain rfl := Option.some.inj h
        exact hp
    · split at h
      · obtain rfl := Option.some.inj h
        exact hp
      · split at h
        · obtain rfl := Option.some.inj h
          exact hp
        · obtain rfl := Option.some.inj h
          exact hp
theorem side3 (d : Nat) (h : d < 4) : Int.tmod (wrap64 ((d : Int) + 3)) 4 = (((d + 3) % 4 : Nat) : Int) := by
  rw [wint _ (by omega) (by omega), Int.tmod_eq_emod_of_nonneg (by omega)]
  omega
theorem side1 (d : Nat) (h : d < 4) : Int.tmod (wrap64 ((d : Int) + 1)) 4 = (((d + 1) % 4 : Nat) : Int) := by
  rw [wint _ (by omega) (by omega), Int.tmod_eq_emod_of_nonneg (by omega)]
  omega
theorem Can_s (s0 s1 : Int) (W : LA 10) (hb : ∀ i, 0 ≤ rd W.l i ∧ rd W.l i < 65536) (h0 : 1 ≤ s0 ∧ s0 ≤ 10) (h1 : 1 ≤ s1 ∧ s1 ≤ 10) (m : Int) (p : Nat × Nat × Nat) (hp : inR p) : spec_l06Can.f s0 s1 W (p.1 : Int) (p.2.1 : Int) (p.2.2 : Int) m = some ((mv s0 s1 W m p).isSome) := by
  obtain ⟨p1, p2, p3⟩ := hp
  obtain ⟨b1, b2⟩ := nx_bound (p.1 : Int) (p.2.1 : Int) (p.2.2 : Int) (by omega) (by omega)
  unfold spec_l06Can.f mv
  rw [Next_s _ _ _ (by omega) (by omega)]
  simp only [Option.bind_some]
  generalize nx (p.1 : Int) (p.2.1 : Int) (p.2.2 : Int) = a at b1 b2 ⊢
  rw [Is_s s0 s1 W h0 h1 _ _ b1 b2, Fr_s s0 s1 W hb h0 h1 _ _ b1 b2]
  simp only [Option.bind_some]
  have hfi : isC s0 s1 a.1 a.2 = false → frC s0 s1 W a.1 a.2 = false := fun h => by unfold frC; rw [h]; rfl
  by_cases m1 : m = 102
  · subst m1
    cases hi : isC s0 s1 a.1 a.2 with
    | false => rw [hfi hi]; rfl
    | true => cases frC s0 s1 W a.1 a.2 <;> rfl
  · by_cases m2 : m = 98
    · subst m2
      cases hi : isC s0 s1 a.1 a.2 with
      | false => rw [hfi hi]; rfl
      | true => cases frC s0 s1 W a.1 a.2 <;> rfl
    · have e : ∀ b : Bool, (if m = 102 then (some (b == (m == 102))) else (if m = 98 then (some (b == (m == 102))) else (some true))) = some true := fun b => by rw [if_neg m1, if_neg m2]
      rw [e, e]
      simp only [m1, m2, if_false]
      cases isC s0 s1 a.1 a.2 <;> (simp only [Bool.false_eq_true, if_false, if_true]; (repeat' split) <;> rfl)
theorem Made_s (s0 s1 : Int) (W : LA 10) (h0 : 1 ≤ s0 ∧ s0 ≤ 10) (h1 : 1 ≤ s1 ∧ s1 ≤ 10) (m : Int) (p q : Nat × Nat × Nat) (hp : inR p) (hq : mv s0 s1 W m p = some q) : spec_l06Made.f (p.1 : Int) (p.2.1 : Int) (p.2.2 : Int) m = some ((q.1 : Int), (q.2.1 : Int), (q.2.2 : Int)) := by
  obtain ⟨p1, p2, p3⟩ := hp
  unfold spec_l06Made.f
  unfold mv at hq
  rw [Next_s _ _ _ (by omega) (by omega), side3 _ p3, side1 _ p3]
  simp only [Option.bind_some]
  by_cases m1 : m = 102
  · rw [if_pos m1] at hq ⊢
    split at hq
    · rename_i hf
      have := frC_nat h0.2 h1.2 hf
      obtain rfl := Option.some.inj hq
      dsimp only
      rw [Int.toNat_of_nonneg (by omega), Int.toNat_of_nonneg (by omega)]
    · cases hq
  · rw [if_neg m1] at hq ⊢
    by_cases m2 : m = 98
    · rw [if_pos m2] at hq
      subst m2
      rw [if_neg (by decide), if_neg (by decide)]
      split at hq
      · cases hq
      · obtain rfl := Option.some.inj hq
        rfl
    · rw [if_neg m2] at hq
      by_cases m3 : m = 108
      · rw [if_pos m3] at hq ⊢
        obtain rfl := Option.some.inj hq
        rfl
      · rw [if_neg m3] at hq ⊢
        by_cases m4 : m = 114
        · rw [if_pos m4] at hq ⊢
          obtain rfl := Option.some.inj hq
          rfl
        · rw [if_neg m4] at hq ⊢
          obtain rfl := Option.some.inj hq
          rfl
theorem put_crow_s (S : List (Nat × Nat × Nat)) (q : Nat × Nat × Nat) (hq : inR q) : spec_l06Put.f (crow S) (q.1 : Int) (q.2.1 : Int) (q.2.2 : Int) = some (crow (S ++ [q])) := by
  obtain ⟨q1, q2, q3⟩ := hq
  rw [crow_snoc, putA_s _ _ _ _ (by omega) (by omega) (by omega)]
theorem put_crow_i (S : List (Nat × Nat × Nat)) (q : Nat × Nat × Nat) (hq : inR q) : impl_Crowd_set.f (crow S) (q.1 : Int) (q.2.1 : Int) (q.2.2 : Int) = some (crow (S ++ [q])) := by
  obtain ⟨q1, q2, q3⟩ := hq
  rw [crow_snoc, putA_i _ _ _ _ (by omega) (by omega) (by omega)]
def opt (s0 s1 : Int) (W : LA 10) (C : LA 40) (m : Int) (p : Nat × Nat × Nat) : Option (Nat × Nat × Nat) := if hasA C (p.1 : Int) (p.2.1 : Int) (p.2.2 : Int) then mv s0 s1 W m p else none
def genS (s0 s1 : Int) (W : LA 10) (C : LA 40) (m : Int) (x y : Nat) : Nat → Nat → List (Nat × Nat × Nat)
  | _, 0 => []
  | d, n + 1 => (opt s0 s1 W C m (x, y, d)).toList ++ genS s0 s1 W C m x y (d + 1) n
def genK (s0 s1 : Int) (W : LA 10) (C : LA 40) (m : Int) : Nat → Nat → List (Nat × Nat × Nat)
  | _, 0 => []
  | k, n + 1 => genS s0 s1 W C m (k % 10) (k / 10) 0 4 ++ genK s0 s1 W C m (k + 1) n
theorem mem_genS (s0 s1 : Int) (W : LA 10) (C : LA 40) (m : Int) (x y : Nat) (p : Nat × Nat × Nat) : ∀ n d, p ∈ genS s0 s1 W C m x y d n ↔ ∃ e, d ≤ e ∧ e < d + n ∧ opt s0 s1 W C m (x, y, e) = some p
  | 0, d => ⟨fun h => absurd h (by simp [genS]), fun ⟨e, h1, h2, _⟩ => by omega⟩
  | n + 1, d => by
    rw [genS, List.mem_append, mem_genS s0 s1 W C m x y p n (d + 1), Option.mem_toList]
    constructor
    · rintro (h | ⟨e, h1, h2, h3⟩)
      · exact ⟨d, by omega, by omega, h⟩
      · exact ⟨e, by omega, by omega, h3⟩
    · rintro ⟨e, h1, h2, h3⟩
      by_cases he : e = d
      · subst he; exact .inl h3
      · exact .inr ⟨e, by omega, by omega, h3⟩
theorem mem_genK (s0 s1 : Int) (W : LA 10) (C : LA 40) (m : Int) (p : Nat × Nat × Nat) : ∀ n k, p ∈ genK s0 s1 W C m k n ↔ ∃ j, k ≤ j ∧ j < k + n ∧ ∃ e, e < 4 ∧ opt s0 s1 W C m (j % 10, j / 10, e) = some p
  | 0, k => ⟨fun h => absurd h (by simp [genK]), fun ⟨e, h1, h2, _⟩ => by omega⟩
  | n + 1, k => by
    rw [genK, List.mem_append, mem_genK s0 s1 W C m p n (k + 1), mem_genS]
    constructor
    · rintro (⟨e, h1, h2, h3⟩ | ⟨j, h1, h2, h3⟩)
      · exact ⟨k, by omega, by omega, e, by omega, h3⟩
      · exact ⟨j, by omega, by omega, h3⟩
    · rintro ⟨j, h1, h2, e, h3, h4⟩
      by_cases he : j = k
      · subst he; exact .inl ⟨e, by omega, by omega, h4⟩
      · exact .inr ⟨j, by omega, by omega, e, h3, h4⟩
theorem opt_inR (s0 s1 : Int) (W : LA 10) (h0 : 1 ≤ s0 ∧ s0 ≤ 10) (h1 : 1 ≤ s1 ∧ s1 ≤ 10) (C : LA 40) (m : Int) (p q : Nat × Nat × Nat) (hp : inR p) (h : opt s0 s1 W C m p = some q) : inR q := by
  unfold opt at h
  split at h
  · exact mv_inR s0 s1 W h0.2 h1.2 m p q hp h
  · cases h
def moveA (s0 s1 : Int) (W : LA 10) (C : LA 40) (m : Int) : LA 40 := crow (genK s0 s1 W C m 0 100)
theorem genK_inR (s0 s1 : Int) (W : LA 10) (h0 : 1 ≤ s0 ∧ s0 ≤ 10) (h1 : 1 ≤ s1 ∧ s1 ≤ 10) (C : LA 40) (m : Int) : ∀ p ∈ genK s0 s1 W C m 0 100, inR p := fun p hp => by
  obtain ⟨j, _, h2, e, h3, h4⟩ := (mem_genK s0 s1 W C m p 100 0).1 hp
  exact opt_inR s0 s1 W h0 h1 C m _ p ⟨Nat.mod_lt _ (by omega), by show j / 10 < 10; omega, h3⟩ h4
theorem mem_moveA (s0 s1 : Int) (W : LA 10) (C : LA 40) (m : Int) (p : Nat × Nat × Nat) : p ∈ genK s0 s1 W C m 0 100 ↔ ∃ q, inR q ∧ opt s0 s1 W C m q = some p := by
  rw [mem_genK]
  constructor
  · rintro ⟨j, _, h2, e, h3, h4⟩
    exact ⟨_, ⟨Nat.mod_lt _ (by omega), by show j / 10 < 10; omega, h3⟩, h4⟩
  · rintro ⟨⟨x, y, d⟩, ⟨hx, hy, hd⟩, h⟩
    have hx' : x < 10 := hx
    have hy' : y < 10 := hy
    refine ⟨y * 10 + x, by omega, by omega, d, hd, ?_⟩
    rw [show (y * 10 + x) % 10 = x by omega, show (y * 10 + x) / 10 = y by omega]
    exact h
theorem Move_s (s0 s1 : Int) (W : LA 10) (hb : ∀ i, 0 ≤ rd W.l i ∧ rd W.l i < 65536) (h0 : 1 ≤ s0 ∧ s0 ≤ 10) (h1 : 1 ≤ s1 ∧ s1 ≤ 10) (C : LA 40) (m : Int) : Ev (fun k => spec_l06Move.f k s0 s1 W C m) (moveA s0 s1 W C m) := by
  show Ev (fun k => spec_l06Move.l0 k m 0 s0 s1 W C (LA.zero 40)) _
  have key : ∀ (n k : Nat) (S : List (Nat × Nat × Nat)), k + n = 100 → Ev (fun z => spec_l06Move.l0 z m (k : Int) s0 s1 W C (crow S)) (crow (S ++ genK s0 s1 W C m k n)) := by
    intro n
    induction n with
    | zero =>
      intro k S hk
      refine Ev.succ ?_
      simp only [spec_l06Move.l0]
      refine Ev.neg (by omega) ?_
      rw [genK, List.append_nil]
      exact Ev.now _
    | succ n ih =>
      intro k S hk
      refine Ev.succ ?_
      simp only [spec_l06Move.l0]
      refine Ev.pos (by omega) ?_
      have inner : ∀ (i d : Nat) (S : List (Nat × Nat × Nat)), d + i = 4 → Ev (fun z => spec_l06Move.l1 z m (k : Int) (d : Int) s0 s1 W C (crow S)) (crow (S ++ genS s0 s1 W C m (k % 10) (k / 10) d i ++ genK s0 s1 W C m (k + 1) n)) := by
        intro i
        induction i with
        | zero =>
          intro d S hd
          refine Ev.succ ?_
          simp only [spec_l06Move.l1]
          rw [wnat k 100 (by omega) (by omega), genS, List.append_nil]
          exact Ev.neg (by omega) (ih (k + 1) S (by omega))
        | succ i ihi =>
          intro d S hd
          have hin : inR (k % 10, k / 10, d) := ⟨Nat.mod_lt _ (by omega), by show k / 10 < 10; omega, by show d < 4; omega⟩
          refine Ev.succ ?_
          simp only [spec_l06Move.l1]
          refine Ev.pos (by omega) ?_
          rw [spot_s k (by omega)]
          refine Ev.bind (Ev.now _) ?_
          rw [has_s C _ _ (d : Int) ⟨by omega, by omega⟩ ⟨by omega, by omega⟩ ⟨by omega, by omega⟩]
          refine Ev.bind (Ev.now _) ?_
          have wd := wnat d 4 (by omega) (by omega)
          have skip : opt s0 s1 W C m (k % 10, k / 10, d) = none → Ev (fun z => spec_l06Move.j2 z m (k : Int) (d : Int) false s0 s1 W C (crow S) ((k % 10 : Nat) : Int) ((k / 10 : Nat) : Int)) (crow (S ++ genS s0 s1 W C m (k % 10) (k / 10) d (i + 1) ++ genK s0 s1 W C m (k + 1) n)) := fun ho => by
            refine Ev.succ ?_
            simp only [spec_l06Move.j2]
            rw [wd, genS, ho]
            exact Ev.neg Bool.false_ne_true (ihi (d + 1) S (by omega))
          cases hh : hasA C ((k % 10 : Nat) : Int) ((k / 10 : Nat) : Int) (d : Int) with
          | false => exact Ev.neg Bool.false_ne_true (skip (by unfold opt; dsimp only; rw [hh]; rfl))
          | true =>
            refine Ev.pos rfl ?_
            have hc := Can_s s0 s1 W hb h0 h1 m (k % 10, k / 10, d) hin
            have ho : opt s0 s1 W C m (k % 10, k / 10, d) = mv s0 s1 W m (k % 10, k / 10, d) := by unfold opt; dsimp only; rw [hh]; rfl
            cases hm : mv s0 s1 W m (k % 10, k / 10, d) with
            | none =>
              rw [hm] at hc ho
              exact Ev.bind (Ev.const hc) (skip ho)
            | some q =>
              rw [hm] at hc
              refine Ev.bind (Ev.const hc) ?_
              have hmd := Made_s s0 s1 W h0 h1 m (k % 10, k / 10, d) q hin hm
              have hq := mv_inR s0 s1 W h0.2 h1.2 m _ q hin hm
              refine Ev.succ ?_
              simp only [spec_l06Move.j2]
              refine Ev.pos rfl (Ev.bind (Ev.const hmd) ?_)
              dsimp only
              rw [put_crow_s S q hq, wd]
              refine Ev.bind (Ev.now _) ?_
              rw [genS, ho, hm]
              have := ihi (d + 1) (S ++ [q]) (by omega)
              simpa using this
      have := inner 4 0 S rfl
      rw [genK, ← List.append_assoc]
      exact this
  have := key 100 0 [] rfl
  exact this
def genF (s0 s1 : Int) (W : LA 10) (C : LA 40) (m : Int) : List S41 → List (Nat × Nat × Nat)
  | [] => []
  | q :: F => genS s0 s1 W C m q.f0.toNat q.f1.toNat 0 4 ++ genF s0 s1 W C m F
theorem mem_genF (s0 s1 : Int) (W : LA 10) (C : LA 40) (m : Int) (p : Nat × Nat × Nat) : ∀ F : List S41, p ∈ genF s0 s1 W C m F ↔ ∃ q, q ∈ F ∧ ∃ e, e < 4 ∧ opt s0 s1 W C m (q.f0.toNat, q.f1.toNat, e) = some p
  | [] => ⟨fun h => absurd h (by simp [genF]), fun ⟨q, h, _⟩ => absurd h (by simp)⟩
  | q :: F => by
    rw [genF, List.mem_append, mem_genF s0 s1 W C m p F, mem_genS]
    constructor
    · rintro (⟨e, h1, h2, h3⟩ | ⟨r, h1, h2⟩)
      · exact ⟨q, by simp, e, by omega, h3⟩
      · exact ⟨r, by simp [h1], h2⟩
    · rintro ⟨r, hr, e, h1, h2⟩
      rcases List.mem_cons.1 hr with rfl | hr
      · exact .inl ⟨e, by omega, by omega, h2⟩
      · exact .inr ⟨r, hr, e, h1, h2⟩
def isL (m : Int) : Prop := m = 98 ∨ m = 102 ∨ m = 108 ∨ m = 114
theorem Moved_F (s0 s1 : Int) (W : LA 10) (hb : ∀ i, 0 ≤ rd W.l i ∧ rd W.l i < 65536) (h0 : 1 ≤ s0 ∧ s0 ≤ 10) (h1 : 1 ≤ s1 ∧ s1 ≤ 10) (C : LA 40) (m : Int) (hm : isL m) (F : List S41) (hF : F.length ≤ 1000) (hin : ∀ q ∈ F, (0 ≤ q.f0 ∧ q.f0 < 10) ∧ (0 ≤ q.f1 ∧ q.f1 < 10)) :
    ∀ (n i : Nat) (S : List (Nat × Nat × Nat)), i + n = F.length → Ev (fun z => impl_Crowd_moved.l0 z m F (F.length : Int) (i : Int) C s0 s1 W (crow S)) (crow (S ++ genF s0 s1 W C m (F.drop i))) := by
  intro n
  induction n with
  | zero =>
    intro i S hi
    obtain rfl : i = F.length := by omega
    rw [List.drop_length, genF, List.append_nil]
    refine Ev.succ ?_
    simp only [impl_Crowd_moved.l0]
    exact Ev.neg (by omega) (Ev.now _)
  | succ n ih =>
    intro i S hi
    have hiF : i < F.length := by omega
    have hq := hin _ (getD_mem F i z41 hiF)
    refine Ev.succ ?_
    simp only [impl_Crowd_moved.l0]
    refine Ev.pos (by omega) (Ev.pos (by omega) (Ev.pos (by omega) ?_))
    rw [rdT_get, drop_get F i z41 hiF, genF]
    obtain ⟨x, hx⟩ : ∃ x : Nat, (F.getD i z41).f0 = x := ⟨_, (Int.toNat_of_nonneg hq.1.1).symm⟩
    obtain ⟨y, hy⟩ : ∃ y : Nat, (F.getD i z41).f1 = y := ⟨_, (Int.toNat_of_nonneg hq.2.1).symm⟩
    rw [hx, hy] at hq ⊢
    rw [Int.toNat_natCast, Int.toNat_natCast]
    have inner : ∀ (j d : Nat) (S : List (Nat × Nat × Nat)), d + j = 4 → Ev (fun z => impl_Crowd_moved.l1 z m F (F.length : Int) (i : Int) (d : Int) C s0 s1 W (crow S) (x : Int) (y : Int)) (crow (S ++ genS s0 s1 W C m x y d j ++ genF s0 s1 W C m (F.drop (i + 1)))) := by
      intro j
      induction j with
      | zero =>
        intro d S hd
        refine Ev.succ ?_
        simp only [impl_Crowd_moved.l1]
        rw [wnat i 1000 (by omega) (by omega), genS, List.append_nil]
        exact Ev.neg (by omega) (ih (i + 1) S (by omega))
      | succ j ihj =>
        intro d S hd
        have hd4 : d < 4 := by omega
        have hd0 : 0 ≤ (d : Int) ∧ (d : Int) < 4 := by omega
        have hp : inR (x, y, d) := ⟨by show x < 10; omega, by show y < 10; omega, hd4⟩
        have wd := wnat d 4 hd4 (by omega)
        have skip : opt s0 s1 W C m (x, y, d) = none → Ev (fun z => impl_Crowd_moved.l1 z m F (F.length : Int) (i : Int) (wrap64 ((d : Int) + 1)) C s0 s1 W (crow S) (x : Int) (y : Int)) (crow (S ++ genS s0 s1 W C m x y d (j + 1) ++ genF s0 s1 W C m (F.drop (i + 1)))) := fun ho => by
          rw [wd, genS, ho]
          exact ihj (d + 1) S (by omega)
        have take : ∀ q, opt s0 s1 W C m (x, y, d) = some q → Ev (fun z => impl_Crowd_moved.l1 z m F (F.length : Int) (i : Int) (wrap64 ((d : Int) + 1)) C s0 s1 W (crow (S ++ [q])) (x : Int) (y : Int)) (crow (S ++ genS s0 s1 W C m x y d (j + 1) ++ genF s0 s1 W C m (F.drop (i + 1)))) := fun q ho => by
          rw [wd, genS, ho]
          have := ihj (d + 1) (S ++ [q]) (by omega)
          simpa using this
        refine Ev.succ ?_
        simp only [impl_Crowd_moved.l1]
        refine Ev.pos hd0.2 ?_
        rw [has_i C _ _ (d : Int) hq.1 hq.2 hd0]
        refine Ev.bind (Ev.now _) ?_
        cases hh : hasA C (x : Int) (y : Int) (d : Int) with
        | false => exact Ev.neg Bool.false_ne_true (skip (by unfold opt; dsimp only; rw [hh]; rfl))
        | true =>
          refine Ev.pos rfl ?_
          have ho : opt s0 s1 W C m (x, y, d) = mv s0 s1 W m (x, y, d) := by unfold opt; dsimp only; rw [hh]; rfl
          rw [ho] at skip take
          have hb2 := nx_bound (x : Int) (y : Int) (d : Int) hq.1 hq.2
          rw [Next_i _ _ _ hq.1 hq.2]
          refine Ev.bind (Ev.now _) ?_
          have hfr := Fr_i s0 s1 W hb h0 h1 _ _ hb2.1 hb2.2
          have pc := put_crow_i S (x, y, d) hp
          dsimp only at pc
          rcases hm with rfl | rfl | rfl | rfl
          · refine Ev.neg (by decide) (Ev.neg (by decide) (Ev.neg (by decide) ?_))
            refine Ev.succ ?_
            simp only [impl_Crowd_moved.j2]
            rw [hfr, pc]
            refine Ev.neg Bool.false_ne_true (Ev.pos (by trivial) (Ev.bind (Ev.now _) ?_))
            cases hf : frC s0 s1 W (nx (x : Int) (y : Int) (d : Int)).1 (nx (x : Int) (y : Int) (d : Int)).2 with
            | true => exact Ev.pos rfl (skip (by unfold mv; dsimp only; rw [hf]; rfl))
            | false => exact Ev.neg Bool.false_ne_true (Ev.bind (Ev.now _) (take _ (by unfold mv; dsimp only; rw [hf]; rfl)))
          · refine Ev.neg (by decide) (Ev.neg (by decide) (Ev.pos (by trivial) ?_))
            rw [hfr]
            refine Ev.bind (Ev.now _) ?_
            refine Ev.succ ?_
            simp only [impl_Crowd_moved.j2]
            cases hf : frC s0 s1 W (nx (x : Int) (y : Int) (d : Int)).1 (nx (x : Int) (y : Int) (d : Int)).2 with
            | true =>
              have hn := frC_nat h0.2 h1.2 hf
              have hq2 : inR ((nx (x : Int) (y : Int) (d : Int)).1.toNat, (nx (x : Int) (y : Int) (d : Int)).2.toNat, d) := ⟨by show (nx (x : Int) (y : Int) (d : Int)).1.toNat < 10; omega, by show (nx (x : Int) (y : Int) (d : Int)).2.toNat < 10; omega, hd4⟩
              have pc2 := put_crow_i S _ hq2
              dsimp only at pc2
              rw [Int.toNat_of_nonneg hn.1.1, Int.toNat_of_nonneg hn.2.1] at pc2
              rw [pc2]
              exact Ev.pos rfl (Ev.bind (Ev.now _) (take _ (by unfold mv; dsimp only; rw [hf]; rfl)))
            | false => exact Ev.neg Bool.false_ne_true (Ev.neg (by decide) (skip (by unfold mv; dsimp only; rw [hf]; rfl)))
          · refine Ev.pos (by trivial) ?_
            have pc2 := put_crow_i S (x, y, (d + 3) % 4) ⟨hp.1, hp.2.1, Nat.mod_lt _ (by omega)⟩
            dsimp only at pc2
            rw [side3 d hd4, pc2]
            exact Ev.bind (Ev.now _) (take _ rfl)
          · refine Ev.neg (by decide) (Ev.pos (by trivial) ?_)
            have pc2 := put_crow_i S (x, y, (d + 1) % 4) ⟨hp.1, hp.2.1, Nat.mod_lt _ (by omega)⟩
            dsimp only at pc2
            rw [side1 d hd4, pc2]
            exact Ev.bind (Ev.now _) (take _ rfl)
    have := inner 4 0 S rfl
    rw [List.append_assoc] at this
    exact this
theorem freeB_frC (w h : Nat) (W : LA 10) (x y : Nat) : freeB W.l w h x y = frC (w : Int) (h : Int) W (x : Int) (y : Int) := by
  unfold freeB frC isC inC
  have e1 : decide (0 ≤ (x : Int)) = true := decide_eq_true (by omega)
  have e2 : decide (0 ≤ (y : Int)) = true := decide_eq_true (by omega)
  have e3 : decide ((x : Int) ≤ (w : Int) - 1) = decide (x < w) := decide_eq_decide.2 (by omega)
  have e4 : decide ((y : Int) ≤ (h : Int) - 1) = decide (y < h) := decide_eq_decide.2 (by omega)
  rw [e1, e2, e3, e4, Bool.true_and, Bool.true_and]
theorem free_mem (w h : Nat) (W : LA 10) (x y : Nat) (hf : freeB W.l w h x y = true) : ∃ q ∈ cellsL (fr W.l) w h, q.f0 = (x : Int) ∧ q.f1 = (y : Int) := by
  have h1 := cells_any (fr W.l) w x y h
  have h2 : (decide (x < w) && decide (y < h) && fr W.l (x : Int) (y : Int)) = true := hf
  rw [h2, List.any_eq_true] at h1
  obtain ⟨q, hq, e⟩ := h1
  simp only [Bool.and_eq_true, decide_eq_true_eq] at e
  exact ⟨q, hq, e.1, e.2⟩
theorem Moved_i (w h : Nat) (W : LA 10) (hb : ∀ i, 0 ≤ rd W.l i ∧ rd W.l i < 65536) (hw : 1 ≤ w ∧ w ≤ 10) (hh : 1 ≤ h ∧ h ≤ 10) (C : LA 40) (hv : VA w h W C) (m : Int) (hm : isL m) : Ev (fun k => impl_Crowd_moved.f k C (w : Int) (h : Int) W m) (moveA (w : Int) (h : Int) W C m) := by
  have hi := All_i (w : Int) (h : Int) W hb w h (by omega) (by omega) rfl rfl
  have hlen := cellsL_len (fr W.l) w h
  have hlen2 : w * h ≤ 10 * 10 := Nat.mul_le_mul (by omega) (by omega)
  have hin : ∀ q ∈ cellsL (fr W.l) w h, (0 ≤ q.f0 ∧ q.f0 < 10) ∧ (0 ≤ q.f1 ∧ q.f1 < 10) := fun q hq => by
    have := cellsL_mem (fr W.l) w h h (Nat.le_refl _) q hq
    omega
  have e := Moved_F (w : Int) (h : Int) W hb (by omega) (by omega) C m hm (cellsL (fr W.l) w h) (by omega) hin (cellsL (fr W.l) w h).length 0 [] (by omega)
  rw [List.drop_zero, List.nil_append] at e
  have same : crow (genF (w : Int) (h : Int) W C m (cellsL (fr W.l) w h)) = moveA (w : Int) (h : Int) W C m := by
    unfold moveA
    refine (crow_ext (genK_inR (w : Int) (h : Int) W (by omega) (by omega) C m) fun p => ?_).symm
    rw [mem_moveA (w : Int) (h : Int) W, mem_genF]
    constructor
    · rintro ⟨⟨x, y, d⟩, ⟨hx, hy, hd⟩, ho⟩
      have hx' : x < 10 := hx
      have hh2 : hasA C (x : Int) (y : Int) (d : Int) = true := by
        unfold opt at ho
        dsimp only at ho
        split at ho
        · assumption
        · cases ho
      obtain ⟨q, hq, e1, e2⟩ := free_mem w h W x y (hv x y d (by omega) hy hd hh2)
      refine ⟨q, hq, d, hd, ?_⟩
      rw [e1, e2, Int.toNat_natCast, Int.toNat_natCast]
      exact ho
    · rintro ⟨q, hq, d, hd, ho⟩
      have := hin q hq
      exact ⟨_, ⟨by show q.f0.toNat < 10; omega, by show q.f1.toNat < 10; omega, hd⟩, ho⟩
  unfold impl_Crowd_moved.f
  exact Ev.bind hi (Ev.eq e same)
theorem moveA_VA (w h : Nat) (W : LA 10) (hw : 1 ≤ w ∧ w ≤ 10) (hh : 1 ≤ h ∧ h ≤ 10) (C : LA 40) (hv : VA w h W C) (m : Int) : VA w h W (moveA (w : Int) (h : Int) W C m) := by
  intro x y d hx hy hd hp
  unfold moveA at hp
  rw [crow_has _ (genK_inR (w : Int) (h : Int) W (by omega) (by omega) C m) x y d hx hy hd, decide_eq_true_eq, mem_moveA (w : Int) (h : Int) W] at hp
  obtain ⟨⟨a, b, e⟩, ⟨ha, hb, he⟩, ho⟩ := hp
  have ha' : a < 10 := ha
  unfold opt at ho
  dsimp only at ho
  split at ho
  · rename_i hh2
    have hf := hv a b e (by omega) hb he hh2
    rw [freeB_frC] at hf ⊢
    exact mv_free (w : Int) (h : Int) W (by omega) (by omega) m (a, b, e) (x, y, d) hf ho
  · cases ho
end Go.Proofs.YtdedijjbdkoekaaDoor.Q
end
section
namespace Go.Proofs.YtdedijjbdkoekaaDoor.Q
open Go.RowKit Go.Proofs.YtdedijjbdkoekaaDoorW.PrintWords Go.Proofs.YtdedijjbdkoekaaDoorW.PrintLast Go.Proofs.YtdedijjbdkoekaaDoorW.PrintMore Go.Proofs.YtdedijjbdkoekaaDoor.La Go.Proofs.YtdedijjbdkoekaaDoor.PB
set_option linter.unusedVariables false
set_option linter.unusedSimpArgs false
theorem dropWhile_nil (p : UInt8 → Bool) : ∀ l : List UInt8, l.dropWhile p = [] ↔ ∀ b ∈ l, p b = true
  | [] => by simp
  | b :: l => by
    rw [List.dropWhile_cons]
    cases hb : p b with
    | true =>
      simp only [if_true]
      rw [dropWhile_nil p l]
      simp [hb]
    | false => simp [hb]
theorem dropWhile_head (p : UInt8 → Bool) : ∀ (l : List UInt8) (b : UInt8) (t : List UInt8), l.dropWhile p = b :: t → p b = false
  | [], b, t, h => by simp at h
  | c :: l, b, t, h => by
    rw [List.dropWhile_cons] at h
    cases hc : p c with
    | true => rw [hc] at h; exact dropWhile_head p l b t h
    | false =>
      rw [hc] at h
      simp only [Bool.false_eq_true, if_false, List.cons.injEq] at h
      rw [← h.1]
      exact hc
theorem trimS_nil (l cs : List UInt8) : Lib.trimS l cs = [] ↔ ∀ b ∈ l, cs.contains b = true := by
  unfold Lib.trimS Lib.trimLeftS Lib.trimRightS
  constructor
  · intro h
    have h1 := (dropWhile_nil _ _).1 h
    cases hd : l.reverse.dropWhile (cs.contains ·) with
    | nil =>
      intro b hb
      exact (dropWhile_nil _ _).1 hd b (by simpa using hb)
    | cons b t =>
      have h2 := dropWhile_head _ _ _ _ hd
      have h3 := h1 b (by rw [hd]; simp)
      have h4 : cs.contains b = false := h2
      have h5 : cs.contains b = true := h3
      rw [h5] at h4
      cases h4
  · intro h
    have : l.reverse.dropWhile (cs.contains ·) = [] := (dropWhile_nil _ _).2 fun b hb => h b (by simpa using hb)
    rw [this]
    rfl
def isLb (b : UInt8) : Bool := ([98, 102, 108, 114] : List UInt8).contains b
theorem isLb_iff (b : UInt8) : isLb b = true ↔ isL (b.toNat : Int) := by
  unfold isLb isL
  have e : ∀ n : Nat, n < 256 → (b = UInt8.ofNat n ↔ (b.toNat : Int) = n) := fun n hn => by
    constructor
    · rintro rfl
      simp
      omega
    · intro h
      have : b.toNat = n := by omega
      rw [← this]
      simp
  have e1 := e 98 (by omega)
  have e2 := e 102 (by omega)
  have e3 := e 108 (by omega)
  have e4 := e 114 (by omega)
  simp only [List.contains_cons, List.contains_nil, Bool.or_false, Bool.or_eq_true, beq_iff_eq]
  constructor
  · rintro (h | h | h | h)
    · exact .inl (e1.1 h)
    · exact .inr (.inl (e2.1 h))
    · exact .inr (.inr (.inl (e3.1 h)))
    · exact .inr (.inr (.inr (e4.1 h)))
  · rintro (h | h | h | h)
    · exact .inl (e1.2 h)
    · exact .inr (.inl (e2.2 h))
    · exact .inr (.inr (.inl (e3.2 h)))
    · exact .inr (.inr (.inr (e4.2 h)))
theorem Letter_t (v : Int) (h : isL v) : spec_l06Letter.f v = some true := by
  unfold spec_l06Letter.f
  rcases h with rfl | rfl | rfl | rfl <;> rfl
theorem Letter_f (v : Int) (h : ¬ isL v) : spec_l06Letter.f v = some false := by
  unfold spec_l06Letter.f
  unfold isL at h
  rw [if_neg (fun e => h (.inl e)), if_neg (fun e => h (.inr (.inl e))), if_neg (fun e => h (.inr (.inr (.inl e))))]
  congr 1
  rw [beq_eq_false_iff_ne]
  exact fun e => h (.inr (.inr (.inr e)))
theorem bt_get (a : ByteArray) (i : Nat) (h : i < a.data.toList.length) : bt a (i : Int) = ((a.data.toList.getD i 0).toNat : Int) := by
  have hs : ((i : Int)).toNat < a.size := by
    rw [Int.toNat_natCast]
    have := Lib.size_eq a
    omega
  rw [← bt_at a (i : Int) hs]
  simp only [Int.toNat_natCast, List.getD_eq_getElem?_getD, List.getElem?_eq_getElem h, Option.getD_some]
  rfl
theorem size_list (a : ByteArray) : a.size = a.data.toList.length := by have := Lib.size_eq a; omega
def mcode (a : ByteArray) : Int := if (a.size : Int) > 60 then 3 else if a.data.toList.all isLb then 0 else 5
theorem Moves_s (a : ByteArray) : Ev (fun k => spec_l06Moves.f k a) (mcode a) := by
  unfold spec_l06Moves.f mcode
  by_cases hs : (a.size : Int) > 60
  · rw [if_pos hs]
    exact Ev.pos hs (Ev.now _)
  rw [if_neg hs]
  refine Ev.neg hs ?_
  have hl := size_list a
  have key : ∀ n i : Nat, i + n = a.data.toList.length → Ev (fun k => spec_l06Moves.l0 k a (i : Int)) (if (a.data.toList.drop i).all isLb then 0 else 5) := by
    intro n
    induction n with
    | zero =>
      intro i hi
      obtain rfl : i = a.data.toList.length := by omega
      rw [List.drop_length]
      refine Ev.succ ?_
      simp only [spec_l06Moves.l0]
      exact Ev.neg (by omega) (Ev.now _)
    | succ n ih =>
      intro i hi
      refine Ev.succ ?_
      simp only [spec_l06Moves.l0]
      rw [bt_get a i (by omega), drop_get _ i 0 (by omega), List.all_cons, wnat i 100 (by omega) (by omega)]
      refine Ev.pos (by omega) (Ev.pos (by omega) ?_)
      have hi2 := isLb_iff (a.data.toList.getD i 0)
      cases hb : isLb (a.data.toList.getD i 0) with
      | true =>
        rw [Letter_t _ (hi2.1 hb)]
        exact Ev.bind (Ev.now _) (Ev.pos rfl (Ev.eq (ih (i + 1) (by omega)) (by rw [Bool.true_and])))
      | false =>
        rw [Letter_f _ (fun h => by rw [hi2.2 h] at hb; cases hb)]
        exact Ev.bind (Ev.now _) (Ev.neg Bool.false_ne_true (Ev.now _))
  have := key a.data.toList.length 0 (by omega)
  rw [List.drop_zero] at this
  exact this
theorem Moves_i (a : ByteArray) : impl_movesCode.f a = some (mcode a) := by
  unfold impl_movesCode.f mcode
  by_cases hs : (a.size : Int) > 60
  · rw [if_pos hs, if_pos hs]
  rw [if_neg hs, if_neg hs]
  unfold strings_Trim.f
  rw [if_pos ⟨by omega, by decide, by decide⟩]
  simp only [Option.bind_some]
  unfold impl_unless.f
  have hc : (⟨(Lib.trimS a.data.toList [98, 102, 108, 114]).toArray⟩ : ByteArray).toList = Lib.trimS a.data.toList [98, 102, 108, 114] := Lib.toList_data _
  show ((if ((⟨(Lib.trimS a.data.toList [98, 102, 108, 114]).toArray⟩ : ByteArray).toList.isEmpty) = true then some 0 else some 5) : Option Int).bind (fun t => some t) = _
  rw [hc]
  have hn := trimS_nil a.data.toList [98, 102, 108, 114]
  by_cases h : ∀ b ∈ a.data.toList, ([98, 102, 108, 114] : List UInt8).contains b = true
  · rw [hn.2 h, if_pos (show a.data.toList.all isLb = true from List.all_eq_true.2 h)]
    rfl
  · have h2 : ¬ Lib.trimS a.data.toList [98, 102, 108, 114] = [] := fun e => h (hn.1 e)
    rw [if_neg (fun e => h2 (List.isEmpty_iff.1 e)), if_neg (show ¬ a.data.toList.all isLb = true from fun e => h (List.all_eq_true.1 e))]
    rfl
def movesA (s0 s1 : Int) (W : LA 10) : LA 40 → List UInt8 → LA 40
  | C, [] => C
  | C, b :: bs => movesA s0 s1 W (moveA s0 s1 W C (b.toNat : Int)) bs
theorem Moves_ls (s0 s1 : Int) (W : LA 10) (hb : ∀ i, 0 ≤ rd W.l i ∧ rd W.l i < 65536) (h0 : 1 ≤ s0 ∧ s0 ≤ 10) (h1 : 1 ≤ s1 ∧ s1 ≤ 10) (a : ByteArray) (hs : a.data.toList.length ≤ 60) :
    ∀ (n i : Nat) (C : LA 40), i + n = a.data.toList.length → Ev (fun k => spec_MovesCrowd.l0 k a (i : Int) s0 s1 W C) (movesA s0 s1 W C (a.data.toList.drop i), 0) := by
  have hl := size_list a
  intro n
  induction n with
  | zero =>
    intro i C hi
    obtain rfl : i = a.data.toList.length := by omega
    rw [List.drop_length]
    refine Ev.succ ?_
    simp only [spec_MovesCrowd.l0]
    exact Ev.neg (by omega) (Ev.now _)
  | succ n ih =>
    intro i C hi
    refine Ev.succ ?_
    simp only [spec_MovesCrowd.l0]
    rw [bt_get a i (by omega), drop_get _ i 0 (by omega), wnat i 100 (by omega) (by omega)]
    exact Ev.pos (by omega) (Ev.pos (by omega) (Ev.bind (Move_s s0 s1 W hb h0 h1 C _) (ih (i + 1) _ (by omega))))
theorem Moved_ls (w h : Nat) (W : LA 10) (hb : ∀ i, 0 ≤ rd W.l i ∧ rd W.l i < 65536) (hw : 1 ≤ w ∧ w ≤ 10) (hh : 1 ≤ h ∧ h ≤ 10) (a : ByteArray) (hs : a.data.toList.length ≤ 60) (ha : a.data.toList.all isLb = true) :
    ∀ (n i : Nat) (C : LA 40), i + n = a.data.toList.length → VA w h W C → Ev (fun k => impl_Crowd_movedBy.l0 k a (a.size : Int) (i : Int) C (w : Int) (h : Int) W) (movesA (w : Int) (h : Int) W C (a.data.toList.drop i)) := by
  have hl := size_list a
  intro n
  induction n with
  | zero =>
    intro i C hi hv
    obtain rfl : i = a.data.toList.length := by omega
    rw [List.drop_length]
    refine Ev.succ ?_
    simp only [impl_Crowd_movedBy.l0]
    exact Ev.neg (by omega) (Ev.now _)
  | succ n ih =>
    intro i C hi hv
    refine Ev.succ ?_
    simp only [impl_Crowd_movedBy.l0]
    rw [bt_get a i (by omega), drop_get _ i 0 (by omega), wnat i 100 (by omega) (by omega)]
    have hL := (isLb_iff _).1 (List.all_eq_true.1 ha _ (getD_mem a.data.toList i 0 (by omega)))
    exact Ev.pos (by omega) (Ev.pos (by omega) (Ev.pos (by omega) (Ev.bind (Moved_i w h W hb hw hh C hv _ hL) (ih (i + 1) _ (by omega) (moveA_VA w h W hw hh C hv _)))))
theorem Moved_by (w h : Nat) (W : LA 10) (hb : ∀ i, 0 ≤ rd W.l i ∧ rd W.l i < 65536) (hw : 1 ≤ w ∧ w ≤ 10) (hh : 1 ≤ h ∧ h ≤ 10) (a : ByteArray) (hm : mcode a = 0) (C : LA 40) (hv : VA w h W C) : Ev (fun k => impl_Crowd_movedBy.f k C (w : Int) (h : Int) W a) (movesA (w : Int) (h : Int) W C a.data.toList) := by
  have hl := size_list a
  unfold mcode at hm
  split at hm
  · cases hm
  · split at hm
    · rename_i h1 h2
      have := Moved_ls w h W hb hw hh a (by omega) h2 a.data.toList.length 0 C (by omega) hv
      rw [List.drop_zero] at this
      unfold impl_Crowd_movedBy.f
      exact this
    · cases hm
theorem mcode_len (a : ByteArray) (hm : mcode a = 0) : a.data.toList.length ≤ 60 := by
  have hl := size_list a
  unfold mcode at hm
  split at hm
  · cases hm
  · omega
theorem MovesCrowd_val (s0 s1 : Int) (W : LA 10) (C : LA 40) (hr : RB s0 s1 W) (hc : CB C) (a : ByteArray) :
    (Ev (fun k => spec_MovesCrowd.f k s0 s1 W C a) (LA.zero 40, 1) ∧ Ev (fun k => impl_MovesCrowd.f k s0 s1 W C a) (LA.zero 40, 1)) ∨
    (∃ w h : Nat, s0 = w ∧ s1 = h ∧ (1 ≤ w ∧ w ≤ 10) ∧ (1 ≤ h ∧ h ≤ 10) ∧ VA w h W C ∧
      Ev (fun k => spec_MovesCrowd.f k s0 s1 W C a) (if mcode a = 0 then (movesA s0 s1 W C a.data.toList, 0) else (LA.zero 40, mcode a)) ∧ Ev (fun k => impl_MovesCrowd.f k s0 s1 W C a) (if mcode a = 0 then (movesA s0 s1 W C a.data.toList, 0) else (LA.zero 40, mcode a))) := by
  obtain ⟨b, h1, h2, h3⟩ := Valid_core s0 s1 W C hr hc
  cases b with
  | false =>
    refine .inl ⟨?_, ?_⟩
    · unfold spec_MovesCrowd.f
      exact Ev.bind h1 (Ev.neg Bool.false_ne_true (Ev.now _))
    · unfold impl_MovesCrowd.f
      exact Ev.bind h2 (Ev.neg Bool.false_ne_true (Ev.now _))
  | true =>
    obtain ⟨w, h, rfl, rfl, hw, hh, hv⟩ := h3 rfl
    refine .inr ⟨w, h, rfl, rfl, hw, hh, hv, ?_, ?_⟩
    · unfold spec_MovesCrowd.f
      refine Ev.bind h1 (Ev.pos rfl (Ev.bind (Moves_s a) ?_))
      by_cases hm : mcode a = 0
      · rw [if_pos hm]
        refine Ev.pos hm ?_
        have := Moves_ls (w : Int) (h : Int) W hr.2.2 (by omega) (by omega) a (mcode_len a hm) a.data.toList.length 0 C (by omega)
        rw [List.drop_zero] at this
        exact this
      · rw [if_neg hm]
        exact Ev.neg hm (Ev.now _)
    · unfold impl_MovesCrowd.f
      rw [Moves_i a]
      refine Ev.bind h2 (Ev.pos rfl (Ev.bind (Ev.now _) ?_))
      by_cases hm : mcode a = 0
      · rw [if_pos hm]
        exact Ev.pos hm (Ev.bind (Moved_by w h W hr.2.2 hw hh a hm C hv) (Ev.now _))
      · rw [if_neg hm]
        exact Ev.neg hm (Ev.now _)
theorem MovesCrowd_both (s0 s1 : Int) (W : LA 10) (C : LA 40) (hr : RB s0 s1 W) (hc : CB C) (a : ByteArray) : ∃ r, Ev (fun k => spec_MovesCrowd.f k s0 s1 W C a) r ∧ Ev (fun k => impl_MovesCrowd.f k s0 s1 W C a) r := by
  rcases MovesCrowd_val s0 s1 W C hr hc a with ⟨h1, h2⟩ | ⟨w, h, _, _, _, _, _, h1, h2⟩
  · exact ⟨_, h1, h2⟩
  · exact ⟨_, h1, h2⟩
end Go.Proofs.YtdedijjbdkoekaaDoor.Q
end
section
namespace Go.Proofs.YtdedijjbdkoekaaDoor.Q
open Go.RowKit Go.Proofs.YtdedijjbdkoekaaDoorW.PrintWords Go.Proofs.YtdedijjbdkoekaaDoorW.PrintLast Go.Proofs.YtdedijjbdkoekaaDoorW.PrintMore Go.Proofs.YtdedijjbdkoekaaDoor.La Go.Proofs.YtdedijjbdkoekaaDoor.PB
set_option linter.unusedVariables false
set_option linter.unusedSimpArgs false
theorem toU_ev (W : LA 10) : Ev (fun k => laws_toUint16A10.f k W) W := by
  unfold laws_toUint16A10.f
  have key : ∀ (m i : Nat) (X : LA 10), i + m = 10 → (∀ j : Nat, j < i → rd X.l (j : Int) = rd W.l (j : Int)) → Ev (fun k => laws_toUint16A10.l0 k (i : Int) W X) W := by
    intro m
    induction m with
    | zero =>
      intro i X hi hX
      obtain rfl : i = 10 := by omega
      refine Ev.succ ?_
      simp only [laws_toUint16A10.l0]
      rw [ext_rd hX]
      exact Ev.neg (by omega) (Ev.now _)
    | succ m ih =>
      intro i X hi hX
      refine Ev.succ ?_
      simp only [laws_toUint16A10.l0]
      rw [wnat i 10 (by omega) (by omega)]
      refine Ev.pos (by omega) (Ev.pos (by omega) (ih (i + 1) _ (by omega) (fun j hj => ?_)))
      by_cases e : j = i
      · subst e
        exact rd_set_same X _ _ (by omega) (by omega)
      · rw [rd_set_other X _ _ _ (by omega) (by omega) (by omega)]
        exact hX j (by omega)
  exact key 10 0 _ rfl (fun j hj => by omega)
theorem toRoom_ev (s0 s1 : Int) (W : LA 10) : Ev (fun k => laws_toRoom.f k s0 s1 W) (s0, s1, W) := by
  unfold laws_toRoom.f
  exact Ev.bind (toU_ev W) (Ev.now _)
theorem rd_setRow {n : Nat} (W : LA n) (m : Nat) (a : Int) (R : LA m) (j : Nat) (hj : j < n) : rd (W.setRow m a R).l (j : Int) = if a * m ≤ (j : Int) ∧ (j : Int) < a * m + m then rd R.l ((j : Int) - a * m) else rd W.l (j : Int) := by
  show ((List.range n).map (fun j : Nat => if a * m ≤ (j : Int) ∧ (j : Int) < a * m + m then rd R.l ((j : Int) - a * m) else rd W.l (j : Int))).getD ((j : Int)).toNat 0 = _
  rw [show ((j : Int)).toNat = j by omega, List.getD_eq_getElem?_getD, List.getElem?_map, List.getElem?_range hj]
  rfl
theorem toCrowd_ev (C : LA 40) : Ev (fun k => laws_toCrowd.f k C) C := by
  unfold laws_toCrowd.f
  have key : ∀ (m i : Nat) (X : LA 40), i + m = 4 → (∀ j : Nat, j < i * 10 → rd X.l (j : Int) = rd C.l (j : Int)) → Ev (fun k => laws_toCrowd.l0 k (i : Int) C X) C := by
    intro m
    induction m with
    | zero =>
      intro i X hi hX
      obtain rfl : i = 4 := by omega
      refine Ev.succ ?_
      simp only [laws_toCrowd.l0]
      rw [ext_rd hX]
      exact Ev.neg (by omega) (Ev.now _)
    | succ m ih =>
      intro i X hi hX
      refine Ev.succ ?_
      simp only [laws_toCrowd.l0]
      rw [wnat i 4 (by omega) (by omega)]
      refine Ev.pos (by omega) (Ev.pos (by omega) (Ev.bind (toU_ev _) (ih (i + 1) _ (by omega) (fun j hj => ?_))))
      rw [rd_setRow _ _ _ _ j (by omega)]
      by_cases e : i * 10 ≤ j
      · rw [if_pos (by omega), rd_row C 10 _ _ (by omega) (by omega)]
        congr 1
        omega
      · rw [if_neg (by omega)]
        exact hX j (by omega)
  exact key 4 0 _ rfl (fun j hj => by omega)
theorem eqU_ev (W : LA 10) : Ev (fun k => laws_eqUint16A10.f k W W) true := by
  unfold laws_eqUint16A10.f
  have key : ∀ (m i : Nat), i + m = 10 → Ev (fun k => laws_eqUint16A10.l0 k (i : Int) W W) true := by
    intro m
    induction m with
    | zero =>
      intro i hi
      obtain rfl : i = 10 := by omega
      refine Ev.succ ?_
      simp only [laws_eqUint16A10.l0]
      exact Ev.neg (by omega) (Ev.now _)
    | succ m ih =>
      intro i hi
      refine Ev.succ ?_
      simp only [laws_eqUint16A10.l0]
      rw [wnat i 10 (by omega) (by omega)]
      exact Ev.pos (by omega) (Ev.pos (by omega) (Ev.pos (by trivial) (ih (i + 1) (by omega))))
  exact key 10 0 rfl
theorem eqC_ev (C : LA 40) : Ev (fun k => laws_eqCrowd.f k C C) true := by
  unfold laws_eqCrowd.f
  have key : ∀ (m i : Nat), i + m = 4 → Ev (fun k => laws_eqCrowd.l0 k (i : Int) C C) true := by
    intro m
    induction m with
    | zero =>
      intro i hi
      obtain rfl : i = 4 := by omega
      refine Ev.succ ?_
      simp only [laws_eqCrowd.l0]
      exact Ev.neg (by omega) (Ev.now _)
    | succ m ih =>
      intro i hi
      refine Ev.succ ?_
      simp only [laws_eqCrowd.l0]
      rw [wnat i 4 (by omega) (by omega)]
      exact Ev.pos (by omega) (Ev.pos (by omega) (Ev.bind (eqU_ev _) (Ev.pos rfl (ih (i + 1) (by omega)))))
  exact key 4 0 rfl
end Go.Proofs.YtdedijjbdkoekaaDoor.Q
end
section
namespace Go.Proofs.YtdedijjbdkoekaaDoor.Q
open Go.RowKit Go.Proofs.YtdedijjbdkoekaaDoorW.PrintWords Go.Proofs.YtdedijjbdkoekaaDoorW.PrintLast Go.Proofs.YtdedijjbdkoekaaDoorW.PrintMore Go.Proofs.YtdedijjbdkoekaaDoor.La Go.Proofs.YtdedijjbdkoekaaDoor.PB
set_option linter.unusedVariables false
set_option linter.unusedSimpArgs false
theorem FnExactMovesCrowd (a0_0 a0_1 : Int) (a0_2 : LA 10) (a1 : LA 40) (a2 : ByteArray) (hr : RB a0_0 a0_1 a0_2) (hc : CB a1) (y2 : a2.size ≤ maxLen) : Ev (fun k => laws_FnExactMovesCrowd.f k a0_0 a0_1 a0_2 a1 a2) true := by
  obtain ⟨r, h1, h2⟩ := MovesCrowd_both a0_0 a0_1 a0_2 a1 hr hc a2
  have er := toRoom_ev a0_0 a0_1 a0_2
  have ec := toCrowd_ev a1
  unfold laws_FnExactMovesCrowd.f
  by_cases hs : (a2.size : Int) > 1048576
  · exact Ev.pos hs (Ev.now _)
  refine Ev.neg hs ?_
  refine Ev.bind er (Ev.bind ec (Ev.bind h1 (Ev.bind er (Ev.bind ec (Ev.bind h2 (Ev.bind (eqC_ev r.1) (Ev.pos rfl (Ev.pos rfl (Ev.now _)))))))))
end Go.Proofs.YtdedijjbdkoekaaDoor.Q
end
