/- The statement FnExactCrowdAt of this program: what its proof uses, part 10 of 10. The call returns true for all arguments. No condition of its own. -/
import Derived.IntWalk
import Derived.Test.YtdedijjbdkoekaaZFnExactCrowdAt8
section
namespace Go.Proofs.Ytdedijjbdkoekaa.Q
open Go.RowKit Go.Proofs.YtdedijjbdkoekaaW.PrintWords Go.Proofs.YtdedijjbdkoekaaW.PrintLast
set_option linter.unusedVariables false
set_option linter.unusedSimpArgs false
theorem wnat (i n : Nat) (h : i < n) (hn : n ≤ 9223372036854775807) : wrap64 ((i : Int) + 1) = ((i + 1 : Nat) : Int) := by unfold wrap64; omega
theorem wint (a : Int) (h0 : -9223372036854775808 ≤ a) (h1 : a ≤ 9223372036854775807) : wrap64 a = a := by unfold wrap64; omega
theorem rd_nat (xs : List Int) (i : Nat) : rd xs (i : Int) = xs.getD i 0 := by simp [rd]
theorem Ev.round {α : Type} {g f : Nat → Option α} {r : α} (k : Ev f r) (h : ∀ k, g (k + 1) = f k) : Ev g r := Ev.step h k
theorem Ev.ite {α : Type} {c : Prop} [Decidable c] {f g : Nat → Option α} {r : α} (h : c → Ev f r) (h' : ¬ c → Ev g r) : Ev (fun k => if c then f k else g k) r := by
  by_cases hc : c
  · simp only [hc, if_true]; exact h hc
  · simp only [hc, if_false]; exact h' hc
theorem Ev.pos {α : Type} {c : Prop} [Decidable c] {f g : Nat → Option α} {r : α} (hc : c) (h : Ev f r) : Ev (fun k => if c then f k else g k) r := by simp only [hc, if_true]; exact h
theorem Ev.neg {α : Type} {c : Prop} [Decidable c] {f g : Nat → Option α} {r : α} (hc : ¬ c) (h : Ev g r) : Ev (fun k => if c then f k else g k) r := by simp only [hc, if_false]; exact h
end Go.Proofs.Ytdedijjbdkoekaa.Q
end
section
namespace Go.Proofs.Ytdedijjbdkoekaa.Q
open Go.RowKit Go.Proofs.YtdedijjbdkoekaaW.PrintWords Go.Proofs.YtdedijjbdkoekaaW.PrintLast Go.Proofs.Ytdedijjbdkoekaa.PB
set_option linter.unusedVariables false
set_option linter.unusedSimpArgs false
def inC (a lo hi : Int) : Bool := decide (lo ≤ a) && decide (a ≤ hi)
theorem In_c (a lo hi : Int) : spec_l00In.f a lo hi = some (inC a lo hi) := by
  unfold spec_l00In.f inC
  split
  · rename_i h; simp [h]
  · rename_i h; simp [h]
theorem Ev.succ {α : Type} {g : Nat → Option α} {r : α} (h : Ev (fun k => g (k + 1)) r) : Ev g r := Ev.step (fun _ => rfl) h
theorem getD_mem {α : Type} (l : List α) (i : Nat) (d : α) (h : i < l.length) : l.getD i d ∈ l := by
  simp [List.getD_eq_getElem?_getD, List.getElem?_eq_getElem h]
theorem drop_get {α : Type} (xs : List α) (i : Nat) (d : α) (h : i < xs.length) : xs.drop i = xs.getD i d :: xs.drop (i + 1) := by
  rw [List.drop_eq_getElem_cons h]
  simp [List.getD_eq_getElem?_getD, List.getElem?_eq_getElem h]
end Go.Proofs.Ytdedijjbdkoekaa.Q
end
section
namespace Go.Proofs.Ytdedijjbdkoekaa.Q
open Go.RowKit Go.Proofs.YtdedijjbdkoekaaW.PrintWords Go.Proofs.YtdedijjbdkoekaaW.PrintLast Go.Proofs.YtdedijjbdkoekaaW.PrintMore Go.Proofs.Ytdedijjbdkoekaa.PB
set_option linter.unusedVariables false
set_option linter.unusedSimpArgs false
set_option maxRecDepth 100000 in
theorem wrap_u16 (n : Int) : IntKind.u16.wrap n = n % 65536 := by simp [IntKind.wrap, IntKind.bits, IntKind.signed]
theorem wraps_u16 (n : Int) (h₀ : 0 ≤ n) (h₁ : n < 2 ^ 16) : IntKind.u16.wrap n = n := by rw [wrap_u16]; omega
theorem u16_and1 {x : Int} (h₀ : 0 ≤ x) (h₁ : x < 65536) : Go.bits .and .u16 x 1 = x % 2 := bits_mask .u16 16 (by decide) wraps_u16 1 (by decide) x h₀ h₁
def bitV (v : Int) (x : Nat) : Int := v / 2 ^ x % 2
theorem shr_bit {v : Int} (h₀ : 0 ≤ v) (h₁ : v < 65536) {x : Nat} (hx : x < 10) : Go.bits .and .u16 (shr .u16 v (x : Int)) 1 = bitV v x := by
  have hs : shr .u16 v (x : Int) = v / 2 ^ x := by
    unfold shr
    rw [Int.toNat_natCast, Nat.min_eq_left (show x ≤ IntKind.u16.bits by unfold IntKind.bits; dsimp only; omega)]
  have hp : (0 : Int) < 2 ^ x := Int.pow_pos (by omega)
  have h2 : v / 2 ^ x ≤ v := Int.ediv_le_self _ h₀
  rw [hs, u16_and1 (Int.ediv_nonneg h₀ (by omega)) (by omega)]
  rfl
theorem u64_small (x : Nat) (h : x < 128) : IntKind.u64.wrap (x : Int) = x := by simp [IntKind.wrap, IntKind.bits, IntKind.signed]; omega
theorem wf_u16 {n : Int} (h : (Lit.int .u16 n).wf = true) : 0 ≤ n ∧ n < 65536 := by
  simp [Lit.wf, IntKind.min, IntKind.max, IntKind.signed, IntKind.bits] at h
  omega
theorem wf_i8 {n : Int} (h : (Lit.int .i8 n).wf = true) : -128 ≤ n ∧ n ≤ 127 := by
  simp [Lit.wf, IntKind.min, IntKind.max, IntKind.signed, IntKind.bits] at h
  omega
theorem rd_bound (l : List Int) (h : ∀ x ∈ l, 0 ≤ x ∧ x < 65536) (i : Int) : 0 ≤ rd l i ∧ rd l i < 65536 := by
  unfold rd
  by_cases hi : i.toNat < l.length
  · exact h _ (getD_mem l _ 0 hi)
  · rw [List.getD_eq_getElem?_getD, List.getElem?_eq_none (by omega)]
    show (0:Int) ≤ 0 ∧ (0:Int) < 65536
    omega
end Go.Proofs.Ytdedijjbdkoekaa.Q
end
section
namespace Go.Proofs.Ytdedijjbdkoekaa.Q
open Go.RowKit Go.Proofs.YtdedijjbdkoekaaW.PrintWords Go.Proofs.YtdedijjbdkoekaaW.PrintLast Go.Proofs.YtdedijjbdkoekaaW.PrintMore Go.Proofs.Ytdedijjbdkoekaa.La Go.Proofs.Ytdedijjbdkoekaa.PB
set_option linter.unusedVariables false
set_option linter.unusedSimpArgs false
theorem Within_c (a lo hi : Int) : impl_within.f a lo hi = some (inC a lo hi) := by
  unfold impl_within.f inC
  split
  · rename_i h; simp [h]
  · rename_i h; simp [h]
theorem u64_int {a : Int} (h0 : 0 ≤ a) (h1 : a < 128) : IntKind.u64.wrap a = a := by
  obtain ⟨n, rfl⟩ : ∃ n : Nat, a = n := ⟨a.toNat, by omega⟩
  exact u64_small n (by omega)
theorem mn_small {a : Int} (h : a ≤ 10) : mn a 10 = a := by unfold mn; split <;> omega
theorem Ok_loop (s0 s1 : Int) (W : LA 10) (h0 : 1 ≤ s0 ∧ s0 ≤ 10) : ∀ n x : Nat, x + n = 10 → ∃ b, Ev (fun k => spec_l01Ok.l0 k (x : Int) s0 s1 W) b ∧ Ev (fun k => impl_ValidRoom.l0 k W (x : Int) s0 s1 W) b := by
  have hu : IntKind.u64.wrap s0 = s0 := u64_int (by omega) (by omega)
  intro n
  induction n with
  | zero =>
    intro x hx
    obtain rfl : x = 10 := by omega
    refine ⟨true, Ev.succ ?_, Ev.succ ?_⟩
    · simp only [spec_l01Ok.l0]
      exact Ev.neg (by omega) (Ev.now true)
    · simp only [impl_ValidRoom.l0]
      exact Ev.neg (by omega) (Ev.now true)
  | succ n ih =>
    intro x hx
    obtain ⟨b, hb1, hb2⟩ := ih (x + 1) (by omega)
    by_cases p1 : shr .u16 (rd W.l (x : Int)) s0 = 0
    · by_cases p2 : (x : Int) ≥ wrap64 s1
      · by_cases p3 : rd W.l (x : Int) = 0
        · refine ⟨b, Ev.succ ?_, Ev.succ ?_⟩
          · simp only [spec_l01Ok.l0]
            rw [hu, wnat x 10 (by omega) (by omega)]
            exact Ev.pos (by omega) (Ev.pos (by omega) (Ev.pos (by omega) (Ev.pos p1 (Ev.pos p2 (Ev.pos p3 hb1)))))
          · simp only [impl_ValidRoom.l0]
            rw [wnat x 10 (by omega) (by omega)]
            exact Ev.pos (by omega) (Ev.pos (by omega) (Ev.pos (by omega) (Ev.pos p1 (Ev.pos p2 (Ev.pos p3 hb2)))))
        · refine ⟨false, Ev.succ ?_, Ev.succ ?_⟩
          · simp only [spec_l01Ok.l0]
            rw [hu]
            exact Ev.pos (by omega) (Ev.pos (by omega) (Ev.pos (by omega) (Ev.pos p1 (Ev.pos p2 (Ev.neg p3 (Ev.now false))))))
          · simp only [impl_ValidRoom.l0]
            exact Ev.pos (by omega) (Ev.pos (by omega) (Ev.pos (by omega) (Ev.pos p1 (Ev.pos p2 (Ev.neg p3 (Ev.now false))))))
      · refine ⟨b, Ev.succ ?_, Ev.succ ?_⟩
        · simp only [spec_l01Ok.l0]
          rw [hu, wnat x 10 (by omega) (by omega)]
          exact Ev.pos (by omega) (Ev.pos (by omega) (Ev.pos (by omega) (Ev.pos p1 (Ev.neg p2 hb1))))
        · simp only [impl_ValidRoom.l0]
          rw [wnat x 10 (by omega) (by omega)]
          exact Ev.pos (by omega) (Ev.pos (by omega) (Ev.pos (by omega) (Ev.pos p1 (Ev.neg p2 hb2))))
    · refine ⟨false, Ev.succ ?_, Ev.succ ?_⟩
      · simp only [spec_l01Ok.l0]
        rw [hu]
        exact Ev.pos (by omega) (Ev.pos (by omega) (Ev.pos (by omega) (Ev.neg p1 (Ev.now false))))
      · simp only [impl_ValidRoom.l0]
        exact Ev.pos (by omega) (Ev.pos (by omega) (Ev.pos (by omega) (Ev.neg p1 (Ev.now false))))
theorem Ok_both (s0 s1 : Int) (W : LA 10) (b0 : -128 ≤ s0 ∧ s0 ≤ 127) (b1 : -128 ≤ s1 ∧ s1 ≤ 127) :
    ∃ b, Ev (fun k => spec_l01Ok.f k s0 s1 W) b ∧ Ev (fun k => impl_ValidRoom.f k s0 s1 W) b ∧ (b = true → (1 ≤ s0 ∧ s0 ≤ 10) ∧ (1 ≤ s1 ∧ s1 ≤ 10)) := by
  have e0 := wint s0 (by omega) (by omega)
  have e1 := wint s1 (by omega) (by omega)
  have spec0 : ∀ b1 : Bool, Ev (fun k => spec_l01Ok.j0 k true s0 s1 W) false := fun _ => Ev.succ (by simp only [spec_l01Ok.j0]; exact Ev.pos trivial (Ev.now false))
  have impl0 : ∀ b1 : Bool, Ev (fun k => impl_ValidRoom.j0 k true s0 s1 W) false := fun _ => Ev.succ (by simp only [impl_ValidRoom.j0]; exact Ev.pos trivial (Ev.now false))
  by_cases h0 : inC s0 1 10 = true
  · by_cases h1 : inC s1 1 10 = true
    · have h0' : 1 ≤ s0 ∧ s0 ≤ 10 := by unfold inC at h0; simpa using h0
      have h1' : 1 ≤ s1 ∧ s1 ≤ 10 := by unfold inC at h1; simpa using h1
      obtain ⟨b, hb1, hb2⟩ := Ok_loop s0 s1 W h0' 10 0 rfl
      refine ⟨b, ?_, ?_, fun _ => ⟨h0', h1'⟩⟩
      · unfold spec_l01Ok.f
        rw [e0, e1, In_c, In_c, h0, h1]
        simp only [Option.bind_some, if_true, Bool.not_true]
        refine Ev.succ ?_
        simp only [spec_l01Ok.j0]
        exact Ev.neg (by simp) hb1
      · unfold impl_ValidRoom.f
        rw [e0, e1, Within_c, Within_c, h0, h1]
        simp only [Option.bind_some, if_true, Bool.not_true]
        refine Ev.succ ?_
        simp only [impl_ValidRoom.j0]
        exact Ev.neg (by simp) hb2
    · have h1' : inC s1 1 10 = false := by simpa using h1
      refine ⟨false, ?_, ?_, fun h => by cases h⟩
      · unfold spec_l01Ok.f
        rw [e0, e1, In_c, In_c, h0, h1']
        simp only [Option.bind_some, if_true, Bool.not_false]
        exact spec0 true
      · unfold impl_ValidRoom.f
        rw [e0, e1, Within_c, Within_c, h0, h1']
        simp only [Option.bind_some, if_true, Bool.not_false]
        exact impl0 true
  · have h0' : inC s0 1 10 = false := by simpa using h0
    refine ⟨false, ?_, ?_, fun h => by cases h⟩
    · unfold spec_l01Ok.f
      rw [e0, In_c, h0']
      simp only [Option.bind_some, Bool.false_eq_true, if_false]
      exact spec0 true
    · unfold impl_ValidRoom.f
      rw [e0, Within_c, h0']
      simp only [Option.bind_some, Bool.false_eq_true, if_false]
      exact impl0 true
def fr (W : List Int) (x y : Int) : Bool := bitV (rd W y) x.toNat == 0
theorem shr_div {v : Int} {x : Nat} (hx : x < 10) : shr .u16 v (x : Int) = v / 2 ^ x := by
  unfold shr
  rw [Int.toNat_natCast, Nat.min_eq_left (show x ≤ IntKind.u16.bits by unfold IntKind.bits; dsimp only; omega)]
theorem Free_s (s0 s1 : Int) (W : LA 10) (hb : ∀ i, 0 ≤ rd W.l i ∧ rd W.l i < 65536) (h0 : s0 ≤ 10) (h1 : s1 ≤ 10) (x y : Nat) (hx : (x : Int) < s0) (hy : (y : Int) < s1) :
    spec_l01Free.f s0 s1 W (x : Int) (y : Int) = some (fr W.l (x : Int) (y : Int)) := by
  unfold spec_l01Free.f spec_l01Is.f
  rw [wint s0 (by omega) (by omega), wint s1 (by omega) (by omega), wint (x : Int) (by omega) (by omega), wint (y : Int) (by omega) (by omega), wint (s0 - 1) (by omega) (by omega), wint (s1 - 1) (by omega) (by omega), In_c, In_c]
  rw [show inC (x : Int) 0 (s0 - 1) = true by unfold inC; simp; omega, show inC (y : Int) 0 (s1 - 1) = true by unfold inC; simp; omega]
  simp only [Option.bind_some, if_true]
  rw [if_pos (by omega), if_pos (by omega), u64_int (by omega) (by omega), if_pos (by omega), shr_div (by omega)]
  have hn : 0 ≤ rd W.l (y : Int) / 2 ^ x := Int.ediv_nonneg (hb _).1 (Int.le_of_lt (Int.pow_pos (by omega)))
  rw [Int.tmod_eq_emod_of_nonneg hn]
  unfold fr bitV
  rw [Int.toNat_natCast]
theorem Free_i (s0 s1 : Int) (W : LA 10) (hb : ∀ i, 0 ≤ rd W.l i ∧ rd W.l i < 65536) (h0 : s0 ≤ 10) (h1 : s1 ≤ 10) (x y : Nat) (hx : (x : Int) < s0) (hy : (y : Int) < s1) :
    impl_Room_isFree.f s0 s1 W (x : Int) (y : Int) = some (fr W.l (x : Int) (y : Int)) := by
  unfold impl_Room_isFree.f impl_Room_isCell.f
  rw [wint s0 (by omega) (by omega), wint s1 (by omega) (by omega), wint (x : Int) (by omega) (by omega), wint (y : Int) (by omega) (by omega), mn_small h0, mn_small h1, wint (s0 - 1) (by omega) (by omega), wint (s1 - 1) (by omega) (by omega), Within_c, Within_c]
  rw [show inC (x : Int) 0 (s0 - 1) = true by unfold inC; simp; omega, show inC (y : Int) 0 (s1 - 1) = true by unfold inC; simp; omega]
  simp only [Option.bind_some, if_true]
  rw [if_pos (by omega), if_pos (by omega), if_pos (by omega), shr_bit (hb _).1 (hb _).2 (by omega)]
  unfold fr
  rw [Int.toNat_natCast]
def rowL (p : Int → Int → Bool) (y : Int) (acc : List S33) : Nat → List S33
  | 0 => acc
  | x + 1 => if p (x : Int) y then rowL p y acc x ++ [⟨(x : Int), y⟩] else rowL p y acc x
def cellsL (p : Int → Int → Bool) (w : Nat) : Nat → List S33
  | 0 => []
  | y + 1 => rowL p (y : Int) (cellsL p w y) w
theorem rowL_len (p : Int → Int → Bool) (y : Int) (acc : List S33) : ∀ x, (rowL p y acc x).length ≤ acc.length + x
  | 0 => by simp [rowL]
  | x + 1 => by have := rowL_len p y acc x; rw [rowL]; split <;> simp <;> omega
theorem cellsL_len (p : Int → Int → Bool) (w : Nat) : ∀ y, (cellsL p w y).length ≤ w * y
  | 0 => by simp [cellsL]
  | y + 1 => by
    have h1 := cellsL_len p w y
    have h2 := rowL_len p (y : Int) (cellsL p w y) w
    rw [cellsL, Nat.mul_succ]
    omega
theorem Ev.cells (p : Int → Int → Bool) (w h : Nat) (hw : w ≤ 10) (hh : h ≤ 10) (L0 : Nat → List S33 → Int → Option (List S33)) (L1 : Nat → List S33 → Int → Int → Option (List S33))
    (e0 : ∀ acc (y : Nat) r, y < h → Ev (fun k => L1 k acc (y : Int) 0) r → Ev (fun k => L0 k acc (y : Int)) r) (e0' : ∀ acc, Ev (fun k => L0 k acc (h : Int)) acc)
    (e1 : ∀ acc (y x : Nat) r, y < h → x < w → acc.length ≤ 1000 → Ev (fun k => L1 k (if p (x : Int) (y : Int) then acc ++ [⟨(x : Int), (y : Int)⟩] else acc) (y : Int) ((x + 1 : Nat) : Int)) r → Ev (fun k => L1 k acc (y : Int) (x : Int)) r)
    (e1' : ∀ acc (y : Nat) r, y < h → Ev (fun k => L0 k acc ((y + 1 : Nat) : Int)) r → Ev (fun k => L1 k acc (y : Int) (w : Int)) r) :
    Ev (fun k => L0 k [] 0) (cellsL p w h) := by
  have inner : ∀ (n x y : Nat) (acc : List S33) r, x + n = w → y < h → acc.length ≤ 900 → Ev (fun k => L0 k (rowL p (y : Int) acc w) ((y + 1 : Nat) : Int)) r → Ev (fun k => L1 k (rowL p (y : Int) acc x) (y : Int) (x : Int)) r := by
    intro n
    induction n with
    | zero =>
      intro x y acc r hx hy hl hr
      obtain rfl : x = w := by omega
      exact e1' _ y r hy hr
    | succ n ih =>
      intro x y acc r hx hy hl hr
      have := rowL_len p (y : Int) acc x
      exact e1 _ y x r hy (by omega) (by omega) (ih (x + 1) y acc r (by omega) hy hl hr)
  have outer : ∀ (n y : Nat), y + n = h → Ev (fun k => L0 k (cellsL p w y) (y : Int)) (cellsL p w h) := by
    intro n
    induction n with
    | zero =>
      intro y hy
      obtain rfl : y = h := by omega
      exact e0' _
    | succ n ih =>
      intro y hy
      have h1 := cellsL_len p w y
      have h2 : w * y ≤ 10 * 10 := Nat.mul_le_mul hw (by omega)
      exact e0 _ y _ (by omega) (inner w 0 y _ _ (by omega) (by omega) (by omega) (ih (y + 1) (by omega)))
  exact outer h 0 (by omega)
def isC (s0 s1 x y : Int) : Bool := inC x 0 (s0 - 1) && inC y 0 (s1 - 1)
def frC (s0 s1 : Int) (W : LA 10) (x y : Int) : Bool := isC s0 s1 x y && fr W.l x y
theorem isC_bounds {s0 s1 x y : Int} (h : isC s0 s1 x y = true) : (0 ≤ x ∧ x < s0) ∧ (0 ≤ y ∧ y < s1) := by
  unfold isC inC at h
  simp at h
  omega
theorem Is_s (s0 s1 : Int) (W : LA 10) (h0 : 1 ≤ s0 ∧ s0 ≤ 10) (h1 : 1 ≤ s1 ∧ s1 ≤ 10) (x y : Int) (hx : -128 ≤ x ∧ x ≤ 127) (hy : -128 ≤ y ∧ y ≤ 127) : spec_l01Is.f s0 s1 W x y = some (isC s0 s1 x y) := by
  unfold spec_l01Is.f isC
  rw [wint s0 (by omega) (by omega), wint s1 (by omega) (by omega), wint x (by omega) (by omega), wint y (by omega) (by omega), wint (s0 - 1) (by omega) (by omega), wint (s1 - 1) (by omega) (by omega), In_c, In_c]
  simp only [Option.bind_some]
  cases inC x 0 (s0 - 1) <;> simp
theorem Is_i (s0 s1 : Int) (W : LA 10) (h0 : 1 ≤ s0 ∧ s0 ≤ 10) (h1 : 1 ≤ s1 ∧ s1 ≤ 10) (x y : Int) (hx : -128 ≤ x ∧ x ≤ 127) (hy : -128 ≤ y ∧ y ≤ 127) : impl_Room_isCell.f s0 s1 W x y = some (isC s0 s1 x y) := by
  unfold impl_Room_isCell.f isC
  rw [wint s0 (by omega) (by omega), wint s1 (by omega) (by omega), wint x (by omega) (by omega), wint y (by omega) (by omega), mn_small h0.2, mn_small h1.2, wint (s0 - 1) (by omega) (by omega), wint (s1 - 1) (by omega) (by omega), Within_c, Within_c]
  simp only [Option.bind_some]
  cases inC x 0 (s0 - 1) <;> simp
theorem Fr_s (s0 s1 : Int) (W : LA 10) (hb : ∀ i, 0 ≤ rd W.l i ∧ rd W.l i < 65536) (h0 : 1 ≤ s0 ∧ s0 ≤ 10) (h1 : 1 ≤ s1 ∧ s1 ≤ 10) (x y : Int) (hx : -128 ≤ x ∧ x ≤ 127) (hy : -128 ≤ y ∧ y ≤ 127) : spec_l01Free.f s0 s1 W x y = some (frC s0 s1 W x y) := by
  cases hc : isC s0 s1 x y with
  | true =>
    have hd := isC_bounds hc
    obtain ⟨n, rfl⟩ : ∃ n : Nat, x = n := ⟨x.toNat, by omega⟩
    obtain ⟨m, rfl⟩ : ∃ m : Nat, y = m := ⟨y.toNat, by omega⟩
    rw [Free_s s0 s1 W hb (by omega) (by omega) n m (by omega) (by omega)]
    unfold frC
    rw [hc]
    rfl
  | false =>
    unfold spec_l01Free.f frC
    rw [Is_s s0 s1 W h0 h1 x y hx hy, hc]
    rfl
theorem Fr_i (s0 s1 : Int) (W : LA 10) (hb : ∀ i, 0 ≤ rd W.l i ∧ rd W.l i < 65536) (h0 : 1 ≤ s0 ∧ s0 ≤ 10) (h1 : 1 ≤ s1 ∧ s1 ≤ 10) (x y : Int) (hx : -128 ≤ x ∧ x ≤ 127) (hy : -128 ≤ y ∧ y ≤ 127) : impl_Room_isFree.f s0 s1 W x y = some (frC s0 s1 W x y) := by
  cases hc : isC s0 s1 x y with
  | true =>
    have hd := isC_bounds hc
    obtain ⟨n, rfl⟩ : ∃ n : Nat, x = n := ⟨x.toNat, by omega⟩
    obtain ⟨m, rfl⟩ : ∃ m : Nat, y = m := ⟨y.toNat, by omega⟩
    rw [Free_i s0 s1 W hb (by omega) (by omega) n m (by omega) (by omega)]
    unfold frC
    rw [hc]
    rfl
  | false =>
    unfold impl_Room_isFree.f frC
    rw [Is_i s0 s1 W h0 h1 x y hx hy, hc]
    rfl
def RB (s0 s1 : Int) (W : LA 10) : Prop := (-128 ≤ s0 ∧ s0 ≤ 127) ∧ (-128 ≤ s1 ∧ s1 ≤ 127) ∧ ∀ i, 0 ≤ rd W.l i ∧ rd W.l i < 65536
theorem rb_mk {s0 s1 : Int} {W : LA 10} (w0 : (Lit.int .i8 s0).wf = true) (w1 : (Lit.int .i8 s1).wf = true) (h : ∀ x ∈ W.l, (Lit.int .u16 x).wf = true) : RB s0 s1 W := ⟨wf_i8 w0, wf_i8 w1, rd_bound _ fun x hx => wf_u16 (h x hx)⟩
def SB (q : S33) : Prop := (-128 ≤ q.f0 ∧ q.f0 ≤ 127) ∧ (-128 ≤ q.f1 ∧ q.f1 ≤ 127)
end Go.Proofs.Ytdedijjbdkoekaa.Q
end
section
namespace Go.Proofs.Ytdedijjbdkoekaa.Q
open Go.RowKit Go.Proofs.YtdedijjbdkoekaaW.PrintWords Go.Proofs.YtdedijjbdkoekaaW.PrintLast Go.Proofs.YtdedijjbdkoekaaW.PrintMore Go.Proofs.Ytdedijjbdkoekaa.La Go.Proofs.Ytdedijjbdkoekaa.PB
set_option linter.unusedVariables false
set_option linter.unusedSimpArgs false
theorem Ev.find_idx (L : Nat → Int → Option Int) (p : Nat → Bool) (n : Nat) (hyes : ∀ i : Nat, i < n → p i = true → Ev (fun k => L k (i : Int)) (i : Int))
    (hno : ∀ i : Nat, i < n → p i = false → ∀ r, Ev (fun k => L k ((i + 1 : Nat) : Int)) r → Ev (fun k => L k (i : Int)) r) (hend : Ev (fun k => L k (n : Int)) (-1)) :
    ∃ r : Int, Ev (fun k => L k 0) r ∧ decide (r ≥ 0) = (List.range n).any p := by
  have key : ∀ (m i : Nat), i + m = n → (∀ j, j < i → p j = false) → ∃ r : Int, Ev (fun k => L k (i : Int)) r ∧ decide (r ≥ 0) = (List.range n).any p := by
    intro m
    induction m with
    | zero =>
      intro i hi hf
      obtain rfl : i = n := by omega
      refine ⟨-1, hend, ?_⟩
      rw [show ((List.range i).any p) = false from ?_]
      · rfl
      · rw [List.any_eq_false]
        intro j hj
        rw [hf j (by simpa using hj)]
        exact Bool.false_ne_true
    | succ m ih =>
      intro i hi hf
      cases hp : p i with
      | true =>
        refine ⟨(i : Int), hyes i (by omega) hp, ?_⟩
        rw [show ((List.range n).any p) = true from List.any_eq_true.2 ⟨i, by simp; omega, hp⟩]
        exact decide_eq_true (by omega)
      | false =>
        obtain ⟨r, hr, hd⟩ := ih (i + 1) (by omega) (fun j hj => by
          by_cases e : j = i
          · subst e; exact hp
          · exact hf j (by omega))
        exact ⟨r, hno i (by omega) hp r hr, hd⟩
  exact key n 0 (by omega) (fun j hj => by omega)
theorem any_range {α : Type} (l : List α) (z : α) (f : α → Bool) : (List.range l.length).any (fun i => f (l.getD i z)) = l.any f := by
  rw [Bool.eq_iff_iff, List.any_eq_true, List.any_eq_true]
  constructor
  · rintro ⟨i, hi, hf⟩
    have hi' : i < l.length := by simpa using hi
    exact ⟨_, getD_mem l i z hi', hf⟩
  · rintro ⟨x, hx, hf⟩
    obtain ⟨i, hi, rfl⟩ := List.getElem_of_mem hx
    exact ⟨i, by simpa using hi, by rw [List.getD_eq_getElem?_getD, List.getElem?_eq_getElem hi]; exact hf⟩
theorem rdS_get (l : List S33) (i : Nat) : rd_T33 l (i : Int) = l.getD i z33 := by simp [rd_T33]
theorem Unless_c (b : Bool) (c : Int) : impl_unless.f b c = some (if b then 0 else c) := by
  unfold impl_unless.f
  cases b <;> rfl
theorem IsSide_c (a : Int) : impl_isSide.f a = some (inC a 0 3) := by
  unfold impl_isSide.f
  rw [Within_c]
  rfl
theorem Side_c (a : Int) : spec_l01Side.f a = some (inC a 0 3) := by
  unfold spec_l01Side.f
  rw [In_c]
  rfl
def firstNZ : List Int → Int
  | [] => 0
  | c :: cs => if c = 0 then firstNZ cs else c
theorem FirstOf_ev (l : List Int) (hl : l.length ≤ 1000) : Ev (fun k => impl_firstOf.f k l) (firstNZ l) := by
  unfold impl_firstOf.f
  have key : ∀ (m i : Nat), i + m = l.length → Ev (fun k => impl_firstOf.l0 k l (l.length : Int) (i : Int)) (firstNZ (l.drop i)) := by
    intro m
    induction m with
    | zero =>
      intro i hi
      refine Ev.succ ?_
      simp only [impl_firstOf.l0]
      rw [List.drop_of_length_le (by omega)]
      exact Ev.neg (by omega) (Ev.now _)
    | succ m ih =>
      intro i hi
      refine Ev.succ ?_
      simp only [impl_firstOf.l0]
      rw [drop_get l i 0 (by omega), firstNZ, rd_nat, wnat i l.length (by omega) (by omega)]
      refine Ev.pos (by omega) (Ev.pos (by omega) (Ev.pos (by omega) ?_))
      by_cases h : l.getD i 0 = 0
      · rw [if_pos h]
        exact Ev.pos h (ih (i + 1) (by omega))
      · rw [if_neg h]
        exact Ev.neg h (Ev.now _)
  exact key l.length 0 (by omega)
def allCell (s0 s1 : Int) (l : List S33) : Bool := !(l.any fun q => !isC s0 s1 q.f0 q.f1)
def allFree (s0 s1 : Int) (W : LA 10) (l : List S33) : Bool := !(l.any fun q => !frC s0 s1 W q.f0 q.f1)
theorem NoCell_ev (s0 s1 : Int) (W : LA 10) (h0 : 1 ≤ s0 ∧ s0 ≤ 10) (h1 : 1 ≤ s1 ∧ s1 ≤ 10) (l : List S33) (hl : l.length ≤ 1073741824) (hs : ∀ q ∈ l, SB q) :
    Ev (fun k => impl_Spot_75__76.f k l s0 s1 W) (l.any fun q => !isC s0 s1 q.f0 q.f1) := by
  unfold impl_Spot_75__76.f impl_Spot_87__76.f
  obtain ⟨r, hr, hd⟩ := Ev.find_idx (fun k i => impl_Spot_87__76.l0 k l (l.length : Int) i s0 s1 W) (fun i => !isC s0 s1 (l.getD i z33).f0 (l.getD i z33).f1) l.length
    (fun i hi hp => by
      have hm := hs _ (getD_mem l i z33 hi)
      refine Ev.succ ?_
      simp only [impl_Spot_87__76.l0, impl_cellCode_1.f]
      rw [rdS_get, Is_i s0 s1 W h0 h1 _ _ hm.1 hm.2]
      simp only [Option.bind_some]
      exact Ev.pos (by omega) (Ev.pos (by omega) (Ev.pos (by omega) (Ev.pos hp (Ev.now _)))))
    (fun i hi hp r hr => by
      have hm := hs _ (getD_mem l i z33 hi)
      refine Ev.succ ?_
      simp only [impl_Spot_87__76.l0, impl_cellCode_1.f]
      rw [rdS_get, Is_i s0 s1 W h0 h1 _ _ hm.1 hm.2, wnat i l.length hi (by omega)]
      simp only [Option.bind_some]
      exact Ev.pos (by omega) (Ev.pos (by omega) (Ev.pos (by omega) (Ev.neg (by rw [hp]; exact Bool.false_ne_true) hr))))
    (by
      refine Ev.succ ?_
      simp only [impl_Spot_87__76.l0]
      exact Ev.neg (by omega) (Ev.now _))
  rw [any_range l z33 (fun q => !isC s0 s1 q.f0 q.f1)] at hd
  exact Ev.bind hr (by rw [hd]; exact Ev.now _)
theorem NoFree_ev (s0 s1 : Int) (W : LA 10) (hb : ∀ i, 0 ≤ rd W.l i ∧ rd W.l i < 65536) (h0 : 1 ≤ s0 ∧ s0 ≤ 10) (h1 : 1 ≤ s1 ∧ s1 ≤ 10) (l : List S33) (hl : l.length ≤ 1073741824) (hs : ∀ q ∈ l, SB q) :
    Ev (fun k => impl_Spot_75__78.f k l s0 s1 W) (l.any fun q => !frC s0 s1 W q.f0 q.f1) := by
  unfold impl_Spot_75__78.f impl_Spot_87__78.f
  obtain ⟨r, hr, hd⟩ := Ev.find_idx (fun k i => impl_Spot_87__78.l0 k l (l.length : Int) i s0 s1 W) (fun i => !frC s0 s1 W (l.getD i z33).f0 (l.getD i z33).f1) l.length
    (fun i hi hp => by
      have hm := hs _ (getD_mem l i z33 hi)
      refine Ev.succ ?_
      simp only [impl_Spot_87__78.l0, impl_stateCode_1.f]
      rw [rdS_get, Fr_i s0 s1 W hb h0 h1 _ _ hm.1 hm.2]
      simp only [Option.bind_some]
      exact Ev.pos (by omega) (Ev.pos (by omega) (Ev.pos (by omega) (Ev.pos hp (Ev.now _)))))
    (fun i hi hp r hr => by
      have hm := hs _ (getD_mem l i z33 hi)
      refine Ev.succ ?_
      simp only [impl_Spot_87__78.l0, impl_stateCode_1.f]
      rw [rdS_get, Fr_i s0 s1 W hb h0 h1 _ _ hm.1 hm.2, wnat i l.length hi (by omega)]
      simp only [Option.bind_some]
      exact Ev.pos (by omega) (Ev.pos (by omega) (Ev.pos (by omega) (Ev.neg (by rw [hp]; exact Bool.false_ne_true) hr))))
    (by
      refine Ev.succ ?_
      simp only [impl_Spot_87__78.l0]
      exact Ev.neg (by omega) (Ev.now _))
  rw [any_range l z33 (fun q => !frC s0 s1 W q.f0 q.f1)] at hd
  exact Ev.bind hr (by rw [hd]; exact Ev.now _)
theorem CellCode_bad (s0 s1 : Int) (W : LA 10) (l : List S33) (hv : Ev (fun k => impl_ValidRoom.f k s0 s1 W) false) : Ev (fun k => impl_cellCode.f k s0 s1 W l) 1 := by
  unfold impl_cellCode.f
  exact Ev.bind hv (Ev.neg (by simp) (Ev.now _))
theorem CellCode_ev (s0 s1 : Int) (W : LA 10) (hv : Ev (fun k => impl_ValidRoom.f k s0 s1 W) true) (h0 : 1 ≤ s0 ∧ s0 ≤ 10) (h1 : 1 ≤ s1 ∧ s1 ≤ 10) (l : List S33) (hl : l.length ≤ 1073741824) (hs : ∀ q ∈ l, SB q) :
    Ev (fun k => impl_cellCode.f k s0 s1 W l) (if allCell s0 s1 l then 0 else 2) := by
  unfold impl_cellCode.f
  refine Ev.bind hv (Ev.pos rfl (Ev.bind (NoCell_ev s0 s1 W h0 h1 l hl hs) ?_))
  rw [Unless_c]
  exact Ev.now _
theorem StateCode_ev (s0 s1 : Int) (W : LA 10) (hb : ∀ i, 0 ≤ rd W.l i ∧ rd W.l i < 65536) (h0 : 1 ≤ s0 ∧ s0 ≤ 10) (h1 : 1 ≤ s1 ∧ s1 ≤ 10) (l : List S33) (hl : l.length ≤ 1073741824) (hs : ∀ q ∈ l, SB q) :
    Ev (fun k => impl_stateCode.f k s0 s1 W l) (if allFree s0 s1 W l then 0 else 4) := by
  unfold impl_stateCode.f
  refine Ev.bind (NoFree_ev s0 s1 W hb h0 h1 l hl hs) ?_
  rw [Unless_c]
  exact Ev.now _
def isCi (s0 s1 x y : Int) : Bool := inC x 0 (mn s0 10 - 1) && inC y 0 (mn s1 10 - 1)
theorem mn_le (a : Int) : mn a 10 ≤ 10 := by unfold mn; split <;> omega
theorem mn_ge {a b : Int} (h : b ≤ a) (hb : b ≤ 10) : b ≤ mn a 10 := by unfold mn; split <;> omega
theorem Is_ig (s0 s1 : Int) (W : LA 10) (h0 : -128 ≤ s0 ∧ s0 ≤ 127) (h1 : -128 ≤ s1 ∧ s1 ≤ 127) (x y : Int) (hx : -128 ≤ x ∧ x ≤ 127) (hy : -128 ≤ y ∧ y ≤ 127) : impl_Room_isCell.f s0 s1 W x y = some (isCi s0 s1 x y) := by
  have a1 := mn_le s0
  have a2 := mn_ge h0.1 (show (-128 : Int) ≤ 10 by omega)
  have b1 := mn_le s1
  have b2 := mn_ge h1.1 (show (-128 : Int) ≤ 10 by omega)
  unfold impl_Room_isCell.f isCi
  rw [wint s0 (by omega) (by omega), wint s1 (by omega) (by omega), wint x (by omega) (by omega), wint y (by omega) (by omega), wint (mn s0 10 - 1) (by omega) (by omega), wint (mn s1 10 - 1) (by omega) (by omega), Within_c, Within_c]
  simp only [Option.bind_some]
  cases inC x 0 (mn s0 10 - 1) <;> simp
theorem Fr_ig (s0 s1 : Int) (W : LA 10) (hr : RB s0 s1 W) (x y : Int) (hx : -128 ≤ x ∧ x ≤ 127) (hy : -128 ≤ y ∧ y ≤ 127) : impl_Room_isFree.f s0 s1 W x y = some (isCi s0 s1 x y && fr W.l x y) := by
  obtain ⟨h0, h1, hb⟩ := hr
  have a1 := mn_le s0
  have b1 := mn_le s1
  unfold impl_Room_isFree.f
  rw [Is_ig s0 s1 W h0 h1 x y hx hy]
  simp only [Option.bind_some]
  cases h : isCi s0 s1 x y with
  | false => simp
  | true =>
    have hd : (0 ≤ x ∧ x ≤ mn s0 10 - 1) ∧ (0 ≤ y ∧ y ≤ mn s1 10 - 1) := by
      unfold isCi inC at h
      simp at h
      omega
    obtain ⟨n, rfl⟩ : ∃ n : Nat, x = n := ⟨x.toNat, by omega⟩
    rw [if_pos rfl, if_pos (by omega), if_pos (by omega), if_pos (by omega), shr_bit (hb _).1 (hb _).2 (by omega)]
    unfold fr
    rw [Int.toNat_natCast]
    simp
theorem StateCode_any (s0 s1 : Int) (W : LA 10) (hr : RB s0 s1 W) (l : List S33) (hl : l.length ≤ 1073741824) (hs : ∀ q ∈ l, SB q) :
    Ev (fun k => impl_stateCode.f k s0 s1 W l) (if (l.any fun q => !(isCi s0 s1 q.f0 q.f1 && fr W.l q.f0 q.f1)) then 4 else 0) := by
  unfold impl_stateCode.f
  have hN : Ev (fun k => impl_Spot_75__78.f k l s0 s1 W) (l.any fun q => !(isCi s0 s1 q.f0 q.f1 && fr W.l q.f0 q.f1)) := by
    unfold impl_Spot_75__78.f impl_Spot_87__78.f
    obtain ⟨r, hr', hd⟩ := Ev.find_idx (fun k i => impl_Spot_87__78.l0 k l (l.length : Int) i s0 s1 W) (fun i => !(isCi s0 s1 (l.getD i z33).f0 (l.getD i z33).f1 && fr W.l (l.getD i z33).f0 (l.getD i z33).f1)) l.length
      (fun i hi hp => by
        have hm := hs _ (getD_mem l i z33 hi)
        refine Ev.succ ?_
        simp only [impl_Spot_87__78.l0, impl_stateCode_1.f]
        rw [rdS_get, Fr_ig s0 s1 W hr _ _ hm.1 hm.2]
        simp only [Option.bind_some]
        exact Ev.pos (by omega) (Ev.pos (by omega) (Ev.pos (by omega) (Ev.pos hp (Ev.now _)))))
      (fun i hi hp r hr' => by
        have hm := hs _ (getD_mem l i z33 hi)
        refine Ev.succ ?_
        simp only [impl_Spot_87__78.l0, impl_stateCode_1.f]
        rw [rdS_get, Fr_ig s0 s1 W hr _ _ hm.1 hm.2, wnat i l.length hi (by omega)]
        simp only [Option.bind_some]
        exact Ev.pos (by omega) (Ev.pos (by omega) (Ev.pos (by omega) (Ev.neg (by rw [hp]; exact Bool.false_ne_true) hr'))))
      (by
        refine Ev.succ ?_
        simp only [impl_Spot_87__78.l0]
        exact Ev.neg (by omega) (Ev.now _))
    rw [any_range l z33 (fun q => !(isCi s0 s1 q.f0 q.f1 && fr W.l q.f0 q.f1))] at hd
    exact Ev.bind hr' (by rw [hd]; exact Ev.now _)
  refine Ev.bind hN ?_
  rw [Unless_c]
  cases (l.any fun q => !(isCi s0 s1 q.f0 q.f1 && fr W.l q.f0 q.f1)) <;> exact Ev.now _
end Go.Proofs.Ytdedijjbdkoekaa.Q
end
section
namespace Go.Proofs.Ytdedijjbdkoekaa.Q
open Go.RowKit Go.Proofs.YtdedijjbdkoekaaW.PrintWords Go.Proofs.YtdedijjbdkoekaaW.PrintLast Go.Proofs.YtdedijjbdkoekaaW.PrintMore Go.Proofs.Ytdedijjbdkoekaa.La Go.Proofs.Ytdedijjbdkoekaa.PB
set_option linter.unusedVariables false
set_option linter.unusedSimpArgs false
def putA (C : LA 40) (x y d : Int) : LA 40 := LA.set C (d * 10 + y) (Go.bits .or .u16 (rd C.l (d * 10 + y)) (shl .u16 1 x))
theorem putA_s (C : LA 40) (x y d : Int) (hx : 0 ≤ x ∧ x < 10) (hy : 0 ≤ y ∧ y < 10) (hd : 0 ≤ d ∧ d < 4) : spec_l06Put.f C x y d = some (putA C x y d) := by
  unfold spec_l06Put.f putA
  rw [if_pos (by omega), if_pos (by omega), if_pos (by omega), if_pos (by omega), u64_int hx.1 (by omega)]
theorem putA_i (C : LA 40) (x y d : Int) (hx : 0 ≤ x ∧ x < 10) (hy : 0 ≤ y ∧ y < 10) (hd : 0 ≤ d ∧ d < 4) : impl_Crowd_set.f C x y d = some (putA C x y d) := by
  unfold impl_Crowd_set.f putA
  rw [if_pos (by omega), if_pos (by omega), if_pos (by omega), if_pos (by omega), if_pos (by omega)]
theorem Asked_bad (s0 s1 : Int) (W : LA 10) (x y : Int) (b : Bool) (hv : Ev (fun k => spec_l01Ok.f k s0 s1 W) false) : Ev (fun k => spec_l01Asked.f k s0 s1 W x y b) 1 := by
  unfold spec_l01Asked.f
  exact Ev.bind hv (Ev.neg (by simp) (Ev.now _))
theorem Asked_ev (s0 s1 : Int) (W : LA 10) (hv : Ev (fun k => spec_l01Ok.f k s0 s1 W) true) (h0 : 1 ≤ s0 ∧ s0 ≤ 10) (h1 : 1 ≤ s1 ∧ s1 ≤ 10) (x y : Int) (hx : -128 ≤ x ∧ x ≤ 127) (hy : -128 ≤ y ∧ y ≤ 127) (b : Bool) :
    Ev (fun k => spec_l01Asked.f k s0 s1 W x y b) (if isC s0 s1 x y && b then 0 else 2) := by
  unfold spec_l01Asked.f
  refine Ev.bind hv (Ev.pos rfl ?_)
  rw [Is_s s0 s1 W h0 h1 x y hx hy]
  simp only [Option.bind_some]
  cases isC s0 s1 x y <;> cases b <;> simp <;> exact Ev.now _
theorem Stood_bad (s0 s1 : Int) (W : LA 10) (x y : Int) (b : Bool) (hv : Ev (fun k => spec_l01Ok.f k s0 s1 W) false) : Ev (fun k => spec_l01Stood.f k s0 s1 W x y b) 1 := by
  unfold spec_l01Stood.f
  exact Ev.bind (Asked_bad s0 s1 W x y b hv) (Ev.neg (by decide) (Ev.now _))
theorem Stood_ev (s0 s1 : Int) (W : LA 10) (hb : ∀ i, 0 ≤ rd W.l i ∧ rd W.l i < 65536) (hv : Ev (fun k => spec_l01Ok.f k s0 s1 W) true) (h0 : 1 ≤ s0 ∧ s0 ≤ 10) (h1 : 1 ≤ s1 ∧ s1 ≤ 10) (x y : Int) (hx : -128 ≤ x ∧ x ≤ 127) (hy : -128 ≤ y ∧ y ≤ 127) (b : Bool) :
    Ev (fun k => spec_l01Stood.f k s0 s1 W x y b) (if isC s0 s1 x y && b then (if frC s0 s1 W x y then 0 else 4) else 2) := by
  unfold spec_l01Stood.f
  refine Ev.bind (Asked_ev s0 s1 W hv h0 h1 x y hx hy b) ?_
  rw [Fr_s s0 s1 W hb h0 h1 x y hx hy]
  simp only [Option.bind_some]
  cases (isC s0 s1 x y && b) with
  | false => exact Ev.neg (by decide) (Ev.now _)
  | true =>
    refine Ev.pos rfl ?_
    cases frC s0 s1 W x y <;> exact Ev.now _
theorem CodeOne_ev (s0 s1 : Int) (W : LA 10) (hr : RB s0 s1 W) (x y : Int) (hx : -128 ≤ x ∧ x ≤ 127) (hy : -128 ≤ y ∧ y ≤ 127) :
    ∃ ok : Bool, Ev (fun k => spec_l01Ok.f k s0 s1 W) ok ∧ Ev (fun k => impl_ValidRoom.f k s0 s1 W) ok ∧ (ok = true → (1 ≤ s0 ∧ s0 ≤ 10) ∧ (1 ≤ s1 ∧ s1 ≤ 10)) ∧
      ∃ c1 c3 : Int, Ev (fun k => impl_cellCode.f k s0 s1 W [⟨x, y⟩]) c1 ∧ Ev (fun k => impl_stateCode.f k s0 s1 W [⟨x, y⟩]) c3 ∧
        ∀ b : Bool, Ev (fun k => spec_l01Stood.f k s0 s1 W x y b) (firstNZ [c1, if b then 0 else 2, c3]) ∧ (firstNZ [c1, if b then 0 else 2, c3] = 0 → frC s0 s1 W x y = true ∧ ok = true) := by
  obtain ⟨ok, o1, o2, o3⟩ := Ok_both s0 s1 W hr.1 hr.2.1
  have hsb : ∀ q ∈ [(⟨x, y⟩ : S33)], SB q := by
    intro q hq
    rw [List.mem_singleton] at hq
    subst hq
    exact ⟨hx, hy⟩
  refine ⟨ok, o1, o2, o3, ?_⟩
  cases ok with
  | false =>
    refine ⟨1, _, CellCode_bad s0 s1 W _ o2, StateCode_any s0 s1 W hr _ (by simp) hsb, fun b => ⟨Stood_bad s0 s1 W x y b o1, fun h => ?_⟩⟩
    simp [firstNZ] at h
  | true =>
    obtain ⟨h0, h1⟩ := o3 rfl
    refine ⟨_, _, CellCode_ev s0 s1 W o2 h0 h1 _ (by simp) hsb, StateCode_ev s0 s1 W hr.2.2 h0 h1 _ (by simp) hsb, fun b => ?_⟩
    have e := Stood_ev s0 s1 W hr.2.2 o1 h0 h1 x y hx hy b
    have e1 : allCell s0 s1 [(⟨x, y⟩ : S33)] = isC s0 s1 x y := by simp [allCell]
    have e2 : allFree s0 s1 W [(⟨x, y⟩ : S33)] = frC s0 s1 W x y := by simp [allFree]
    rw [e1, e2]
    have e3 : frC s0 s1 W x y = true → isC s0 s1 x y = true := by unfold frC; simp; intro a _; exact a
    cases hc : isC s0 s1 x y <;> cases b <;> cases hf : frC s0 s1 W x y <;> rw [hc, hf] at e <;> simp [firstNZ] at e ⊢ <;> first | exact e | (rw [e3 hf] at hc; cases hc)
theorem CrowdAt_both (s0 s1 : Int) (W : LA 10) (hr : RB s0 s1 W) (x y : Int) (hx : -128 ≤ x ∧ x ≤ 127) (hy : -128 ≤ y ∧ y ≤ 127) (d : Int) :
    ∃ r, Ev (fun k => spec_CrowdAt.f k s0 s1 W x y d) r ∧ Ev (fun k => impl_CrowdAt.f k s0 s1 W x y d) r := by
  obtain ⟨ok, o1, o2, o3, c1, c3, e1, e3, hs⟩ := CodeOne_ev s0 s1 W hr x y hx hy
  obtain ⟨es, hz⟩ := hs (inC d 0 3)
  have hf := FirstOf_ev [c1, if inC d 0 3 then 0 else 2, c3] (by simp)
  by_cases h : firstNZ [c1, if inC d 0 3 then 0 else 2, c3] = 0
  · obtain ⟨hfr, hok⟩ := hz h
    have hb := isC_bounds (s0 := s0) (s1 := s1) (x := x) (y := y) (by unfold frC at hfr; simp at hfr; exact hfr.1)
    obtain ⟨h0, h1⟩ := o3 hok
    have hd : 0 ≤ d ∧ d < 4 := by
      cases hd : inC d 0 3 with
      | true => unfold inC at hd; simp at hd; omega
      | false =>
        rw [hd] at h
        simp only [firstNZ, Bool.false_eq_true, if_false] at h
        split at h
        · omega
        · rename_i hn; exact absurd h hn
    refine ⟨(putA (LA.zero 40) x y d, 0), ?_, ?_⟩
    · unfold spec_CrowdAt.f
      rw [Side_c]
      simp only [Option.bind_some]
      refine Ev.bind es (Ev.pos h ?_)
      rw [putA_s _ x y d (by omega) (by omega) hd]
      exact Ev.now _
    · unfold impl_CrowdAt.f
      refine Ev.bind e1 ?_
      rw [IsSide_c]
      simp only [Option.bind_some, Unless_c]
      refine Ev.bind e3 (Ev.bind hf (Ev.pos h ?_))
      rw [putA_i _ x y d (by omega) (by omega) hd]
      exact Ev.now _
  · refine ⟨(LA.zero 40, firstNZ [c1, if inC d 0 3 then 0 else 2, c3]), ?_, ?_⟩
    · unfold spec_CrowdAt.f
      rw [Side_c]
      simp only [Option.bind_some]
      exact Ev.bind es (Ev.neg h (Ev.now _))
    · unfold impl_CrowdAt.f
      refine Ev.bind e1 ?_
      rw [IsSide_c]
      simp only [Option.bind_some, Unless_c]
      exact Ev.bind e3 (Ev.bind hf (Ev.neg h (Ev.now _)))
end Go.Proofs.Ytdedijjbdkoekaa.Q
end
section
namespace Go.Proofs.Ytdedijjbdkoekaa.Q
open Go.RowKit Go.Proofs.YtdedijjbdkoekaaW.PrintWords Go.Proofs.YtdedijjbdkoekaaW.PrintLast Go.Proofs.YtdedijjbdkoekaaW.PrintMore Go.Proofs.Ytdedijjbdkoekaa.La Go.Proofs.Ytdedijjbdkoekaa.PB
set_option linter.unusedVariables false
set_option linter.unusedSimpArgs false
theorem ext_rd {n : Nat} {A B : LA n} (h : ∀ j : Nat, j < n → rd A.l (j : Int) = rd B.l (j : Int)) : A = B := by
  apply LA.ext_l
  apply List.ext_getElem (by rw [A.h, B.h])
  intro j h1 h2
  have hj : j < n := by rw [A.h] at h1; exact h1
  have := h j hj
  rw [rd_nat, rd_nat, List.getD_eq_getElem?_getD, List.getD_eq_getElem?_getD, List.getElem?_eq_getElem h1, List.getElem?_eq_getElem h2] at this
  exact this
theorem toU_ev (W : LA 10) : Ev (fun k => laws_toUint16A10.f k W) W := by
  unfold laws_toUint16A10.f
  have key : ∀ (m i : Nat) (X : LA 10), i + m = 10 → (∀ j : Nat, j < i → rd X.l (j : Int) = rd W.l (j : Int)) → Ev (fun k => laws_toUint16A10.l0 k (i : Int) W X) W := by
    intro m
    induction m with
    | zero =>
      intro i X hi hX
      obtain rfl : i = 10 := by omega
      refine Ev.succ ?_
      simp only [laws_toUint16A10.l0]
      rw [ext_rd hX]
      exact Ev.neg (by omega) (Ev.now _)
    | succ m ih =>
      intro i X hi hX
      refine Ev.succ ?_
      simp only [laws_toUint16A10.l0]
      rw [wnat i 10 (by omega) (by omega)]
      refine Ev.pos (by omega) (Ev.pos (by omega) (ih (i + 1) _ (by omega) (fun j hj => ?_)))
      by_cases e : j = i
      · subst e
        exact rd_set_same X _ _ (by omega) (by omega)
      · rw [rd_set_other X _ _ _ (by omega) (by omega) (by omega)]
        exact hX j (by omega)
  exact key 10 0 _ rfl (fun j hj => by omega)
theorem toRoom_ev (s0 s1 : Int) (W : LA 10) : Ev (fun k => laws_toRoom.f k s0 s1 W) (s0, s1, W) := by
  unfold laws_toRoom.f
  exact Ev.bind (toU_ev W) (Ev.now _)
theorem toSpot_c (x y : Int) : laws_toSpot.f x y = some (x, y) := rfl
end Go.Proofs.Ytdedijjbdkoekaa.Q
end
section
namespace Go.Proofs.Ytdedijjbdkoekaa.Q
open Go.RowKit Go.Proofs.YtdedijjbdkoekaaW.PrintWords Go.Proofs.YtdedijjbdkoekaaW.PrintLast Go.Proofs.YtdedijjbdkoekaaW.PrintMore Go.Proofs.Ytdedijjbdkoekaa.La Go.Proofs.Ytdedijjbdkoekaa.PB
set_option linter.unusedVariables false
set_option linter.unusedSimpArgs false
theorem eqU_ev (W : LA 10) : Ev (fun k => laws_eqUint16A10.f k W W) true := by
  unfold laws_eqUint16A10.f
  have key : ∀ (m i : Nat), i + m = 10 → Ev (fun k => laws_eqUint16A10.l0 k (i : Int) W W) true := by
    intro m
    induction m with
    | zero =>
      intro i hi
      obtain rfl : i = 10 := by omega
      refine Ev.succ ?_
      simp only [laws_eqUint16A10.l0]
      exact Ev.neg (by omega) (Ev.now _)
    | succ m ih =>
      intro i hi
      refine Ev.succ ?_
      simp only [laws_eqUint16A10.l0]
      rw [wnat i 10 (by omega) (by omega)]
      exact Ev.pos (by omega) (Ev.pos (by omega) (Ev.pos (by trivial) (ih (i + 1) (by omega))))
  exact key 10 0 rfl
theorem eqC_ev (C : LA 40) : Ev (fun k => laws_eqCrowd.f k C C) true := by
  unfold laws_eqCrowd.f
  have key : ∀ (m i : Nat), i + m = 4 → Ev (fun k => laws_eqCrowd.l0 k (i : Int) C C) true := by
    intro m
    induction m with
    | zero =>
      intro i hi
      obtain rfl : i = 4 := by omega
      refine Ev.succ ?_
      simp only [laws_eqCrowd.l0]
      exact Ev.neg (by omega) (Ev.now _)
    | succ m ih =>
      intro i hi
      refine Ev.succ ?_
      simp only [laws_eqCrowd.l0]
      rw [wnat i 4 (by omega) (by omega)]
      exact Ev.pos (by omega) (Ev.pos (by omega) (Ev.bind (eqU_ev _) (Ev.pos rfl (ih (i + 1) (by omega)))))
  exact key 4 0 rfl
end Go.Proofs.Ytdedijjbdkoekaa.Q
end
section
namespace Go.Proofs.Ytdedijjbdkoekaa.Q
open Go.RowKit Go.Proofs.YtdedijjbdkoekaaW.PrintWords Go.Proofs.YtdedijjbdkoekaaW.PrintLast Go.Proofs.YtdedijjbdkoekaaW.PrintMore Go.Proofs.Ytdedijjbdkoekaa.La Go.Proofs.Ytdedijjbdkoekaa.PB
set_option linter.unusedVariables false
set_option linter.unusedSimpArgs false
theorem FnExactCrowdAt (s0 s1 : Int) (W : LA 10) (x y d : Int) (hr : RB s0 s1 W) (hx : (Lit.int .i8 x).wf = true) (hy : (Lit.int .i8 y).wf = true) (hd : (Lit.int .i64 d).wf = true) : Ev (fun k => laws_FnExactCrowdAt.f k s0 s1 W x y d) true := by
  obtain ⟨r, h1, h2⟩ := CrowdAt_both s0 s1 W hr x y (wf_i8 hx) (wf_i8 hy) d
  unfold laws_FnExactCrowdAt.f
  simp only [toSpot_c, Option.bind_some]
  exact Ev.bind (toRoom_ev s0 s1 W) (Ev.bind h1 (Ev.bind (toRoom_ev s0 s1 W) (Ev.bind h2 (Ev.bind (eqC_ev _) (Ev.pos rfl (Ev.pos (by trivial) (Ev.now _)))))))
end Go.Proofs.Ytdedijjbdkoekaa.Q
end
section
namespace Go.Proofs.Ytdedijjbdkoekaa.fnExactCrowdAt
open Go.ChangeShapes Go.WideShapes Go.ChangeAt Go.RowKit Go.Proofs.YtdedijjbdkoekaaW.PrintWords Go.Proofs.YtdedijjbdkoekaaW.PrintLast Go.Proofs.Ytdedijjbdkoekaa.La Go.Proofs.Ytdedijjbdkoekaa.Rw Go.Proofs.Ytdedijjbdkoekaa.PB
open Go.ChangeMaps (open_string shut_string)
set_option linter.unusedVariables false
set_option maxRecDepth 100000 in
set_option maxHeartbeats 1000000 in
theorem lifted (os : Os) (started : os.Started) (H : Type) (enc : TypeId × Value → H) :
    ReturnsInHanded {} Try.checked os 7 .any (Rows.fnExactCrowdAtSpec.pre6 enc Try.prog Try.f7 Rows.fnExactCrowdAtRow.domain false) (Rows.fnExactCrowdAtSpec.post enc Try.prog Try.f7 false true false false) := by
  refine returnsInHanded_of_change_sized (C := Try.checked) own started (by kernel_rfl) Try.func7
    (ChangeSpec.witness6 (enc := enc) (C := Try.checked) false ⟨#[], #[.agg #[.int .i8 0, .int .i8 0, .int .u16 0, .int .u16 0, .int .u16 0, .int .u16 0, .int .u16 0, .int .u16 0, .int .u16 0, .int .u16 0, .int .u16 0, .int .u16 0], .agg #[.int .i8 0, .int .i8 0], .int .i64 0], []⟩ 8 (by kernel_rfl) (by kernel_rfl) (by kernel_rfl) (by kernel_rfl)) ?_
  intro W base args ds gs before hval0 hW hcnd hsz0 _
  have hval : ∀ (j : Nat) t v, Try.f7.params[j]? = some t → args[j]? = some v → Value.okWide Try.prog W .any base t v := hval0
  have hW' := hW
  obtain ⟨p, q, hA0, hV, rfl, hfz, hnd⟩ := hW
  have hA : DataW.TrodAll enc Try.prog W 0 (fun _ => true) true Try.f7.params.toList args.toList ds p := hA0
  rw [Try.params7] at hA hval
  obtain ⟨v0, vs0, d0, ds0, p0, q0, hargs, rfl, rfl, h0, r0⟩ := trodAll_cons hA
  obtain ⟨v1, vs1, d1, ds1, p1, q1, rfl, rfl, rfl, h1, r1⟩ := trodAll_cons r0
  obtain ⟨v2, vs2, d2, ds2, p2, q2, rfl, rfl, rfl, h2, r2⟩ := trodAll_cons r1
  obtain ⟨rfl, rfl, rfl⟩ := trodAll_nil r2
  obtain rfl : args = #[v0, v1, v2] := by cases args; simp_all
  obtain ⟨rfl, rfl⟩ := trodVars_none hV
  have k0 := h0
  have lt0 : ∀ x ∈ p0, x.block < W.heap.size := by obtain ⟨m, hm⟩ := k0; exact DataW.trod_lt m _ _ _ hm
  obtain ⟨a0_0, a0_1, a0_2, rfl, w0_0, w0_1, w0_2⟩ := openV37 (hval 0 37 v0 rfl rfl) h0
  have k1 := h1
  have lt1 : ∀ x ∈ p1, x.block < W.heap.size := by obtain ⟨m, hm⟩ := k1; exact DataW.trod_lt m _ _ _ hm
  obtain ⟨a1_0, a1_1, rfl, w1_0, w1_1⟩ := openV31 (hval 1 31 v1 rfl rfl) h1
  have k2 := h2
  have lt2 : ∀ x ∈ p2, x.block < W.heap.size := by obtain ⟨m, hm⟩ := k2; exact DataW.trod_lt m _ _ _ hm
  obtain ⟨a2, rfl, _, _, w2⟩ := open_int Try.underlying2 (hval 2 2 v2 rfl rfl) h2
  clear hA0 hval0 hsz0
  obtain ⟨k, hk⟩ := Ev.rounds (Q.FnExactCrowdAt a0_0 a0_1 a0_2 a1_0 a1_1 a2 (Q.rb_mk w0_0 w0_1 w0_2) w1_0 w1_1 w2)
  refine (laws_FnExactCrowdAt.calls k a0_0 a0_1 a0_2 a1_0 a1_1 a2 true W  hk).mono fun e W' ⟨he, bel0⟩ => ?_
  subst he
  have bel : Below W.heap.size W W' := by first | exact bel0 | exact bel0.below
  exact ⟨_, rfl, _, _, _, [], _, [], hW', trodAll_mk1 (shut_bool Try.underlying4 _), (trodAll_cons_mk (Below.trod laidOut (by kernel_rfl) (of_decide_eq_true (by kernel_rfl)) k0 bel lt0) (trodAll_cons_mk (Below.trod laidOut (by kernel_rfl) (of_decide_eq_true (by kernel_rfl)) k1 bel lt1) (trodAll_cons_mk (Below.trod laidOut (by kernel_rfl) (of_decide_eq_true (by kernel_rfl)) k2 bel lt2) trodAll_mk0))), rfl, bel.frame _, fun h => by cases h⟩
theorem over : Rows.fnExactCrowdAtRow.holds Try.pinned (OpenSpec.ofChange Rows.fnExactCrowdAtSpec) :=
  OpenClaim.holds_of_wide 7 Try.f7 rfl rfl rfl rfl rfl rfl rfl ⟨rfl, rfl, rfl, rfl, rfl⟩ rfl rfl rfl rfl rfl (by kernel_rfl) Try.func7 (by kernel_rfl)
    (of_decide_eq_true (by kernel_rfl)) (by unfold Func.isWrapper; first | (rw [if_pos (by decide +kernel)]; kernel_rfl) | (rw [if_neg (by decide +kernel)]; exact ⟨rfl, rfl⟩))
    (fun os started H enc _ => lifted os started H enc)
end Go.Proofs.Ytdedijjbdkoekaa.fnExactCrowdAt
namespace Go.Proofs.Ytdedijjbdkoekaa
theorem fnExactCrowdAt_holds : Rows.FnExactCrowdAtSaid := fnExactCrowdAt.over
end Go.Proofs.Ytdedijjbdkoekaa
end
