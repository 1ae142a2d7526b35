/- The statement FnExactCrowdText of this program: what its proof uses, part 10 of 10. The call returns true for all arguments. No condition of its own. -/
import Derived.IntWalk
import Derived.Test.YtdedijjbdkoekaaZFnExactCrowdText8
section
namespace Go.Proofs.Ytdedijjbdkoekaa.Q
open Go.RowKit Go.Proofs.YtdedijjbdkoekaaW.PrintWords Go.Proofs.YtdedijjbdkoekaaW.PrintLast
set_option linter.unusedVariables false
set_option linter.unusedSimpArgs false
theorem wnat (i n : Nat) (h : i < n) (hn : n ≤ 9223372036854775807) : wrap64 ((i : Int) + 1) = ((i + 1 : Nat) : Int) := by unfold wrap64; omega
theorem wint (a : Int) (h0 : -9223372036854775808 ≤ a) (h1 : a ≤ 9223372036854775807) : wrap64 a = a := by unfold wrap64; omega
theorem rd_nat (xs : List Int) (i : Nat) : rd xs (i : Int) = xs.getD i 0 := by simp [rd]
theorem Ev.round {α : Type} {g f : Nat → Option α} {r : α} (k : Ev f r) (h : ∀ k, g (k + 1) = f k) : Ev g r := Ev.step h k
theorem Ev.eq {α : Type} {g : Nat → Option α} {r r' : α} (h : Ev g r) (e : r = r') : Ev g r' := e ▸ h
theorem Ev.ite {α : Type} {c : Prop} [Decidable c] {f g : Nat → Option α} {r : α} (h : c → Ev f r) (h' : ¬ c → Ev g r) : Ev (fun k => if c then f k else g k) r := by
  by_cases hc : c
  · simp only [hc, if_true]; exact h hc
  · simp only [hc, if_false]; exact h' hc
theorem Ev.pos {α : Type} {c : Prop} [Decidable c] {f g : Nat → Option α} {r : α} (hc : c) (h : Ev f r) : Ev (fun k => if c then f k else g k) r := by simp only [hc, if_true]; exact h
theorem Ev.neg {α : Type} {c : Prop} [Decidable c] {f g : Nat → Option α} {r : α} (hc : ¬ c) (h : Ev g r) : Ev (fun k => if c then f k else g k) r := by simp only [hc, if_false]; exact h
end Go.Proofs.Ytdedijjbdkoekaa.Q
end
section
namespace Go.Proofs.Ytdedijjbdkoekaa.Q
open Go.RowKit Go.Proofs.YtdedijjbdkoekaaW.PrintWords Go.Proofs.YtdedijjbdkoekaaW.PrintLast Go.Proofs.Ytdedijjbdkoekaa.PB
set_option linter.unusedVariables false
set_option linter.unusedSimpArgs false
def inC (a lo hi : Int) : Bool := decide (lo ≤ a) && decide (a ≤ hi)
theorem In_c (a lo hi : Int) : spec_l00In.f a lo hi = some (inC a lo hi) := by
  unfold spec_l00In.f inC
  split
  · rename_i h; simp [h]
  · rename_i h; simp [h]
theorem Ev.succ {α : Type} {g : Nat → Option α} {r : α} (h : Ev (fun k => g (k + 1)) r) : Ev g r := Ev.step (fun _ => rfl) h
theorem getD_mem {α : Type} (l : List α) (i : Nat) (d : α) (h : i < l.length) : l.getD i d ∈ l := by
  simp [List.getD_eq_getElem?_getD, List.getElem?_eq_getElem h]
theorem drop_get {α : Type} (xs : List α) (i : Nat) (d : α) (h : i < xs.length) : xs.drop i = xs.getD i d :: xs.drop (i + 1) := by
  rw [List.drop_eq_getElem_cons h]
  simp [List.getD_eq_getElem?_getD, List.getElem?_eq_getElem h]
end Go.Proofs.Ytdedijjbdkoekaa.Q
end
section
namespace Go.Proofs.Ytdedijjbdkoekaa.Q
open Go.RowKit Go.Proofs.YtdedijjbdkoekaaW.PrintWords Go.Proofs.YtdedijjbdkoekaaW.PrintLast Go.Proofs.YtdedijjbdkoekaaW.PrintMore Go.Proofs.Ytdedijjbdkoekaa.PB
set_option linter.unusedVariables false
set_option linter.unusedSimpArgs false
set_option maxRecDepth 100000 in
theorem wrap_u16 (n : Int) : IntKind.u16.wrap n = n % 65536 := by simp [IntKind.wrap, IntKind.bits, IntKind.signed]
theorem wraps_u16 (n : Int) (h₀ : 0 ≤ n) (h₁ : n < 2 ^ 16) : IntKind.u16.wrap n = n := by rw [wrap_u16]; omega
theorem u16_and1 {x : Int} (h₀ : 0 ≤ x) (h₁ : x < 65536) : Go.bits .and .u16 x 1 = x % 2 := bits_mask .u16 16 (by decide) wraps_u16 1 (by decide) x h₀ h₁
def bitV (v : Int) (x : Nat) : Int := v / 2 ^ x % 2
theorem shr_bit {v : Int} (h₀ : 0 ≤ v) (h₁ : v < 65536) {x : Nat} (hx : x < 10) : Go.bits .and .u16 (shr .u16 v (x : Int)) 1 = bitV v x := by
  have hs : shr .u16 v (x : Int) = v / 2 ^ x := by
    unfold shr
    rw [Int.toNat_natCast, Nat.min_eq_left (show x ≤ IntKind.u16.bits by unfold IntKind.bits; dsimp only; omega)]
  have hp : (0 : Int) < 2 ^ x := Int.pow_pos (by omega)
  have h2 : v / 2 ^ x ≤ v := Int.ediv_le_self _ h₀
  rw [hs, u16_and1 (Int.ediv_nonneg h₀ (by omega)) (by omega)]
  rfl
theorem i8_small (x : Nat) (h : x < 128) : IntKind.i8.wrap (x : Int) = x := by simp [IntKind.wrap, IntKind.bits, IntKind.signed]; omega
theorem u64_small (x : Nat) (h : x < 128) : IntKind.u64.wrap (x : Int) = x := by simp [IntKind.wrap, IntKind.bits, IntKind.signed]; omega
theorem wf_u16 {n : Int} (h : (Lit.int .u16 n).wf = true) : 0 ≤ n ∧ n < 65536 := by
  simp [Lit.wf, IntKind.min, IntKind.max, IntKind.signed, IntKind.bits] at h
  omega
theorem wf_i8 {n : Int} (h : (Lit.int .i8 n).wf = true) : -128 ≤ n ∧ n ≤ 127 := by
  simp [Lit.wf, IntKind.min, IntKind.max, IntKind.signed, IntKind.bits] at h
  omega
theorem rd_bound (l : List Int) (h : ∀ x ∈ l, 0 ≤ x ∧ x < 65536) (i : Int) : 0 ≤ rd l i ∧ rd l i < 65536 := by
  unfold rd
  by_cases hi : i.toNat < l.length
  · exact h _ (getD_mem l _ 0 hi)
  · rw [List.getD_eq_getElem?_getD, List.getElem?_eq_none (by omega)]
    show (0:Int) ≤ 0 ∧ (0:Int) < 65536
    omega
end Go.Proofs.Ytdedijjbdkoekaa.Q
end
section
namespace Go.Proofs.Ytdedijjbdkoekaa.Q
open Go.RowKit Go.Proofs.YtdedijjbdkoekaaW.PrintWords Go.Proofs.YtdedijjbdkoekaaW.PrintLast Go.Proofs.YtdedijjbdkoekaaW.PrintMore Go.Proofs.Ytdedijjbdkoekaa.La Go.Proofs.Ytdedijjbdkoekaa.PB
set_option linter.unusedVariables false
set_option linter.unusedSimpArgs false
theorem Within_c (a lo hi : Int) : impl_within.f a lo hi = some (inC a lo hi) := by
  unfold impl_within.f inC
  split
  · rename_i h; simp [h]
  · rename_i h; simp [h]
theorem u64_int {a : Int} (h0 : 0 ≤ a) (h1 : a < 128) : IntKind.u64.wrap a = a := by
  obtain ⟨n, rfl⟩ : ∃ n : Nat, a = n := ⟨a.toNat, by omega⟩
  exact u64_small n (by omega)
theorem mn_small {a : Int} (h : a ≤ 10) : mn a 10 = a := by unfold mn; split <;> omega
theorem Ok_loop (s0 s1 : Int) (W : LA 10) (h0 : 1 ≤ s0 ∧ s0 ≤ 10) : ∀ n x : Nat, x + n = 10 → ∃ b, Ev (fun k => spec_l01Ok.l0 k (x : Int) s0 s1 W) b ∧ Ev (fun k => impl_ValidRoom.l0 k W (x : Int) s0 s1 W) b := by
  have hu : IntKind.u64.wrap s0 = s0 := u64_int (by omega) (by omega)
  intro n
  induction n with
  | zero =>
    intro x hx
    obtain rfl : x = 10 := by omega
    refine ⟨true, Ev.succ ?_, Ev.succ ?_⟩
    · simp only [spec_l01Ok.l0]
      exact Ev.neg (by omega) (Ev.now true)
    · simp only [impl_ValidRoom.l0]
      exact Ev.neg (by omega) (Ev.now true)
  | succ n ih =>
    intro x hx
    obtain ⟨b, hb1, hb2⟩ := ih (x + 1) (by omega)
    by_cases p1 : shr .u16 (rd W.l (x : Int)) s0 = 0
    · by_cases p2 : (x : Int) ≥ wrap64 s1
      · by_cases p3 : rd W.l (x : Int) = 0
        · refine ⟨b, Ev.succ ?_, Ev.succ ?_⟩
          · simp only [spec_l01Ok.l0]
            rw [hu, wnat x 10 (by omega) (by omega)]
            exact Ev.pos (by omega) (Ev.pos (by omega) (Ev.pos (by omega) (Ev.pos p1 (Ev.pos p2 (Ev.pos p3 hb1)))))
          · simp only [impl_ValidRoom.l0]
            rw [wnat x 10 (by omega) (by omega)]
            exact Ev.pos (by omega) (Ev.pos (by omega) (Ev.pos (by omega) (Ev.pos p1 (Ev.pos p2 (Ev.pos p3 hb2)))))
        · refine ⟨false, Ev.succ ?_, Ev.succ ?_⟩
          · simp only [spec_l01Ok.l0]
            rw [hu]
            exact Ev.pos (by omega) (Ev.pos (by omega) (Ev.pos (by omega) (Ev.pos p1 (Ev.pos p2 (Ev.neg p3 (Ev.now false))))))
          · simp only [impl_ValidRoom.l0]
            exact Ev.pos (by omega) (Ev.pos (by omega) (Ev.pos (by omega) (Ev.pos p1 (Ev.pos p2 (Ev.neg p3 (Ev.now false))))))
      · refine ⟨b, Ev.succ ?_, Ev.succ ?_⟩
        · simp only [spec_l01Ok.l0]
          rw [hu, wnat x 10 (by omega) (by omega)]
          exact Ev.pos (by omega) (Ev.pos (by omega) (Ev.pos (by omega) (Ev.pos p1 (Ev.neg p2 hb1))))
        · simp only [impl_ValidRoom.l0]
          rw [wnat x 10 (by omega) (by omega)]
          exact Ev.pos (by omega) (Ev.pos (by omega) (Ev.pos (by omega) (Ev.pos p1 (Ev.neg p2 hb2))))
    · refine ⟨false, Ev.succ ?_, Ev.succ ?_⟩
      · simp only [spec_l01Ok.l0]
        rw [hu]
        exact Ev.pos (by omega) (Ev.pos (by omega) (Ev.pos (by omega) (Ev.neg p1 (Ev.now false))))
      · simp only [impl_ValidRoom.l0]
        exact Ev.pos (by omega) (Ev.pos (by omega) (Ev.pos (by omega) (Ev.neg p1 (Ev.now false))))
theorem Ok_both (s0 s1 : Int) (W : LA 10) (b0 : -128 ≤ s0 ∧ s0 ≤ 127) (b1 : -128 ≤ s1 ∧ s1 ≤ 127) :
    ∃ b, Ev (fun k => spec_l01Ok.f k s0 s1 W) b ∧ Ev (fun k => impl_ValidRoom.f k s0 s1 W) b ∧ (b = true → (1 ≤ s0 ∧ s0 ≤ 10) ∧ (1 ≤ s1 ∧ s1 ≤ 10)) := by
  have e0 := wint s0 (by omega) (by omega)
  have e1 := wint s1 (by omega) (by omega)
  have spec0 : ∀ b1 : Bool, Ev (fun k => spec_l01Ok.j0 k true s0 s1 W) false := fun _ => Ev.succ (by simp only [spec_l01Ok.j0]; exact Ev.pos trivial (Ev.now false))
  have impl0 : ∀ b1 : Bool, Ev (fun k => impl_ValidRoom.j0 k true s0 s1 W) false := fun _ => Ev.succ (by simp only [impl_ValidRoom.j0]; exact Ev.pos trivial (Ev.now false))
  by_cases h0 : inC s0 1 10 = true
  · by_cases h1 : inC s1 1 10 = true
    · have h0' : 1 ≤ s0 ∧ s0 ≤ 10 := by unfold inC at h0; simpa using h0
      have h1' : 1 ≤ s1 ∧ s1 ≤ 10 := by unfold inC at h1; simpa using h1
      obtain ⟨b, hb1, hb2⟩ := Ok_loop s0 s1 W h0' 10 0 rfl
      refine ⟨b, ?_, ?_, fun _ => ⟨h0', h1'⟩⟩
      · unfold spec_l01Ok.f
        rw [e0, e1, In_c, In_c, h0, h1]
        simp only [Option.bind_some, if_true, Bool.not_true]
        refine Ev.succ ?_
        simp only [spec_l01Ok.j0]
        exact Ev.neg (by simp) hb1
      · unfold impl_ValidRoom.f
        rw [e0, e1, Within_c, Within_c, h0, h1]
        simp only [Option.bind_some, if_true, Bool.not_true]
        refine Ev.succ ?_
        simp only [impl_ValidRoom.j0]
        exact Ev.neg (by simp) hb2
    · have h1' : inC s1 1 10 = false := by simpa using h1
      refine ⟨false, ?_, ?_, fun h => by cases h⟩
      · unfold spec_l01Ok.f
        rw [e0, e1, In_c, In_c, h0, h1']
        simp only [Option.bind_some, if_true, Bool.not_false]
        exact spec0 true
      · unfold impl_ValidRoom.f
        rw [e0, e1, Within_c, Within_c, h0, h1']
        simp only [Option.bind_some, if_true, Bool.not_false]
        exact impl0 true
  · have h0' : inC s0 1 10 = false := by simpa using h0
    refine ⟨false, ?_, ?_, fun h => by cases h⟩
    · unfold spec_l01Ok.f
      rw [e0, In_c, h0']
      simp only [Option.bind_some, Bool.false_eq_true, if_false]
      exact spec0 true
    · unfold impl_ValidRoom.f
      rw [e0, Within_c, h0']
      simp only [Option.bind_some, Bool.false_eq_true, if_false]
      exact impl0 true
def fr (W : List Int) (x y : Int) : Bool := bitV (rd W y) x.toNat == 0
theorem shr_div {v : Int} {x : Nat} (hx : x < 10) : shr .u16 v (x : Int) = v / 2 ^ x := by
  unfold shr
  rw [Int.toNat_natCast, Nat.min_eq_left (show x ≤ IntKind.u16.bits by unfold IntKind.bits; dsimp only; omega)]
theorem Free_s (s0 s1 : Int) (W : LA 10) (hb : ∀ i, 0 ≤ rd W.l i ∧ rd W.l i < 65536) (h0 : s0 ≤ 10) (h1 : s1 ≤ 10) (x y : Nat) (hx : (x : Int) < s0) (hy : (y : Int) < s1) :
    spec_l01Free.f s0 s1 W (x : Int) (y : Int) = some (fr W.l (x : Int) (y : Int)) := by
  unfold spec_l01Free.f spec_l01Is.f
  rw [wint s0 (by omega) (by omega), wint s1 (by omega) (by omega), wint (x : Int) (by omega) (by omega), wint (y : Int) (by omega) (by omega), wint (s0 - 1) (by omega) (by omega), wint (s1 - 1) (by omega) (by omega), In_c, In_c]
  rw [show inC (x : Int) 0 (s0 - 1) = true by unfold inC; simp; omega, show inC (y : Int) 0 (s1 - 1) = true by unfold inC; simp; omega]
  simp only [Option.bind_some, if_true]
  rw [if_pos (by omega), if_pos (by omega), u64_int (by omega) (by omega), if_pos (by omega), shr_div (by omega)]
  have hn : 0 ≤ rd W.l (y : Int) / 2 ^ x := Int.ediv_nonneg (hb _).1 (Int.le_of_lt (Int.pow_pos (by omega)))
  rw [Int.tmod_eq_emod_of_nonneg hn]
  unfold fr bitV
  rw [Int.toNat_natCast]
theorem Free_i (s0 s1 : Int) (W : LA 10) (hb : ∀ i, 0 ≤ rd W.l i ∧ rd W.l i < 65536) (h0 : s0 ≤ 10) (h1 : s1 ≤ 10) (x y : Nat) (hx : (x : Int) < s0) (hy : (y : Int) < s1) :
    impl_Room_isFree.f s0 s1 W (x : Int) (y : Int) = some (fr W.l (x : Int) (y : Int)) := by
  unfold impl_Room_isFree.f impl_Room_isCell.f
  rw [wint s0 (by omega) (by omega), wint s1 (by omega) (by omega), wint (x : Int) (by omega) (by omega), wint (y : Int) (by omega) (by omega), mn_small h0, mn_small h1, wint (s0 - 1) (by omega) (by omega), wint (s1 - 1) (by omega) (by omega), Within_c, Within_c]
  rw [show inC (x : Int) 0 (s0 - 1) = true by unfold inC; simp; omega, show inC (y : Int) 0 (s1 - 1) = true by unfold inC; simp; omega]
  simp only [Option.bind_some, if_true]
  rw [if_pos (by omega), if_pos (by omega), if_pos (by omega), shr_bit (hb _).1 (hb _).2 (by omega)]
  unfold fr
  rw [Int.toNat_natCast]
def rowL (p : Int → Int → Bool) (y : Int) (acc : List S33) : Nat → List S33
  | 0 => acc
  | x + 1 => if p (x : Int) y then rowL p y acc x ++ [⟨(x : Int), y⟩] else rowL p y acc x
def cellsL (p : Int → Int → Bool) (w : Nat) : Nat → List S33
  | 0 => []
  | y + 1 => rowL p (y : Int) (cellsL p w y) w
theorem rowL_len (p : Int → Int → Bool) (y : Int) (acc : List S33) : ∀ x, (rowL p y acc x).length ≤ acc.length + x
  | 0 => by simp [rowL]
  | x + 1 => by have := rowL_len p y acc x; rw [rowL]; split <;> simp <;> omega
theorem cellsL_len (p : Int → Int → Bool) (w : Nat) : ∀ y, (cellsL p w y).length ≤ w * y
  | 0 => by simp [cellsL]
  | y + 1 => by
    have h1 := cellsL_len p w y
    have h2 := rowL_len p (y : Int) (cellsL p w y) w
    rw [cellsL, Nat.mul_succ]
    omega
theorem rowL_mem (p : Int → Int → Bool) (w : Nat) (y : Int) (acc : List S33) (P : S33 → Prop) (ha : ∀ q ∈ acc, P q) (hp : ∀ x : Nat, x < w → P ⟨(x : Int), y⟩) : ∀ x, x ≤ w → ∀ q ∈ rowL p y acc x, P q
  | 0, _ => ha
  | x + 1, hx => by
    have ih := rowL_mem p w y acc P ha hp x (by omega)
    rw [rowL]
    split
    · intro q hq
      rcases List.mem_append.1 hq with h | h
      · exact ih q h
      · obtain rfl := List.mem_singleton.1 h
        exact hp x (by omega)
    · exact ih
theorem cellsL_mem (p : Int → Int → Bool) (w h : Nat) : ∀ y, y ≤ h → ∀ q ∈ cellsL p w y, (0 ≤ q.f0 ∧ q.f0 < w) ∧ (0 ≤ q.f1 ∧ q.f1 < h)
  | 0, _ => fun q hq => by simp [cellsL] at hq
  | y + 1, hy => rowL_mem p w (y : Int) _ _ (cellsL_mem p w h y (by omega)) (fun x hx => ⟨⟨by simp, by dsimp only; omega⟩, ⟨by simp, by dsimp only; omega⟩⟩) w (Nat.le_refl _)
theorem Ev.cells (p : Int → Int → Bool) (w h : Nat) (hw : w ≤ 10) (hh : h ≤ 10) (L0 : Nat → List S33 → Int → Option (List S33)) (L1 : Nat → List S33 → Int → Int → Option (List S33))
    (e0 : ∀ acc (y : Nat) r, y < h → Ev (fun k => L1 k acc (y : Int) 0) r → Ev (fun k => L0 k acc (y : Int)) r) (e0' : ∀ acc, Ev (fun k => L0 k acc (h : Int)) acc)
    (e1 : ∀ acc (y x : Nat) r, y < h → x < w → acc.length ≤ 1000 → Ev (fun k => L1 k (if p (x : Int) (y : Int) then acc ++ [⟨(x : Int), (y : Int)⟩] else acc) (y : Int) ((x + 1 : Nat) : Int)) r → Ev (fun k => L1 k acc (y : Int) (x : Int)) r)
    (e1' : ∀ acc (y : Nat) r, y < h → Ev (fun k => L0 k acc ((y + 1 : Nat) : Int)) r → Ev (fun k => L1 k acc (y : Int) (w : Int)) r) :
    Ev (fun k => L0 k [] 0) (cellsL p w h) := by
  have inner : ∀ (n x y : Nat) (acc : List S33) r, x + n = w → y < h → acc.length ≤ 900 → Ev (fun k => L0 k (rowL p (y : Int) acc w) ((y + 1 : Nat) : Int)) r → Ev (fun k => L1 k (rowL p (y : Int) acc x) (y : Int) (x : Int)) r := by
    intro n
    induction n with
    | zero =>
      intro x y acc r hx hy hl hr
      obtain rfl : x = w := by omega
      exact e1' _ y r hy hr
    | succ n ih =>
      intro x y acc r hx hy hl hr
      have := rowL_len p (y : Int) acc x
      exact e1 _ y x r hy (by omega) (by omega) (ih (x + 1) y acc r (by omega) hy hl hr)
  have outer : ∀ (n y : Nat), y + n = h → Ev (fun k => L0 k (cellsL p w y) (y : Int)) (cellsL p w h) := by
    intro n
    induction n with
    | zero =>
      intro y hy
      obtain rfl : y = h := by omega
      exact e0' _
    | succ n ih =>
      intro y hy
      have h1 := cellsL_len p w y
      have h2 : w * y ≤ 10 * 10 := Nat.mul_le_mul hw (by omega)
      exact e0 _ y _ (by omega) (inner w 0 y _ _ (by omega) (by omega) (by omega) (ih (y + 1) (by omega)))
  exact outer h 0 (by omega)
theorem i8_wnat (x : Nat) (h : x < 10) : IntKind.i8.wrap ((x : Int) + 1) = ((x + 1 : Nat) : Int) := by
  have := i8_small (x + 1) (by omega)
  rw [← this]
  congr 1
theorem All_s (s0 s1 : Int) (W : LA 10) (hb : ∀ i, 0 ≤ rd W.l i ∧ rd W.l i < 65536) (w h : Nat) (hw : w ≤ 10) (hh : h ≤ 10) (e0 : s0 = w) (e1 : s1 = h) : Ev (fun k => spec_l01All.f k s0 s1 W) (cellsL (fr W.l) w h) := by
  show Ev (fun k => spec_l01All.l0 k [] 0 s0 s1 W) _
  refine Ev.cells (fr W.l) w h hw hh (fun k acc y => spec_l01All.l0 k acc y s0 s1 W) (fun k acc y x => spec_l01All.l1 k acc y x s0 s1 W) ?_ ?_ ?_ ?_
  · intro acc y r hy hr
    refine Ev.succ ?_
    simp only [spec_l01All.l0]
    exact Ev.pos (by omega) hr
  · intro acc
    refine Ev.succ ?_
    simp only [spec_l01All.l0]
    exact Ev.neg (by omega) (Ev.now acc)
  · intro acc y x r hy hx hl hr
    refine Ev.succ ?_
    simp only [spec_l01All.l1]
    refine Ev.pos (by omega) ?_
    rw [Free_s s0 s1 W hb (by omega) (by omega) x y (by omega) (by omega), i8_wnat x (by omega)]
    simp only [Option.bind_some]
    cases hc : fr W.l (x : Int) (y : Int) with
    | true =>
      rw [hc] at hr
      simp only [if_true] at hr ⊢
      exact Ev.pos (by omega) hr
    | false =>
      rw [hc] at hr
      simp only [Bool.false_eq_true, if_false] at hr ⊢
      exact hr
  · intro acc y r hy hr
    refine Ev.succ ?_
    simp only [spec_l01All.l1]
    rw [i8_wnat y (by omega)]
    exact Ev.neg (by omega) hr
def isC (s0 s1 x y : Int) : Bool := inC x 0 (s0 - 1) && inC y 0 (s1 - 1)
def frC (s0 s1 : Int) (W : LA 10) (x y : Int) : Bool := isC s0 s1 x y && fr W.l x y
theorem isC_bounds {s0 s1 x y : Int} (h : isC s0 s1 x y = true) : (0 ≤ x ∧ x < s0) ∧ (0 ≤ y ∧ y < s1) := by
  unfold isC inC at h
  simp at h
  omega
theorem Is_s (s0 s1 : Int) (W : LA 10) (h0 : 1 ≤ s0 ∧ s0 ≤ 10) (h1 : 1 ≤ s1 ∧ s1 ≤ 10) (x y : Int) (hx : -128 ≤ x ∧ x ≤ 127) (hy : -128 ≤ y ∧ y ≤ 127) : spec_l01Is.f s0 s1 W x y = some (isC s0 s1 x y) := by
  unfold spec_l01Is.f isC
  rw [wint s0 (by omega) (by omega), wint s1 (by omega) (by omega), wint x (by omega) (by omega), wint y (by omega) (by omega), wint (s0 - 1) (by omega) (by omega), wint (s1 - 1) (by omega) (by omega), In_c, In_c]
  simp only [Option.bind_some]
  cases inC x 0 (s0 - 1) <;> simp
theorem Is_i (s0 s1 : Int) (W : LA 10) (h0 : 1 ≤ s0 ∧ s0 ≤ 10) (h1 : 1 ≤ s1 ∧ s1 ≤ 10) (x y : Int) (hx : -128 ≤ x ∧ x ≤ 127) (hy : -128 ≤ y ∧ y ≤ 127) : impl_Room_isCell.f s0 s1 W x y = some (isC s0 s1 x y) := by
  unfold impl_Room_isCell.f isC
  rw [wint s0 (by omega) (by omega), wint s1 (by omega) (by omega), wint x (by omega) (by omega), wint y (by omega) (by omega), mn_small h0.2, mn_small h1.2, wint (s0 - 1) (by omega) (by omega), wint (s1 - 1) (by omega) (by omega), Within_c, Within_c]
  simp only [Option.bind_some]
  cases inC x 0 (s0 - 1) <;> simp
theorem Fr_s (s0 s1 : Int) (W : LA 10) (hb : ∀ i, 0 ≤ rd W.l i ∧ rd W.l i < 65536) (h0 : 1 ≤ s0 ∧ s0 ≤ 10) (h1 : 1 ≤ s1 ∧ s1 ≤ 10) (x y : Int) (hx : -128 ≤ x ∧ x ≤ 127) (hy : -128 ≤ y ∧ y ≤ 127) : spec_l01Free.f s0 s1 W x y = some (frC s0 s1 W x y) := by
  cases hc : isC s0 s1 x y with
  | true =>
    have hd := isC_bounds hc
    obtain ⟨n, rfl⟩ : ∃ n : Nat, x = n := ⟨x.toNat, by omega⟩
    obtain ⟨m, rfl⟩ : ∃ m : Nat, y = m := ⟨y.toNat, by omega⟩
    rw [Free_s s0 s1 W hb (by omega) (by omega) n m (by omega) (by omega)]
    unfold frC
    rw [hc]
    rfl
  | false =>
    unfold spec_l01Free.f frC
    rw [Is_s s0 s1 W h0 h1 x y hx hy, hc]
    rfl
theorem Fr_i (s0 s1 : Int) (W : LA 10) (hb : ∀ i, 0 ≤ rd W.l i ∧ rd W.l i < 65536) (h0 : 1 ≤ s0 ∧ s0 ≤ 10) (h1 : 1 ≤ s1 ∧ s1 ≤ 10) (x y : Int) (hx : -128 ≤ x ∧ x ≤ 127) (hy : -128 ≤ y ∧ y ≤ 127) : impl_Room_isFree.f s0 s1 W x y = some (frC s0 s1 W x y) := by
  cases hc : isC s0 s1 x y with
  | true =>
    have hd := isC_bounds hc
    obtain ⟨n, rfl⟩ : ∃ n : Nat, x = n := ⟨x.toNat, by omega⟩
    obtain ⟨m, rfl⟩ : ∃ m : Nat, y = m := ⟨y.toNat, by omega⟩
    rw [Free_i s0 s1 W hb (by omega) (by omega) n m (by omega) (by omega)]
    unfold frC
    rw [hc]
    rfl
  | false =>
    unfold impl_Room_isFree.f frC
    rw [Is_i s0 s1 W h0 h1 x y hx hy, hc]
    rfl
def RB (s0 s1 : Int) (W : LA 10) : Prop := (-128 ≤ s0 ∧ s0 ≤ 127) ∧ (-128 ≤ s1 ∧ s1 ≤ 127) ∧ ∀ i, 0 ≤ rd W.l i ∧ rd W.l i < 65536
theorem rb_mk {s0 s1 : Int} {W : LA 10} (w0 : (Lit.int .i8 s0).wf = true) (w1 : (Lit.int .i8 s1).wf = true) (h : ∀ x ∈ W.l, (Lit.int .u16 x).wf = true) : RB s0 s1 W := ⟨wf_i8 w0, wf_i8 w1, rd_bound _ fun x hx => wf_u16 (h x hx)⟩
def CB (C : LA 40) : Prop := ∀ i, 0 ≤ rd C.l i ∧ rd C.l i < 65536
theorem cb_mk {C : LA 40} (h : ∀ x ∈ C.l, (Lit.int .u16 x).wf = true) : CB C := rd_bound _ fun x hx => wf_u16 (h x hx)
end Go.Proofs.Ytdedijjbdkoekaa.Q
end
section
namespace Go.Proofs.Ytdedijjbdkoekaa.Q
open Go.RowKit Go.Proofs.YtdedijjbdkoekaaW.PrintWords Go.Proofs.YtdedijjbdkoekaaW.PrintLast Go.Proofs.YtdedijjbdkoekaaW.PrintMore Go.Proofs.Ytdedijjbdkoekaa.La Go.Proofs.Ytdedijjbdkoekaa.PB
set_option linter.unusedVariables false
set_option linter.unusedSimpArgs false
theorem rdS_get (l : List S33) (i : Nat) : rd_T33 l (i : Int) = l.getD i z33 := by simp [rd_T33]
end Go.Proofs.Ytdedijjbdkoekaa.Q
end
section
namespace Go.Proofs.Ytdedijjbdkoekaa.Q
open Go.RowKit Go.Proofs.YtdedijjbdkoekaaW.PrintWords Go.Proofs.YtdedijjbdkoekaaW.PrintLast Go.Proofs.YtdedijjbdkoekaaW.PrintMore Go.Proofs.Ytdedijjbdkoekaa.La Go.Proofs.Ytdedijjbdkoekaa.PB
set_option linter.unusedVariables false
set_option linter.unusedSimpArgs false
def putA (C : LA 40) (x y d : Int) : LA 40 := LA.set C (d * 10 + y) (Go.bits .or .u16 (rd C.l (d * 10 + y)) (shl .u16 1 x))
theorem putA_s (C : LA 40) (x y d : Int) (hx : 0 ≤ x ∧ x < 10) (hy : 0 ≤ y ∧ y < 10) (hd : 0 ≤ d ∧ d < 4) : spec_l06Put.f C x y d = some (putA C x y d) := by
  unfold spec_l06Put.f putA
  rw [if_pos (by omega), if_pos (by omega), if_pos (by omega), if_pos (by omega), u64_int hx.1 (by omega)]
end Go.Proofs.Ytdedijjbdkoekaa.Q
end
section
namespace Go.Proofs.Ytdedijjbdkoekaa.Q
open Go.RowKit Go.Proofs.YtdedijjbdkoekaaW.PrintWords Go.Proofs.YtdedijjbdkoekaaW.PrintLast Go.Proofs.YtdedijjbdkoekaaW.PrintMore Go.Proofs.Ytdedijjbdkoekaa.La Go.Proofs.Ytdedijjbdkoekaa.PB
set_option linter.unusedVariables false
set_option linter.unusedSimpArgs false
def foldD (C : LA 40) (p : S33) : Nat → LA 40
  | 0 => C
  | d + 1 => putA (foldD C p d) p.f0 p.f1 (d : Int)
def plainL : List S33 → LA 40 → LA 40
  | [], C => C
  | p :: ps, C => plainL ps (foldD C p 4)
theorem Plain_inner (l : List S33) (i : Nat) (hi : i < l.length) (hp : (0 ≤ (l.getD i z33).f0 ∧ (l.getD i z33).f0 < 10) ∧ (0 ≤ (l.getD i z33).f1 ∧ (l.getD i z33).f1 < 10)) (hl : l.length ≤ 1000) (C : LA 40) (r : LA 40) :
    ∀ n d : Nat, d + n = 4 → Ev (fun k => spec_l06Plain.l0 k l ((i + 1 : Nat) : Int) (foldD C (l.getD i z33) 4)) r → Ev (fun k => spec_l06Plain.l1 k l (i : Int) (d : Int) (foldD C (l.getD i z33) d)) r := by
  intro n
  induction n with
  | zero =>
    intro d hd h
    obtain rfl : d = 4 := by omega
    refine Ev.succ ?_
    simp only [spec_l06Plain.l1]
    rw [wnat i l.length hi (by omega)]
    exact Ev.neg (by omega) h
  | succ n ih =>
    intro d hd h
    refine Ev.succ ?_
    simp only [spec_l06Plain.l1]
    refine Ev.pos (by omega) (Ev.pos (by omega) (Ev.pos (by omega) ?_))
    rw [rdS_get, putA_s _ _ _ (d : Int) hp.1 hp.2 ⟨by omega, by omega⟩, wnat d 4 (by omega) (by omega)]
    simp only [Option.bind_some]
    exact ih (d + 1) (by omega) h
theorem Plain_ev (l : List S33) (hm : ∀ q ∈ l, (0 ≤ q.f0 ∧ q.f0 < 10) ∧ (0 ≤ q.f1 ∧ q.f1 < 10)) (hl : l.length ≤ 1000) :
    ∀ (n i : Nat) (C : LA 40), i + n = l.length → Ev (fun k => spec_l06Plain.l0 k l (i : Int) C) (plainL (l.drop i) C) := by
  intro n
  induction n with
  | zero =>
    intro i C hi
    obtain rfl : i = l.length := by omega
    rw [List.drop_length]
    refine Ev.succ ?_
    simp only [spec_l06Plain.l0]
    exact Ev.neg (by omega) (Ev.now _)
  | succ n ih =>
    intro i C hi
    have hil : i < l.length := by omega
    have hp := hm _ (getD_mem l i z33 hil)
    refine Ev.succ ?_
    simp only [spec_l06Plain.l0]
    refine Ev.pos (by omega) ?_
    rw [drop_get l i z33 hil]
    exact Plain_inner l i hil hp hl C _ 4 0 rfl (ih (i + 1) (foldD C (l.getD i z33) 4) (by omega))
def InvC (C : LA 40) (M : Nat → Nat → Nat → Bool) : Prop := ∀ d y : Nat, d < 4 → y < 10 → ∃ n : Nat, rd C.l ((d : Int) * 10 + (y : Int)) = n ∧ n < 2 ^ 16 ∧ ∀ x : Nat, n.testBit x = M d x y
theorem shl_pow (x : Nat) (hx : x < 10) : shl .u16 1 (x : Int) = ((2 ^ x : Nat) : Int) := by
  unfold shl
  rw [Int.one_mul, Int.toNat_natCast, Nat.min_eq_left (show x ≤ IntKind.u16.bits by unfold IntKind.bits; dsimp only; omega), wrap_u16]
  have h3 : 2 ^ x ≤ 2 ^ 9 := Nat.pow_le_pow_right (by omega) (by omega)
  have h2 : (2 : Int) ^ x = ((2 ^ x : Nat) : Int) := by simp
  rw [h2]
  generalize 2 ^ x = m at h3 ⊢
  omega
theorem InvC.put {C : LA 40} {M : Nat → Nat → Nat → Bool} (h : InvC C M) (x y d : Nat) (hx : x < 10) (hy : y < 10) (hd : d < 4) : InvC (putA C (x : Int) (y : Int) (d : Int)) (fun d' x' y' => M d' x' y' || (decide (d' = d) && decide (x' = x) && decide (y' = y))) := by
  intro d' y' hd' hy'
  by_cases he : d' = d ∧ y' = y
  · obtain ⟨rfl, rfl⟩ := he
    obtain ⟨n, hn, hlt, ht⟩ := h d' y' hd hy
    have hp : 2 ^ x < 2 ^ 16 := Nat.pow_lt_pow_right (by omega) (by omega)
    refine ⟨n ||| 2 ^ x, ?_, Nat.or_lt_two_pow hlt hp, fun x' => ?_⟩
    · rw [putA, rd_set_same _ _ _ (by omega) (by omega), hn, shl_pow x hx]
      exact (bits_nat .u16 16 (by decide) wraps_u16 n (2 ^ x) hlt hp).2
    · rw [Nat.testBit_or, Nat.testBit_two_pow, ht x']
      by_cases hxx : x' = x
      · subst hxx; simp
      · simp [hxx, Ne.symm hxx]
  · obtain ⟨n, hn, hlt, ht⟩ := h d' y' hd' hy'
    refine ⟨n, ?_, hlt, fun x' => ?_⟩
    · rw [putA, rd_set_other _ _ _ _ (by omega) (by omega) (by omega), hn]
    · rw [ht x']
      by_cases h1 : d' = d
      · have h2 : ¬ y' = y := fun h2 => he ⟨h1, h2⟩
        simp [h2]
      · simp [h1]
theorem InvC.congr {C : LA 40} {M M' : Nat → Nat → Nat → Bool} (h : InvC C M) (e : ∀ d x y, d < 4 → M d x y = M' d x y) : InvC C M' :=
  fun d y hd hy => by obtain ⟨n, h1, h2, h3⟩ := h d y hd hy; exact ⟨n, h1, h2, fun x => (h3 x).trans (e d x y hd)⟩
theorem InvC.fold {C : LA 40} {M : Nat → Nat → Nat → Bool} (h : InvC C M) (p : S33) (x y : Nat) (hx : x < 10) (hy : y < 10) (e0 : p.f0 = x) (e1 : p.f1 = y) : ∀ d, d ≤ 4 → InvC (foldD C p d) (fun d' x' y' => M d' x' y' || (decide (d' < d) && decide (x' = x) && decide (y' = y)))
  | 0, _ => h.congr fun d' x' y' _ => by simp
  | d + 1, hd => by
    have ih := InvC.fold h p x y hx hy e0 e1 d (by omega)
    rw [foldD, e0, e1]
    refine (ih.put x y d hx hy (by omega)).congr fun d' x' y' _ => ?_
    by_cases h1 : d' < d
    · have h2 : ¬ d' = d := by omega
      have h3 : d' < d + 1 := by omega
      simp [h1, h2, h3]
    · by_cases h2 : d' = d
      · subst h2; simp
      · have h3 : ¬ d' < d + 1 := by omega
        simp [h1, h2, h3]
theorem InvC.plain : ∀ (l : List S33) {C : LA 40} {M : Nat → Nat → Nat → Bool}, InvC C M → (∀ q ∈ l, (0 ≤ q.f0 ∧ q.f0 < 10) ∧ (0 ≤ q.f1 ∧ q.f1 < 10)) → InvC (plainL l C) (fun d x y => M d x y || l.any fun q => decide (q.f0 = (x : Int)) && decide (q.f1 = (y : Int)))
  | [], _, _, h, _ => h.congr fun d x y _ => by simp
  | p :: ps, C, M, h, hm => by
    have hp := hm p (by simp)
    obtain ⟨x, hx⟩ : ∃ n : Nat, p.f0 = n := ⟨p.f0.toNat, by omega⟩
    obtain ⟨y, hy⟩ : ∃ n : Nat, p.f1 = n := ⟨p.f1.toNat, by omega⟩
    have h1 := InvC.plain ps (h.fold p x y (by omega) (by omega) hx hy 4 (by omega)) (fun q hq => hm q (by simp [hq]))
    refine h1.congr fun d x' y' hd => ?_
    have e0 : decide (p.f0 = (x' : Int)) = decide (x' = x) := by rw [hx]; exact decide_eq_decide.2 ⟨fun h => by omega, fun h => by omega⟩
    have e1 : decide (p.f1 = (y' : Int)) = decide (y' = y) := by rw [hy]; exact decide_eq_decide.2 ⟨fun h => by omega, fun h => by omega⟩
    have e2 : decide (d < 4) = true := decide_eq_true hd
    rw [List.any_cons, e0, e1, e2, Bool.true_and, Bool.or_assoc]
theorem InvC.zero : InvC (LA.zero 40) (fun _ _ _ => false) :=
  fun d y hd hy => ⟨0, rd_zero _, by omega, fun x => Nat.zero_testBit x⟩
theorem row_any (p : Int → Int → Bool) (y : Nat) (acc : List S33) (x' y' : Nat) : ∀ n : Nat, ((rowL p (y : Int) acc n).any fun q => decide (q.f0 = (x' : Int)) && decide (q.f1 = (y' : Int))) = ((acc.any fun q => decide (q.f0 = (x' : Int)) && decide (q.f1 = (y' : Int))) || (decide (x' < n) && decide (y' = y) && p (x' : Int) (y' : Int)))
  | 0 => by simp [rowL]
  | n + 1 => by
    have ih := row_any p y acc x' y' n
    rw [rowL]
    by_cases h1 : x' = n
    · subst h1
      by_cases h2 : y' = y
      · subst h2
        cases hp : p (x' : Int) (y' : Int) with
        | true => rw [if_pos rfl, List.any_append, ih]; simp
        | false => rw [if_neg (by simp), ih]; simp [hp]
      · split
        · rw [List.any_append, ih]
          have : ¬ (y : Int) = (y' : Int) := by omega
          simp [h2, this]
        · rw [ih]; simp [h2]
    · have hlt : decide (x' < n + 1) = decide (x' < n) := decide_eq_decide.2 ⟨fun h => by omega, fun h => by omega⟩
      have hne : ¬ (n : Int) = (x' : Int) := by omega
      rw [hlt]
      split
      · rw [List.any_append, ih]; simp [hne]
      · exact ih
theorem cells_any (p : Int → Int → Bool) (w : Nat) (x y : Nat) : ∀ h : Nat, ((cellsL p w h).any fun q => decide (q.f0 = (x : Int)) && decide (q.f1 = (y : Int))) = (decide (x < w) && decide (y < h) && p (x : Int) (y : Int))
  | 0 => by simp [cellsL]
  | h + 1 => by
    rw [cellsL, row_any, cells_any p w x y h]
    by_cases h1 : y < h
    · have h2 : ¬ y = h := by omega
      have h3 : y < h + 1 := by omega
      simp [h1, h2, h3]
    · by_cases h2 : y = h
      · subst h2; simp
      · have h3 : ¬ y < h + 1 := by omega
        simp [h1, h2, h3]
theorem plain_bits (W : List Int) (w h : Nat) (hw : w ≤ 10) (hh : h ≤ 10) : InvC (plainL (cellsL (fr W) w h) (LA.zero 40)) (fun d x y => decide (x < w) && decide (y < h) && fr W (x : Int) (y : Int)) := by
  have hm : ∀ q ∈ cellsL (fr W) w h, (0 ≤ q.f0 ∧ q.f0 < 10) ∧ (0 ≤ q.f1 ∧ q.f1 < 10) := fun q hq => by
    have := cellsL_mem (fr W) w h h (Nat.le_refl _) q hq
    omega
  exact (InvC.plain _ InvC.zero hm).congr fun d x y _ => by rw [cells_any, Bool.false_or]
end Go.Proofs.Ytdedijjbdkoekaa.Q
end
section
namespace Go.Proofs.Ytdedijjbdkoekaa.Q
open Go.RowKit Go.Proofs.YtdedijjbdkoekaaW.PrintWords Go.Proofs.YtdedijjbdkoekaaW.PrintLast Go.Proofs.YtdedijjbdkoekaaW.PrintMore Go.Proofs.Ytdedijjbdkoekaa.La Go.Proofs.Ytdedijjbdkoekaa.PB
set_option linter.unusedVariables false
set_option linter.unusedSimpArgs false
def RRe (f : Nat → Bool) (e : Bool) : Nat → Nat → Bool
  | 0, _ => e
  | n + 1, i => f i && RRe f e n (i + 1)
theorem RRe_and (f : Nat → Bool) (e : Bool) : ∀ n i, RRe f e n i = (RRe f true n i && e)
  | 0, _ => by simp [RRe]
  | n + 1, i => by rw [RRe, RRe, RRe_and f e n (i + 1), Bool.and_assoc]
theorem RRe_congr {f g : Nat → Bool} (e : Bool) : ∀ n i, (∀ j, i ≤ j → j < i + n → f j = g j) → RRe f e n i = RRe g e n i
  | 0, _, _ => rfl
  | n + 1, i, h => by rw [RRe, RRe, h i (by omega) (by omega), RRe_congr e n (i + 1) (fun j h1 h2 => h j (by omega) (by omega))]
theorem RRe_true (f : Nat → Bool) : ∀ n i, RRe f true n i = true ↔ ∀ j, i ≤ j → j < i + n → f j = true
  | 0, i => ⟨fun _ j h1 h2 => by omega, fun _ => rfl⟩
  | n + 1, i => by
    rw [RRe, Bool.and_eq_true, RRe_true f n (i + 1)]
    exact ⟨fun ⟨h1, h2⟩ j h3 h4 => by
      by_cases e : j = i
      · subst e; exact h1
      · exact h2 j (by omega) (by omega), fun h => ⟨h i (by omega) (by omega), fun j h1 h2 => h j (by omega) (by omega)⟩⟩
theorem Ev.loopB (L : Nat → Int → Option Bool) (f : Nat → Bool) (e : Bool) (N : Nat) (hstep : ∀ i : Nat, i < N → ∀ r, Ev (fun k => L k ((i + 1 : Nat) : Int)) r → Ev (fun k => L k (i : Int)) (f i && r)) (hend : Ev (fun k => L k (N : Int)) e) : Ev (fun k => L k 0) (RRe f e N 0) := by
  have key : ∀ n i : Nat, i + n = N → Ev (fun k => L k (i : Int)) (RRe f e n i) := by
    intro n
    induction n with
    | zero =>
      intro i hi
      obtain rfl : i = N := (by omega)
      exact hend
    | succ n ih => intro i hi; exact hstep i (by omega) _ (ih (i + 1) (by omega))
  exact key N 0 (by omega)
theorem andNot_zero (a b : Nat) (ha : a < 2 ^ 16) (hb : b < 2 ^ 16) : (Go.bits .andNot .u16 (a : Int) (b : Int) = 0) ↔ ∀ x, x < 16 → a.testBit x = true → b.testBit x = true := by
  have h16 : IntKind.u16.bits = 16 := rfl
  have e : Go.bits .andNot .u16 (a : Int) (b : Int) = (((BitVec.ofNat 16 a &&& ~~~ BitVec.ofNat 16 b).toNat : Nat) : Int) := by
    unfold Go.bits
    simp only [BitVec.ofInt_natCast]
    have hlt := (BitVec.ofNat 16 a &&& ~~~ BitVec.ofNat 16 b).isLt
    exact wraps_u16 _ (Int.natCast_nonneg _) (Int.lt_of_lt_of_le (Int.ofNat_lt.2 hlt) (by decide))
  rw [e]
  constructor
  · intro h x hx hax
    have h0 : (BitVec.ofNat 16 a &&& ~~~ BitVec.ofNat 16 b) = 0#16 := BitVec.toNat_eq.2 (by simpa using Int.ofNat.inj h)
    have h1 := congrArg (fun v => BitVec.getLsbD v x) h0
    simp only [BitVec.getLsbD_and, BitVec.getLsbD_not, BitVec.getLsbD_ofNat, BitVec.getLsbD_zero, hx, decide_true, Bool.true_and, hax] at h1
    simpa using h1
  · intro h
    have h0 : (BitVec.ofNat 16 a &&& ~~~ BitVec.ofNat 16 b) = 0#16 := BitVec.eq_of_getLsbD_eq (fun i hi => by
      simp only [BitVec.getLsbD_and, BitVec.getLsbD_not, BitVec.getLsbD_ofNat, BitVec.getLsbD_zero, hi, decide_true, Bool.true_and]
      cases h1 : a.testBit i with
      | false => simp
      | true => simp [h i hi h1])
    rw [h0]
    rfl
theorem bit16 (a : Nat) (ha : a < 2 ^ 16) (x : Nat) (hx : x < 16) : (Go.bits .and .u16 (shr .u16 (a : Int) (x : Int)) 1 = 1) ↔ a.testBit x = true := by
  have hs : shr .u16 (a : Int) (x : Int) = ((a / 2 ^ x : Nat) : Int) := by
    unfold shr
    rw [Int.toNat_natCast, Nat.min_eq_left (show x ≤ IntKind.u16.bits by unfold IntKind.bits; dsimp only; omega)]
    simp
  have hle : a / 2 ^ x ≤ a := Nat.div_le_self _ _
  rw [hs, Nat.testBit_eq_decide_div_mod_eq, decide_eq_true_iff]
  generalize a / 2 ^ x = q at hle ⊢
  rw [u16_and1 (by omega) (by omega)]
  omega
def freeB (W : List Int) (w h x y : Nat) : Bool := decide (x < w) && decide (y < h) && fr W (x : Int) (y : Int)
theorem isFree_c (s0 s1 : Int) (W : LA 10) (hb : ∀ i, 0 ≤ rd W.l i ∧ rd W.l i < 65536) (w h : Nat) (hw : w ≤ 10) (hh : h ≤ 10) (e0 : s0 = w) (e1 : s1 = h) (x y : Nat) (hx : x < 16) (hy : y < 10) : impl_Room_isFree.f s0 s1 W (x : Int) (y : Int) = some (freeB W.l w h x y) := by
  unfold freeB
  by_cases h1 : x < w
  · by_cases h2 : y < h
    · rw [Free_i s0 s1 W hb (by omega) (by omega) x y (by omega) (by omega)]
      simp [h1, h2]
    · unfold impl_Room_isFree.f impl_Room_isCell.f
      rw [wint s0 (by omega) (by omega), wint s1 (by omega) (by omega), wint (x : Int) (by omega) (by omega), wint (y : Int) (by omega) (by omega), mn_small (by omega), mn_small (by omega), wint (s0 - 1) (by omega) (by omega), wint (s1 - 1) (by omega) (by omega), Within_c, Within_c]
      rw [show inC (x : Int) 0 (s0 - 1) = true by unfold inC; simp; omega, show inC (y : Int) 0 (s1 - 1) = false by unfold inC; simp; omega]
      simp [h2]
  · unfold impl_Room_isFree.f impl_Room_isCell.f
    rw [wint s0 (by omega) (by omega), wint s1 (by omega) (by omega), wint (x : Int) (by omega) (by omega), wint (y : Int) (by omega) (by omega), mn_small (by omega), mn_small (by omega), wint (s0 - 1) (by omega) (by omega), wint (s1 - 1) (by omega) (by omega), Within_c]
    rw [show inC (x : Int) 0 (s0 - 1) = false by unfold inC; simp; omega]
    simp [h1]
theorem i8_wnat16 (x : Nat) (h : x < 16) : IntKind.i8.wrap ((x : Int) + 1) = ((x + 1 : Nat) : Int) := by
  have := i8_small (x + 1) (by omega)
  rw [← this]
  congr 1
def bitB (v : Int) (x : Nat) : Bool := decide (Go.bits .and .u16 (shr .u16 v (x : Int)) 1 = 1)
theorem isIn_ev (C : LA 40) (s0 s1 : Int) (W : LA 10) (hb : ∀ i, 0 ≤ rd W.l i ∧ rd W.l i < 65536) (w h : Nat) (hw : w ≤ 10) (hh : h ≤ 10) (e0 : s0 = w) (e1 : s1 = h) :
    Ev (fun k => impl_Crowd_isIn.f k C s0 s1 W) (RRe (fun d => RRe (fun y => RRe (fun x => !bitB (rd C.l ((d : Int) * 10 + (y : Int))) x || freeB W.l w h x y) true 16 0) true 10 0) true 4 0) := by
  show Ev (fun k => impl_Crowd_isIn.l0 k C 0 s0 s1 W) _
  refine Ev.loopB (fun k i => impl_Crowd_isIn.l0 k C i s0 s1 W) _ true 4 (fun d hd r hr => ?_) ?_
  · refine Ev.succ ?_
    simp only [impl_Crowd_isIn.l0]
    refine Ev.pos (by omega) (Ev.pos (by omega) ?_)
    rw [← RRe_and]
    refine Ev.loopB (fun k i => impl_Crowd_isIn.l1 k C (d : Int) (LA.row C 10 (d : Int)) i s0 s1 W) _ r 10 (fun y hy r2 hr2 => ?_) ?_
    · refine Ev.succ ?_
      simp only [impl_Crowd_isIn.l1]
      refine Ev.pos (by omega) (Ev.pos (by omega) ?_)
      rw [rd_row C 10 (d : Int) (y : Int) (by omega) (by omega), show (d : Int) * ((10 : Nat) : Int) + (y : Int) = (d : Int) * 10 + (y : Int) from rfl, ← RRe_and]
      refine Ev.loopB (fun k i => impl_Crowd_isIn.l2 k (y : Int) (rd C.l ((d : Int) * 10 + (y : Int))) C (d : Int) (LA.row C 10 (d : Int)) (y : Int) i s0 s1 W) _ r2 16 (fun x hx r3 hr3 => ?_) ?_
      · refine Ev.succ ?_
        simp only [impl_Crowd_isIn.l2]
        refine Ev.pos (by omega) (Ev.pos (by omega) ?_)
        rw [i8_small y (by omega), isFree_c s0 s1 W hb w h hw hh e0 e1 x y hx hy, i8_wnat16 x hx]
        simp only [Option.bind_some]
        by_cases h1 : Go.bits .and .u16 (shr .u16 (rd C.l ((d : Int) * 10 + (y : Int))) (x : Int)) 1 = 1
        · refine Ev.pos h1 ?_
          have hbt : bitB (rd C.l ((d : Int) * 10 + (y : Int))) x = true := decide_eq_true h1
          rw [hbt, Bool.not_true, Bool.false_or]
          cases hf : freeB W.l w h x y with
          | true => exact Ev.pos rfl (by rw [Bool.true_and]; exact hr3)
          | false => exact Ev.neg (by simp) (by rw [Bool.false_and]; exact Ev.now false)
        · refine Ev.neg h1 ?_
          have hbt : bitB (rd C.l ((d : Int) * 10 + (y : Int))) x = false := decide_eq_false h1
          rw [hbt, Bool.not_false, Bool.true_or, Bool.true_and]
          exact hr3
      · refine Ev.succ ?_
        simp only [impl_Crowd_isIn.l2]
        rw [wnat y 10 hy (by omega)]
        exact Ev.neg (by omega) hr2
    · refine Ev.succ ?_
      simp only [impl_Crowd_isIn.l1]
      rw [wnat d 4 hd (by omega)]
      exact Ev.neg (by omega) hr
  · refine Ev.succ ?_
    simp only [impl_Crowd_isIn.l0]
    exact Ev.neg (by omega) (Ev.now true)
theorem okLoop_ev (C P : LA 40) :
    Ev (fun k => spec_l06Ok.l0 k 0 C P) (RRe (fun d => RRe (fun y => decide (Go.bits .andNot .u16 (rd C.l ((d : Int) * 10 + (y : Int))) (rd P.l ((d : Int) * 10 + (y : Int))) = 0)) true 10 0) true 4 0) := by
  refine Ev.loopB (fun k i => spec_l06Ok.l0 k i C P) _ true 4 (fun d hd r hr => ?_) ?_
  · refine Ev.succ ?_
    simp only [spec_l06Ok.l0]
    refine Ev.pos (by omega) ?_
    rw [← RRe_and]
    refine Ev.loopB (fun k i => spec_l06Ok.l1 k (d : Int) i C P) _ r 10 (fun y hy r2 hr2 => ?_) ?_
    · refine Ev.succ ?_
      simp only [spec_l06Ok.l1]
      refine Ev.pos (by omega) (Ev.pos (by omega) (Ev.pos (by omega) (Ev.pos (by omega) ?_)))
      rw [wnat y 10 hy (by omega)]
      by_cases h1 : Go.bits .andNot .u16 (rd C.l ((d : Int) * 10 + (y : Int))) (rd P.l ((d : Int) * 10 + (y : Int))) = 0
      · rw [decide_eq_true h1, Bool.true_and]
        exact Ev.pos h1 hr2
      · rw [decide_eq_false h1, Bool.false_and]
        exact Ev.neg h1 (Ev.now false)
    · refine Ev.succ ?_
      simp only [spec_l06Ok.l1]
      rw [wnat d 4 hd (by omega)]
      exact Ev.neg (by omega) hr
  · refine Ev.succ ?_
    simp only [spec_l06Ok.l0]
    exact Ev.neg (by omega) (Ev.now true)
theorem Valid_core (s0 s1 : Int) (W : LA 10) (C : LA 40) (b0 : -128 ≤ s0 ∧ s0 ≤ 127) (b1 : -128 ≤ s1 ∧ s1 ≤ 127) (hb : ∀ i, 0 ≤ rd W.l i ∧ rd W.l i < 65536) (hc : ∀ i, 0 ≤ rd C.l i ∧ rd C.l i < 65536) :
    ∃ r, Ev (fun k => spec_l06Ok.f k s0 s1 W C) r ∧ Ev (fun k => impl_ValidCrowd.f k s0 s1 W C) r ∧ (r = true → ∃ w h : Nat, s0 = w ∧ s1 = h ∧ w ≤ 10 ∧ h ≤ 10 ∧ ∀ d y x : Nat, d < 4 → y < 10 → x < 16 → bitB (rd C.l ((d : Int) * 10 + (y : Int))) x = true → freeB W.l w h x y = true) := by
  obtain ⟨b, h1, h2, h3⟩ := Ok_both s0 s1 W b0 b1
  cases b with
  | false =>
    refine ⟨false, ?_, ?_, fun h => by cases h⟩
    · unfold spec_l06Ok.f
      refine Ev.bind (a := false) h1 ?_
      exact Ev.neg (by simp) (Ev.now _)
    · unfold impl_ValidCrowd.f
      refine Ev.bind h2 ?_
      exact Ev.neg (by simp) (Ev.now _)
  | true =>
    obtain ⟨hw, hh⟩ := h3 rfl
    obtain ⟨w, e0⟩ : ∃ n : Nat, s0 = n := ⟨s0.toNat, by omega⟩
    obtain ⟨h, e1⟩ : ∃ n : Nat, s1 = n := ⟨s1.toNat, by omega⟩
    have ha := All_s s0 s1 W hb w h (by omega) (by omega) e0 e1
    have hlen := cellsL_len (fr W.l) w h
    have hm : ∀ q ∈ cellsL (fr W.l) w h, (0 ≤ q.f0 ∧ q.f0 < 10) ∧ (0 ≤ q.f1 ∧ q.f1 < 10) := fun q hq => by
      have := cellsL_mem (fr W.l) w h h (Nat.le_refl _) q hq
      omega
    have hl : (cellsL (fr W.l) w h).length ≤ 1000 := by
      have : w * h ≤ 10 * 10 := Nat.mul_le_mul (by omega) (by omega)
      omega
    have p1 := Plain_ev _ hm hl (cellsL (fr W.l) w h).length 0 (LA.zero 40) (by omega)
    have hbits := plain_bits W.l w h (by omega) (by omega)
    rw [List.drop_zero] at p1
    obtain ⟨P, hP⟩ : ∃ P, plainL (cellsL (fr W.l) w h) (LA.zero 40) = P := ⟨_, rfl⟩
    rw [hP] at p1 hbits
    have q1 : Ev (fun k => spec_l06Plain.f k s0 s1 W) P := by
      unfold spec_l06Plain.f
      exact Ev.bind ha p1
    have i1 := okLoop_ev C P
    have i2 := isIn_ev C s0 s1 W hb w h (by omega) (by omega) e0 e1
    have same : (RRe (fun d => RRe (fun y => decide (Go.bits .andNot .u16 (rd C.l ((d : Int) * 10 + (y : Int))) (rd P.l ((d : Int) * 10 + (y : Int))) = 0)) true 10 0) true 4 0) = (RRe (fun d => RRe (fun y => RRe (fun x => !bitB (rd C.l ((d : Int) * 10 + (y : Int))) x || freeB W.l w h x y) true 16 0) true 10 0) true 4 0) := by
      refine RRe_congr true 4 0 (fun d _ hd => RRe_congr true 10 0 (fun y _ hy => ?_))
      obtain ⟨n, hn, hlt, ht⟩ := hbits d y (by omega) (by omega)
      obtain ⟨m, hmm⟩ : ∃ m : Nat, rd C.l ((d : Int) * 10 + (y : Int)) = m := ⟨(rd C.l ((d : Int) * 10 + (y : Int))).toNat, by have := (hc ((d : Int) * 10 + (y : Int))).1; omega⟩
      have hmlt : m < 2 ^ 16 := by have := (hc ((d : Int) * 10 + (y : Int))).2; omega
      rw [hn, hmm]
      rw [Bool.eq_iff_iff, decide_eq_true_iff, andNot_zero m n hmlt hlt, RRe_true]
      constructor
      · intro hall x _ hx
        by_cases hbx : m.testBit x = true
        · have hf := hall x (by omega) hbx
          rw [ht x] at hf
          rw [show freeB W.l w h x y = true from hf, Bool.or_true]
        · have : bitB (m : Int) x = false := decide_eq_false (fun hh' => hbx ((bit16 m hmlt x (by omega)).1 hh'))
          rw [this]
          rfl
      · intro hall x hx hbx
        have hx2 := hall x (by omega) (by omega)
        have : bitB (m : Int) x = true := decide_eq_true ((bit16 m hmlt x hx).2 hbx)
        rw [this, Bool.not_true, Bool.false_or] at hx2
        rw [ht x]
        exact hx2
    refine ⟨_, ?_, Ev.eq ?_ same.symm, fun hr => ?_⟩
    rotate_left
    · unfold impl_ValidCrowd.f
      refine Ev.bind h2 ?_
      exact Ev.pos rfl (Ev.bind i2 (Ev.now _))
    · rw [same] at hr
      refine ⟨w, h, e0, e1, by omega, by omega, fun d y x hd hy hx hbit => ?_⟩
      have r1 := (RRe_true _ 4 0).1 hr d (by omega) (by omega)
      have r2 := (RRe_true _ 10 0).1 r1 y (by omega) (by omega)
      have r3 := (RRe_true _ 16 0).1 r2 x (by omega) (by omega)
      rw [hbit, Bool.not_true, Bool.false_or] at r3
      exact r3
    · unfold spec_l06Ok.f
      exact Ev.bind h1 (Ev.pos rfl (Ev.bind q1 i1))
end Go.Proofs.Ytdedijjbdkoekaa.Q
end
section
namespace Go.Proofs.Ytdedijjbdkoekaa.Q
open Go.RowKit Go.Proofs.YtdedijjbdkoekaaW.PrintWords Go.Proofs.YtdedijjbdkoekaaW.PrintLast Go.Proofs.YtdedijjbdkoekaaW.PrintMore Go.Proofs.Ytdedijjbdkoekaa.La Go.Proofs.Ytdedijjbdkoekaa.PB
set_option linter.unusedVariables false
set_option linter.unusedSimpArgs false
theorem str_app (L : List Int) (c : Int) (b : UInt8) (h : UInt8.ofNat c.toNat = b) : strOfNums L ++ (⟨#[b]⟩ : ByteArray) = strOfNums (L ++ [c]) := by
  subst h
  apply ByteArray.ext
  simp [strOfNums, ByteArray.data_append]
def hasB (C : LA 40) (d x y : Int) : Bool := (Go.bits .and .u16 (shr .u16 (rd C.l (d * 10 + y)) x) 1 == 1)
def ch (s0 s1 : Int) (W : LA 10) (C : LA 40) (d x y : Int) : Int := if frC s0 s1 W x y then (if hasB C d x y then 111 else 46) else 35
def rowT (c : Int → Int → Int) (y : Int) : Nat → List Int
  | 0 => []
  | x + 1 => rowT c y x ++ [c (x : Int) y]
def gridT (c : Int → Int → Int) (w : Nat) : Nat → List Int
  | 0 => []
  | y + 1 => gridT c w y ++ rowT c (y : Int) w ++ [10]
def textT (c : Int → Int → Int → Int) (w h : Nat) : Nat → List Int
  | 0 => []
  | d + 1 => (if d = 0 then textT c w h d else textT c w h d ++ [10]) ++ gridT (c (d : Int)) w h
theorem rowT_len (c : Int → Int → Int) (y : Int) : ∀ x, (rowT c y x).length = x
  | 0 => rfl
  | x + 1 => by rw [rowT, List.length_append, rowT_len c y x]; rfl
theorem gridT_len (c : Int → Int → Int) (w : Nat) (hw : w ≤ 10) : ∀ y, (gridT c w y).length ≤ 11 * y
  | 0 => by simp [gridT]
  | y + 1 => by
    have := gridT_len c w hw y
    rw [gridT, List.length_append, List.length_append, rowT_len]
    simp only [List.length_cons, List.length_nil]
    omega
theorem textT_len (c : Int → Int → Int → Int) (w h : Nat) (hw : w ≤ 10) (hh : h ≤ 10) : ∀ d, (textT c w h d).length ≤ 111 * d
  | 0 => by simp [textT]
  | d + 1 => by
    have h1 := textT_len c w h hw hh d
    have h2 := gridT_len (c (d : Int)) w hw h
    rw [textT]
    split <;> simp only [List.length_append, List.length_cons, List.length_nil] <;> omega
theorem Has_s (C : LA 40) (x y d : Int) (hx : 0 ≤ x ∧ x < 10) (hy : 0 ≤ y ∧ y < 10) (hd : 0 ≤ d ∧ d < 4) : spec_l06Has.f C x y d = some (hasB C d x y) := by
  unfold spec_l06Has.f
  rw [u64_int hx.1 (by omega), if_pos hd.1, if_pos hd.2, if_pos hy.1, if_pos hy.2, if_pos hx.1]
  rfl
theorem Has_i (C : LA 40) (x y d : Int) (hx : 0 ≤ x ∧ x < 10) (hy : 0 ≤ y ∧ y < 10) (hd : 0 ≤ d ∧ d < 4) : impl_Crowd_has.f C x y d = some (hasB C d x y) := by
  unfold impl_Crowd_has.f
  rw [if_pos hd.1, if_pos hd.2, if_pos hy.1, if_pos hy.2, if_pos hx.1]
  rfl
section
variable (s0 s1 : Int) (W : LA 10) (C : LA 40) (hb : ∀ i, 0 ≤ rd W.l i ∧ rd W.l i < 65536) (w h : Nat) (hw : w ≤ 10) (hh : h ≤ 10) (e0 : s0 = w) (e1 : s1 = h)
include hb hw hh e0 e1
theorem Clo_i (d : Nat) (hd : d < 4) (x y : Nat) (hx : x < w) (hy : y < h) : impl_CrowdText_1.f (x : Int) (y : Int) s0 s1 W C (d : Int) = some (ch s0 s1 W C (d : Int) (x : Int) (y : Int)) := by
  unfold impl_CrowdText_1.f ch
  rw [Fr_i s0 s1 W hb (by omega) (by omega) x y (by omega) (by omega), Has_i C _ _ _ (by omega) (by omega) (by omega)]
  cases frC s0 s1 W (x : Int) (y : Int) with
  | false => rfl
  | true => cases hasB C (d : Int) (x : Int) (y : Int) <;> rfl
theorem T_row (d : Nat) (hd : d < 4) (y : Nat) (hy : y < h) (A : List Int) (hA : A.length ≤ 900) (r : ByteArray) (hr : Ev (fun k => spec_l06Text.l1 k (strOfNums (A ++ rowT (ch s0 s1 W C (d : Int)) (y : Int) w ++ [10])) (d : Int) ((y + 1 : Nat) : Int) s0 s1 W C) r) :
    ∀ n x : Nat, x + n = w → Ev (fun k => spec_l06Text.l2 k (strOfNums (A ++ rowT (ch s0 s1 W C (d : Int)) (y : Int) x)) (d : Int) (y : Int) (x : Int) s0 s1 W C) r := by
  intro n
  induction n with
  | zero =>
    intro x hx
    obtain rfl : x = w := by omega
    refine Ev.succ ?_
    simp only [spec_l06Text.l2]
    refine Ev.neg (by omega) (Ev.pos ?_ ?_)
    · rw [strOfNums_size, List.length_append, rowT_len]; omega
    · rw [str_app _ 10 10 rfl, i8_wnat y (by omega)]
      exact hr
  | succ n ih =>
    intro x hx
    have hnext := ih (x + 1) (by omega)
    rw [rowT, ← List.append_assoc] at hnext
    have hsz : (strOfNums (A ++ rowT (ch s0 s1 W C (d : Int)) (y : Int) x)).size + 1 ≤ 9223372036854775807 := by
      rw [strOfNums_size, List.length_append, rowT_len]; omega
    refine Ev.succ ?_
    simp only [spec_l06Text.l2]
    refine Ev.pos (by omega) ?_
    rw [Fr_s s0 s1 W hb (by omega) (by omega) x y (by omega) (by omega), Has_s C _ _ _ (by omega) (by omega) (by omega), i8_wnat x (by omega)]
    simp only [Option.bind_some]
    cases hf : frC s0 s1 W (x : Int) (y : Int) with
    | false =>
      have hc : ch s0 s1 W C (d : Int) (x : Int) (y : Int) = 35 := by unfold ch; rw [hf]; rfl
      rw [hc] at hnext
      refine Ev.neg (by simp) (Ev.pos hsz ?_)
      rw [str_app _ 35 35 rfl]
      exact hnext
    | true =>
      cases hq : hasB C (d : Int) (x : Int) (y : Int) with
      | false =>
        have hc : ch s0 s1 W C (d : Int) (x : Int) (y : Int) = 46 := by unfold ch; rw [hf, hq]; rfl
        rw [hc] at hnext
        refine Ev.pos rfl (Ev.neg (by simp) (Ev.pos hsz ?_))
        rw [str_app _ 46 46 rfl]
        exact hnext
      | true =>
        have hc : ch s0 s1 W C (d : Int) (x : Int) (y : Int) = 111 := by unfold ch; rw [hf, hq]; rfl
        rw [hc] at hnext
        refine Ev.pos rfl (Ev.pos rfl (Ev.pos hsz ?_))
        rw [str_app _ 111 111 rfl]
        exact hnext
theorem T_grid (d : Nat) (hd : d < 4) (A : List Int) (hA : A.length ≤ 700) (r : ByteArray) (hr : Ev (fun k => spec_l06Text.l0 k (strOfNums (A ++ gridT (ch s0 s1 W C (d : Int)) w h)) ((d + 1 : Nat) : Int) s0 s1 W C) r) :
    ∀ n y : Nat, y + n = h → Ev (fun k => spec_l06Text.l1 k (strOfNums (A ++ gridT (ch s0 s1 W C (d : Int)) w y)) (d : Int) (y : Int) s0 s1 W C) r := by
  intro n
  induction n with
  | zero =>
    intro y hy
    obtain rfl : y = h := by omega
    refine Ev.succ ?_
    simp only [spec_l06Text.l1]
    rw [wnat d 4 hd (by omega)]
    exact Ev.neg (by omega) hr
  | succ n ih =>
    intro y hy
    have hnext := ih (y + 1) (by omega)
    rw [gridT, ← List.append_assoc, ← List.append_assoc] at hnext
    have hl := gridT_len (ch s0 s1 W C (d : Int)) w hw y
    refine Ev.succ ?_
    simp only [spec_l06Text.l1]
    refine Ev.pos (by omega) ?_
    have := T_row s0 s1 W C hb w h hw hh e0 e1 d hd y (by omega) (A ++ gridT (ch s0 s1 W C (d : Int)) w y) (by rw [List.length_append]; omega) r hnext w 0 (by omega)
    simp only [rowT, List.append_nil] at this
    exact this
theorem T_all : ∀ n d : Nat, d + n = 4 → Ev (fun k => spec_l06Text.l0 k (strOfNums (textT (ch s0 s1 W C) w h d)) (d : Int) s0 s1 W C) (strOfNums (textT (ch s0 s1 W C) w h 4)) := by
  intro n
  induction n with
  | zero =>
    intro d hd
    obtain rfl : d = 4 := by omega
    refine Ev.succ ?_
    simp only [spec_l06Text.l0]
    exact Ev.neg (by omega) (Ev.now _)
  | succ n ih =>
    intro d hd
    have hnext := ih (d + 1) (by omega)
    rw [textT] at hnext
    have hl := textT_len (ch s0 s1 W C) w h hw hh d
    refine Ev.succ ?_
    simp only [spec_l06Text.l0]
    refine Ev.pos (by omega) ?_
    by_cases h0 : d = 0
    · rw [if_pos h0] at hnext
      refine Ev.neg (by omega) (Ev.succ ?_)
      simp only [spec_l06Text.j1]
      have := T_grid s0 s1 W C hb w h hw hh e0 e1 d (by omega) (textT (ch s0 s1 W C) w h d) (by omega) _ hnext h 0 (by omega)
      simp only [gridT, List.append_nil] at this
      exact this
    · rw [if_neg h0] at hnext
      refine Ev.pos (by omega) (Ev.pos (by rw [strOfNums_size]; omega) ?_)
      rw [str_app _ 10 10 rfl]
      refine Ev.succ ?_
      simp only [spec_l06Text.j1]
      have := T_grid s0 s1 W C hb w h hw hh e0 e1 d (by omega) (textT (ch s0 s1 W C) w h d ++ [10]) (by rw [List.length_append]; simp only [List.length_cons, List.length_nil]; omega) _ hnext h 0 (by omega)
      simp only [gridT, List.append_nil] at this
      exact this
theorem G_row (d : Nat) (hd : d < 4) (y : Nat) (hy : y < h) (A : List Int) (hA : A.length ≤ 900) (r : ByteArray) (hr : Ev (fun k => impl_Room_grid__63.l0 k (A ++ rowT (ch s0 s1 W C (d : Int)) (y : Int) w ++ [10]) s1 ((y + 1 : Nat) : Int) s0 s1 W C (d : Int) s0 s1 W) r) :
    ∀ n x : Nat, x + n = w → Ev (fun k => impl_Room_grid__63.l1 k (A ++ rowT (ch s0 s1 W C (d : Int)) (y : Int) x) (y : Int) s1 (y : Int) s0 (x : Int) s0 s1 W C (d : Int) s0 s1 W) r := by
  intro n
  induction n with
  | zero =>
    intro x hx
    obtain rfl : x = w := by omega
    refine Ev.succ ?_
    simp only [impl_Room_grid__63.l1]
    refine Ev.neg (by omega) (Ev.pos ?_ ?_)
    · rw [List.length_append, rowT_len]; omega
    · rw [i8_wnat y (by omega)]
      exact hr
  | succ n ih =>
    intro x hx
    have hnext := ih (x + 1) (by omega)
    rw [rowT, ← List.append_assoc] at hnext
    refine Ev.succ ?_
    simp only [impl_Room_grid__63.l1]
    refine Ev.pos (by omega) ?_
    rw [Clo_i s0 s1 W C hb w h hw hh e0 e1 d hd x y (by omega) (by omega), i8_wnat x (by omega)]
    simp only [Option.bind_some]
    refine Ev.pos ?_ hnext
    rw [List.length_append, rowT_len]; omega
theorem G_all (d : Nat) (hd : d < 4) : Ev (fun k => impl_Room_grid__63.f k s0 s1 W s0 s1 W C (d : Int)) (strOfNums (gridT (ch s0 s1 W C (d : Int)) w h)) := by
  have key : ∀ n y : Nat, y + n = h → Ev (fun k => impl_Room_grid__63.l0 k (gridT (ch s0 s1 W C (d : Int)) w y) s1 (y : Int) s0 s1 W C (d : Int) s0 s1 W) (strOfNums (gridT (ch s0 s1 W C (d : Int)) w h)) := by
    intro n
    induction n with
    | zero =>
      intro y hy
      obtain rfl : y = h := by omega
      refine Ev.succ ?_
      simp only [impl_Room_grid__63.l0]
      exact Ev.neg (by omega) (Ev.now _)
    | succ n ih =>
      intro y hy
      have hnext := ih (y + 1) (by omega)
      rw [gridT] at hnext
      have hl := gridT_len (ch s0 s1 W C (d : Int)) w hw y
      refine Ev.succ ?_
      simp only [impl_Room_grid__63.l0]
      refine Ev.pos (by omega) ?_
      have := G_row s0 s1 W C hb w h hw hh e0 e1 d hd y (by omega) (gridT (ch s0 s1 W C (d : Int)) w y) (by omega) _ hnext w 0 (by omega)
      simp only [rowT, List.append_nil] at this
      exact this
  exact key h 0 (by omega)
theorem I_all : Ev (fun k => impl_CrowdText.l0 k [] 0 s0 s1 W C) (strOfNums (textT (ch s0 s1 W C) w h 4)) := by
  have g0 := G_all s0 s1 W C hb w h hw hh e0 e1 0 (by omega)
  have g1 := G_all s0 s1 W C hb w h hw hh e0 e1 1 (by omega)
  have g2 := G_all s0 s1 W C hb w h hw hh e0 e1 2 (by omega)
  have g3 := G_all s0 s1 W C hb w h hw hh e0 e1 3 (by omega)
  have hlen := textT_len (ch s0 s1 W C) w h hw hh 4
  have hj : Lib.join (List.map (fun x : ByteArray => x.data.toList) [strOfNums (gridT (ch s0 s1 W C ((0 : Nat) : Int)) w h), strOfNums (gridT (ch s0 s1 W C ((1 : Nat) : Int)) w h), strOfNums (gridT (ch s0 s1 W C ((2 : Nat) : Int)) w h), strOfNums (gridT (ch s0 s1 W C ((3 : Nat) : Int)) w h)]) (⟨#[10]⟩ : ByteArray).data.toList = (textT (ch s0 s1 W C) w h 4).map fun n => UInt8.ofNat n.toNat := by
    simp only [List.map_cons, List.map_nil, Lib.join_cons, Lib.joinTail, strOfNums_data, textT]
    simp
  refine Ev.succ ?_
  simp only [impl_CrowdText.l0]
  refine Ev.pos (by omega) (Ev.bind g0 (Ev.pos (by simp) ?_))
  rw [show wrap64 (0 + 1) = ((1 : Nat) : Int) from wnat 0 4 (by omega) (by omega)]
  refine Ev.succ ?_
  simp only [impl_CrowdText.l0]
  refine Ev.pos (by omega) (Ev.bind g1 (Ev.pos (by simp) ?_))
  rw [show wrap64 (((1 : Nat) : Int) + 1) = ((2 : Nat) : Int) from wnat 1 4 (by omega) (by omega)]
  refine Ev.succ ?_
  simp only [impl_CrowdText.l0]
  refine Ev.pos (by omega) (Ev.bind g2 (Ev.pos (by simp) ?_))
  rw [show wrap64 (((2 : Nat) : Int) + 1) = ((3 : Nat) : Int) from wnat 2 4 (by omega) (by omega)]
  refine Ev.succ ?_
  simp only [impl_CrowdText.l0]
  refine Ev.pos (by omega) (Ev.bind g3 (Ev.pos (by simp) ?_))
  rw [show wrap64 (((3 : Nat) : Int) + 1) = ((4 : Nat) : Int) from wnat 3 4 (by omega) (by omega)]
  refine Ev.succ ?_
  simp only [impl_CrowdText.l0]
  refine Ev.neg (by omega) ?_
  simp only [List.nil_append, List.cons_append]
  unfold strings_Join.f
  rw [hj, if_pos ⟨by simp, by rw [List.length_map]; omega⟩]
  exact Ev.now _
end
theorem CrowdText_both (s0 s1 : Int) (W : LA 10) (C : LA 40) (hr : RB s0 s1 W) (hc : CB C) : ∃ r, Ev (fun k => spec_CrowdText.f k s0 s1 W C) r ∧ Ev (fun k => impl_CrowdText.f k s0 s1 W C) r := by
  obtain ⟨b, h1, h2, h3⟩ := Valid_core s0 s1 W C hr.1 hr.2.1 hr.2.2 hc
  cases b with
  | false =>
    refine ⟨⟨#[]⟩, ?_, ?_⟩
    · unfold spec_CrowdText.f
      exact Ev.bind h1 (Ev.neg (by simp) (Ev.now _))
    · unfold impl_CrowdText.f
      exact Ev.bind h2 (Ev.neg (by simp) (Ev.now _))
  | true =>
    obtain ⟨w, h, e0, e1, hw, hh, _⟩ := h3 rfl
    refine ⟨strOfNums (textT (ch s0 s1 W C) w h 4), ?_, ?_⟩
    · unfold spec_CrowdText.f spec_l06Text.f
      exact Ev.bind h1 (Ev.pos rfl (Ev.bind (T_all s0 s1 W C hr.2.2 w h hw hh e0 e1 4 0 rfl) (Ev.now _)))
    · unfold impl_CrowdText.f
      exact Ev.bind h2 (Ev.pos rfl (I_all s0 s1 W C hr.2.2 w h hw hh e0 e1))
end Go.Proofs.Ytdedijjbdkoekaa.Q
end
section
namespace Go.Proofs.Ytdedijjbdkoekaa.Q
open Go.RowKit Go.Proofs.YtdedijjbdkoekaaW.PrintWords Go.Proofs.YtdedijjbdkoekaaW.PrintLast Go.Proofs.YtdedijjbdkoekaaW.PrintMore Go.Proofs.Ytdedijjbdkoekaa.La Go.Proofs.Ytdedijjbdkoekaa.PB
set_option linter.unusedVariables false
set_option linter.unusedSimpArgs false
theorem ext_rd {n : Nat} {A B : LA n} (h : ∀ j : Nat, j < n → rd A.l (j : Int) = rd B.l (j : Int)) : A = B := by
  apply LA.ext_l
  apply List.ext_getElem (by rw [A.h, B.h])
  intro j h1 h2
  have hj : j < n := by rw [A.h] at h1; exact h1
  have := h j hj
  rw [rd_nat, rd_nat, List.getD_eq_getElem?_getD, List.getD_eq_getElem?_getD, List.getElem?_eq_getElem h1, List.getElem?_eq_getElem h2] at this
  exact this
theorem toU_ev (W : LA 10) : Ev (fun k => laws_toUint16A10.f k W) W := by
  unfold laws_toUint16A10.f
  have key : ∀ (m i : Nat) (X : LA 10), i + m = 10 → (∀ j : Nat, j < i → rd X.l (j : Int) = rd W.l (j : Int)) → Ev (fun k => laws_toUint16A10.l0 k (i : Int) W X) W := by
    intro m
    induction m with
    | zero =>
      intro i X hi hX
      obtain rfl : i = 10 := by omega
      refine Ev.succ ?_
      simp only [laws_toUint16A10.l0]
      rw [ext_rd hX]
      exact Ev.neg (by omega) (Ev.now _)
    | succ m ih =>
      intro i X hi hX
      refine Ev.succ ?_
      simp only [laws_toUint16A10.l0]
      rw [wnat i 10 (by omega) (by omega)]
      refine Ev.pos (by omega) (Ev.pos (by omega) (ih (i + 1) _ (by omega) (fun j hj => ?_)))
      by_cases e : j = i
      · subst e
        exact rd_set_same X _ _ (by omega) (by omega)
      · rw [rd_set_other X _ _ _ (by omega) (by omega) (by omega)]
        exact hX j (by omega)
  exact key 10 0 _ rfl (fun j hj => by omega)
theorem toRoom_ev (s0 s1 : Int) (W : LA 10) : Ev (fun k => laws_toRoom.f k s0 s1 W) (s0, s1, W) := by
  unfold laws_toRoom.f
  exact Ev.bind (toU_ev W) (Ev.now _)
end Go.Proofs.Ytdedijjbdkoekaa.Q
end
section
namespace Go.Proofs.Ytdedijjbdkoekaa.Q
open Go.RowKit Go.Proofs.YtdedijjbdkoekaaW.PrintWords Go.Proofs.YtdedijjbdkoekaaW.PrintLast Go.Proofs.YtdedijjbdkoekaaW.PrintMore Go.Proofs.Ytdedijjbdkoekaa.La Go.Proofs.Ytdedijjbdkoekaa.PB
set_option linter.unusedVariables false
set_option linter.unusedSimpArgs false
theorem rd_setRow {n : Nat} (W : LA n) (m : Nat) (a : Int) (R : LA m) (j : Nat) (hj : j < n) : rd (W.setRow m a R).l (j : Int) = if a * m ≤ (j : Int) ∧ (j : Int) < a * m + m then rd R.l ((j : Int) - a * m) else rd W.l (j : Int) := by
  show ((List.range n).map (fun j : Nat => if a * m ≤ (j : Int) ∧ (j : Int) < a * m + m then rd R.l ((j : Int) - a * m) else rd W.l (j : Int))).getD ((j : Int)).toNat 0 = _
  rw [show ((j : Int)).toNat = j by omega, List.getD_eq_getElem?_getD, List.getElem?_map, List.getElem?_range hj]
  rfl
theorem toCrowd_ev (C : LA 40) : Ev (fun k => laws_toCrowd.f k C) C := by
  unfold laws_toCrowd.f
  have key : ∀ (m i : Nat) (X : LA 40), i + m = 4 → (∀ j : Nat, j < i * 10 → rd X.l (j : Int) = rd C.l (j : Int)) → Ev (fun k => laws_toCrowd.l0 k (i : Int) C X) C := by
    intro m
    induction m with
    | zero =>
      intro i X hi hX
      obtain rfl : i = 4 := by omega
      refine Ev.succ ?_
      simp only [laws_toCrowd.l0]
      rw [ext_rd hX]
      exact Ev.neg (by omega) (Ev.now _)
    | succ m ih =>
      intro i X hi hX
      refine Ev.succ ?_
      simp only [laws_toCrowd.l0]
      rw [wnat i 4 (by omega) (by omega)]
      refine Ev.pos (by omega) (Ev.pos (by omega) (Ev.bind (toU_ev _) (ih (i + 1) _ (by omega) (fun j hj => ?_))))
      rw [rd_setRow _ _ _ _ j (by omega)]
      by_cases e : i * 10 ≤ j
      · rw [if_pos (by omega), rd_row C 10 _ _ (by omega) (by omega)]
        congr 1
        omega
      · rw [if_neg (by omega)]
        exact hX j (by omega)
  exact key 4 0 _ rfl (fun j hj => by omega)
end Go.Proofs.Ytdedijjbdkoekaa.Q
end
section
namespace Go.Proofs.Ytdedijjbdkoekaa.Q
open Go.RowKit Go.Proofs.YtdedijjbdkoekaaW.PrintWords Go.Proofs.YtdedijjbdkoekaaW.PrintLast Go.Proofs.YtdedijjbdkoekaaW.PrintMore Go.Proofs.Ytdedijjbdkoekaa.La Go.Proofs.Ytdedijjbdkoekaa.PB
set_option linter.unusedVariables false
set_option linter.unusedSimpArgs false
theorem FnExactCrowdText (s0 s1 : Int) (W : LA 10) (C : LA 40) (hr : RB s0 s1 W) (hc : CB C) : Ev (fun k => laws_FnExactCrowdText.f k s0 s1 W C) true := by
  obtain ⟨r, h1, h2⟩ := CrowdText_both s0 s1 W C hr hc
  unfold laws_FnExactCrowdText.f
  exact Ev.bind (toRoom_ev s0 s1 W) (Ev.bind (toCrowd_ev C) (Ev.bind h1 (Ev.bind (toRoom_ev s0 s1 W) (Ev.bind (toCrowd_ev C) (Ev.bind h2 (Ev.pos rfl (Ev.now _)))))))
end Go.Proofs.Ytdedijjbdkoekaa.Q
end
section
namespace Go.Proofs.Ytdedijjbdkoekaa.fnExactCrowdText
open Go.ChangeShapes Go.WideShapes Go.ChangeAt Go.RowKit Go.Proofs.YtdedijjbdkoekaaW.PrintWords Go.Proofs.YtdedijjbdkoekaaW.PrintLast Go.Proofs.Ytdedijjbdkoekaa.La Go.Proofs.Ytdedijjbdkoekaa.Rw Go.Proofs.Ytdedijjbdkoekaa.PB
open Go.ChangeMaps (open_string shut_string)
set_option linter.unusedVariables false
set_option maxRecDepth 100000 in
set_option maxHeartbeats 1000000 in
theorem lifted (os : Os) (started : os.Started) (H : Type) (enc : TypeId × Value → H) :
    ReturnsInHanded {} Try.checked os 9 .any (Rows.fnExactCrowdTextSpec.pre6 enc Try.prog Try.f9 Rows.fnExactCrowdTextRow.domain false) (Rows.fnExactCrowdTextSpec.post enc Try.prog Try.f9 false true false false) := by
  refine returnsInHanded_of_change_sized (C := Try.checked) own started (by kernel_rfl) Try.func9
    (ChangeSpec.witness6 (enc := enc) (C := Try.checked) false ⟨#[], #[.agg #[.int .i8 0, .int .i8 0, .int .u16 0, .int .u16 0, .int .u16 0, .int .u16 0, .int .u16 0, .int .u16 0, .int .u16 0, .int .u16 0, .int .u16 0, .int .u16 0], .agg #[.int .u16 0, .int .u16 0, .int .u16 0, .int .u16 0, .int .u16 0, .int .u16 0, .int .u16 0, .int .u16 0, .int .u16 0, .int .u16 0, .int .u16 0, .int .u16 0, .int .u16 0, .int .u16 0, .int .u16 0, .int .u16 0, .int .u16 0, .int .u16 0, .int .u16 0, .int .u16 0, .int .u16 0, .int .u16 0, .int .u16 0, .int .u16 0, .int .u16 0, .int .u16 0, .int .u16 0, .int .u16 0, .int .u16 0, .int .u16 0, .int .u16 0, .int .u16 0, .int .u16 0, .int .u16 0, .int .u16 0, .int .u16 0, .int .u16 0, .int .u16 0, .int .u16 0, .int .u16 0]], []⟩ 8 (by kernel_rfl) (by kernel_rfl) (by kernel_rfl) (by kernel_rfl)) ?_
  intro W base args ds gs before hval0 hW hcnd hsz0 _
  have hval : ∀ (j : Nat) t v, Try.f9.params[j]? = some t → args[j]? = some v → Value.okWide Try.prog W .any base t v := hval0
  have hW' := hW
  obtain ⟨p, q, hA0, hV, rfl, hfz, hnd⟩ := hW
  have hA : DataW.TrodAll enc Try.prog W 0 (fun _ => true) true Try.f9.params.toList args.toList ds p := hA0
  rw [Try.params9] at hA hval
  obtain ⟨v0, vs0, d0, ds0, p0, q0, hargs, rfl, rfl, h0, r0⟩ := trodAll_cons hA
  obtain ⟨v1, vs1, d1, ds1, p1, q1, rfl, rfl, rfl, h1, r1⟩ := trodAll_cons r0
  obtain ⟨rfl, rfl, rfl⟩ := trodAll_nil r1
  obtain rfl : args = #[v0, v1] := by cases args; simp_all
  obtain ⟨rfl, rfl⟩ := trodVars_none hV
  have k0 := h0
  have lt0 : ∀ x ∈ p0, x.block < W.heap.size := by obtain ⟨m, hm⟩ := k0; exact DataW.trod_lt m _ _ _ hm
  obtain ⟨a0_0, a0_1, a0_2, rfl, w0_0, w0_1, w0_2⟩ := openV37 (hval 0 37 v0 rfl rfl) h0
  have k1 := h1
  have lt1 : ∀ x ∈ p1, x.block < W.heap.size := by obtain ⟨m, hm⟩ := k1; exact DataW.trod_lt m _ _ _ hm
  obtain ⟨a1, rfl, w1⟩ := openV24 (hval 1 24 v1 rfl rfl) h1
  clear hA0 hval0 hsz0
  obtain ⟨k, hk⟩ := Ev.rounds (Q.FnExactCrowdText a0_0 a0_1 a0_2 a1 (Q.rb_mk w0_0 w0_1 w0_2) (Q.cb_mk w1))
  refine (laws_FnExactCrowdText.calls k a0_0 a0_1 a0_2 a1 true W  hk).mono fun e W' ⟨he, bel0⟩ => ?_
  subst he
  have bel : Below W.heap.size W W' := by first | exact bel0 | exact bel0.below
  exact ⟨_, rfl, _, _, _, [], _, [], hW', trodAll_mk1 (shut_bool Try.underlying4 _), (trodAll_cons_mk (Below.trod laidOut (by kernel_rfl) (of_decide_eq_true (by kernel_rfl)) k0 bel lt0) (trodAll_cons_mk (Below.trod laidOut (by kernel_rfl) (of_decide_eq_true (by kernel_rfl)) k1 bel lt1) trodAll_mk0)), rfl, bel.frame _, fun h => by cases h⟩
theorem over : Rows.fnExactCrowdTextRow.holds Try.pinned (OpenSpec.ofChange Rows.fnExactCrowdTextSpec) :=
  OpenClaim.holds_of_wide 9 Try.f9 rfl rfl rfl rfl rfl rfl rfl ⟨rfl, rfl, rfl, rfl, rfl⟩ rfl rfl rfl rfl rfl (by kernel_rfl) Try.func9 (by kernel_rfl)
    (of_decide_eq_true (by kernel_rfl)) (by unfold Func.isWrapper; first | (rw [if_pos (by decide +kernel)]; kernel_rfl) | (rw [if_neg (by decide +kernel)]; exact ⟨rfl, rfl⟩))
    (fun os started H enc _ => lifted os started H enc)
end Go.Proofs.Ytdedijjbdkoekaa.fnExactCrowdText
namespace Go.Proofs.Ytdedijjbdkoekaa
theorem fnExactCrowdText_holds : Rows.FnExactCrowdTextSaid := fnExactCrowdText.over
end Go.Proofs.Ytdedijjbdkoekaa
end
