/- The statement FnExactSpotsOf of this program: what its proof uses, part 9 of 11. The call returns true for all arguments. No condition of its own. -/
import Derived.IntWalk
import Derived.Test.YtdedijjbdkoekaaZFnExactSpotsOf7
section
namespace Go.Proofs.Ytdedijjbdkoekaa.Q
open Go.RowKit Go.Proofs.YtdedijjbdkoekaaW.PrintWords Go.Proofs.YtdedijjbdkoekaaW.PrintLast
set_option linter.unusedVariables false
set_option linter.unusedSimpArgs false
theorem wnat (i n : Nat) (h : i < n) (hn : n ≤ 9223372036854775807) : wrap64 ((i : Int) + 1) = ((i + 1 : Nat) : Int) := by unfold wrap64; omega
theorem wint (a : Int) (h0 : -9223372036854775808 ≤ a) (h1 : a ≤ 9223372036854775807) : wrap64 a = a := by unfold wrap64; omega
theorem Ev.round {α : Type} {g f : Nat → Option α} {r : α} (k : Ev f r) (h : ∀ k, g (k + 1) = f k) : Ev g r := Ev.step h k
theorem Ev.eq {α : Type} {g : Nat → Option α} {r r' : α} (h : Ev g r) (e : r = r') : Ev g r' := e ▸ h
theorem Ev.pos {α : Type} {c : Prop} [Decidable c] {f g : Nat → Option α} {r : α} (hc : c) (h : Ev f r) : Ev (fun k => if c then f k else g k) r := by simp only [hc, if_true]; exact h
theorem Ev.neg {α : Type} {c : Prop} [Decidable c] {f g : Nat → Option α} {r : α} (hc : ¬ c) (h : Ev g r) : Ev (fun k => if c then f k else g k) r := by simp only [hc, if_false]; exact h
end Go.Proofs.Ytdedijjbdkoekaa.Q
end
section
namespace Go.Proofs.Ytdedijjbdkoekaa.Q
open Go.RowKit Go.Proofs.YtdedijjbdkoekaaW.PrintWords Go.Proofs.YtdedijjbdkoekaaW.PrintLast Go.Proofs.Ytdedijjbdkoekaa.PA
set_option linter.unusedVariables false
set_option linter.unusedSimpArgs false
def inC (a lo hi : Int) : Bool := decide (lo ≤ a) && decide (a ≤ hi)
theorem In_c (a lo hi : Int) : spec_l00In.f a lo hi = some (inC a lo hi) := by
  unfold spec_l00In.f inC
  split
  · rename_i h; simp [h]
  · rename_i h; simp [h]
theorem Ev.succ {α : Type} {g : Nat → Option α} {r : α} (h : Ev (fun k => g (k + 1)) r) : Ev g r := Ev.step (fun _ => rfl) h
theorem getD_mem {α : Type} (l : List α) (i : Nat) (d : α) (h : i < l.length) : l.getD i d ∈ l := by
  simp [List.getD_eq_getElem?_getD, List.getElem?_eq_getElem h]
theorem drop_get {α : Type} (xs : List α) (i : Nat) (d : α) (h : i < xs.length) : xs.drop i = xs.getD i d :: xs.drop (i + 1) := by
  rw [List.drop_eq_getElem_cons h]
  simp [List.getD_eq_getElem?_getD, List.getElem?_eq_getElem h]
theorem rd_set (x : List Int) (j v : Int) (h0 : 0 ≤ j) (h1 : j < x.length) : rd (x.set j.toNat v) j = v := by
  have : j.toNat < x.length := by omega
  simp [rd, List.getD_eq_getElem?_getD, List.getElem?_set, this]
end Go.Proofs.Ytdedijjbdkoekaa.Q
end
section
namespace Go.Proofs.Ytdedijjbdkoekaa.Q
open Go.RowKit Go.Proofs.YtdedijjbdkoekaaW.PrintWords Go.Proofs.YtdedijjbdkoekaaW.PrintLast Go.Proofs.YtdedijjbdkoekaaW.PrintMore Go.Proofs.Ytdedijjbdkoekaa.PA
set_option linter.unusedVariables false
set_option linter.unusedSimpArgs false
set_option maxRecDepth 100000 in
theorem wrap_u16 (n : Int) : IntKind.u16.wrap n = n % 65536 := by simp [IntKind.wrap, IntKind.bits, IntKind.signed]
theorem wraps_u16 (n : Int) (h₀ : 0 ≤ n) (h₁ : n < 2 ^ 16) : IntKind.u16.wrap n = n := by rw [wrap_u16]; omega
theorem u16_and1 {x : Int} (h₀ : 0 ≤ x) (h₁ : x < 65536) : Go.bits .and .u16 x 1 = x % 2 := bits_mask .u16 16 (by decide) wraps_u16 1 (by decide) x h₀ h₁
def bitV (v : Int) (x : Nat) : Int := v / 2 ^ x % 2
theorem shr_bit {v : Int} (h₀ : 0 ≤ v) (h₁ : v < 65536) {x : Nat} (hx : x < 10) : Go.bits .and .u16 (shr .u16 v (x : Int)) 1 = bitV v x := by
  have hs : shr .u16 v (x : Int) = v / 2 ^ x := by
    unfold shr
    rw [Int.toNat_natCast, Nat.min_eq_left (show x ≤ IntKind.u16.bits by unfold IntKind.bits; dsimp only; omega)]
  have hp : (0 : Int) < 2 ^ x := Int.pow_pos (by omega)
  have h2 : v / 2 ^ x ≤ v := Int.ediv_le_self _ h₀
  rw [hs, u16_and1 (Int.ediv_nonneg h₀ (by omega)) (by omega)]
  rfl
theorem i8_small (x : Nat) (h : x < 128) : IntKind.i8.wrap (x : Int) = x := by simp [IntKind.wrap, IntKind.bits, IntKind.signed]; omega
theorem u64_small (x : Nat) (h : x < 128) : IntKind.u64.wrap (x : Int) = x := by simp [IntKind.wrap, IntKind.bits, IntKind.signed]; omega
theorem wf_u16 {n : Int} (h : (Lit.int .u16 n).wf = true) : 0 ≤ n ∧ n < 65536 := by
  simp [Lit.wf, IntKind.min, IntKind.max, IntKind.signed, IntKind.bits] at h
  omega
theorem wf_i8 {n : Int} (h : (Lit.int .i8 n).wf = true) : -128 ≤ n ∧ n ≤ 127 := by
  simp [Lit.wf, IntKind.min, IntKind.max, IntKind.signed, IntKind.bits] at h
  omega
theorem rd_bound (l : List Int) (h : ∀ x ∈ l, 0 ≤ x ∧ x < 65536) (i : Int) : 0 ≤ rd l i ∧ rd l i < 65536 := by
  unfold rd
  by_cases hi : i.toNat < l.length
  · exact h _ (getD_mem l _ 0 hi)
  · rw [List.getD_eq_getElem?_getD, List.getElem?_eq_none (by omega)]
    show (0:Int) ≤ 0 ∧ (0:Int) < 65536
    omega
end Go.Proofs.Ytdedijjbdkoekaa.Q
end
section
namespace Go.Proofs.Ytdedijjbdkoekaa.Q
open Go.RowKit Go.Proofs.YtdedijjbdkoekaaW.PrintWords Go.Proofs.YtdedijjbdkoekaaW.PrintLast Go.Proofs.YtdedijjbdkoekaaW.PrintMore Go.Proofs.Ytdedijjbdkoekaa.PA
set_option linter.unusedVariables false
set_option linter.unusedSimpArgs false
theorem Within_c (a lo hi : Int) : impl_within.f a lo hi = some (inC a lo hi) := by
  unfold impl_within.f inC
  split
  · rename_i h; simp [h]
  · rename_i h; simp [h]
theorem u64_int {a : Int} (h0 : 0 ≤ a) (h1 : a < 128) : IntKind.u64.wrap a = a := by
  obtain ⟨n, rfl⟩ : ∃ n : Nat, a = n := ⟨a.toNat, by omega⟩
  exact u64_small n (by omega)
theorem mn_small {a : Int} (h : a ≤ 10) : mn a 10 = a := by unfold mn; split <;> omega
theorem Ok_loop (s0 s1 s2 s3 s4 s5 s6 s7 s8 s9 s10 s11 : Int) (h0 : 1 ≤ s0 ∧ s0 ≤ 10) : ∀ n x : Nat, x + n = 10 → ∃ b, Ev (fun k => spec_l01Ok.l0 k (x : Int) s0 s1 s2 s3 s4 s5 s6 s7 s8 s9 s10 s11) b ∧ Ev (fun k => impl_ValidRoom.l0 k (x : Int) s0 s1 s2 s3 s4 s5 s6 s7 s8 s9 s10 s11 s2 s3 s4 s5 s6 s7 s8 s9 s10 s11) b := by
  have hu : IntKind.u64.wrap s0 = s0 := u64_int (by omega) (by omega)
  intro n
  induction n with
  | zero =>
    intro x hx
    obtain rfl : x = 10 := by omega
    refine ⟨true, Ev.succ ?_, Ev.succ ?_⟩
    · simp only [spec_l01Ok.l0]
      exact Ev.neg (by omega) (Ev.now true)
    · simp only [impl_ValidRoom.l0]
      exact Ev.neg (by omega) (Ev.now true)
  | succ n ih =>
    intro x hx
    obtain ⟨b, hb1, hb2⟩ := ih (x + 1) (by omega)
    by_cases p1 : shr .u16 (rd [s2, s3, s4, s5, s6, s7, s8, s9, s10, s11] (x : Int)) s0 = 0
    · by_cases p2 : (x : Int) ≥ wrap64 s1
      · by_cases p3 : rd [s2, s3, s4, s5, s6, s7, s8, s9, s10, s11] (x : Int) = 0
        · refine ⟨b, Ev.succ ?_, Ev.succ ?_⟩
          · simp only [spec_l01Ok.l0]
            rw [hu, wnat x 10 (by omega) (by omega)]
            exact Ev.pos (by omega) (Ev.pos (by omega) (Ev.pos (by omega) (Ev.pos p1 (Ev.pos p2 (Ev.pos p3 hb1)))))
          · simp only [impl_ValidRoom.l0]
            rw [wnat x 10 (by omega) (by omega)]
            exact Ev.pos (by omega) (Ev.pos (by omega) (Ev.pos (by omega) (Ev.pos p1 (Ev.pos p2 (Ev.pos p3 hb2)))))
        · refine ⟨false, Ev.succ ?_, Ev.succ ?_⟩
          · simp only [spec_l01Ok.l0]
            rw [hu]
            exact Ev.pos (by omega) (Ev.pos (by omega) (Ev.pos (by omega) (Ev.pos p1 (Ev.pos p2 (Ev.neg p3 (Ev.now false))))))
          · simp only [impl_ValidRoom.l0]
            exact Ev.pos (by omega) (Ev.pos (by omega) (Ev.pos (by omega) (Ev.pos p1 (Ev.pos p2 (Ev.neg p3 (Ev.now false))))))
      · refine ⟨b, Ev.succ ?_, Ev.succ ?_⟩
        · simp only [spec_l01Ok.l0]
          rw [hu, wnat x 10 (by omega) (by omega)]
          exact Ev.pos (by omega) (Ev.pos (by omega) (Ev.pos (by omega) (Ev.pos p1 (Ev.neg p2 hb1))))
        · simp only [impl_ValidRoom.l0]
          rw [wnat x 10 (by omega) (by omega)]
          exact Ev.pos (by omega) (Ev.pos (by omega) (Ev.pos (by omega) (Ev.pos p1 (Ev.neg p2 hb2))))
    · refine ⟨false, Ev.succ ?_, Ev.succ ?_⟩
      · simp only [spec_l01Ok.l0]
        rw [hu]
        exact Ev.pos (by omega) (Ev.pos (by omega) (Ev.pos (by omega) (Ev.neg p1 (Ev.now false))))
      · simp only [impl_ValidRoom.l0]
        exact Ev.pos (by omega) (Ev.pos (by omega) (Ev.pos (by omega) (Ev.neg p1 (Ev.now false))))
theorem Ok_both (s0 s1 s2 s3 s4 s5 s6 s7 s8 s9 s10 s11 : Int) (b0 : -128 ≤ s0 ∧ s0 ≤ 127) (b1 : -128 ≤ s1 ∧ s1 ≤ 127) :
    ∃ b, Ev (fun k => spec_l01Ok.f k s0 s1 s2 s3 s4 s5 s6 s7 s8 s9 s10 s11) b ∧ Ev (fun k => impl_ValidRoom.f k s0 s1 s2 s3 s4 s5 s6 s7 s8 s9 s10 s11) b ∧ (b = true → (1 ≤ s0 ∧ s0 ≤ 10) ∧ (1 ≤ s1 ∧ s1 ≤ 10)) := by
  have e0 := wint s0 (by omega) (by omega)
  have e1 := wint s1 (by omega) (by omega)
  have spec0 : ∀ b1 : Bool, Ev (fun k => spec_l01Ok.j0 k true s0 s1 s2 s3 s4 s5 s6 s7 s8 s9 s10 s11) false := fun _ => Ev.succ (by simp only [spec_l01Ok.j0]; exact Ev.pos trivial (Ev.now false))
  have impl0 : ∀ b1 : Bool, Ev (fun k => impl_ValidRoom.j0 k true s0 s1 s2 s3 s4 s5 s6 s7 s8 s9 s10 s11) false := fun _ => Ev.succ (by simp only [impl_ValidRoom.j0]; exact Ev.pos trivial (Ev.now false))
  by_cases h0 : inC s0 1 10 = true
  · by_cases h1 : inC s1 1 10 = true
    · have h0' : 1 ≤ s0 ∧ s0 ≤ 10 := by unfold inC at h0; simpa using h0
      have h1' : 1 ≤ s1 ∧ s1 ≤ 10 := by unfold inC at h1; simpa using h1
      obtain ⟨b, hb1, hb2⟩ := Ok_loop s0 s1 s2 s3 s4 s5 s6 s7 s8 s9 s10 s11 h0' 10 0 rfl
      refine ⟨b, ?_, ?_, fun _ => ⟨h0', h1'⟩⟩
      · unfold spec_l01Ok.f
        rw [e0, e1, In_c, In_c, h0, h1]
        simp only [Option.bind_some, if_true, Bool.not_true]
        refine Ev.succ ?_
        simp only [spec_l01Ok.j0]
        exact Ev.neg (by simp) hb1
      · unfold impl_ValidRoom.f
        rw [e0, e1, Within_c, Within_c, h0, h1]
        simp only [Option.bind_some, if_true, Bool.not_true]
        refine Ev.succ ?_
        simp only [impl_ValidRoom.j0]
        exact Ev.neg (by simp) hb2
    · have h1' : inC s1 1 10 = false := by simpa using h1
      refine ⟨false, ?_, ?_, fun h => by cases h⟩
      · unfold spec_l01Ok.f
        rw [e0, e1, In_c, In_c, h0, h1']
        simp only [Option.bind_some, if_true, Bool.not_false]
        exact spec0 true
      · unfold impl_ValidRoom.f
        rw [e0, e1, Within_c, Within_c, h0, h1']
        simp only [Option.bind_some, if_true, Bool.not_false]
        exact impl0 true
  · have h0' : inC s0 1 10 = false := by simpa using h0
    refine ⟨false, ?_, ?_, fun h => by cases h⟩
    · unfold spec_l01Ok.f
      rw [e0, In_c, h0']
      simp only [Option.bind_some, Bool.false_eq_true, if_false]
      exact spec0 true
    · unfold impl_ValidRoom.f
      rw [e0, Within_c, h0']
      simp only [Option.bind_some, Bool.false_eq_true, if_false]
      exact impl0 true
def fr (W : List Int) (x y : Int) : Bool := bitV (rd W y) x.toNat == 0
theorem shr_div {v : Int} {x : Nat} (hx : x < 10) : shr .u16 v (x : Int) = v / 2 ^ x := by
  unfold shr
  rw [Int.toNat_natCast, Nat.min_eq_left (show x ≤ IntKind.u16.bits by unfold IntKind.bits; dsimp only; omega)]
theorem Free_s (s0 s1 s2 s3 s4 s5 s6 s7 s8 s9 s10 s11 : Int) (hb : ∀ i, 0 ≤ rd [s2, s3, s4, s5, s6, s7, s8, s9, s10, s11] i ∧ rd [s2, s3, s4, s5, s6, s7, s8, s9, s10, s11] i < 65536) (h0 : s0 ≤ 10) (h1 : s1 ≤ 10) (x y : Nat) (hx : (x : Int) < s0) (hy : (y : Int) < s1) :
    spec_l01Free.f s0 s1 s2 s3 s4 s5 s6 s7 s8 s9 s10 s11 (x : Int) (y : Int) = some (fr [s2, s3, s4, s5, s6, s7, s8, s9, s10, s11] (x : Int) (y : Int)) := by
  unfold spec_l01Free.f spec_l01Is.f
  rw [wint s0 (by omega) (by omega), wint s1 (by omega) (by omega), wint (x : Int) (by omega) (by omega), wint (y : Int) (by omega) (by omega), wint (s0 - 1) (by omega) (by omega), wint (s1 - 1) (by omega) (by omega), In_c, In_c]
  rw [show inC (x : Int) 0 (s0 - 1) = true by unfold inC; simp; omega, show inC (y : Int) 0 (s1 - 1) = true by unfold inC; simp; omega]
  simp only [Option.bind_some, if_true]
  rw [if_pos (by omega), if_pos (by omega), u64_int (by omega) (by omega), if_pos (by omega), shr_div (by omega)]
  have hn : 0 ≤ rd [s2, s3, s4, s5, s6, s7, s8, s9, s10, s11] (y : Int) / 2 ^ x := Int.ediv_nonneg (hb _).1 (Int.le_of_lt (Int.pow_pos (by omega)))
  rw [Int.tmod_eq_emod_of_nonneg hn]
  unfold fr bitV
  rw [Int.toNat_natCast]
theorem Free_i (s0 s1 s2 s3 s4 s5 s6 s7 s8 s9 s10 s11 : Int) (hb : ∀ i, 0 ≤ rd [s2, s3, s4, s5, s6, s7, s8, s9, s10, s11] i ∧ rd [s2, s3, s4, s5, s6, s7, s8, s9, s10, s11] i < 65536) (h0 : s0 ≤ 10) (h1 : s1 ≤ 10) (x y : Nat) (hx : (x : Int) < s0) (hy : (y : Int) < s1) :
    impl_Room_isFree.f s0 s1 s2 s3 s4 s5 s6 s7 s8 s9 s10 s11 (x : Int) (y : Int) = some (fr [s2, s3, s4, s5, s6, s7, s8, s9, s10, s11] (x : Int) (y : Int)) := by
  unfold impl_Room_isFree.f impl_Room_isCell.f
  rw [wint s0 (by omega) (by omega), wint s1 (by omega) (by omega), wint (x : Int) (by omega) (by omega), wint (y : Int) (by omega) (by omega), mn_small h0, mn_small h1, wint (s0 - 1) (by omega) (by omega), wint (s1 - 1) (by omega) (by omega), Within_c, Within_c]
  rw [show inC (x : Int) 0 (s0 - 1) = true by unfold inC; simp; omega, show inC (y : Int) 0 (s1 - 1) = true by unfold inC; simp; omega]
  simp only [Option.bind_some, if_true]
  rw [if_pos (by omega), if_pos (by omega), if_pos (by omega), shr_bit (hb _).1 (hb _).2 (by omega)]
  unfold fr
  rw [Int.toNat_natCast]
def rowL (p : Int → Int → Bool) (y : Int) (acc : List S33) : Nat → List S33
  | 0 => acc
  | x + 1 => if p (x : Int) y then rowL p y acc x ++ [⟨(x : Int), y⟩] else rowL p y acc x
def cellsL (p : Int → Int → Bool) (w : Nat) : Nat → List S33
  | 0 => []
  | y + 1 => rowL p (y : Int) (cellsL p w y) w
theorem rowL_len (p : Int → Int → Bool) (y : Int) (acc : List S33) : ∀ x, (rowL p y acc x).length ≤ acc.length + x
  | 0 => by simp [rowL]
  | x + 1 => by have := rowL_len p y acc x; rw [rowL]; split <;> simp <;> omega
theorem cellsL_len (p : Int → Int → Bool) (w : Nat) : ∀ y, (cellsL p w y).length ≤ w * y
  | 0 => by simp [cellsL]
  | y + 1 => by
    have h1 := cellsL_len p w y
    have h2 := rowL_len p (y : Int) (cellsL p w y) w
    rw [cellsL, Nat.mul_succ]
    omega
theorem rowL_mem (p : Int → Int → Bool) (w : Nat) (y : Int) (acc : List S33) (P : S33 → Prop) (ha : ∀ q ∈ acc, P q) (hp : ∀ x : Nat, x < w → P ⟨(x : Int), y⟩) : ∀ x, x ≤ w → ∀ q ∈ rowL p y acc x, P q
  | 0, _ => ha
  | x + 1, hx => by
    have ih := rowL_mem p w y acc P ha hp x (by omega)
    rw [rowL]
    split
    · intro q hq
      rcases List.mem_append.1 hq with h | h
      · exact ih q h
      · obtain rfl := List.mem_singleton.1 h
        exact hp x (by omega)
    · exact ih
theorem cellsL_mem (p : Int → Int → Bool) (w h : Nat) : ∀ y, y ≤ h → ∀ q ∈ cellsL p w y, (0 ≤ q.f0 ∧ q.f0 < w) ∧ (0 ≤ q.f1 ∧ q.f1 < h)
  | 0, _ => fun q hq => by simp [cellsL] at hq
  | y + 1, hy => rowL_mem p w (y : Int) _ _ (cellsL_mem p w h y (by omega)) (fun x hx => ⟨⟨by simp, by dsimp only; omega⟩, ⟨by simp, by dsimp only; omega⟩⟩) w (Nat.le_refl _)
theorem Ev.cells (p : Int → Int → Bool) (w h : Nat) (hw : w ≤ 10) (hh : h ≤ 10) (L0 : Nat → List S33 → Int → Option (List S33)) (L1 : Nat → List S33 → Int → Int → Option (List S33))
    (e0 : ∀ acc (y : Nat) r, y < h → Ev (fun k => L1 k acc (y : Int) 0) r → Ev (fun k => L0 k acc (y : Int)) r) (e0' : ∀ acc, Ev (fun k => L0 k acc (h : Int)) acc)
    (e1 : ∀ acc (y x : Nat) r, y < h → x < w → acc.length ≤ 1000 → Ev (fun k => L1 k (if p (x : Int) (y : Int) then acc ++ [⟨(x : Int), (y : Int)⟩] else acc) (y : Int) ((x + 1 : Nat) : Int)) r → Ev (fun k => L1 k acc (y : Int) (x : Int)) r)
    (e1' : ∀ acc (y : Nat) r, y < h → Ev (fun k => L0 k acc ((y + 1 : Nat) : Int)) r → Ev (fun k => L1 k acc (y : Int) (w : Int)) r) :
    Ev (fun k => L0 k [] 0) (cellsL p w h) := by
  have inner : ∀ (n x y : Nat) (acc : List S33) r, x + n = w → y < h → acc.length ≤ 900 → Ev (fun k => L0 k (rowL p (y : Int) acc w) ((y + 1 : Nat) : Int)) r → Ev (fun k => L1 k (rowL p (y : Int) acc x) (y : Int) (x : Int)) r := by
    intro n
    induction n with
    | zero =>
      intro x y acc r hx hy hl hr
      obtain rfl : x = w := by omega
      exact e1' _ y r hy hr
    | succ n ih =>
      intro x y acc r hx hy hl hr
      have := rowL_len p (y : Int) acc x
      exact e1 _ y x r hy (by omega) (by omega) (ih (x + 1) y acc r (by omega) hy hl hr)
  have outer : ∀ (n y : Nat), y + n = h → Ev (fun k => L0 k (cellsL p w y) (y : Int)) (cellsL p w h) := by
    intro n
    induction n with
    | zero =>
      intro y hy
      obtain rfl : y = h := by omega
      exact e0' _
    | succ n ih =>
      intro y hy
      have h1 := cellsL_len p w y
      have h2 : w * y ≤ 10 * 10 := Nat.mul_le_mul hw (by omega)
      exact e0 _ y _ (by omega) (inner w 0 y _ _ (by omega) (by omega) (by omega) (ih (y + 1) (by omega)))
  exact outer h 0 (by omega)
theorem i8_wnat (x : Nat) (h : x < 10) : IntKind.i8.wrap ((x : Int) + 1) = ((x + 1 : Nat) : Int) := by
  have := i8_small (x + 1) (by omega)
  rw [← this]
  congr 1
theorem All_s (s0 s1 s2 s3 s4 s5 s6 s7 s8 s9 s10 s11 : Int) (hb : ∀ i, 0 ≤ rd [s2, s3, s4, s5, s6, s7, s8, s9, s10, s11] i ∧ rd [s2, s3, s4, s5, s6, s7, s8, s9, s10, s11] i < 65536) (w h : Nat) (hw : w ≤ 10) (hh : h ≤ 10) (e0 : s0 = w) (e1 : s1 = h) : Ev (fun k => spec_l01All.f k s0 s1 s2 s3 s4 s5 s6 s7 s8 s9 s10 s11) (cellsL (fr [s2, s3, s4, s5, s6, s7, s8, s9, s10, s11]) w h) := by
  show Ev (fun k => spec_l01All.l0 k [] 0 s0 s1 s2 s3 s4 s5 s6 s7 s8 s9 s10 s11) _
  refine Ev.cells (fr [s2, s3, s4, s5, s6, s7, s8, s9, s10, s11]) w h hw hh (fun k acc y => spec_l01All.l0 k acc y s0 s1 s2 s3 s4 s5 s6 s7 s8 s9 s10 s11) (fun k acc y x => spec_l01All.l1 k acc y x s0 s1 s2 s3 s4 s5 s6 s7 s8 s9 s10 s11) ?_ ?_ ?_ ?_
  · intro acc y r hy hr
    refine Ev.succ ?_
    simp only [spec_l01All.l0]
    exact Ev.pos (by omega) hr
  · intro acc
    refine Ev.succ ?_
    simp only [spec_l01All.l0]
    exact Ev.neg (by omega) (Ev.now acc)
  · intro acc y x r hy hx hl hr
    refine Ev.succ ?_
    simp only [spec_l01All.l1]
    refine Ev.pos (by omega) ?_
    rw [Free_s s0 s1 s2 s3 s4 s5 s6 s7 s8 s9 s10 s11 hb (by omega) (by omega) x y (by omega) (by omega), i8_wnat x (by omega)]
    simp only [Option.bind_some]
    cases hc : fr [s2, s3, s4, s5, s6, s7, s8, s9, s10, s11] (x : Int) (y : Int) with
    | true =>
      rw [hc] at hr
      simp only [if_true] at hr ⊢
      exact Ev.pos (by omega) hr
    | false =>
      rw [hc] at hr
      simp only [Bool.false_eq_true, if_false] at hr ⊢
      exact hr
  · intro acc y r hy hr
    refine Ev.succ ?_
    simp only [spec_l01All.l1]
    rw [i8_wnat y (by omega)]
    exact Ev.neg (by omega) hr
end Go.Proofs.Ytdedijjbdkoekaa.Q
end
section
namespace Go.Proofs.Ytdedijjbdkoekaa.Q
open Go.RowKit Go.Proofs.YtdedijjbdkoekaaW.PrintWords Go.Proofs.YtdedijjbdkoekaaW.PrintLast Go.Proofs.YtdedijjbdkoekaaW.PrintMore Go.Proofs.Ytdedijjbdkoekaa.PA
set_option linter.unusedVariables false
set_option linter.unusedSimpArgs false
def putL (C : List Int) (x y d : Int) : List Int := C.set (d * 10 + y).toNat (Go.bits .or .u16 (rd C (d * 10 + y)) (shl .u16 1 x))
def foldD (C : List Int) (p : S33) : Nat → List Int
  | 0 => C
  | d + 1 => putL (foldD C p d) p.f0 p.f1 (d : Int)
theorem foldD_len (C : List Int) (p : S33) : ∀ d, (foldD C p d).length = C.length
  | 0 => rfl
  | d + 1 => by rw [foldD, putL, List.length_set, foldD_len C p d]
def plainL : List S33 → List Int → List Int
  | [], C => C
  | p :: ps, C => plainL ps (foldD C p 4)
def T40 (C : List Int) : Int × Int × Int × Int × Int × Int × Int × Int × Int × Int × Int × Int × Int × Int × Int × Int × Int × Int × Int × Int × Int × Int × Int × Int × Int × Int × Int × Int × Int × Int × Int × Int × Int × Int × Int × Int × Int × Int × Int × Int := (C.getD 0 0, C.getD 1 0, C.getD 2 0, C.getD 3 0, C.getD 4 0, C.getD 5 0, C.getD 6 0, C.getD 7 0, C.getD 8 0, C.getD 9 0, C.getD 10 0, C.getD 11 0, C.getD 12 0, C.getD 13 0, C.getD 14 0, C.getD 15 0, C.getD 16 0, C.getD 17 0, C.getD 18 0, C.getD 19 0, C.getD 20 0, C.getD 21 0, C.getD 22 0, C.getD 23 0, C.getD 24 0, C.getD 25 0, C.getD 26 0, C.getD 27 0, C.getD 28 0, C.getD 29 0, C.getD 30 0, C.getD 31 0, C.getD 32 0, C.getD 33 0, C.getD 34 0, C.getD 35 0, C.getD 36 0, C.getD 37 0, C.getD 38 0, C.getD 39 0)
set_option maxRecDepth 100000 in
theorem put_s (C : List Int) (hC : C.length = 40) (x y d : Int) (hx : 0 ≤ x ∧ x < 10) (hy : 0 ≤ y ∧ y < 10) (hd : 0 ≤ d ∧ d < 4) : spec_l06Put.f (C.getD 0 0) (C.getD 1 0) (C.getD 2 0) (C.getD 3 0) (C.getD 4 0) (C.getD 5 0) (C.getD 6 0) (C.getD 7 0) (C.getD 8 0) (C.getD 9 0) (C.getD 10 0) (C.getD 11 0) (C.getD 12 0) (C.getD 13 0) (C.getD 14 0) (C.getD 15 0) (C.getD 16 0) (C.getD 17 0) (C.getD 18 0) (C.getD 19 0) (C.getD 20 0) (C.getD 21 0) (C.getD 22 0) (C.getD 23 0) (C.getD 24 0) (C.getD 25 0) (C.getD 26 0) (C.getD 27 0) (C.getD 28 0) (C.getD 29 0) (C.getD 30 0) (C.getD 31 0) (C.getD 32 0) (C.getD 33 0) (C.getD 34 0) (C.getD 35 0) (C.getD 36 0) (C.getD 37 0) (C.getD 38 0) (C.getD 39 0) x y d = some (T40 (putL C x y d)) := by
  unfold spec_l06Put.f
  rw [if_pos (by omega), if_pos (by omega), if_pos (by omega), if_pos (by omega), ← list40 C hC, u64_int hx.1 (by omega)]
  unfold tup40
  rw [if_pos (by rw [List.length_set, hC])]
  rfl
theorem rdT_get (l : List S33) (i : Nat) : rd_T33 l (i : Int) = l.getD i z33 := by simp [rd_T33]
theorem Plain_inner (l : List S33) (i : Nat) (hi : i < l.length) (hp : (0 ≤ (l.getD i z33).f0 ∧ (l.getD i z33).f0 < 10) ∧ (0 ≤ (l.getD i z33).f1 ∧ (l.getD i z33).f1 < 10)) (hl : l.length ≤ 1000) (C : List Int) (hC : C.length = 40) (r : Int × Int × Int × Int × Int × Int × Int × Int × Int × Int × Int × Int × Int × Int × Int × Int × Int × Int × Int × Int × Int × Int × Int × Int × Int × Int × Int × Int × Int × Int × Int × Int × Int × Int × Int × Int × Int × Int × Int × Int) :
    ∀ n d : Nat, d + n = 4 → Ev (fun k => spec_l06Plain.l0 k l ((i + 1 : Nat) : Int) ((foldD C (l.getD i z33) 4).getD 0 0) ((foldD C (l.getD i z33) 4).getD 1 0) ((foldD C (l.getD i z33) 4).getD 2 0) ((foldD C (l.getD i z33) 4).getD 3 0) ((foldD C (l.getD i z33) 4).getD 4 0) ((foldD C (l.getD i z33) 4).getD 5 0) ((foldD C (l.getD i z33) 4).getD 6 0) ((foldD C (l.getD i z33) 4).getD 7 0) ((foldD C (l.getD i z33) 4).getD 8 0) ((foldD C (l.getD i z33) 4).getD 9 0) ((foldD C (l.getD i z33) 4).getD 10 0) ((foldD C (l.getD i z33) 4).getD 11 0) ((foldD C (l.getD i z33) 4).getD 12 0) ((foldD C (l.getD i z33) 4).getD 13 0) ((foldD C (l.getD i z33) 4).getD 14 0) ((foldD C (l.getD i z33) 4).getD 15 0) ((foldD C (l.getD i z33) 4).getD 16 0) ((foldD C (l.getD i z33) 4).getD 17 0) ((foldD C (l.getD i z33) 4).getD 18 0) ((foldD C (l.getD i z33) 4).getD 19 0) ((foldD C (l.getD i z33) 4).getD 20 0) ((foldD C (l.getD i z33) 4).getD 21 0) ((foldD C (l.getD i z33) 4).getD 22 0) ((foldD C (l.getD i z33) 4).getD 23 0) ((foldD C (l.getD i z33) 4).getD 24 0) ((foldD C (l.getD i z33) 4).getD 25 0) ((foldD C (l.getD i z33) 4).getD 26 0) ((foldD C (l.getD i z33) 4).getD 27 0) ((foldD C (l.getD i z33) 4).getD 28 0) ((foldD C (l.getD i z33) 4).getD 29 0) ((foldD C (l.getD i z33) 4).getD 30 0) ((foldD C (l.getD i z33) 4).getD 31 0) ((foldD C (l.getD i z33) 4).getD 32 0) ((foldD C (l.getD i z33) 4).getD 33 0) ((foldD C (l.getD i z33) 4).getD 34 0) ((foldD C (l.getD i z33) 4).getD 35 0) ((foldD C (l.getD i z33) 4).getD 36 0) ((foldD C (l.getD i z33) 4).getD 37 0) ((foldD C (l.getD i z33) 4).getD 38 0) ((foldD C (l.getD i z33) 4).getD 39 0)) r → Ev (fun k => spec_l06Plain.l1 k l (i : Int) (d : Int) ((foldD C (l.getD i z33) d).getD 0 0) ((foldD C (l.getD i z33) d).getD 1 0) ((foldD C (l.getD i z33) d).getD 2 0) ((foldD C (l.getD i z33) d).getD 3 0) ((foldD C (l.getD i z33) d).getD 4 0) ((foldD C (l.getD i z33) d).getD 5 0) ((foldD C (l.getD i z33) d).getD 6 0) ((foldD C (l.getD i z33) d).getD 7 0) ((foldD C (l.getD i z33) d).getD 8 0) ((foldD C (l.getD i z33) d).getD 9 0) ((foldD C (l.getD i z33) d).getD 10 0) ((foldD C (l.getD i z33) d).getD 11 0) ((foldD C (l.getD i z33) d).getD 12 0) ((foldD C (l.getD i z33) d).getD 13 0) ((foldD C (l.getD i z33) d).getD 14 0) ((foldD C (l.getD i z33) d).getD 15 0) ((foldD C (l.getD i z33) d).getD 16 0) ((foldD C (l.getD i z33) d).getD 17 0) ((foldD C (l.getD i z33) d).getD 18 0) ((foldD C (l.getD i z33) d).getD 19 0) ((foldD C (l.getD i z33) d).getD 20 0) ((foldD C (l.getD i z33) d).getD 21 0) ((foldD C (l.getD i z33) d).getD 22 0) ((foldD C (l.getD i z33) d).getD 23 0) ((foldD C (l.getD i z33) d).getD 24 0) ((foldD C (l.getD i z33) d).getD 25 0) ((foldD C (l.getD i z33) d).getD 26 0) ((foldD C (l.getD i z33) d).getD 27 0) ((foldD C (l.getD i z33) d).getD 28 0) ((foldD C (l.getD i z33) d).getD 29 0) ((foldD C (l.getD i z33) d).getD 30 0) ((foldD C (l.getD i z33) d).getD 31 0) ((foldD C (l.getD i z33) d).getD 32 0) ((foldD C (l.getD i z33) d).getD 33 0) ((foldD C (l.getD i z33) d).getD 34 0) ((foldD C (l.getD i z33) d).getD 35 0) ((foldD C (l.getD i z33) d).getD 36 0) ((foldD C (l.getD i z33) d).getD 37 0) ((foldD C (l.getD i z33) d).getD 38 0) ((foldD C (l.getD i z33) d).getD 39 0)) r := by
  intro n
  induction n with
  | zero =>
    intro d hd h
    obtain rfl : d = 4 := by omega
    refine Ev.succ ?_
    simp only [spec_l06Plain.l1]
    rw [wnat i l.length hi (by omega)]
    exact Ev.neg (by omega) h
  | succ n ih =>
    intro d hd h
    refine Ev.succ ?_
    simp only [spec_l06Plain.l1]
    refine Ev.pos (by omega) (Ev.pos (by omega) (Ev.pos (by omega) ?_))
    rw [rdT_get, put_s (foldD C (l.getD i z33) d) ((foldD_len _ _ _).trans hC) _ _ (d : Int) hp.1 hp.2 ⟨by omega, by omega⟩, wnat d 4 (by omega) (by omega)]
    simp only [Option.bind_some]
    exact ih (d + 1) (by omega) h
theorem Plain_ev (l : List S33) (hm : ∀ q ∈ l, (0 ≤ q.f0 ∧ q.f0 < 10) ∧ (0 ≤ q.f1 ∧ q.f1 < 10)) (hl : l.length ≤ 1000) :
    ∀ (n i : Nat) (C : List Int), i + n = l.length → C.length = 40 → Ev (fun k => spec_l06Plain.l0 k l (i : Int) (C.getD 0 0) (C.getD 1 0) (C.getD 2 0) (C.getD 3 0) (C.getD 4 0) (C.getD 5 0) (C.getD 6 0) (C.getD 7 0) (C.getD 8 0) (C.getD 9 0) (C.getD 10 0) (C.getD 11 0) (C.getD 12 0) (C.getD 13 0) (C.getD 14 0) (C.getD 15 0) (C.getD 16 0) (C.getD 17 0) (C.getD 18 0) (C.getD 19 0) (C.getD 20 0) (C.getD 21 0) (C.getD 22 0) (C.getD 23 0) (C.getD 24 0) (C.getD 25 0) (C.getD 26 0) (C.getD 27 0) (C.getD 28 0) (C.getD 29 0) (C.getD 30 0) (C.getD 31 0) (C.getD 32 0) (C.getD 33 0) (C.getD 34 0) (C.getD 35 0) (C.getD 36 0) (C.getD 37 0) (C.getD 38 0) (C.getD 39 0)) (T40 (plainL (l.drop i) C)) := by
  intro n
  induction n with
  | zero =>
    intro i C hi hC
    obtain rfl : i = l.length := by omega
    rw [List.drop_length]
    refine Ev.succ ?_
    simp only [spec_l06Plain.l0]
    exact Ev.neg (by omega) (Ev.now _)
  | succ n ih =>
    intro i C hi hC
    have hil : i < l.length := by omega
    have hp := hm _ (getD_mem l i z33 hil)
    refine Ev.succ ?_
    simp only [spec_l06Plain.l0]
    refine Ev.pos (by omega) ?_
    rw [drop_get l i z33 hil]
    exact Plain_inner l i hil hp hl C hC _ 4 0 rfl (ih (i + 1) (foldD C (l.getD i z33) 4) (by omega) ((foldD_len _ _ _).trans hC))
theorem rd_set_ne (x : List Int) (i j v : Int) (h0 : 0 ≤ i) (h1 : 0 ≤ j) (h : i ≠ j) : rd (x.set i.toNat v) j = rd x j := by
  have : i.toNat ≠ j.toNat := by omega
  simp [rd, List.getD_eq_getElem?_getD, List.getElem?_set, this]
def InvC (C : List Int) (M : Nat → Nat → Nat → Bool) : Prop := C.length = 40 ∧ ∀ d y : Nat, d < 4 → y < 10 → ∃ n : Nat, rd C ((d : Int) * 10 + (y : Int)) = n ∧ n < 2 ^ 16 ∧ ∀ x : Nat, n.testBit x = M d x y
theorem shl_pow (x : Nat) (hx : x < 10) : shl .u16 1 (x : Int) = ((2 ^ x : Nat) : Int) := by
  unfold shl
  rw [Int.one_mul, Int.toNat_natCast, Nat.min_eq_left (show x ≤ IntKind.u16.bits by unfold IntKind.bits; dsimp only; omega), wrap_u16]
  have h3 : 2 ^ x ≤ 2 ^ 9 := Nat.pow_le_pow_right (by omega) (by omega)
  have h2 : (2 : Int) ^ x = ((2 ^ x : Nat) : Int) := by simp
  rw [h2]
  generalize 2 ^ x = m at h3 ⊢
  omega
theorem InvC.put {C : List Int} {M : Nat → Nat → Nat → Bool} (h : InvC C M) (x y d : Nat) (hx : x < 10) (hy : y < 10) (hd : d < 4) : InvC (putL C (x : Int) (y : Int) (d : Int)) (fun d' x' y' => M d' x' y' || (decide (d' = d) && decide (x' = x) && decide (y' = y))) := by
  obtain ⟨hl, hb⟩ := h
  refine ⟨by rw [putL, List.length_set, hl], fun d' y' hd' hy' => ?_⟩
  by_cases he : d' = d ∧ y' = y
  · obtain ⟨rfl, rfl⟩ := he
    obtain ⟨n, hn, hlt, ht⟩ := hb d' y' hd hy
    have hp : 2 ^ x < 2 ^ 16 := Nat.pow_lt_pow_right (by omega) (by omega)
    refine ⟨n ||| 2 ^ x, ?_, Nat.or_lt_two_pow hlt hp, fun x' => ?_⟩
    · rw [putL, rd_set _ _ _ (by omega) (by rw [hl]; omega), hn, shl_pow x hx]
      exact (bits_nat .u16 16 (by decide) wraps_u16 n (2 ^ x) hlt hp).2
    · rw [Nat.testBit_or, Nat.testBit_two_pow, ht x']
      by_cases hxx : x' = x
      · subst hxx; simp
      · simp [hxx, Ne.symm hxx]
  · obtain ⟨n, hn, hlt, ht⟩ := hb d' y' hd' hy'
    refine ⟨n, ?_, hlt, fun x' => ?_⟩
    · rw [putL, rd_set_ne _ _ _ _ (by omega) (by omega) (by omega), hn]
    · rw [ht x']
      by_cases h1 : d' = d
      · have h2 : ¬ y' = y := fun h2 => he ⟨h1, h2⟩
        simp [h2]
      · simp [h1]
theorem InvC.congr {C : List Int} {M M' : Nat → Nat → Nat → Bool} (h : InvC C M) (e : ∀ d x y, d < 4 → M d x y = M' d x y) : InvC C M' :=
  ⟨h.1, fun d y hd hy => by obtain ⟨n, h1, h2, h3⟩ := h.2 d y hd hy; exact ⟨n, h1, h2, fun x => (h3 x).trans (e d x y hd)⟩⟩
theorem InvC.fold {C : List Int} {M : Nat → Nat → Nat → Bool} (h : InvC C M) (p : S33) (x y : Nat) (hx : x < 10) (hy : y < 10) (e0 : p.f0 = x) (e1 : p.f1 = y) : ∀ d, d ≤ 4 → InvC (foldD C p d) (fun d' x' y' => M d' x' y' || (decide (d' < d) && decide (x' = x) && decide (y' = y)))
  | 0, _ => h.congr fun d' x' y' _ => by simp
  | d + 1, hd => by
    have ih := InvC.fold h p x y hx hy e0 e1 d (by omega)
    rw [foldD, e0, e1]
    refine (ih.put x y d hx hy (by omega)).congr fun d' x' y' _ => ?_
    by_cases h1 : d' < d
    · have h2 : ¬ d' = d := by omega
      have h3 : d' < d + 1 := by omega
      simp [h1, h2, h3]
    · by_cases h2 : d' = d
      · subst h2; simp
      · have h3 : ¬ d' < d + 1 := by omega
        simp [h1, h2, h3]
theorem InvC.plain : ∀ (l : List S33) {C : List Int} {M : Nat → Nat → Nat → Bool}, InvC C M → (∀ q ∈ l, (0 ≤ q.f0 ∧ q.f0 < 10) ∧ (0 ≤ q.f1 ∧ q.f1 < 10)) → InvC (plainL l C) (fun d x y => M d x y || l.any fun q => decide (q.f0 = (x : Int)) && decide (q.f1 = (y : Int)))
  | [], _, _, h, _ => h.congr fun d x y _ => by simp
  | p :: ps, C, M, h, hm => by
    have hp := hm p (by simp)
    obtain ⟨x, hx⟩ : ∃ n : Nat, p.f0 = n := ⟨p.f0.toNat, by omega⟩
    obtain ⟨y, hy⟩ : ∃ n : Nat, p.f1 = n := ⟨p.f1.toNat, by omega⟩
    have h1 := InvC.plain ps (h.fold p x y (by omega) (by omega) hx hy 4 (by omega)) (fun q hq => hm q (by simp [hq]))
    refine h1.congr fun d x' y' hd => ?_
    have e0 : decide (p.f0 = (x' : Int)) = decide (x' = x) := by rw [hx]; exact decide_eq_decide.2 ⟨fun h => by omega, fun h => by omega⟩
    have e1 : decide (p.f1 = (y' : Int)) = decide (y' = y) := by rw [hy]; exact decide_eq_decide.2 ⟨fun h => by omega, fun h => by omega⟩
    have e2 : decide (d < 4) = true := decide_eq_true hd
    rw [List.any_cons, e0, e1, e2, Bool.true_and, Bool.or_assoc]
theorem rd_zero (i : Int) : rd (List.replicate 40 0) i = 0 := by
  rw [rd, List.getD_eq_getElem?_getD, List.getElem?_replicate]
  split <;> rfl
theorem InvC.zero : InvC (List.replicate 40 0) (fun _ _ _ => false) :=
  ⟨by rw [List.length_replicate], fun d y hd hy => ⟨0, rd_zero _, by omega, fun x => Nat.zero_testBit x⟩⟩
theorem row_any (p : Int → Int → Bool) (y : Nat) (acc : List S33) (x' y' : Nat) : ∀ n : Nat, ((rowL p (y : Int) acc n).any fun q => decide (q.f0 = (x' : Int)) && decide (q.f1 = (y' : Int))) = ((acc.any fun q => decide (q.f0 = (x' : Int)) && decide (q.f1 = (y' : Int))) || (decide (x' < n) && decide (y' = y) && p (x' : Int) (y' : Int)))
  | 0 => by simp [rowL]
  | n + 1 => by
    have ih := row_any p y acc x' y' n
    rw [rowL]
    by_cases h1 : x' = n
    · subst h1
      by_cases h2 : y' = y
      · subst h2
        cases hp : p (x' : Int) (y' : Int) with
        | true => rw [if_pos rfl, List.any_append, ih]; simp
        | false => rw [if_neg (by simp), ih]; simp [hp]
      · split
        · rw [List.any_append, ih]
          have : ¬ (y : Int) = (y' : Int) := by omega
          simp [h2, this]
        · rw [ih]; simp [h2]
    · have hlt : decide (x' < n + 1) = decide (x' < n) := decide_eq_decide.2 ⟨fun h => by omega, fun h => by omega⟩
      have hne : ¬ (n : Int) = (x' : Int) := by omega
      rw [hlt]
      split
      · rw [List.any_append, ih]; simp [hne]
      · exact ih
theorem cells_any (p : Int → Int → Bool) (w : Nat) (x y : Nat) : ∀ h : Nat, ((cellsL p w h).any fun q => decide (q.f0 = (x : Int)) && decide (q.f1 = (y : Int))) = (decide (x < w) && decide (y < h) && p (x : Int) (y : Int))
  | 0 => by simp [cellsL]
  | h + 1 => by
    rw [cellsL, row_any, cells_any p w x y h]
    by_cases h1 : y < h
    · have h2 : ¬ y = h := by omega
      have h3 : y < h + 1 := by omega
      simp [h1, h2, h3]
    · by_cases h2 : y = h
      · subst h2; simp
      · have h3 : ¬ y < h + 1 := by omega
        simp [h1, h2, h3]
theorem plain_bits (W : List Int) (w h : Nat) (hw : w ≤ 10) (hh : h ≤ 10) : InvC (plainL (cellsL (fr W) w h) (List.replicate 40 0)) (fun d x y => decide (x < w) && decide (y < h) && fr W (x : Int) (y : Int)) := by
  have hm : ∀ q ∈ cellsL (fr W) w h, (0 ≤ q.f0 ∧ q.f0 < 10) ∧ (0 ≤ q.f1 ∧ q.f1 < 10) := fun q hq => by
    have := cellsL_mem (fr W) w h h (Nat.le_refl _) q hq
    omega
  exact (InvC.plain _ InvC.zero hm).congr fun d x y _ => by rw [cells_any, Bool.false_or]
end Go.Proofs.Ytdedijjbdkoekaa.Q
end
section
namespace Go.Proofs.Ytdedijjbdkoekaa.Q
open Go.RowKit Go.Proofs.YtdedijjbdkoekaaW.PrintWords Go.Proofs.YtdedijjbdkoekaaW.PrintLast Go.Proofs.YtdedijjbdkoekaaW.PrintMore Go.Proofs.Ytdedijjbdkoekaa.PA
set_option linter.unusedVariables false
set_option linter.unusedSimpArgs false
def RRe (f : Nat → Bool) (e : Bool) : Nat → Nat → Bool
  | 0, _ => e
  | n + 1, i => f i && RRe f e n (i + 1)
theorem RRe_and (f : Nat → Bool) (e : Bool) : ∀ n i, RRe f e n i = (RRe f true n i && e)
  | 0, _ => by simp [RRe]
  | n + 1, i => by rw [RRe, RRe, RRe_and f e n (i + 1), Bool.and_assoc]
theorem RRe_congr {f g : Nat → Bool} (e : Bool) : ∀ n i, (∀ j, i ≤ j → j < i + n → f j = g j) → RRe f e n i = RRe g e n i
  | 0, _, _ => rfl
  | n + 1, i, h => by rw [RRe, RRe, h i (by omega) (by omega), RRe_congr e n (i + 1) (fun j h1 h2 => h j (by omega) (by omega))]
theorem RRe_true (f : Nat → Bool) : ∀ n i, RRe f true n i = true ↔ ∀ j, i ≤ j → j < i + n → f j = true
  | 0, i => ⟨fun _ j h1 h2 => by omega, fun _ => rfl⟩
  | n + 1, i => by
    rw [RRe, Bool.and_eq_true, RRe_true f n (i + 1)]
    exact ⟨fun ⟨h1, h2⟩ j h3 h4 => by
      by_cases e : j = i
      · subst e; exact h1
      · exact h2 j (by omega) (by omega), fun h => ⟨h i (by omega) (by omega), fun j h1 h2 => h j (by omega) (by omega)⟩⟩
theorem Ev.loopB (L : Nat → Int → Option Bool) (f : Nat → Bool) (e : Bool) (N : Nat) (hstep : ∀ i : Nat, i < N → ∀ r, Ev (fun k => L k ((i + 1 : Nat) : Int)) r → Ev (fun k => L k (i : Int)) (f i && r)) (hend : Ev (fun k => L k (N : Int)) e) : Ev (fun k => L k 0) (RRe f e N 0) := by
  have key : ∀ n i : Nat, i + n = N → Ev (fun k => L k (i : Int)) (RRe f e n i) := by
    intro n
    induction n with
    | zero =>
      intro i hi
      obtain rfl : i = N := (by omega)
      exact hend
    | succ n ih => intro i hi; exact hstep i (by omega) _ (ih (i + 1) (by omega))
  exact key N 0 (by omega)
theorem andNot_zero (a b : Nat) (ha : a < 2 ^ 16) (hb : b < 2 ^ 16) : (Go.bits .andNot .u16 (a : Int) (b : Int) = 0) ↔ ∀ x, x < 16 → a.testBit x = true → b.testBit x = true := by
  have h16 : IntKind.u16.bits = 16 := rfl
  have e : Go.bits .andNot .u16 (a : Int) (b : Int) = (((BitVec.ofNat 16 a &&& ~~~ BitVec.ofNat 16 b).toNat : Nat) : Int) := by
    unfold Go.bits
    simp only [BitVec.ofInt_natCast]
    have hlt := (BitVec.ofNat 16 a &&& ~~~ BitVec.ofNat 16 b).isLt
    exact wraps_u16 _ (Int.natCast_nonneg _) (Int.lt_of_lt_of_le (Int.ofNat_lt.2 hlt) (by decide))
  rw [e]
  constructor
  · intro h x hx hax
    have h0 : (BitVec.ofNat 16 a &&& ~~~ BitVec.ofNat 16 b) = 0#16 := BitVec.toNat_eq.2 (by simpa using Int.ofNat.inj h)
    have h1 := congrArg (fun v => BitVec.getLsbD v x) h0
    simp only [BitVec.getLsbD_and, BitVec.getLsbD_not, BitVec.getLsbD_ofNat, BitVec.getLsbD_zero, hx, decide_true, Bool.true_and, hax] at h1
    simpa using h1
  · intro h
    have h0 : (BitVec.ofNat 16 a &&& ~~~ BitVec.ofNat 16 b) = 0#16 := BitVec.eq_of_getLsbD_eq (fun i hi => by
      simp only [BitVec.getLsbD_and, BitVec.getLsbD_not, BitVec.getLsbD_ofNat, BitVec.getLsbD_zero, hi, decide_true, Bool.true_and]
      cases h1 : a.testBit i with
      | false => simp
      | true => simp [h i hi h1])
    rw [h0]
    rfl
theorem bit16 (a : Nat) (ha : a < 2 ^ 16) (x : Nat) (hx : x < 16) : (Go.bits .and .u16 (shr .u16 (a : Int) (x : Int)) 1 = 1) ↔ a.testBit x = true := by
  have hs : shr .u16 (a : Int) (x : Int) = ((a / 2 ^ x : Nat) : Int) := by
    unfold shr
    rw [Int.toNat_natCast, Nat.min_eq_left (show x ≤ IntKind.u16.bits by unfold IntKind.bits; dsimp only; omega)]
    simp
  have hle : a / 2 ^ x ≤ a := Nat.div_le_self _ _
  rw [hs, Nat.testBit_eq_decide_div_mod_eq, decide_eq_true_iff]
  generalize a / 2 ^ x = q at hle ⊢
  rw [u16_and1 (by omega) (by omega)]
  omega
def freeB (W : List Int) (w h x y : Nat) : Bool := decide (x < w) && decide (y < h) && fr W (x : Int) (y : Int)
theorem isFree_c (s0 s1 s2 s3 s4 s5 s6 s7 s8 s9 s10 s11 : Int) (hb : ∀ i, 0 ≤ rd [s2, s3, s4, s5, s6, s7, s8, s9, s10, s11] i ∧ rd [s2, s3, s4, s5, s6, s7, s8, s9, s10, s11] i < 65536) (w h : Nat) (hw : w ≤ 10) (hh : h ≤ 10) (e0 : s0 = w) (e1 : s1 = h) (x y : Nat) (hx : x < 16) (hy : y < 10) : impl_Room_isFree.f s0 s1 s2 s3 s4 s5 s6 s7 s8 s9 s10 s11 (x : Int) (y : Int) = some (freeB [s2, s3, s4, s5, s6, s7, s8, s9, s10, s11] w h x y) := by
  unfold freeB
  by_cases h1 : x < w
  · by_cases h2 : y < h
    · rw [Free_i s0 s1 s2 s3 s4 s5 s6 s7 s8 s9 s10 s11 hb (by omega) (by omega) x y (by omega) (by omega)]
      simp [h1, h2]
    · unfold impl_Room_isFree.f impl_Room_isCell.f
      rw [wint s0 (by omega) (by omega), wint s1 (by omega) (by omega), wint (x : Int) (by omega) (by omega), wint (y : Int) (by omega) (by omega), mn_small (by omega), mn_small (by omega), wint (s0 - 1) (by omega) (by omega), wint (s1 - 1) (by omega) (by omega), Within_c, Within_c]
      rw [show inC (x : Int) 0 (s0 - 1) = true by unfold inC; simp; omega, show inC (y : Int) 0 (s1 - 1) = false by unfold inC; simp; omega]
      simp [h2]
  · unfold impl_Room_isFree.f impl_Room_isCell.f
    rw [wint s0 (by omega) (by omega), wint s1 (by omega) (by omega), wint (x : Int) (by omega) (by omega), wint (y : Int) (by omega) (by omega), mn_small (by omega), mn_small (by omega), wint (s0 - 1) (by omega) (by omega), wint (s1 - 1) (by omega) (by omega), Within_c]
    rw [show inC (x : Int) 0 (s0 - 1) = false by unfold inC; simp; omega]
    simp [h1]
theorem i8_wnat16 (x : Nat) (h : x < 16) : IntKind.i8.wrap ((x : Int) + 1) = ((x + 1 : Nat) : Int) := by
  have := i8_small (x + 1) (by omega)
  rw [← this]
  congr 1
def bitB (v : Int) (x : Nat) : Bool := decide (Go.bits .and .u16 (shr .u16 v (x : Int)) 1 = 1)
theorem idx26_v (c0 c1 c2 c3 c4 c5 c6 c7 c8 c9 c10 c11 c12 c13 c14 c15 c16 c17 c18 c19 c20 c21 c22 c23 c24 c25 c26 c27 c28 c29 c30 c31 c32 c33 c34 c35 c36 c37 c38 c39 : Int) (x : Nat) (hx : x < 4) (C : List Int) (hC : C = [c0, c1, c2, c3, c4, c5, c6, c7, c8, c9, c10, c11, c12, c13, c14, c15, c16, c17, c18, c19, c20, c21, c22, c23, c24, c25, c26, c27, c28, c29, c30, c31, c32, c33, c34, c35, c36, c37, c38, c39]) : idx26.f c0 c1 c2 c3 c4 c5 c6 c7 c8 c9 c10 c11 c12 c13 c14 c15 c16 c17 c18 c19 c20 c21 c22 c23 c24 c25 c26 c27 c28 c29 c30 c31 c32 c33 c34 c35 c36 c37 c38 c39 (x : Int) = some (rd C ((x : Int) * 10), rd C ((x : Int) * 10 + 1), rd C ((x : Int) * 10 + 2), rd C ((x : Int) * 10 + 3), rd C ((x : Int) * 10 + 4), rd C ((x : Int) * 10 + 5), rd C ((x : Int) * 10 + 6), rd C ((x : Int) * 10 + 7), rd C ((x : Int) * 10 + 8), rd C ((x : Int) * 10 + 9)) := by
  subst hC
  unfold idx26.f
  rw [if_pos (by omega), if_pos (by omega)]
theorem rd_rowv (C : List Int) (x : Int) (j : Nat) (hj : j < 10) : rd [rd C (x * 10), rd C (x * 10 + 1), rd C (x * 10 + 2), rd C (x * 10 + 3), rd C (x * 10 + 4), rd C (x * 10 + 5), rd C (x * 10 + 6), rd C (x * 10 + 7), rd C (x * 10 + 8), rd C (x * 10 + 9)] (j : Int) = rd C (x * 10 + j) := by
  rcases (show j = 0 ∨ j = 1 ∨ j = 2 ∨ j = 3 ∨ j = 4 ∨ j = 5 ∨ j = 6 ∨ j = 7 ∨ j = 8 ∨ j = 9 by omega) with rfl | rfl | rfl | rfl | rfl | rfl | rfl | rfl | rfl | rfl
  · rw [show x * 10 + ((0 : Nat) : Int) = x * 10 by omega]; rfl
  all_goals rfl
theorem isIn_ev (c0 c1 c2 c3 c4 c5 c6 c7 c8 c9 c10 c11 c12 c13 c14 c15 c16 c17 c18 c19 c20 c21 c22 c23 c24 c25 c26 c27 c28 c29 c30 c31 c32 c33 c34 c35 c36 c37 c38 c39 s0 s1 s2 s3 s4 s5 s6 s7 s8 s9 s10 s11 : Int) (Cl : List Int) (hC : Cl = [c0, c1, c2, c3, c4, c5, c6, c7, c8, c9, c10, c11, c12, c13, c14, c15, c16, c17, c18, c19, c20, c21, c22, c23, c24, c25, c26, c27, c28, c29, c30, c31, c32, c33, c34, c35, c36, c37, c38, c39]) (hb : ∀ i, 0 ≤ rd [s2, s3, s4, s5, s6, s7, s8, s9, s10, s11] i ∧ rd [s2, s3, s4, s5, s6, s7, s8, s9, s10, s11] i < 65536) (w h : Nat) (hw : w ≤ 10) (hh : h ≤ 10) (e0 : s0 = w) (e1 : s1 = h) :
    Ev (fun k => impl_Crowd_isIn.f k c0 c1 c2 c3 c4 c5 c6 c7 c8 c9 c10 c11 c12 c13 c14 c15 c16 c17 c18 c19 c20 c21 c22 c23 c24 c25 c26 c27 c28 c29 c30 c31 c32 c33 c34 c35 c36 c37 c38 c39 s0 s1 s2 s3 s4 s5 s6 s7 s8 s9 s10 s11) (RRe (fun d => RRe (fun y => RRe (fun x => !bitB (rd Cl ((d : Int) * 10 + (y : Int))) x || freeB [s2, s3, s4, s5, s6, s7, s8, s9, s10, s11] w h x y) true 16 0) true 10 0) true 4 0) := by
  show Ev (fun k => impl_Crowd_isIn.l0 k 0 s0 s1 s2 s3 s4 s5 s6 s7 s8 s9 s10 s11 c0 c1 c2 c3 c4 c5 c6 c7 c8 c9 c10 c11 c12 c13 c14 c15 c16 c17 c18 c19 c20 c21 c22 c23 c24 c25 c26 c27 c28 c29 c30 c31 c32 c33 c34 c35 c36 c37 c38 c39) _
  refine Ev.loopB (fun k i => impl_Crowd_isIn.l0 k i s0 s1 s2 s3 s4 s5 s6 s7 s8 s9 s10 s11 c0 c1 c2 c3 c4 c5 c6 c7 c8 c9 c10 c11 c12 c13 c14 c15 c16 c17 c18 c19 c20 c21 c22 c23 c24 c25 c26 c27 c28 c29 c30 c31 c32 c33 c34 c35 c36 c37 c38 c39) _ true 4 (fun d hd r hr => ?_) ?_
  · refine Ev.succ ?_
    simp only [impl_Crowd_isIn.l0]
    refine Ev.pos (by omega) ?_
    rw [idx26_v c0 c1 c2 c3 c4 c5 c6 c7 c8 c9 c10 c11 c12 c13 c14 c15 c16 c17 c18 c19 c20 c21 c22 c23 c24 c25 c26 c27 c28 c29 c30 c31 c32 c33 c34 c35 c36 c37 c38 c39 d hd Cl hC]
    simp only [Option.bind_some]
    rw [← RRe_and]
    refine Ev.loopB (fun k i => impl_Crowd_isIn.l1 k (d : Int) i s0 s1 s2 s3 s4 s5 s6 s7 s8 s9 s10 s11 c0 c1 c2 c3 c4 c5 c6 c7 c8 c9 c10 c11 c12 c13 c14 c15 c16 c17 c18 c19 c20 c21 c22 c23 c24 c25 c26 c27 c28 c29 c30 c31 c32 c33 c34 c35 c36 c37 c38 c39 (rd Cl ((d : Int) * 10)) (rd Cl ((d : Int) * 10 + 1)) (rd Cl ((d : Int) * 10 + 2)) (rd Cl ((d : Int) * 10 + 3)) (rd Cl ((d : Int) * 10 + 4)) (rd Cl ((d : Int) * 10 + 5)) (rd Cl ((d : Int) * 10 + 6)) (rd Cl ((d : Int) * 10 + 7)) (rd Cl ((d : Int) * 10 + 8)) (rd Cl ((d : Int) * 10 + 9))) _ r 10 (fun y hy r2 hr2 => ?_) ?_
    · refine Ev.succ ?_
      simp only [impl_Crowd_isIn.l1]
      refine Ev.pos (by omega) (Ev.pos (by omega) ?_)
      rw [rd_rowv Cl (d : Int) y hy, ← RRe_and]
      refine Ev.loopB (fun k i => impl_Crowd_isIn.l2 k (y : Int) (rd Cl ((d : Int) * 10 + (y : Int))) (d : Int) (y : Int) i s0 s1 s2 s3 s4 s5 s6 s7 s8 s9 s10 s11 c0 c1 c2 c3 c4 c5 c6 c7 c8 c9 c10 c11 c12 c13 c14 c15 c16 c17 c18 c19 c20 c21 c22 c23 c24 c25 c26 c27 c28 c29 c30 c31 c32 c33 c34 c35 c36 c37 c38 c39 (rd Cl ((d : Int) * 10)) (rd Cl ((d : Int) * 10 + 1)) (rd Cl ((d : Int) * 10 + 2)) (rd Cl ((d : Int) * 10 + 3)) (rd Cl ((d : Int) * 10 + 4)) (rd Cl ((d : Int) * 10 + 5)) (rd Cl ((d : Int) * 10 + 6)) (rd Cl ((d : Int) * 10 + 7)) (rd Cl ((d : Int) * 10 + 8)) (rd Cl ((d : Int) * 10 + 9))) _ r2 16 (fun x hx r3 hr3 => ?_) ?_
      · refine Ev.succ ?_
        simp only [impl_Crowd_isIn.l2]
        refine Ev.pos (by omega) (Ev.pos (by omega) ?_)
        rw [i8_small y (by omega), isFree_c s0 s1 s2 s3 s4 s5 s6 s7 s8 s9 s10 s11 hb w h hw hh e0 e1 x y hx hy, i8_wnat16 x hx]
        simp only [Option.bind_some]
        by_cases h1 : Go.bits .and .u16 (shr .u16 (rd Cl ((d : Int) * 10 + (y : Int))) (x : Int)) 1 = 1
        · refine Ev.pos h1 ?_
          have hbt : bitB (rd Cl ((d : Int) * 10 + (y : Int))) x = true := decide_eq_true h1
          rw [hbt, Bool.not_true, Bool.false_or]
          cases hf : freeB [s2, s3, s4, s5, s6, s7, s8, s9, s10, s11] w h x y with
          | true => exact Ev.pos rfl (by rw [Bool.true_and]; exact hr3)
          | false => exact Ev.neg (by simp) (by rw [Bool.false_and]; exact Ev.now false)
        · refine Ev.neg h1 ?_
          have hbt : bitB (rd Cl ((d : Int) * 10 + (y : Int))) x = false := decide_eq_false h1
          rw [hbt, Bool.not_false, Bool.true_or, Bool.true_and]
          exact hr3
      · refine Ev.succ ?_
        simp only [impl_Crowd_isIn.l2]
        rw [wnat y 10 hy (by omega)]
        exact Ev.neg (by omega) hr2
    · refine Ev.succ ?_
      simp only [impl_Crowd_isIn.l1]
      rw [wnat d 4 hd (by omega)]
      exact Ev.neg (by omega) hr
  · refine Ev.succ ?_
    simp only [impl_Crowd_isIn.l0]
    exact Ev.neg (by omega) (Ev.now true)
theorem okLoop_ev (c0 c1 c2 c3 c4 c5 c6 c7 c8 c9 c10 c11 c12 c13 c14 c15 c16 c17 c18 c19 c20 c21 c22 c23 c24 c25 c26 c27 c28 c29 c30 c31 c32 c33 c34 c35 c36 c37 c38 c39 : Int) (P Cl : List Int) (hC : Cl = [c0, c1, c2, c3, c4, c5, c6, c7, c8, c9, c10, c11, c12, c13, c14, c15, c16, c17, c18, c19, c20, c21, c22, c23, c24, c25, c26, c27, c28, c29, c30, c31, c32, c33, c34, c35, c36, c37, c38, c39]) (hP : P.length = 40) :
    Ev (fun k => spec_l06Ok.l0 k 0 c0 c1 c2 c3 c4 c5 c6 c7 c8 c9 c10 c11 c12 c13 c14 c15 c16 c17 c18 c19 c20 c21 c22 c23 c24 c25 c26 c27 c28 c29 c30 c31 c32 c33 c34 c35 c36 c37 c38 c39 (P.getD 0 0) (P.getD 1 0) (P.getD 2 0) (P.getD 3 0) (P.getD 4 0) (P.getD 5 0) (P.getD 6 0) (P.getD 7 0) (P.getD 8 0) (P.getD 9 0) (P.getD 10 0) (P.getD 11 0) (P.getD 12 0) (P.getD 13 0) (P.getD 14 0) (P.getD 15 0) (P.getD 16 0) (P.getD 17 0) (P.getD 18 0) (P.getD 19 0) (P.getD 20 0) (P.getD 21 0) (P.getD 22 0) (P.getD 23 0) (P.getD 24 0) (P.getD 25 0) (P.getD 26 0) (P.getD 27 0) (P.getD 28 0) (P.getD 29 0) (P.getD 30 0) (P.getD 31 0) (P.getD 32 0) (P.getD 33 0) (P.getD 34 0) (P.getD 35 0) (P.getD 36 0) (P.getD 37 0) (P.getD 38 0) (P.getD 39 0)) (RRe (fun d => RRe (fun y => decide (Go.bits .andNot .u16 (rd Cl ((d : Int) * 10 + (y : Int))) (rd P ((d : Int) * 10 + (y : Int))) = 0)) true 10 0) true 4 0) := by
  refine Ev.loopB (fun k i => spec_l06Ok.l0 k i c0 c1 c2 c3 c4 c5 c6 c7 c8 c9 c10 c11 c12 c13 c14 c15 c16 c17 c18 c19 c20 c21 c22 c23 c24 c25 c26 c27 c28 c29 c30 c31 c32 c33 c34 c35 c36 c37 c38 c39 (P.getD 0 0) (P.getD 1 0) (P.getD 2 0) (P.getD 3 0) (P.getD 4 0) (P.getD 5 0) (P.getD 6 0) (P.getD 7 0) (P.getD 8 0) (P.getD 9 0) (P.getD 10 0) (P.getD 11 0) (P.getD 12 0) (P.getD 13 0) (P.getD 14 0) (P.getD 15 0) (P.getD 16 0) (P.getD 17 0) (P.getD 18 0) (P.getD 19 0) (P.getD 20 0) (P.getD 21 0) (P.getD 22 0) (P.getD 23 0) (P.getD 24 0) (P.getD 25 0) (P.getD 26 0) (P.getD 27 0) (P.getD 28 0) (P.getD 29 0) (P.getD 30 0) (P.getD 31 0) (P.getD 32 0) (P.getD 33 0) (P.getD 34 0) (P.getD 35 0) (P.getD 36 0) (P.getD 37 0) (P.getD 38 0) (P.getD 39 0)) _ true 4 (fun d hd r hr => ?_) ?_
  · refine Ev.succ ?_
    simp only [spec_l06Ok.l0]
    refine Ev.pos (by omega) ?_
    rw [← RRe_and]
    refine Ev.loopB (fun k i => spec_l06Ok.l1 k (d : Int) i c0 c1 c2 c3 c4 c5 c6 c7 c8 c9 c10 c11 c12 c13 c14 c15 c16 c17 c18 c19 c20 c21 c22 c23 c24 c25 c26 c27 c28 c29 c30 c31 c32 c33 c34 c35 c36 c37 c38 c39 (P.getD 0 0) (P.getD 1 0) (P.getD 2 0) (P.getD 3 0) (P.getD 4 0) (P.getD 5 0) (P.getD 6 0) (P.getD 7 0) (P.getD 8 0) (P.getD 9 0) (P.getD 10 0) (P.getD 11 0) (P.getD 12 0) (P.getD 13 0) (P.getD 14 0) (P.getD 15 0) (P.getD 16 0) (P.getD 17 0) (P.getD 18 0) (P.getD 19 0) (P.getD 20 0) (P.getD 21 0) (P.getD 22 0) (P.getD 23 0) (P.getD 24 0) (P.getD 25 0) (P.getD 26 0) (P.getD 27 0) (P.getD 28 0) (P.getD 29 0) (P.getD 30 0) (P.getD 31 0) (P.getD 32 0) (P.getD 33 0) (P.getD 34 0) (P.getD 35 0) (P.getD 36 0) (P.getD 37 0) (P.getD 38 0) (P.getD 39 0)) _ r 10 (fun y hy r2 hr2 => ?_) ?_
    · refine Ev.succ ?_
      simp only [spec_l06Ok.l1]
      refine Ev.pos (by omega) (Ev.pos (by omega) (Ev.pos (by omega) (Ev.pos (by omega) ?_)))
      rw [← hC, ← list40 P hP, wnat y 10 hy (by omega)]
      by_cases h1 : Go.bits .andNot .u16 (rd Cl ((d : Int) * 10 + (y : Int))) (rd P ((d : Int) * 10 + (y : Int))) = 0
      · rw [decide_eq_true h1, Bool.true_and]
        exact Ev.pos h1 hr2
      · rw [decide_eq_false h1, Bool.false_and]
        exact Ev.neg h1 (Ev.now false)
    · refine Ev.succ ?_
      simp only [spec_l06Ok.l1]
      rw [wnat d 4 hd (by omega)]
      exact Ev.neg (by omega) hr
  · refine Ev.succ ?_
    simp only [spec_l06Ok.l0]
    exact Ev.neg (by omega) (Ev.now true)
theorem Valid_core (s0 s1 s2 s3 s4 s5 s6 s7 s8 s9 s10 s11 c0 c1 c2 c3 c4 c5 c6 c7 c8 c9 c10 c11 c12 c13 c14 c15 c16 c17 c18 c19 c20 c21 c22 c23 c24 c25 c26 c27 c28 c29 c30 c31 c32 c33 c34 c35 c36 c37 c38 c39 : Int) (b0 : -128 ≤ s0 ∧ s0 ≤ 127) (b1 : -128 ≤ s1 ∧ s1 ≤ 127) (hb : ∀ i, 0 ≤ rd [s2, s3, s4, s5, s6, s7, s8, s9, s10, s11] i ∧ rd [s2, s3, s4, s5, s6, s7, s8, s9, s10, s11] i < 65536) (hc : ∀ i, 0 ≤ rd [c0, c1, c2, c3, c4, c5, c6, c7, c8, c9, c10, c11, c12, c13, c14, c15, c16, c17, c18, c19, c20, c21, c22, c23, c24, c25, c26, c27, c28, c29, c30, c31, c32, c33, c34, c35, c36, c37, c38, c39] i ∧ rd [c0, c1, c2, c3, c4, c5, c6, c7, c8, c9, c10, c11, c12, c13, c14, c15, c16, c17, c18, c19, c20, c21, c22, c23, c24, c25, c26, c27, c28, c29, c30, c31, c32, c33, c34, c35, c36, c37, c38, c39] i < 65536) :
    ∃ r, Ev (fun k => spec_l06Ok.f k s0 s1 s2 s3 s4 s5 s6 s7 s8 s9 s10 s11 c0 c1 c2 c3 c4 c5 c6 c7 c8 c9 c10 c11 c12 c13 c14 c15 c16 c17 c18 c19 c20 c21 c22 c23 c24 c25 c26 c27 c28 c29 c30 c31 c32 c33 c34 c35 c36 c37 c38 c39) r ∧ Ev (fun k => impl_ValidCrowd.f k s0 s1 s2 s3 s4 s5 s6 s7 s8 s9 s10 s11 c0 c1 c2 c3 c4 c5 c6 c7 c8 c9 c10 c11 c12 c13 c14 c15 c16 c17 c18 c19 c20 c21 c22 c23 c24 c25 c26 c27 c28 c29 c30 c31 c32 c33 c34 c35 c36 c37 c38 c39) r ∧ (r = true → ∃ w h : Nat, s0 = w ∧ s1 = h ∧ w ≤ 10 ∧ h ≤ 10 ∧ ∀ d y x : Nat, d < 4 → y < 10 → x < 16 → bitB (rd [c0, c1, c2, c3, c4, c5, c6, c7, c8, c9, c10, c11, c12, c13, c14, c15, c16, c17, c18, c19, c20, c21, c22, c23, c24, c25, c26, c27, c28, c29, c30, c31, c32, c33, c34, c35, c36, c37, c38, c39] ((d : Int) * 10 + (y : Int))) x = true → freeB [s2, s3, s4, s5, s6, s7, s8, s9, s10, s11] w h x y = true) := by
  obtain ⟨b, h1, h2, h3⟩ := Ok_both s0 s1 s2 s3 s4 s5 s6 s7 s8 s9 s10 s11 b0 b1
  cases b with
  | false =>
    refine ⟨false, ?_, ?_, fun h => by cases h⟩
    · unfold spec_l06Ok.f
      refine Ev.bind (a := false) h1 ?_
      exact Ev.neg (by simp) (Ev.now _)
    · unfold impl_ValidCrowd.f
      refine Ev.bind h2 ?_
      exact Ev.neg (by simp) (Ev.now _)
  | true =>
    obtain ⟨hw, hh⟩ := h3 rfl
    obtain ⟨w, e0⟩ : ∃ n : Nat, s0 = n := ⟨s0.toNat, by omega⟩
    obtain ⟨h, e1⟩ : ∃ n : Nat, s1 = n := ⟨s1.toNat, by omega⟩
    have ha := All_s s0 s1 s2 s3 s4 s5 s6 s7 s8 s9 s10 s11 hb w h (by omega) (by omega) e0 e1
    have hlen := cellsL_len (fr [s2, s3, s4, s5, s6, s7, s8, s9, s10, s11]) w h
    have hm : ∀ q ∈ cellsL (fr [s2, s3, s4, s5, s6, s7, s8, s9, s10, s11]) w h, (0 ≤ q.f0 ∧ q.f0 < 10) ∧ (0 ≤ q.f1 ∧ q.f1 < 10) := fun q hq => by
      have := cellsL_mem (fr [s2, s3, s4, s5, s6, s7, s8, s9, s10, s11]) w h h (Nat.le_refl _) q hq
      omega
    have hl : (cellsL (fr [s2, s3, s4, s5, s6, s7, s8, s9, s10, s11]) w h).length ≤ 1000 := by
      have : w * h ≤ 10 * 10 := Nat.mul_le_mul (by omega) (by omega)
      omega
    have p1 := Plain_ev _ hm hl (cellsL (fr [s2, s3, s4, s5, s6, s7, s8, s9, s10, s11]) w h).length 0 (List.replicate 40 0) (by omega) (by simp)
    have hbits := plain_bits [s2, s3, s4, s5, s6, s7, s8, s9, s10, s11] w h (by omega) (by omega)
    rw [List.drop_zero] at p1
    obtain ⟨P, hP⟩ : ∃ P, plainL (cellsL (fr [s2, s3, s4, s5, s6, s7, s8, s9, s10, s11]) w h) (List.replicate 40 0) = P := ⟨_, rfl⟩
    rw [hP] at p1 hbits
    have q1 : Ev (fun k => spec_l06Plain.f k s0 s1 s2 s3 s4 s5 s6 s7 s8 s9 s10 s11) (T40 P) := by
      unfold spec_l06Plain.f
      exact Ev.bind ha p1
    obtain ⟨Cl, hC⟩ : ∃ Cl, Cl = [c0, c1, c2, c3, c4, c5, c6, c7, c8, c9, c10, c11, c12, c13, c14, c15, c16, c17, c18, c19, c20, c21, c22, c23, c24, c25, c26, c27, c28, c29, c30, c31, c32, c33, c34, c35, c36, c37, c38, c39] := ⟨_, rfl⟩
    have i1 := okLoop_ev c0 c1 c2 c3 c4 c5 c6 c7 c8 c9 c10 c11 c12 c13 c14 c15 c16 c17 c18 c19 c20 c21 c22 c23 c24 c25 c26 c27 c28 c29 c30 c31 c32 c33 c34 c35 c36 c37 c38 c39 P Cl hC hbits.1
    have i2 := isIn_ev c0 c1 c2 c3 c4 c5 c6 c7 c8 c9 c10 c11 c12 c13 c14 c15 c16 c17 c18 c19 c20 c21 c22 c23 c24 c25 c26 c27 c28 c29 c30 c31 c32 c33 c34 c35 c36 c37 c38 c39 s0 s1 s2 s3 s4 s5 s6 s7 s8 s9 s10 s11 Cl hC hb w h (by omega) (by omega) e0 e1
    rw [← hC] at hc
    have same : (RRe (fun d => RRe (fun y => decide (Go.bits .andNot .u16 (rd Cl ((d : Int) * 10 + (y : Int))) (rd P ((d : Int) * 10 + (y : Int))) = 0)) true 10 0) true 4 0) = (RRe (fun d => RRe (fun y => RRe (fun x => !bitB (rd Cl ((d : Int) * 10 + (y : Int))) x || freeB [s2, s3, s4, s5, s6, s7, s8, s9, s10, s11] w h x y) true 16 0) true 10 0) true 4 0) := by
      refine RRe_congr true 4 0 (fun d _ hd => RRe_congr true 10 0 (fun y _ hy => ?_))
      obtain ⟨n, hn, hlt, ht⟩ := hbits.2 d y (by omega) (by omega)
      obtain ⟨m, hmm⟩ : ∃ m : Nat, rd Cl ((d : Int) * 10 + (y : Int)) = m := ⟨(rd Cl ((d : Int) * 10 + (y : Int))).toNat, by have := (hc ((d : Int) * 10 + (y : Int))).1; omega⟩
      have hmlt : m < 2 ^ 16 := by have := (hc ((d : Int) * 10 + (y : Int))).2; omega
      rw [hn, hmm]
      rw [Bool.eq_iff_iff, decide_eq_true_iff, andNot_zero m n hmlt hlt, RRe_true]
      constructor
      · intro hall x _ hx
        by_cases hbx : m.testBit x = true
        · have hf := hall x (by omega) hbx
          rw [ht x] at hf
          rw [show freeB [s2, s3, s4, s5, s6, s7, s8, s9, s10, s11] w h x y = true from hf, Bool.or_true]
        · have : bitB (m : Int) x = false := decide_eq_false (fun hh' => hbx ((bit16 m hmlt x (by omega)).1 hh'))
          rw [this]
          rfl
      · intro hall x hx hbx
        have hx2 := hall x (by omega) (by omega)
        have : bitB (m : Int) x = true := decide_eq_true ((bit16 m hmlt x hx).2 hbx)
        rw [this, Bool.not_true, Bool.false_or] at hx2
        rw [ht x]
        exact hx2
    refine ⟨_, ?_, Ev.eq ?_ same.symm, fun hr => ?_⟩
    rotate_left
    · unfold impl_ValidCrowd.f
      refine Ev.bind h2 ?_
      exact Ev.pos rfl (Ev.bind i2 (Ev.now _))
    · rw [same] at hr
      refine ⟨w, h, e0, e1, by omega, by omega, fun d y x hd hy hx hbit => ?_⟩
      have r1 := (RRe_true _ 4 0).1 hr d (by omega) (by omega)
      have r2 := (RRe_true _ 10 0).1 r1 y (by omega) (by omega)
      have r3 := (RRe_true _ 16 0).1 r2 x (by omega) (by omega)
      rw [hC, hbit, Bool.not_true, Bool.false_or] at r3
      exact r3
    · unfold spec_l06Ok.f
      exact Ev.bind h1 (Ev.pos rfl (Ev.bind q1 i1))
end Go.Proofs.Ytdedijjbdkoekaa.Q
end
section
namespace Go.Proofs.Ytdedijjbdkoekaa.Q
open Go.RowKit Go.Proofs.YtdedijjbdkoekaaW.PrintWords Go.Proofs.YtdedijjbdkoekaaW.PrintLast Go.Proofs.YtdedijjbdkoekaaW.PrintMore Go.Proofs.Ytdedijjbdkoekaa.PA
set_option linter.unusedVariables false
set_option linter.unusedSimpArgs false
def hasB (C : List Int) (x y d : Int) : Bool := Go.bits .and .u16 (shr .u16 (rd C (d * 10 + y)) x) 1 == 1
def any4 (C : List Int) (x y : Int) : Bool := hasB C x y 0 || (hasB C x y 1 || (hasB C x y 2 || hasB C x y 3))
theorem has_s (c0 c1 c2 c3 c4 c5 c6 c7 c8 c9 c10 c11 c12 c13 c14 c15 c16 c17 c18 c19 c20 c21 c22 c23 c24 c25 c26 c27 c28 c29 c30 c31 c32 c33 c34 c35 c36 c37 c38 c39 x y d : Int) (hx : 0 ≤ x ∧ x < 10) (hy : 0 ≤ y ∧ y < 10) (hd : 0 ≤ d ∧ d < 4) : spec_l06Has.f c0 c1 c2 c3 c4 c5 c6 c7 c8 c9 c10 c11 c12 c13 c14 c15 c16 c17 c18 c19 c20 c21 c22 c23 c24 c25 c26 c27 c28 c29 c30 c31 c32 c33 c34 c35 c36 c37 c38 c39 x y d = some (hasB [c0, c1, c2, c3, c4, c5, c6, c7, c8, c9, c10, c11, c12, c13, c14, c15, c16, c17, c18, c19, c20, c21, c22, c23, c24, c25, c26, c27, c28, c29, c30, c31, c32, c33, c34, c35, c36, c37, c38, c39] x y d) := by
  unfold spec_l06Has.f hasB
  rw [if_pos hd.1, if_pos hd.2, if_pos hy.1, if_pos hy.2, u64_int hx.1 (by omega), if_pos hx.1]
theorem has_i (c0 c1 c2 c3 c4 c5 c6 c7 c8 c9 c10 c11 c12 c13 c14 c15 c16 c17 c18 c19 c20 c21 c22 c23 c24 c25 c26 c27 c28 c29 c30 c31 c32 c33 c34 c35 c36 c37 c38 c39 x y d : Int) (hx : 0 ≤ x ∧ x < 10) (hy : 0 ≤ y ∧ y < 10) (hd : 0 ≤ d ∧ d < 4) : impl_Crowd_has.f c0 c1 c2 c3 c4 c5 c6 c7 c8 c9 c10 c11 c12 c13 c14 c15 c16 c17 c18 c19 c20 c21 c22 c23 c24 c25 c26 c27 c28 c29 c30 c31 c32 c33 c34 c35 c36 c37 c38 c39 x y d = some (hasB [c0, c1, c2, c3, c4, c5, c6, c7, c8, c9, c10, c11, c12, c13, c14, c15, c16, c17, c18, c19, c20, c21, c22, c23, c24, c25, c26, c27, c28, c29, c30, c31, c32, c33, c34, c35, c36, c37, c38, c39] x y d) := by
  unfold impl_Crowd_has.f hasB
  rw [if_pos hd.1, if_pos hd.2, if_pos hy.1, if_pos hy.2, if_pos hx.1]
def flatL (p : Int → Int → Bool) (i : Nat) : List S33 := rowL p ((i / 10 : Nat) : Int) (cellsL p 10 (i / 10)) (i % 10)
theorem flatL_succ (p : Int → Int → Bool) (i : Nat) : flatL p (i + 1) = if p ((i % 10 : Nat) : Int) ((i / 10 : Nat) : Int) then flatL p i ++ [⟨((i % 10 : Nat) : Int), ((i / 10 : Nat) : Int)⟩] else flatL p i := by
  unfold flatL
  by_cases h : i % 10 = 9
  · have e1 : (i + 1) / 10 = i / 10 + 1 := by omega
    have e2 : (i + 1) % 10 = 0 := by omega
    rw [e1, e2, h, rowL, cellsL, rowL]
  · have e1 : (i + 1) / 10 = i / 10 := by omega
    have e2 : (i + 1) % 10 = i % 10 + 1 := by omega
    rw [e1, e2, rowL]
theorem flatL_len (p : Int → Int → Bool) (i : Nat) (hi : i ≤ 100) : (flatL p i).length ≤ 1000 := by
  have h1 := rowL_len p ((i / 10 : Nat) : Int) (cellsL p 10 (i / 10)) (i % 10)
  have h2 := cellsL_len p 10 (i / 10)
  unfold flatL
  omega
theorem rowL_cut (p : Int → Int → Bool) (w : Nat) (y : Int) (acc : List S33) (hp : ∀ x : Nat, w ≤ x → p (x : Int) y = false) : ∀ n, w ≤ n → rowL p y acc n = rowL p y acc w
  | 0, h => by obtain rfl : w = 0 := (by omega); rfl
  | n + 1, h => by
    by_cases e : w = n + 1
    · subst e; rfl
    · rw [rowL, hp n (by omega), if_neg (by simp)]; exact rowL_cut p w y acc hp n (by omega)
theorem cellsL_cut (p : Int → Int → Bool) (w h : Nat) (hw : w ≤ 10) (hp : ∀ x y : Nat, ¬ (x < w ∧ y < h) → p (x : Int) (y : Int) = false) : ∀ n, h ≤ n → cellsL p 10 n = cellsL p w h := by
  have e1 : ∀ n, cellsL p 10 n = cellsL p w n := by
    intro n
    induction n with
    | zero => rfl
    | succ n ih => rw [cellsL, cellsL, ih]; exact rowL_cut p w (n : Int) _ (fun x hx => hp x n (by omega)) 10 hw
  have e2 : ∀ (acc : List S33) (n x : Nat), h ≤ n → rowL p (n : Int) acc x = acc := by
    intro acc n x hn
    induction x with
    | zero => rfl
    | succ x ih => rw [rowL, hp x n (by omega), if_neg (by simp)]; exact ih
  intro n
  induction n with
  | zero => intro hn; obtain rfl : h = 0 := (by omega); rfl
  | succ n ih =>
    intro hn
    by_cases e : h = n + 1
    · subst e; exact e1 _
    · rw [cellsL, e2 _ _ _ (by omega)]; exact ih (by omega)
theorem spot_s (i : Nat) (hi : i < 100) : spec_l06Spot.f (i : Int) = some (((i % 10 : Nat) : Int), ((i / 10 : Nat) : Int)) := by
  unfold spec_l06Spot.f
  rw [Int.tmod_eq_emod_of_nonneg (by omega), Int.tdiv_eq_ediv_of_nonneg (by omega)]
  have e1 : ((i : Int) % 10) = ((i % 10 : Nat) : Int) := by omega
  have e2 : ((i : Int) / 10) = ((i / 10 : Nat) : Int) := by omega
  rw [e1, e2, i8_small _ (by omega), wint _ (by omega) (by omega), i8_small _ (by omega)]
theorem Spots_s (c0 c1 c2 c3 c4 c5 c6 c7 c8 c9 c10 c11 c12 c13 c14 c15 c16 c17 c18 c19 c20 c21 c22 c23 c24 c25 c26 c27 c28 c29 c30 c31 c32 c33 c34 c35 c36 c37 c38 c39 : Int) : Ev (fun k => spec_l06Spots.f k c0 c1 c2 c3 c4 c5 c6 c7 c8 c9 c10 c11 c12 c13 c14 c15 c16 c17 c18 c19 c20 c21 c22 c23 c24 c25 c26 c27 c28 c29 c30 c31 c32 c33 c34 c35 c36 c37 c38 c39) (cellsL (any4 [c0, c1, c2, c3, c4, c5, c6, c7, c8, c9, c10, c11, c12, c13, c14, c15, c16, c17, c18, c19, c20, c21, c22, c23, c24, c25, c26, c27, c28, c29, c30, c31, c32, c33, c34, c35, c36, c37, c38, c39]) 10 10) := by
  unfold spec_l06Spots.f
  have key : ∀ n i : Nat, i + n = 100 → Ev (fun k => spec_l06Spots.l0 k (flatL (any4 [c0, c1, c2, c3, c4, c5, c6, c7, c8, c9, c10, c11, c12, c13, c14, c15, c16, c17, c18, c19, c20, c21, c22, c23, c24, c25, c26, c27, c28, c29, c30, c31, c32, c33, c34, c35, c36, c37, c38, c39]) i) (i : Int) c0 c1 c2 c3 c4 c5 c6 c7 c8 c9 c10 c11 c12 c13 c14 c15 c16 c17 c18 c19 c20 c21 c22 c23 c24 c25 c26 c27 c28 c29 c30 c31 c32 c33 c34 c35 c36 c37 c38 c39) (flatL (any4 [c0, c1, c2, c3, c4, c5, c6, c7, c8, c9, c10, c11, c12, c13, c14, c15, c16, c17, c18, c19, c20, c21, c22, c23, c24, c25, c26, c27, c28, c29, c30, c31, c32, c33, c34, c35, c36, c37, c38, c39]) 100) := by
    intro n
    induction n with
    | zero =>
      intro i hi
      obtain rfl : i = 100 := (by omega)
      refine Ev.succ ?_
      simp only [spec_l06Spots.l0]
      exact Ev.neg (by omega) (Ev.now _)
    | succ n ih =>
      intro i hi
      have hr := ih (i + 1) (by omega)
      have hl := flatL_len (any4 [c0, c1, c2, c3, c4, c5, c6, c7, c8, c9, c10, c11, c12, c13, c14, c15, c16, c17, c18, c19, c20, c21, c22, c23, c24, c25, c26, c27, c28, c29, c30, c31, c32, c33, c34, c35, c36, c37, c38, c39]) i (by omega)
      rw [flatL_succ] at hr
      generalize flatL (any4 [c0, c1, c2, c3, c4, c5, c6, c7, c8, c9, c10, c11, c12, c13, c14, c15, c16, c17, c18, c19, c20, c21, c22, c23, c24, c25, c26, c27, c28, c29, c30, c31, c32, c33, c34, c35, c36, c37, c38, c39]) i = acc at hr hl ⊢
      refine Ev.succ ?_
      simp only [spec_l06Spots.l0]
      refine Ev.pos (by omega) ?_
      rw [spot_s i (by omega), wnat i 100 (by omega) (by omega)]
      simp only [Option.bind_some]
      rw [has_s c0 c1 c2 c3 c4 c5 c6 c7 c8 c9 c10 c11 c12 c13 c14 c15 c16 c17 c18 c19 c20 c21 c22 c23 c24 c25 c26 c27 c28 c29 c30 c31 c32 c33 c34 c35 c36 c37 c38 c39 _ _ 0 ⟨by omega, by omega⟩ ⟨by omega, by omega⟩ ⟨by omega, by omega⟩, has_s c0 c1 c2 c3 c4 c5 c6 c7 c8 c9 c10 c11 c12 c13 c14 c15 c16 c17 c18 c19 c20 c21 c22 c23 c24 c25 c26 c27 c28 c29 c30 c31 c32 c33 c34 c35 c36 c37 c38 c39 _ _ 1 ⟨by omega, by omega⟩ ⟨by omega, by omega⟩ ⟨by omega, by omega⟩, has_s c0 c1 c2 c3 c4 c5 c6 c7 c8 c9 c10 c11 c12 c13 c14 c15 c16 c17 c18 c19 c20 c21 c22 c23 c24 c25 c26 c27 c28 c29 c30 c31 c32 c33 c34 c35 c36 c37 c38 c39 _ _ 2 ⟨by omega, by omega⟩ ⟨by omega, by omega⟩ ⟨by omega, by omega⟩, has_s c0 c1 c2 c3 c4 c5 c6 c7 c8 c9 c10 c11 c12 c13 c14 c15 c16 c17 c18 c19 c20 c21 c22 c23 c24 c25 c26 c27 c28 c29 c30 c31 c32 c33 c34 c35 c36 c37 c38 c39 _ _ 3 ⟨by omega, by omega⟩ ⟨by omega, by omega⟩ ⟨by omega, by omega⟩]
      simp only [Option.bind_some]
      unfold any4 at hr ⊢
      cases h0 : hasB [c0, c1, c2, c3, c4, c5, c6, c7, c8, c9, c10, c11, c12, c13, c14, c15, c16, c17, c18, c19, c20, c21, c22, c23, c24, c25, c26, c27, c28, c29, c30, c31, c32, c33, c34, c35, c36, c37, c38, c39] ((i % 10 : Nat) : Int) ((i / 10 : Nat) : Int) 0 with
      | true => rw [h0] at hr; exact Ev.pos rfl (Ev.pos (by omega) (by simpa using hr))
      | false =>
        refine Ev.neg (by simp) ?_
        cases h1 : hasB [c0, c1, c2, c3, c4, c5, c6, c7, c8, c9, c10, c11, c12, c13, c14, c15, c16, c17, c18, c19, c20, c21, c22, c23, c24, c25, c26, c27, c28, c29, c30, c31, c32, c33, c34, c35, c36, c37, c38, c39] ((i % 10 : Nat) : Int) ((i / 10 : Nat) : Int) 1 with
        | true => rw [h0, h1] at hr; exact Ev.pos rfl (Ev.pos (by omega) (by simpa using hr))
        | false =>
          refine Ev.neg (by simp) ?_
          cases h2 : hasB [c0, c1, c2, c3, c4, c5, c6, c7, c8, c9, c10, c11, c12, c13, c14, c15, c16, c17, c18, c19, c20, c21, c22, c23, c24, c25, c26, c27, c28, c29, c30, c31, c32, c33, c34, c35, c36, c37, c38, c39] ((i % 10 : Nat) : Int) ((i / 10 : Nat) : Int) 2 with
          | true => rw [h0, h1, h2] at hr; exact Ev.pos rfl (Ev.pos (by omega) (by simpa using hr))
          | false =>
            refine Ev.neg (by simp) ?_
            cases h3 : hasB [c0, c1, c2, c3, c4, c5, c6, c7, c8, c9, c10, c11, c12, c13, c14, c15, c16, c17, c18, c19, c20, c21, c22, c23, c24, c25, c26, c27, c28, c29, c30, c31, c32, c33, c34, c35, c36, c37, c38, c39] ((i % 10 : Nat) : Int) ((i / 10 : Nat) : Int) 3 with
            | true => rw [h0, h1, h2, h3] at hr; exact Ev.pos rfl (Ev.pos (by omega) (by simpa using hr))
            | false =>
              rw [h0, h1, h2, h3] at hr
              exact Ev.neg (by simp) (by simpa using hr)
  have h0 := key 100 0 rfl
  exact h0
theorem any_i (c0 c1 c2 c3 c4 c5 c6 c7 c8 c9 c10 c11 c12 c13 c14 c15 c16 c17 c18 c19 c20 c21 c22 c23 c24 c25 c26 c27 c28 c29 c30 c31 c32 c33 c34 c35 c36 c37 c38 c39 x y : Int) (hx : 0 ≤ x ∧ x < 10) (hy : 0 ≤ y ∧ y < 10) : impl_SpotsOf_1.f x y c0 c1 c2 c3 c4 c5 c6 c7 c8 c9 c10 c11 c12 c13 c14 c15 c16 c17 c18 c19 c20 c21 c22 c23 c24 c25 c26 c27 c28 c29 c30 c31 c32 c33 c34 c35 c36 c37 c38 c39 = some (any4 [c0, c1, c2, c3, c4, c5, c6, c7, c8, c9, c10, c11, c12, c13, c14, c15, c16, c17, c18, c19, c20, c21, c22, c23, c24, c25, c26, c27, c28, c29, c30, c31, c32, c33, c34, c35, c36, c37, c38, c39] x y) := by
  unfold impl_SpotsOf_1.f any4
  rw [has_i c0 c1 c2 c3 c4 c5 c6 c7 c8 c9 c10 c11 c12 c13 c14 c15 c16 c17 c18 c19 c20 c21 c22 c23 c24 c25 c26 c27 c28 c29 c30 c31 c32 c33 c34 c35 c36 c37 c38 c39 x y 0 hx hy ⟨by omega, by omega⟩, has_i c0 c1 c2 c3 c4 c5 c6 c7 c8 c9 c10 c11 c12 c13 c14 c15 c16 c17 c18 c19 c20 c21 c22 c23 c24 c25 c26 c27 c28 c29 c30 c31 c32 c33 c34 c35 c36 c37 c38 c39 x y 1 hx hy ⟨by omega, by omega⟩, has_i c0 c1 c2 c3 c4 c5 c6 c7 c8 c9 c10 c11 c12 c13 c14 c15 c16 c17 c18 c19 c20 c21 c22 c23 c24 c25 c26 c27 c28 c29 c30 c31 c32 c33 c34 c35 c36 c37 c38 c39 x y 2 hx hy ⟨by omega, by omega⟩, has_i c0 c1 c2 c3 c4 c5 c6 c7 c8 c9 c10 c11 c12 c13 c14 c15 c16 c17 c18 c19 c20 c21 c22 c23 c24 c25 c26 c27 c28 c29 c30 c31 c32 c33 c34 c35 c36 c37 c38 c39 x y 3 hx hy ⟨by omega, by omega⟩]
  simp only [Option.bind_some]
  cases hasB [c0, c1, c2, c3, c4, c5, c6, c7, c8, c9, c10, c11, c12, c13, c14, c15, c16, c17, c18, c19, c20, c21, c22, c23, c24, c25, c26, c27, c28, c29, c30, c31, c32, c33, c34, c35, c36, c37, c38, c39] x y 0 with
  | true => rfl
  | false =>
    cases hasB [c0, c1, c2, c3, c4, c5, c6, c7, c8, c9, c10, c11, c12, c13, c14, c15, c16, c17, c18, c19, c20, c21, c22, c23, c24, c25, c26, c27, c28, c29, c30, c31, c32, c33, c34, c35, c36, c37, c38, c39] x y 1 with
    | true => rfl
    | false =>
      cases hasB [c0, c1, c2, c3, c4, c5, c6, c7, c8, c9, c10, c11, c12, c13, c14, c15, c16, c17, c18, c19, c20, c21, c22, c23, c24, c25, c26, c27, c28, c29, c30, c31, c32, c33, c34, c35, c36, c37, c38, c39] x y 2 with
      | true => rfl
      | false => rfl
theorem Spots_i (s0 s1 s2 s3 s4 s5 s6 s7 s8 s9 s10 s11 c0 c1 c2 c3 c4 c5 c6 c7 c8 c9 c10 c11 c12 c13 c14 c15 c16 c17 c18 c19 c20 c21 c22 c23 c24 c25 c26 c27 c28 c29 c30 c31 c32 c33 c34 c35 c36 c37 c38 c39 : Int) (w h : Nat) (hw : w ≤ 10) (hh : h ≤ 10) (e0 : s0 = w) (e1 : s1 = h) : Ev (fun k => impl_Room_cells__58.f k s0 s1 s2 s3 s4 s5 s6 s7 s8 s9 s10 s11 c0 c1 c2 c3 c4 c5 c6 c7 c8 c9 c10 c11 c12 c13 c14 c15 c16 c17 c18 c19 c20 c21 c22 c23 c24 c25 c26 c27 c28 c29 c30 c31 c32 c33 c34 c35 c36 c37 c38 c39) (cellsL (any4 [c0, c1, c2, c3, c4, c5, c6, c7, c8, c9, c10, c11, c12, c13, c14, c15, c16, c17, c18, c19, c20, c21, c22, c23, c24, c25, c26, c27, c28, c29, c30, c31, c32, c33, c34, c35, c36, c37, c38, c39]) w h) := by
  show Ev (fun k => impl_Room_cells__58.l0 k [] s1 0 c0 c1 c2 c3 c4 c5 c6 c7 c8 c9 c10 c11 c12 c13 c14 c15 c16 c17 c18 c19 c20 c21 c22 c23 c24 c25 c26 c27 c28 c29 c30 c31 c32 c33 c34 c35 c36 c37 c38 c39 s0 s1 s2 s3 s4 s5 s6 s7 s8 s9 s10 s11) _
  refine Ev.cells (any4 [c0, c1, c2, c3, c4, c5, c6, c7, c8, c9, c10, c11, c12, c13, c14, c15, c16, c17, c18, c19, c20, c21, c22, c23, c24, c25, c26, c27, c28, c29, c30, c31, c32, c33, c34, c35, c36, c37, c38, c39]) w h hw hh (fun k acc y => impl_Room_cells__58.l0 k acc s1 y c0 c1 c2 c3 c4 c5 c6 c7 c8 c9 c10 c11 c12 c13 c14 c15 c16 c17 c18 c19 c20 c21 c22 c23 c24 c25 c26 c27 c28 c29 c30 c31 c32 c33 c34 c35 c36 c37 c38 c39 s0 s1 s2 s3 s4 s5 s6 s7 s8 s9 s10 s11) (fun k acc y x => impl_Room_cells__58.l1 k acc y s1 y s0 x c0 c1 c2 c3 c4 c5 c6 c7 c8 c9 c10 c11 c12 c13 c14 c15 c16 c17 c18 c19 c20 c21 c22 c23 c24 c25 c26 c27 c28 c29 c30 c31 c32 c33 c34 c35 c36 c37 c38 c39 s0 s1 s2 s3 s4 s5 s6 s7 s8 s9 s10 s11) ?_ ?_ ?_ ?_
  · intro acc y r hy hr
    refine Ev.succ ?_
    simp only [impl_Room_cells__58.l0]
    exact Ev.pos (by omega) hr
  · intro acc
    refine Ev.succ ?_
    simp only [impl_Room_cells__58.l0]
    exact Ev.neg (by omega) (Ev.now acc)
  · intro acc y x r hy hx hl hr
    refine Ev.succ ?_
    simp only [impl_Room_cells__58.l1]
    refine Ev.pos (by omega) ?_
    rw [any_i c0 c1 c2 c3 c4 c5 c6 c7 c8 c9 c10 c11 c12 c13 c14 c15 c16 c17 c18 c19 c20 c21 c22 c23 c24 c25 c26 c27 c28 c29 c30 c31 c32 c33 c34 c35 c36 c37 c38 c39 (x : Int) (y : Int) ⟨by omega, by omega⟩ ⟨by omega, by omega⟩, i8_wnat x (by omega)]
    simp only [Option.bind_some]
    cases hc : any4 [c0, c1, c2, c3, c4, c5, c6, c7, c8, c9, c10, c11, c12, c13, c14, c15, c16, c17, c18, c19, c20, c21, c22, c23, c24, c25, c26, c27, c28, c29, c30, c31, c32, c33, c34, c35, c36, c37, c38, c39] (x : Int) (y : Int) with
    | true =>
      rw [hc] at hr
      simp only [if_true] at hr ⊢
      exact Ev.pos (by omega) hr
    | false =>
      rw [hc] at hr
      simp only [Bool.false_eq_true, if_false] at hr ⊢
      exact hr
  · intro acc y r hy hr
    refine Ev.succ ?_
    simp only [impl_Room_cells__58.l1]
    rw [i8_wnat y (by omega)]
    exact Ev.neg (by omega) hr
theorem hasB_bit (C : List Int) (x y d : Nat) (h : hasB C (x : Int) (y : Int) (d : Int) = true) : bitB (rd C ((d : Int) * 10 + (y : Int))) x = true := by
  unfold hasB at h
  unfold bitB
  simpa using h
theorem SpotsOf_both (s0 s1 s2 s3 s4 s5 s6 s7 s8 s9 s10 s11 c0 c1 c2 c3 c4 c5 c6 c7 c8 c9 c10 c11 c12 c13 c14 c15 c16 c17 c18 c19 c20 c21 c22 c23 c24 c25 c26 c27 c28 c29 c30 c31 c32 c33 c34 c35 c36 c37 c38 c39 : Int) (b0 : -128 ≤ s0 ∧ s0 ≤ 127) (b1 : -128 ≤ s1 ∧ s1 ≤ 127) (hb : ∀ i, 0 ≤ rd [s2, s3, s4, s5, s6, s7, s8, s9, s10, s11] i ∧ rd [s2, s3, s4, s5, s6, s7, s8, s9, s10, s11] i < 65536) (hc : ∀ i, 0 ≤ rd [c0, c1, c2, c3, c4, c5, c6, c7, c8, c9, c10, c11, c12, c13, c14, c15, c16, c17, c18, c19, c20, c21, c22, c23, c24, c25, c26, c27, c28, c29, c30, c31, c32, c33, c34, c35, c36, c37, c38, c39] i ∧ rd [c0, c1, c2, c3, c4, c5, c6, c7, c8, c9, c10, c11, c12, c13, c14, c15, c16, c17, c18, c19, c20, c21, c22, c23, c24, c25, c26, c27, c28, c29, c30, c31, c32, c33, c34, c35, c36, c37, c38, c39] i < 65536) :
    ∃ r, r.1.length ≤ 1048576 ∧ Ev (fun k => spec_SpotsOf.f k s0 s1 s2 s3 s4 s5 s6 s7 s8 s9 s10 s11 c0 c1 c2 c3 c4 c5 c6 c7 c8 c9 c10 c11 c12 c13 c14 c15 c16 c17 c18 c19 c20 c21 c22 c23 c24 c25 c26 c27 c28 c29 c30 c31 c32 c33 c34 c35 c36 c37 c38 c39) r ∧ Ev (fun k => impl_SpotsOf.f k s0 s1 s2 s3 s4 s5 s6 s7 s8 s9 s10 s11 c0 c1 c2 c3 c4 c5 c6 c7 c8 c9 c10 c11 c12 c13 c14 c15 c16 c17 c18 c19 c20 c21 c22 c23 c24 c25 c26 c27 c28 c29 c30 c31 c32 c33 c34 c35 c36 c37 c38 c39) r := by
  obtain ⟨b, h1, h2, h3⟩ := Valid_core s0 s1 s2 s3 s4 s5 s6 s7 s8 s9 s10 s11 c0 c1 c2 c3 c4 c5 c6 c7 c8 c9 c10 c11 c12 c13 c14 c15 c16 c17 c18 c19 c20 c21 c22 c23 c24 c25 c26 c27 c28 c29 c30 c31 c32 c33 c34 c35 c36 c37 c38 c39 b0 b1 hb hc
  cases b with
  | false =>
    refine ⟨([], 1), by simp, ?_, ?_⟩
    · unfold spec_SpotsOf.f
      exact Ev.bind h1 (Ev.neg (by simp) (Ev.now _))
    · unfold impl_SpotsOf.f
      exact Ev.bind h2 (Ev.neg (by simp) (Ev.now _))
  | true =>
    obtain ⟨w, h, e0, e1, hw, hh, hbit⟩ := h3 rfl
    have cut : cellsL (any4 [c0, c1, c2, c3, c4, c5, c6, c7, c8, c9, c10, c11, c12, c13, c14, c15, c16, c17, c18, c19, c20, c21, c22, c23, c24, c25, c26, c27, c28, c29, c30, c31, c32, c33, c34, c35, c36, c37, c38, c39]) 10 10 = cellsL (any4 [c0, c1, c2, c3, c4, c5, c6, c7, c8, c9, c10, c11, c12, c13, c14, c15, c16, c17, c18, c19, c20, c21, c22, c23, c24, c25, c26, c27, c28, c29, c30, c31, c32, c33, c34, c35, c36, c37, c38, c39]) w h := by
      have e : ∀ n acc y, n ≤ 10 → y < 10 → rowL (any4 [c0, c1, c2, c3, c4, c5, c6, c7, c8, c9, c10, c11, c12, c13, c14, c15, c16, c17, c18, c19, c20, c21, c22, c23, c24, c25, c26, c27, c28, c29, c30, c31, c32, c33, c34, c35, c36, c37, c38, c39]) ((y : Nat) : Int) acc n = rowL (fun a b => any4 [c0, c1, c2, c3, c4, c5, c6, c7, c8, c9, c10, c11, c12, c13, c14, c15, c16, c17, c18, c19, c20, c21, c22, c23, c24, c25, c26, c27, c28, c29, c30, c31, c32, c33, c34, c35, c36, c37, c38, c39] a b && (decide (a < 10) && decide (b < 10))) (y : Int) acc n := by
        intro n acc y hn hy
        induction n with
        | zero => rfl
        | succ n ih => rw [rowL, rowL, ih (by omega), show decide ((n : Int) < 10) = true from decide_eq_true (by omega), show decide ((y : Int) < 10) = true from decide_eq_true (by omega), Bool.and_true, Bool.and_true]
      have e' : ∀ v n, v ≤ 10 → n ≤ 10 → cellsL (any4 [c0, c1, c2, c3, c4, c5, c6, c7, c8, c9, c10, c11, c12, c13, c14, c15, c16, c17, c18, c19, c20, c21, c22, c23, c24, c25, c26, c27, c28, c29, c30, c31, c32, c33, c34, c35, c36, c37, c38, c39]) v n = cellsL (fun a b => any4 [c0, c1, c2, c3, c4, c5, c6, c7, c8, c9, c10, c11, c12, c13, c14, c15, c16, c17, c18, c19, c20, c21, c22, c23, c24, c25, c26, c27, c28, c29, c30, c31, c32, c33, c34, c35, c36, c37, c38, c39] a b && (decide (a < 10) && decide (b < 10))) v n := by
        intro v n hv hn
        induction n with
        | zero => rfl
        | succ n ih => rw [cellsL, cellsL, ih (by omega)]; exact e v _ n hv (by omega)
      rw [e' 10 10 (by omega) (by omega), e' w h hw hh]
      refine cellsL_cut _ w h hw (fun x y hxy => ?_) 10 hh
      by_cases hx : x < 10
      · by_cases hy : y < 10
        · have no : ∀ d : Nat, d < 4 → hasB [c0, c1, c2, c3, c4, c5, c6, c7, c8, c9, c10, c11, c12, c13, c14, c15, c16, c17, c18, c19, c20, c21, c22, c23, c24, c25, c26, c27, c28, c29, c30, c31, c32, c33, c34, c35, c36, c37, c38, c39] (x : Int) (y : Int) (d : Int) = false := fun d hd => by
            cases hh : hasB [c0, c1, c2, c3, c4, c5, c6, c7, c8, c9, c10, c11, c12, c13, c14, c15, c16, c17, c18, c19, c20, c21, c22, c23, c24, c25, c26, c27, c28, c29, c30, c31, c32, c33, c34, c35, c36, c37, c38, c39] (x : Int) (y : Int) (d : Int) with
            | false => rfl
            | true =>
              have := hbit d y x hd hy (by omega) (hasB_bit _ x y d hh)
              unfold freeB at this
              simp at this
              omega
          have n0 := no 0 (by omega)
          have n1 := no 1 (by omega)
          have n2 := no 2 (by omega)
          have n3 := no 3 (by omega)
          have : any4 [c0, c1, c2, c3, c4, c5, c6, c7, c8, c9, c10, c11, c12, c13, c14, c15, c16, c17, c18, c19, c20, c21, c22, c23, c24, c25, c26, c27, c28, c29, c30, c31, c32, c33, c34, c35, c36, c37, c38, c39] (x : Int) (y : Int) = false := by
            unfold any4
            rw [show (0 : Int) = ((0 : Nat) : Int) from rfl, n0, show (1 : Int) = ((1 : Nat) : Int) from rfl, n1, show (2 : Int) = ((2 : Nat) : Int) from rfl, n2, show (3 : Int) = ((3 : Nat) : Int) from rfl, n3]
            rfl
          dsimp only
          rw [this, Bool.false_and]
        · dsimp only
          rw [show decide ((y : Int) < 10) = false from decide_eq_false (by omega), Bool.and_false, Bool.and_false]
      · dsimp only
        rw [show decide ((x : Int) < 10) = false from decide_eq_false (by omega), Bool.false_and, Bool.and_false]
    have hl := cellsL_len (any4 [c0, c1, c2, c3, c4, c5, c6, c7, c8, c9, c10, c11, c12, c13, c14, c15, c16, c17, c18, c19, c20, c21, c22, c23, c24, c25, c26, c27, c28, c29, c30, c31, c32, c33, c34, c35, c36, c37, c38, c39]) w h
    have hl2 : w * h ≤ 10 * 10 := Nat.mul_le_mul (by omega) (by omega)
    refine ⟨(cellsL (any4 [c0, c1, c2, c3, c4, c5, c6, c7, c8, c9, c10, c11, c12, c13, c14, c15, c16, c17, c18, c19, c20, c21, c22, c23, c24, c25, c26, c27, c28, c29, c30, c31, c32, c33, c34, c35, c36, c37, c38, c39]) w h, 0), Nat.le_trans hl (by omega), ?_, ?_⟩
    · unfold spec_SpotsOf.f
      refine Ev.bind h1 (Ev.pos rfl (Ev.bind (Ev.eq (Spots_s c0 c1 c2 c3 c4 c5 c6 c7 c8 c9 c10 c11 c12 c13 c14 c15 c16 c17 c18 c19 c20 c21 c22 c23 c24 c25 c26 c27 c28 c29 c30 c31 c32 c33 c34 c35 c36 c37 c38 c39) cut) (Ev.now _)))
    · unfold impl_SpotsOf.f
      refine Ev.bind h2 (Ev.pos rfl (Ev.bind (Spots_i s0 s1 s2 s3 s4 s5 s6 s7 s8 s9 s10 s11 c0 c1 c2 c3 c4 c5 c6 c7 c8 c9 c10 c11 c12 c13 c14 c15 c16 c17 c18 c19 c20 c21 c22 c23 c24 c25 c26 c27 c28 c29 c30 c31 c32 c33 c34 c35 c36 c37 c38 c39 w h hw hh e0 e1) (Ev.now _)))
theorem markSpotS_ev (l : List S33) (a : Int) (h : l.length ≤ 1048576) (h0 : 0 ≤ a) (h1 : a ≤ 1000000000000) : ∃ l' : List S33, Ev (fun k => laws_markSpotS.f k l a) (a + 2 * l.length, l') ∧ l'.length = l.length ∧ ∀ i : Nat, i < l.length → rd_T33 l' (i : Int) = ⟨IntKind.i8.wrap (a + 2 * i), IntKind.i8.wrap (a + 2 * i + 1)⟩ := by
  unfold laws_markSpotS.f
  have key : ∀ (m i : Nat) (x : List S33), i + m = l.length → x.length = l.length → (∀ j : Nat, j < i → rd_T33 x (j : Int) = ⟨IntKind.i8.wrap (a + 2 * j), IntKind.i8.wrap (a + 2 * j + 1)⟩) → ∃ l' : List S33, Ev (fun k => laws_markSpotS.l0 k x (a + 2 * i) (i : Int)) (a + 2 * l.length, l') ∧ l'.length = l.length ∧ ∀ j : Nat, j < l.length → rd_T33 l' (j : Int) = ⟨IntKind.i8.wrap (a + 2 * j), IntKind.i8.wrap (a + 2 * j + 1)⟩ := by
    intro m
    induction m with
    | zero =>
      intro i x hi hl hx
      obtain rfl : i = l.length := by omega
      refine ⟨x, Ev.round (Ev.now _) fun k => ?_, hl, hx⟩
      simp only [laws_markSpotS.l0]
      rw [if_neg (by omega)]
    | succ m ih =>
      intro i x hi hl hx
      obtain ⟨y, hy⟩ : ∃ y : List S33, y = (x.set (i : Int).toNat (⟨IntKind.i8.wrap (a + 2 * (i : Int)), (rd_T33 x (i : Int)).f1⟩ : S33)) := ⟨_, rfl⟩
      obtain ⟨z, hz⟩ : ∃ z : List S33, z = (y.set (i : Int).toNat (⟨(rd_T33 y (i : Int)).f0, IntKind.i8.wrap (a + 2 * (i : Int) + 1)⟩ : S33)) := ⟨_, rfl⟩
      have hyl : y.length = l.length := by rw [hy, List.length_set, hl]
      have hzl : z.length = l.length := by rw [hz, List.length_set, hyl]
      have e1 : (rd_T33 y (i : Int)).f0 = IntKind.i8.wrap (a + 2 * (i : Int)) := by
        rw [hy]; simp [rd_T33, List.getElem?_set, show i < x.length by omega]
      have e2 : rd_T33 z (i : Int) = ⟨IntKind.i8.wrap (a + 2 * (i : Int)), IntKind.i8.wrap (a + 2 * (i : Int) + 1)⟩ := by
        rw [hz, e1]; simp [rd_T33, List.getElem?_set, show i < y.length by omega]
      have e3 : ∀ j : Nat, j ≠ i → rd_T33 z (j : Int) = rd_T33 x (j : Int) := fun j hj => by
        rw [hz, hy]; simp [rd_T33, List.getElem?_set, Ne.symm hj]
      obtain ⟨l', hl', hll, hlx⟩ := ih (i + 1) z (by omega) hzl (fun j hj => by
        by_cases hji : j = i
        · subst hji; exact e2
        · rw [e3 j hji]; exact hx j (by omega))
      refine ⟨l', Ev.round hl' fun k => ?_, hll, hlx⟩
      simp only [laws_markSpotS.l0, Option.bind_some]
      rw [if_pos (by omega), if_pos (by omega), wnat i l.length (by omega) (by omega)]
      rw [wint (a + 2 * (i : Int) + 1) (by omega) (by omega), wint (a + 2 * (i : Int) + 1 + 1) (by omega) (by omega), ← hy, ← hz]
      have e : (a + 2 * (i : Int) + 1 + 1) = a + 2 * ((i + 1 : Nat) : Int) := by omega
      rw [e]
  obtain ⟨l', hl', hll, hlx⟩ := key l.length 0 l (by omega) rfl (fun j hj => by omega)
  exact ⟨l', by simpa using hl', hll, hlx⟩
theorem heldSpotS_ev (l : List S33) (a : Int) (h : l.length ≤ 1048576) (h0 : 0 ≤ a) (h1 : a ≤ 1000000000000) (hx : ∀ i : Nat, i < l.length → rd_T33 l (i : Int) = ⟨IntKind.i8.wrap (a + 2 * i), IntKind.i8.wrap (a + 2 * i + 1)⟩) : Ev (fun k => laws_heldSpotS.f k l a) (a + 2 * l.length) := by
  unfold laws_heldSpotS.f
  have key : ∀ (m i : Nat), i + m = l.length → Ev (fun k => laws_heldSpotS.l0 k l (a + 2 * i) (i : Int)) (a + 2 * l.length) := by
    intro m
    induction m with
    | zero =>
      intro i hi
      obtain rfl : i = l.length := by omega
      refine Ev.round (Ev.now _) fun k => ?_
      simp only [laws_heldSpotS.l0]
      rw [if_neg (by omega)]
    | succ m ih =>
      intro i hi
      refine Ev.round (ih (i + 1) (by omega)) fun k => ?_
      simp only [laws_heldSpotS.l0]
      rw [if_pos (by omega), if_pos (by omega), hx i (by omega), wint (a + 2 * (i : Int) + 1) (by omega) (by omega)]
      rw [if_pos rfl, if_pos rfl, wnat i l.length (by omega) (by omega), wint (a + 2 * (i : Int) + 1 + 1) (by omega) (by omega)]
      have e : (a + 2 * (i : Int) + 1 + 1) = a + 2 * ((i + 1 : Nat) : Int) := by omega
      rw [e]
  have := key l.length 0 (by omega)
  simpa using this
theorem eqSpot_self (a b : Int) : laws_eqSpot.f a b a b = some true := by unfold laws_eqSpot.f; rw [if_pos rfl, if_pos rfl]
theorem eqSpotS_ev (l : List S33) (h : l.length ≤ 1048576) : Ev (fun k => laws_eqSpotS.f k l l) true := by
  unfold laws_eqSpotS.f
  refine Ev.pos rfl ?_
  have key : ∀ (m i : Nat), i + m = l.length → Ev (fun k => laws_eqSpotS.l0 k l l (i : Int)) true := by
    intro m
    induction m with
    | zero =>
      intro i hi
      obtain rfl : i = l.length := by omega
      refine Ev.round (Ev.now _) fun k => ?_
      simp only [laws_eqSpotS.l0]
      rw [if_neg (by omega)]
    | succ m ih =>
      intro i hi
      refine Ev.round (ih (i + 1) (by omega)) fun k => ?_
      simp only [laws_eqSpotS.l0]
      rw [if_pos (by omega), if_pos (by omega), if_pos (by omega), eqSpot_self]
      simp only [Option.bind_some, if_true]
      rw [wnat i l.length (by omega) (by omega)]
  exact key l.length 0 (by omega)
end Go.Proofs.Ytdedijjbdkoekaa.Q
end
section
namespace Go.Proofs.Ytdedijjbdkoekaa.Q
open Go.RowKit Go.Proofs.YtdedijjbdkoekaaW.PrintWords Go.Proofs.YtdedijjbdkoekaaW.PrintLast Go.Proofs.YtdedijjbdkoekaaW.PrintMore Go.Proofs.Ytdedijjbdkoekaa.PA
set_option linter.unusedVariables false
set_option linter.unusedSimpArgs false
set_option maxRecDepth 100000 in
theorem FnExactSpotsOf (a0_0 a0_1 a0_2 a0_3 a0_4 a0_5 a0_6 a0_7 a0_8 a0_9 a0_10 a0_11 a1_0 a1_1 a1_2 a1_3 a1_4 a1_5 a1_6 a1_7 a1_8 a1_9 a1_10 a1_11 a1_12 a1_13 a1_14 a1_15 a1_16 a1_17 a1_18 a1_19 a1_20 a1_21 a1_22 a1_23 a1_24 a1_25 a1_26 a1_27 a1_28 a1_29 a1_30 a1_31 a1_32 a1_33 a1_34 a1_35 a1_36 a1_37 a1_38 a1_39 : Int) (w0_0 : (Lit.int .i8 a0_0).wf = true) (w0_1 : (Lit.int .i8 a0_1).wf = true) (w0_2 : (Lit.int .u16 a0_2).wf = true) (w0_3 : (Lit.int .u16 a0_3).wf = true) (w0_4 : (Lit.int .u16 a0_4).wf = true) (w0_5 : (Lit.int .u16 a0_5).wf = true) (w0_6 : (Lit.int .u16 a0_6).wf = true) (w0_7 : (Lit.int .u16 a0_7).wf = true) (w0_8 : (Lit.int .u16 a0_8).wf = true) (w0_9 : (Lit.int .u16 a0_9).wf = true) (w0_10 : (Lit.int .u16 a0_10).wf = true) (w0_11 : (Lit.int .u16 a0_11).wf = true) (w1_0 : (Lit.int .u16 a1_0).wf = true) (w1_1 : (Lit.int .u16 a1_1).wf = true) (w1_2 : (Lit.int .u16 a1_2).wf = true) (w1_3 : (Lit.int .u16 a1_3).wf = true) (w1_4 : (Lit.int .u16 a1_4).wf = true) (w1_5 : (Lit.int .u16 a1_5).wf = true) (w1_6 : (Lit.int .u16 a1_6).wf = true) (w1_7 : (Lit.int .u16 a1_7).wf = true) (w1_8 : (Lit.int .u16 a1_8).wf = true) (w1_9 : (Lit.int .u16 a1_9).wf = true) (w1_10 : (Lit.int .u16 a1_10).wf = true) (w1_11 : (Lit.int .u16 a1_11).wf = true) (w1_12 : (Lit.int .u16 a1_12).wf = true) (w1_13 : (Lit.int .u16 a1_13).wf = true) (w1_14 : (Lit.int .u16 a1_14).wf = true) (w1_15 : (Lit.int .u16 a1_15).wf = true) (w1_16 : (Lit.int .u16 a1_16).wf = true) (w1_17 : (Lit.int .u16 a1_17).wf = true) (w1_18 : (Lit.int .u16 a1_18).wf = true) (w1_19 : (Lit.int .u16 a1_19).wf = true) (w1_20 : (Lit.int .u16 a1_20).wf = true) (w1_21 : (Lit.int .u16 a1_21).wf = true) (w1_22 : (Lit.int .u16 a1_22).wf = true) (w1_23 : (Lit.int .u16 a1_23).wf = true) (w1_24 : (Lit.int .u16 a1_24).wf = true) (w1_25 : (Lit.int .u16 a1_25).wf = true) (w1_26 : (Lit.int .u16 a1_26).wf = true) (w1_27 : (Lit.int .u16 a1_27).wf = true) (w1_28 : (Lit.int .u16 a1_28).wf = true) (w1_29 : (Lit.int .u16 a1_29).wf = true) (w1_30 : (Lit.int .u16 a1_30).wf = true) (w1_31 : (Lit.int .u16 a1_31).wf = true) (w1_32 : (Lit.int .u16 a1_32).wf = true) (w1_33 : (Lit.int .u16 a1_33).wf = true) (w1_34 : (Lit.int .u16 a1_34).wf = true) (w1_35 : (Lit.int .u16 a1_35).wf = true) (w1_36 : (Lit.int .u16 a1_36).wf = true) (w1_37 : (Lit.int .u16 a1_37).wf = true) (w1_38 : (Lit.int .u16 a1_38).wf = true) (w1_39 : (Lit.int .u16 a1_39).wf = true) : Ev (fun k => laws_FnExactSpotsOf.f k a0_0 a0_1 a0_2 a0_3 a0_4 a0_5 a0_6 a0_7 a0_8 a0_9 a0_10 a0_11 a1_0 a1_1 a1_2 a1_3 a1_4 a1_5 a1_6 a1_7 a1_8 a1_9 a1_10 a1_11 a1_12 a1_13 a1_14 a1_15 a1_16 a1_17 a1_18 a1_19 a1_20 a1_21 a1_22 a1_23 a1_24 a1_25 a1_26 a1_27 a1_28 a1_29 a1_30 a1_31 a1_32 a1_33 a1_34 a1_35 a1_36 a1_37 a1_38 a1_39) true := by
  have hb : ∀ i, 0 ≤ rd [a0_2, a0_3, a0_4, a0_5, a0_6, a0_7, a0_8, a0_9, a0_10, a0_11] i ∧ rd [a0_2, a0_3, a0_4, a0_5, a0_6, a0_7, a0_8, a0_9, a0_10, a0_11] i < 65536 := rd_bound _ (by
    intro x hx
    simp only [List.mem_cons, List.not_mem_nil, or_false] at hx
    rcases hx with rfl | rfl | rfl | rfl | rfl | rfl | rfl | rfl | rfl | rfl
    all_goals exact wf_u16 (by assumption))
  have hc : ∀ i, 0 ≤ rd [a1_0, a1_1, a1_2, a1_3, a1_4, a1_5, a1_6, a1_7, a1_8, a1_9, a1_10, a1_11, a1_12, a1_13, a1_14, a1_15, a1_16, a1_17, a1_18, a1_19, a1_20, a1_21, a1_22, a1_23, a1_24, a1_25, a1_26, a1_27, a1_28, a1_29, a1_30, a1_31, a1_32, a1_33, a1_34, a1_35, a1_36, a1_37, a1_38, a1_39] i ∧ rd [a1_0, a1_1, a1_2, a1_3, a1_4, a1_5, a1_6, a1_7, a1_8, a1_9, a1_10, a1_11, a1_12, a1_13, a1_14, a1_15, a1_16, a1_17, a1_18, a1_19, a1_20, a1_21, a1_22, a1_23, a1_24, a1_25, a1_26, a1_27, a1_28, a1_29, a1_30, a1_31, a1_32, a1_33, a1_34, a1_35, a1_36, a1_37, a1_38, a1_39] i < 65536 := rd_bound _ (by
    intro x hx
    simp only [List.mem_cons, List.not_mem_nil, or_false] at hx
    rcases hx with rfl | rfl | rfl | rfl | rfl | rfl | rfl | rfl | rfl | rfl | rfl | rfl | rfl | rfl | rfl | rfl | rfl | rfl | rfl | rfl | rfl | rfl | rfl | rfl | rfl | rfl | rfl | rfl | rfl | rfl | rfl | rfl | rfl | rfl | rfl | rfl | rfl | rfl | rfl | rfl
    all_goals exact wf_u16 (by assumption))
  obtain ⟨r, hl, h1, h2⟩ := SpotsOf_both a0_0 a0_1 a0_2 a0_3 a0_4 a0_5 a0_6 a0_7 a0_8 a0_9 a0_10 a0_11 a1_0 a1_1 a1_2 a1_3 a1_4 a1_5 a1_6 a1_7 a1_8 a1_9 a1_10 a1_11 a1_12 a1_13 a1_14 a1_15 a1_16 a1_17 a1_18 a1_19 a1_20 a1_21 a1_22 a1_23 a1_24 a1_25 a1_26 a1_27 a1_28 a1_29 a1_30 a1_31 a1_32 a1_33 a1_34 a1_35 a1_36 a1_37 a1_38 a1_39 (wf_i8 w0_0) (wf_i8 w0_1) hb hc
  have q := eqSpotS_ev r.1 hl
  obtain ⟨l', m1, ml, mx⟩ := markSpotS_ev r.1 1 hl (by omega) (by omega)
  have hd := heldSpotS_ev l' 1 (by omega) (by omega) (by omega) (fun i hi => mx i (by omega))
  unfold laws_FnExactSpotsOf.f laws_toRoom.f laws_toUint16A10.f laws_toCrowd.f
  simp only [Option.bind_some]
  refine Ev.bind h1 (Ev.bind h2 (Ev.bind q (Ev.pos rfl ?_)))
  refine Ev.succ ?_
  simp only [laws_FnExactSpotsOf.j0, laws_toRoom.f, laws_toUint16A10.f, laws_toCrowd.f, Option.bind_some]
  refine Ev.neg (by simp) (Ev.bind m1 (Ev.bind hd (Ev.neg (by omega) (Ev.pos (by rw [ml]) ?_))))
  refine Ev.bind h2 (Ev.bind q (Ev.pos rfl ?_))
  refine Ev.succ ?_
  simp only [laws_FnExactSpotsOf.j1]
  exact Ev.neg (by simp) (Ev.bind hd (Ev.neg (by omega) (Ev.pos (by rw [ml]) (Ev.now _))))
end Go.Proofs.Ytdedijjbdkoekaa.Q
end
