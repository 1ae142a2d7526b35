/- Numbers of 16 bits, and sums. -/
import Derived.Test.YtdedijjbdkoekaaPAx8
import Derived.Test.YtdedijjbdkoekaaQl
import Derived.Test.YtdedijjbdkoekaaQk
import Derived.Laws.BitsLemmas
namespace Go.Proofs.Ytdedijjbdkoekaa.Q
open Go.RowKit Go.Proofs.YtdedijjbdkoekaaW.PrintWords Go.Proofs.YtdedijjbdkoekaaW.PrintLast Go.Proofs.YtdedijjbdkoekaaW.PrintMore Go.Proofs.Ytdedijjbdkoekaa.PA
set_option linter.unusedVariables false
set_option linter.unusedSimpArgs false

def sumN (f : Nat → Int) : Nat → Int
  | 0 => 0
  | n + 1 => sumN f n + f n
theorem sumN_congr {f g : Nat → Int} : ∀ n, (∀ i, i < n → f i = g i) → sumN f n = sumN g n
  | 0, _ => rfl
  | n + 1, h => by rw [sumN, sumN, sumN_congr n (fun i hi => h i (by omega)), h n (by omega)]
theorem sumN_add (f g : Nat → Int) : ∀ n, sumN (fun i => f i + g i) n = sumN f n + sumN g n
  | 0 => rfl
  | n + 1 => by rw [sumN, sumN, sumN, sumN_add f g n]; omega
theorem sumN_zero : ∀ n, sumN (fun _ => 0) n = 0
  | 0 => rfl
  | n + 1 => by rw [sumN, sumN_zero n]; rfl
theorem sumN_comm (f : Nat → Nat → Int) (m : Nat) : ∀ n, sumN (fun i => sumN (fun j => f i j) m) n = sumN (fun j => sumN (fun i => f i j) n) m
  | 0 => (sumN_zero m).symm
  | n + 1 => by rw [sumN, sumN_comm f m n, ← sumN_add]; exact sumN_congr m fun j _ => rfl
theorem sumN_split (f : Nat → Int) (a : Nat) : ∀ b, sumN f (a + b) = sumN f a + sumN (fun j => f (a + j)) b
  | 0 => by simp [sumN]
  | b + 1 => by rw [← Nat.add_assoc, sumN, sumN_split f a b, sumN]; omega
theorem sumN_mul (f : Nat → Int) (m : Nat) : ∀ n, sumN f (m * n) = sumN (fun y => sumN (fun x => f (m * y + x)) m) n
  | 0 => rfl
  | n + 1 => by rw [Nat.mul_succ, sumN_split, sumN_mul f m n, sumN]
theorem sumN_bd {f : Nat → Int} (hf : ∀ d, 0 ≤ f d ∧ f d ≤ 16) : ∀ n, 0 ≤ sumN f n ∧ sumN f n ≤ 16 * n
  | 0 => by simp [sumN]
  | n + 1 => by have := sumN_bd hf n; have := hf n; rw [sumN]; omega
/-- A loop in a loop that adds. -/
theorem Ev.sum2 (N M : Nat) (hNM : N * M ≤ 1000) (f : Nat → Nat → Int) (hf : ∀ x d, 0 ≤ f x d ∧ f x d ≤ 16) (S0 : Nat → Int → Int → Option Int) (S1 : Nat → Int → Int → Int → Option Int)
    (e0 : ∀ (x : Nat) s r, x < N → Ev (fun k => S1 k s x 0) r → Ev (fun k => S0 k s x) r) (e0' : ∀ s, Ev (fun k => S0 k s (N : Int)) s)
    (e1 : ∀ (x d : Nat) s r, x < N → d < M → 0 ≤ s → s ≤ 100000 → Ev (fun k => S1 k (s + f x d) x ((d + 1 : Nat) : Int)) r → Ev (fun k => S1 k s x (d : Int)) r)
    (e1' : ∀ (x : Nat) s r, x < N → Ev (fun k => S0 k s ((x + 1 : Nat) : Int)) r → Ev (fun k => S1 k s x (M : Int)) r) :
    Ev (fun k => S0 k 0 0) (sumN (fun x => sumN (f x) M) N) := by
  have inner : ∀ (n d x : Nat) (s r : Int), d + n = M → x < N → 0 ≤ s → s + 16 * (n : Int) ≤ 16000 → Ev (fun k => S0 k (s + (sumN (f x) M - sumN (f x) d)) ((x + 1 : Nat) : Int)) r → Ev (fun k => S1 k s x (d : Int)) r := by
    intro n
    induction n with
    | zero =>
      intro d x s r hd hx hs hb h
      obtain rfl : d = M := by omega
      refine e1' x s r hx ?_
      simpa using h
    | succ n ih =>
      intro d x s r hd hx hs hb h
      have hfd := hf x d
      refine e1 x d s r hx (by omega) hs (by omega) (ih (d + 1) x _ r (by omega) hx (by omega) (by omega) ?_)
      rw [show s + f x d + (sumN (f x) M - sumN (f x) (d + 1)) = s + (sumN (f x) M - sumN (f x) d) by rw [sumN]; omega]
      exact h
  have hM : ∀ x, 0 ≤ sumN (f x) M ∧ sumN (f x) M ≤ 16 * M := fun x => sumN_bd (hf x) M
  have outer : ∀ (n x : Nat) (s : Int), x + n = N → 0 ≤ s → s ≤ 16 * (M : Int) * x → Ev (fun k => S0 k s (x : Int)) (s + (sumN (fun x => sumN (f x) M) N - sumN (fun x => sumN (f x) M) x)) := by
    intro n
    induction n with
    | zero =>
      intro x s hx _ _
      obtain rfl : x = N := by omega
      rw [Int.sub_self, Int.add_zero]
      exact e0' s
    | succ n ih =>
      intro x s hx hs hb
      have hx' : x < N := by omega
      have hle : (M : Int) * x + M ≤ 1000 := by
        have h1 : (x + 1) * M ≤ N * M := Nat.mul_le_mul_right M (by omega)
        have h2 : (x + 1) * M ≤ 1000 := Nat.le_trans h1 hNM
        have h3 : (((x + 1) * M : Nat) : Int) ≤ ((1000 : Nat) : Int) := Int.ofNat_le.2 h2
        rw [Int.natCast_mul, Int.natCast_add, Int.add_mul] at h3
        have : (x : Int) * M = M * x := Int.mul_comm _ _
        omega
      have hb' : s ≤ 16 * ((M : Int) * x) := by rw [← Int.mul_assoc]; exact hb
      have hMx := hM x
      refine e0 x s _ hx' (inner M 0 x s _ (by omega) hx' hs (by omega) ?_)
      rw [show sumN (f x) 0 = 0 from rfl, Int.sub_zero]
      have h := ih (x + 1) (s + sumN (f x) M) (by omega) (by omega) (by
        rw [Int.natCast_add, Int.mul_add, Int.mul_assoc]
        omega)
      rw [show s + sumN (f x) M + (sumN (fun x => sumN (f x) M) N - sumN (fun x => sumN (f x) M) (x + 1)) = s + (sumN (fun x => sumN (f x) M) N - sumN (fun x => sumN (f x) M) x) by rw [sumN]; omega] at h
      exact h
  have h := outer N 0 0 (by omega) (by omega) (by simp)
  rw [show sumN (fun x => sumN (f x) M) 0 = 0 from rfl, Int.sub_zero, Int.zero_add] at h
  exact h

set_option maxRecDepth 100000 in
theorem wrap_u16 (n : Int) : IntKind.u16.wrap n = n % 65536 := by simp [IntKind.wrap, IntKind.bits, IntKind.signed]
theorem wraps_u16 (n : Int) (h₀ : 0 ≤ n) (h₁ : n < 2 ^ 16) : IntKind.u16.wrap n = n := by rw [wrap_u16]; omega
theorem u16_and1023 {x : Int} (h₀ : 0 ≤ x) (h₁ : x < 65536) : Go.bits .and .u16 x 1023 = x % 1024 := bits_mask .u16 16 (by decide) wraps_u16 10 (by decide) x h₀ h₁
theorem u16_and1 {x : Int} (h₀ : 0 ≤ x) (h₁ : x < 65536) : Go.bits .and .u16 x 1 = x % 2 := bits_mask .u16 16 (by decide) wraps_u16 1 (by decide) x h₀ h₁
/-- Bit x of a number. -/
def bitV (v : Int) (x : Nat) : Int := v / 2 ^ x % 2
theorem bitV_01 (v : Int) (x : Nat) : 0 ≤ bitV v x ∧ bitV v x ≤ 1 := by unfold bitV; omega
theorem pow_facts : (2 : Int) ^ 0 = 1 ∧ (2 : Int) ^ 1 = 2 ∧ (2 : Int) ^ 2 = 4 ∧ (2 : Int) ^ 3 = 8 ∧ (2 : Int) ^ 4 = 16 ∧ (2 : Int) ^ 5 = 32 ∧ (2 : Int) ^ 6 = 64 ∧ (2 : Int) ^ 7 = 128 ∧ (2 : Int) ^ 8 = 256 ∧ (2 : Int) ^ 9 = 512 := by decide
theorem bitV_mod {v : Int} (h₀ : 0 ≤ v) {x : Nat} (hx : x < 10) : bitV (v % 1024) x = bitV v x := by
  unfold bitV
  obtain ⟨p0, p1, p2, p3, p4, p5, p6, p7, p8, p9⟩ := pow_facts
  rcases (show x = 0 ∨ x = 1 ∨ x = 2 ∨ x = 3 ∨ x = 4 ∨ x = 5 ∨ x = 6 ∨ x = 7 ∨ x = 8 ∨ x = 9 by omega) with rfl | rfl | rfl | rfl | rfl | rfl | rfl | rfl | rfl | rfl
  all_goals first | rw [p0] | rw [p1] | rw [p2] | rw [p3] | rw [p4] | rw [p5] | rw [p6] | rw [p7] | rw [p8] | rw [p9]
  all_goals omega
theorem shr_bit {v : Int} (h₀ : 0 ≤ v) (h₁ : v < 65536) {x : Nat} (hx : x < 10) : Go.bits .and .u16 (shr .u16 v (x : Int)) 1 = bitV v x := by
  have hs : shr .u16 v (x : Int) = v / 2 ^ x := by
    unfold shr
    rw [Int.toNat_natCast, Nat.min_eq_left (show x ≤ IntKind.u16.bits by unfold IntKind.bits; dsimp only; omega)]
  have hp : (0 : Int) < 2 ^ x := Int.pow_pos (by omega)
  have h2 : v / 2 ^ x ≤ v := Int.ediv_le_self _ h₀
  rw [hs, u16_and1 (Int.ediv_nonneg h₀ (by omega)) (by omega)]
  rfl
theorem tmod_nat (x : Nat) : Int.tmod (x : Int) 10 = ((x % 10 : Nat) : Int) := by rw [Int.tmod_eq_emod_of_nonneg (by omega)]; omega
theorem tdiv_nat (x : Nat) : Int.tdiv (x : Int) 10 = ((x / 10 : Nat) : Int) := by rw [Int.tdiv_eq_ediv_of_nonneg (by omega)]; omega
theorem i8_small (x : Nat) (h : x < 128) : IntKind.i8.wrap (x : Int) = x := by simp [IntKind.wrap, IntKind.bits, IntKind.signed]; omega
theorem u64_small (x : Nat) (h : x < 128) : IntKind.u64.wrap (x : Int) = x := by simp [IntKind.wrap, IntKind.bits, IntKind.signed]; omega
theorem wf_u16 {n : Int} (h : (Lit.int .u16 n).wf = true) : 0 ≤ n ∧ n < 65536 := by
  simp [Lit.wf, IntKind.min, IntKind.max, IntKind.signed, IntKind.bits] at h
  omega
theorem wf_i8 {n : Int} (h : (Lit.int .i8 n).wf = true) : -128 ≤ n ∧ n ≤ 127 := by
  simp [Lit.wf, IntKind.min, IntKind.max, IntKind.signed, IntKind.bits] at h
  omega
theorem rd_bound (l : List Int) (h : ∀ x ∈ l, 0 ≤ x ∧ x < 65536) (i : Int) : 0 ≤ rd l i ∧ rd l i < 65536 := by
  unfold rd
  by_cases hi : i.toNat < l.length
  · exact h _ (getD_mem l _ 0 hi)
  · rw [List.getD_eq_getElem?_getD, List.getElem?_eq_none (by omega)]
    show (0:Int) ≤ 0 ∧ (0:Int) < 65536
    omega

end Go.Proofs.Ytdedijjbdkoekaa.Q
