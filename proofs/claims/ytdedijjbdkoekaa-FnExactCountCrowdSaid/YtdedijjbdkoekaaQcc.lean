/- Counting a crowd: the reference's function and the program's come to one sum. -/
import Derived.Test.YtdedijjbdkoekaaPAx6
import Derived.Test.YtdedijjbdkoekaaPAx7
import Derived.Test.YtdedijjbdkoekaaPAx8
import Derived.Test.YtdedijjbdkoekaaPAx9
import Derived.Test.YtdedijjbdkoekaaQl
import Derived.Test.YtdedijjbdkoekaaQk
import Derived.Laws.BitsLemmas
namespace Go.Proofs.Ytdedijjbdkoekaa.Q
open Go.RowKit Go.Proofs.YtdedijjbdkoekaaW.PrintWords Go.Proofs.YtdedijjbdkoekaaW.PrintLast Go.Proofs.YtdedijjbdkoekaaW.PrintMore Go.Proofs.Ytdedijjbdkoekaa.PA
set_option linter.unusedVariables false
set_option linter.unusedSimpArgs false

def sumN (f : Nat → Int) : Nat → Int
  | 0 => 0
  | n + 1 => sumN f n + f n
theorem sumN_congr {f g : Nat → Int} : ∀ n, (∀ i, i < n → f i = g i) → sumN f n = sumN g n
  | 0, _ => rfl
  | n + 1, h => by rw [sumN, sumN, sumN_congr n (fun i hi => h i (by omega)), h n (by omega)]
theorem sumN_add (f g : Nat → Int) : ∀ n, sumN (fun i => f i + g i) n = sumN f n + sumN g n
  | 0 => rfl
  | n + 1 => by rw [sumN, sumN, sumN, sumN_add f g n]; omega
theorem sumN_zero : ∀ n, sumN (fun _ => 0) n = 0
  | 0 => rfl
  | n + 1 => by rw [sumN, sumN_zero n]; rfl
theorem sumN_comm (f : Nat → Nat → Int) (m : Nat) : ∀ n, sumN (fun i => sumN (fun j => f i j) m) n = sumN (fun j => sumN (fun i => f i j) n) m
  | 0 => (sumN_zero m).symm
  | n + 1 => by rw [sumN, sumN_comm f m n, ← sumN_add]; exact sumN_congr m fun j _ => rfl
theorem sumN_split (f : Nat → Int) (a : Nat) : ∀ b, sumN f (a + b) = sumN f a + sumN (fun j => f (a + j)) b
  | 0 => by simp [sumN]
  | b + 1 => by rw [← Nat.add_assoc, sumN, sumN_split f a b, sumN]; omega
theorem sumN_mul (f : Nat → Int) (m : Nat) : ∀ n, sumN f (m * n) = sumN (fun y => sumN (fun x => f (m * y + x)) m) n
  | 0 => rfl
  | n + 1 => by rw [Nat.mul_succ, sumN_split, sumN_mul f m n, sumN]
theorem sumN_bd {f : Nat → Int} (hf : ∀ d, 0 ≤ f d ∧ f d ≤ 16) : ∀ n, 0 ≤ sumN f n ∧ sumN f n ≤ 16 * n
  | 0 => by simp [sumN]
  | n + 1 => by have := sumN_bd hf n; have := hf n; rw [sumN]; omega
/-- A loop in a loop that adds. -/
theorem Ev.sum2 (N M : Nat) (hNM : N * M ≤ 1000) (f : Nat → Nat → Int) (hf : ∀ x d, 0 ≤ f x d ∧ f x d ≤ 16) (S0 : Nat → Int → Int → Option Int) (S1 : Nat → Int → Int → Int → Option Int)
    (e0 : ∀ (x : Nat) s r, x < N → Ev (fun k => S1 k s x 0) r → Ev (fun k => S0 k s x) r) (e0' : ∀ s, Ev (fun k => S0 k s (N : Int)) s)
    (e1 : ∀ (x d : Nat) s r, x < N → d < M → 0 ≤ s → s ≤ 100000 → Ev (fun k => S1 k (s + f x d) x ((d + 1 : Nat) : Int)) r → Ev (fun k => S1 k s x (d : Int)) r)
    (e1' : ∀ (x : Nat) s r, x < N → Ev (fun k => S0 k s ((x + 1 : Nat) : Int)) r → Ev (fun k => S1 k s x (M : Int)) r) :
    Ev (fun k => S0 k 0 0) (sumN (fun x => sumN (f x) M) N) := by
  have inner : ∀ (n d x : Nat) (s r : Int), d + n = M → x < N → 0 ≤ s → s + 16 * (n : Int) ≤ 16000 → Ev (fun k => S0 k (s + (sumN (f x) M - sumN (f x) d)) ((x + 1 : Nat) : Int)) r → Ev (fun k => S1 k s x (d : Int)) r := by
    intro n
    induction n with
    | zero =>
      intro d x s r hd hx hs hb h
      obtain rfl : d = M := by omega
      refine e1' x s r hx ?_
      simpa using h
    | succ n ih =>
      intro d x s r hd hx hs hb h
      have hfd := hf x d
      refine e1 x d s r hx (by omega) hs (by omega) (ih (d + 1) x _ r (by omega) hx (by omega) (by omega) ?_)
      rw [show s + f x d + (sumN (f x) M - sumN (f x) (d + 1)) = s + (sumN (f x) M - sumN (f x) d) by rw [sumN]; omega]
      exact h
  have hM : ∀ x, 0 ≤ sumN (f x) M ∧ sumN (f x) M ≤ 16 * M := fun x => sumN_bd (hf x) M
  have outer : ∀ (n x : Nat) (s : Int), x + n = N → 0 ≤ s → s ≤ 16 * (M : Int) * x → Ev (fun k => S0 k s (x : Int)) (s + (sumN (fun x => sumN (f x) M) N - sumN (fun x => sumN (f x) M) x)) := by
    intro n
    induction n with
    | zero =>
      intro x s hx _ _
      obtain rfl : x = N := by omega
      rw [Int.sub_self, Int.add_zero]
      exact e0' s
    | succ n ih =>
      intro x s hx hs hb
      have hx' : x < N := by omega
      have hle : (M : Int) * x + M ≤ 1000 := by
        have h1 : (x + 1) * M ≤ N * M := Nat.mul_le_mul_right M (by omega)
        have h2 : (x + 1) * M ≤ 1000 := Nat.le_trans h1 hNM
        have h3 : (((x + 1) * M : Nat) : Int) ≤ ((1000 : Nat) : Int) := Int.ofNat_le.2 h2
        rw [Int.natCast_mul, Int.natCast_add, Int.add_mul] at h3
        have : (x : Int) * M = M * x := Int.mul_comm _ _
        omega
      have hb' : s ≤ 16 * ((M : Int) * x) := by rw [← Int.mul_assoc]; exact hb
      have hMx := hM x
      refine e0 x s _ hx' (inner M 0 x s _ (by omega) hx' hs (by omega) ?_)
      rw [show sumN (f x) 0 = 0 from rfl, Int.sub_zero]
      have h := ih (x + 1) (s + sumN (f x) M) (by omega) (by omega) (by
        rw [Int.natCast_add, Int.mul_add, Int.mul_assoc]
        omega)
      rw [show s + sumN (f x) M + (sumN (fun x => sumN (f x) M) N - sumN (fun x => sumN (f x) M) (x + 1)) = s + (sumN (fun x => sumN (f x) M) N - sumN (fun x => sumN (f x) M) x) by rw [sumN]; omega] at h
      exact h
  have h := outer N 0 0 (by omega) (by omega) (by simp)
  rw [show sumN (fun x => sumN (f x) M) 0 = 0 from rfl, Int.sub_zero, Int.zero_add] at h
  exact h

set_option maxRecDepth 100000 in
theorem wrap_u16 (n : Int) : IntKind.u16.wrap n = n % 65536 := by simp [IntKind.wrap, IntKind.bits, IntKind.signed]
theorem wraps_u16 (n : Int) (h₀ : 0 ≤ n) (h₁ : n < 2 ^ 16) : IntKind.u16.wrap n = n := by rw [wrap_u16]; omega
theorem u16_and1023 {x : Int} (h₀ : 0 ≤ x) (h₁ : x < 65536) : Go.bits .and .u16 x 1023 = x % 1024 := bits_mask .u16 16 (by decide) wraps_u16 10 (by decide) x h₀ h₁
theorem u16_and1 {x : Int} (h₀ : 0 ≤ x) (h₁ : x < 65536) : Go.bits .and .u16 x 1 = x % 2 := bits_mask .u16 16 (by decide) wraps_u16 1 (by decide) x h₀ h₁
/-- Bit x of a number. -/
def bitV (v : Int) (x : Nat) : Int := v / 2 ^ x % 2
theorem bitV_01 (v : Int) (x : Nat) : 0 ≤ bitV v x ∧ bitV v x ≤ 1 := by unfold bitV; omega
theorem pow_facts : (2 : Int) ^ 0 = 1 ∧ (2 : Int) ^ 1 = 2 ∧ (2 : Int) ^ 2 = 4 ∧ (2 : Int) ^ 3 = 8 ∧ (2 : Int) ^ 4 = 16 ∧ (2 : Int) ^ 5 = 32 ∧ (2 : Int) ^ 6 = 64 ∧ (2 : Int) ^ 7 = 128 ∧ (2 : Int) ^ 8 = 256 ∧ (2 : Int) ^ 9 = 512 := by decide
theorem bitV_mod {v : Int} (h₀ : 0 ≤ v) {x : Nat} (hx : x < 10) : bitV (v % 1024) x = bitV v x := by
  unfold bitV
  obtain ⟨p0, p1, p2, p3, p4, p5, p6, p7, p8, p9⟩ := pow_facts
  rcases (show x = 0 ∨ x = 1 ∨ x = 2 ∨ x = 3 ∨ x = 4 ∨ x = 5 ∨ x = 6 ∨ x = 7 ∨ x = 8 ∨ x = 9 by omega) with rfl | rfl | rfl | rfl | rfl | rfl | rfl | rfl | rfl | rfl
  all_goals first | rw [p0] | rw [p1] | rw [p2] | rw [p3] | rw [p4] | rw [p5] | rw [p6] | rw [p7] | rw [p8] | rw [p9]
  all_goals omega
theorem shr_bit {v : Int} (h₀ : 0 ≤ v) (h₁ : v < 65536) {x : Nat} (hx : x < 10) : Go.bits .and .u16 (shr .u16 v (x : Int)) 1 = bitV v x := by
  have hs : shr .u16 v (x : Int) = v / 2 ^ x := by
    unfold shr
    rw [Int.toNat_natCast, Nat.min_eq_left (show x ≤ IntKind.u16.bits by unfold IntKind.bits; dsimp only; omega)]
  have hp : (0 : Int) < 2 ^ x := Int.pow_pos (by omega)
  have h2 : v / 2 ^ x ≤ v := Int.ediv_le_self _ h₀
  rw [hs, u16_and1 (Int.ediv_nonneg h₀ (by omega)) (by omega)]
  rfl
set_option maxRecDepth 100000 in
theorem pop_table : ∀ m : Fin 1024, bits_OnesCount16.f ((m.val : Nat) : Int) = some (sumN (fun x => bitV ((m.val : Nat) : Int) x) 10) := by decide +kernel
theorem pop_v {v : Int} (h₀ : 0 ≤ v) (h₁ : v < 65536) : bits_OnesCount16.f (Go.bits .and .u16 v 1023) = some (sumN (bitV v) 10) := by
  rw [u16_and1023 h₀ h₁]
  have h := pop_table ⟨(v % 1024).toNat, by omega⟩
  simp only [Int.toNat_of_nonneg (show 0 ≤ v % 1024 by omega)] at h
  rw [h, sumN_congr 10 (fun x hx => bitV_mod h₀ hx)]
theorem tmod_nat (x : Nat) : Int.tmod (x : Int) 10 = ((x % 10 : Nat) : Int) := by rw [Int.tmod_eq_emod_of_nonneg (by omega)]; omega
theorem tdiv_nat (x : Nat) : Int.tdiv (x : Int) 10 = ((x / 10 : Nat) : Int) := by rw [Int.tdiv_eq_ediv_of_nonneg (by omega)]; omega
theorem i8_small (x : Nat) (h : x < 128) : IntKind.i8.wrap (x : Int) = x := by simp [IntKind.wrap, IntKind.bits, IntKind.signed]; omega
theorem u64_small (x : Nat) (h : x < 128) : IntKind.u64.wrap (x : Int) = x := by simp [IntKind.wrap, IntKind.bits, IntKind.signed]; omega
theorem spot_c (x : Nat) (hx : x < 100) : spec_l06Spot.f (x : Int) = some (((x % 10 : Nat) : Int), ((x / 10 : Nat) : Int)) := by
  unfold spec_l06Spot.f
  rw [tmod_nat, tdiv_nat, i8_small _ (by omega), wint _ (by omega) (by omega), i8_small _ (by omega)]
def hasC (C : List Int) (x d : Nat) : Bool := Go.bits .and .u16 (shr .u16 (rd C ((d : Int) * 10 + ((x / 10 : Nat) : Int))) ((x % 10 : Nat) : Int)) 1 == 1
theorem has_c (c0 c1 c2 c3 c4 c5 c6 c7 c8 c9 c10 c11 c12 c13 c14 c15 c16 c17 c18 c19 c20 c21 c22 c23 c24 c25 c26 c27 c28 c29 c30 c31 c32 c33 c34 c35 c36 c37 c38 c39 : Int) (x d : Nat) (hx : x < 100) (hd : d < 4) : spec_l06Has.f c0 c1 c2 c3 c4 c5 c6 c7 c8 c9 c10 c11 c12 c13 c14 c15 c16 c17 c18 c19 c20 c21 c22 c23 c24 c25 c26 c27 c28 c29 c30 c31 c32 c33 c34 c35 c36 c37 c38 c39 ((x % 10 : Nat) : Int) ((x / 10 : Nat) : Int) (d : Int) = some (hasC [c0, c1, c2, c3, c4, c5, c6, c7, c8, c9, c10, c11, c12, c13, c14, c15, c16, c17, c18, c19, c20, c21, c22, c23, c24, c25, c26, c27, c28, c29, c30, c31, c32, c33, c34, c35, c36, c37, c38, c39] x d) := by
  unfold spec_l06Has.f hasC
  rw [if_pos (by omega), if_pos (by omega), if_pos (by omega), if_pos (by omega), u64_small _ (by omega), if_pos (by omega)]
theorem spec_Count_ev (c0 c1 c2 c3 c4 c5 c6 c7 c8 c9 c10 c11 c12 c13 c14 c15 c16 c17 c18 c19 c20 c21 c22 c23 c24 c25 c26 c27 c28 c29 c30 c31 c32 c33 c34 c35 c36 c37 c38 c39 : Int) : Ev (fun k => spec_CountCrowd.f k c0 c1 c2 c3 c4 c5 c6 c7 c8 c9 c10 c11 c12 c13 c14 c15 c16 c17 c18 c19 c20 c21 c22 c23 c24 c25 c26 c27 c28 c29 c30 c31 c32 c33 c34 c35 c36 c37 c38 c39) (sumN (fun x => sumN (fun d => if hasC [c0, c1, c2, c3, c4, c5, c6, c7, c8, c9, c10, c11, c12, c13, c14, c15, c16, c17, c18, c19, c20, c21, c22, c23, c24, c25, c26, c27, c28, c29, c30, c31, c32, c33, c34, c35, c36, c37, c38, c39] x d then 1 else 0) 4) 100) := by
  show Ev (fun k => spec_CountCrowd.l0 k 0 0 c0 c1 c2 c3 c4 c5 c6 c7 c8 c9 c10 c11 c12 c13 c14 c15 c16 c17 c18 c19 c20 c21 c22 c23 c24 c25 c26 c27 c28 c29 c30 c31 c32 c33 c34 c35 c36 c37 c38 c39) _
  refine Ev.sum2 100 4 (by omega) (fun x d => if hasC [c0, c1, c2, c3, c4, c5, c6, c7, c8, c9, c10, c11, c12, c13, c14, c15, c16, c17, c18, c19, c20, c21, c22, c23, c24, c25, c26, c27, c28, c29, c30, c31, c32, c33, c34, c35, c36, c37, c38, c39] x d then 1 else 0) (fun x d => by dsimp only; split <;> omega) (fun k s x => spec_CountCrowd.l0 k s x c0 c1 c2 c3 c4 c5 c6 c7 c8 c9 c10 c11 c12 c13 c14 c15 c16 c17 c18 c19 c20 c21 c22 c23 c24 c25 c26 c27 c28 c29 c30 c31 c32 c33 c34 c35 c36 c37 c38 c39) (fun k s x d => spec_CountCrowd.l1 k s x d c0 c1 c2 c3 c4 c5 c6 c7 c8 c9 c10 c11 c12 c13 c14 c15 c16 c17 c18 c19 c20 c21 c22 c23 c24 c25 c26 c27 c28 c29 c30 c31 c32 c33 c34 c35 c36 c37 c38 c39) ?_ ?_ ?_ ?_
  · intro x s r hx h
    refine Ev.succ ?_
    simp only [spec_CountCrowd.l0]
    exact Ev.pos (by omega) h
  · intro s
    refine Ev.succ ?_
    simp only [spec_CountCrowd.l0]
    exact Ev.neg (by omega) (Ev.now s)
  · intro x d s r hx hd hs hb h
    refine Ev.succ ?_
    simp only [spec_CountCrowd.l1]
    refine Ev.pos (by omega) ?_
    rw [spot_c x hx]
    simp only [Option.bind_some]
    rw [has_c c0 c1 c2 c3 c4 c5 c6 c7 c8 c9 c10 c11 c12 c13 c14 c15 c16 c17 c18 c19 c20 c21 c22 c23 c24 c25 c26 c27 c28 c29 c30 c31 c32 c33 c34 c35 c36 c37 c38 c39 x d hx hd]
    simp only [Option.bind_some]
    rw [wnat d 4 hd (by omega)]
    cases hc : hasC [c0, c1, c2, c3, c4, c5, c6, c7, c8, c9, c10, c11, c12, c13, c14, c15, c16, c17, c18, c19, c20, c21, c22, c23, c24, c25, c26, c27, c28, c29, c30, c31, c32, c33, c34, c35, c36, c37, c38, c39] x d with
    | true =>
      simp only [hc, if_true] at h ⊢
      rw [wint (s + 1) (by omega) (by omega)]
      exact h
    | false =>
      simp only [hc, Bool.false_eq_true, if_false, Int.add_zero] at h ⊢
      exact h
  · intro x s r hx h
    refine Ev.succ ?_
    simp only [spec_CountCrowd.l1]
    refine Ev.neg (by omega) ?_
    rw [wnat x 100 hx (by omega)]
    exact h
theorem idx26_c (c0 c1 c2 c3 c4 c5 c6 c7 c8 c9 c10 c11 c12 c13 c14 c15 c16 c17 c18 c19 c20 c21 c22 c23 c24 c25 c26 c27 c28 c29 c30 c31 c32 c33 c34 c35 c36 c37 c38 c39 : Int) (x : Nat) (hx : x < 4) (C : List Int) (hC : C = [c0, c1, c2, c3, c4, c5, c6, c7, c8, c9, c10, c11, c12, c13, c14, c15, c16, c17, c18, c19, c20, c21, c22, c23, c24, c25, c26, c27, c28, c29, c30, c31, c32, c33, c34, c35, c36, c37, c38, c39]) : idx26.f c0 c1 c2 c3 c4 c5 c6 c7 c8 c9 c10 c11 c12 c13 c14 c15 c16 c17 c18 c19 c20 c21 c22 c23 c24 c25 c26 c27 c28 c29 c30 c31 c32 c33 c34 c35 c36 c37 c38 c39 (x : Int) = some (rd C ((x : Int) * 10), rd C ((x : Int) * 10 + 1), rd C ((x : Int) * 10 + 2), rd C ((x : Int) * 10 + 3), rd C ((x : Int) * 10 + 4), rd C ((x : Int) * 10 + 5), rd C ((x : Int) * 10 + 6), rd C ((x : Int) * 10 + 7), rd C ((x : Int) * 10 + 8), rd C ((x : Int) * 10 + 9)) := by
  subst hC
  unfold idx26.f
  rw [if_pos (by omega), if_pos (by omega)]
theorem rd_row (C : List Int) (x : Int) (j : Nat) (hj : j < 10) : rd [rd C (x * 10), rd C (x * 10 + 1), rd C (x * 10 + 2), rd C (x * 10 + 3), rd C (x * 10 + 4), rd C (x * 10 + 5), rd C (x * 10 + 6), rd C (x * 10 + 7), rd C (x * 10 + 8), rd C (x * 10 + 9)] (j : Int) = rd C (x * 10 + j) := by
  rcases (show j = 0 ∨ j = 1 ∨ j = 2 ∨ j = 3 ∨ j = 4 ∨ j = 5 ∨ j = 6 ∨ j = 7 ∨ j = 8 ∨ j = 9 by omega) with rfl | rfl | rfl | rfl | rfl | rfl | rfl | rfl | rfl | rfl
  · rw [show x * 10 + ((0 : Nat) : Int) = x * 10 by omega]; rfl
  all_goals rfl
theorem impl_Count_ev (c0 c1 c2 c3 c4 c5 c6 c7 c8 c9 c10 c11 c12 c13 c14 c15 c16 c17 c18 c19 c20 c21 c22 c23 c24 c25 c26 c27 c28 c29 c30 c31 c32 c33 c34 c35 c36 c37 c38 c39 : Int) (C : List Int) (hC : C = [c0, c1, c2, c3, c4, c5, c6, c7, c8, c9, c10, c11, c12, c13, c14, c15, c16, c17, c18, c19, c20, c21, c22, c23, c24, c25, c26, c27, c28, c29, c30, c31, c32, c33, c34, c35, c36, c37, c38, c39]) (hb : ∀ i, 0 ≤ rd C i ∧ rd C i < 65536) : Ev (fun k => impl_CountCrowd.f k c0 c1 c2 c3 c4 c5 c6 c7 c8 c9 c10 c11 c12 c13 c14 c15 c16 c17 c18 c19 c20 c21 c22 c23 c24 c25 c26 c27 c28 c29 c30 c31 c32 c33 c34 c35 c36 c37 c38 c39) (sumN (fun i => sumN (fun j => sumN (bitV (rd C ((i : Int) * 10 + (j : Int)))) 10) 10) 4) := by
  show Ev (fun k => impl_CountCrowd.l0 k 0 0 c0 c1 c2 c3 c4 c5 c6 c7 c8 c9 c10 c11 c12 c13 c14 c15 c16 c17 c18 c19 c20 c21 c22 c23 c24 c25 c26 c27 c28 c29 c30 c31 c32 c33 c34 c35 c36 c37 c38 c39) _
  have hpb : ∀ i : Int, 0 ≤ sumN (bitV (rd C i)) 10 ∧ sumN (bitV (rd C i)) 10 ≤ 10 := by
    intro i
    have h0 := bitV_01 (rd C i) 0; have h1 := bitV_01 (rd C i) 1; have h2 := bitV_01 (rd C i) 2; have h3 := bitV_01 (rd C i) 3; have h4 := bitV_01 (rd C i) 4
    have h5 := bitV_01 (rd C i) 5; have h6 := bitV_01 (rd C i) 6; have h7 := bitV_01 (rd C i) 7; have h8 := bitV_01 (rd C i) 8; have h9 := bitV_01 (rd C i) 9
    simp only [sumN]
    omega
  refine Ev.sum2 4 10 (by omega) (fun i j => sumN (bitV (rd C ((i : Int) * 10 + (j : Int)))) 10) (fun x d => by have := hpb ((x : Int) * 10 + (d : Int)); omega) (fun k s x => impl_CountCrowd.l0 k s x c0 c1 c2 c3 c4 c5 c6 c7 c8 c9 c10 c11 c12 c13 c14 c15 c16 c17 c18 c19 c20 c21 c22 c23 c24 c25 c26 c27 c28 c29 c30 c31 c32 c33 c34 c35 c36 c37 c38 c39) (fun k s x d => impl_CountCrowd.l1 k s x d c0 c1 c2 c3 c4 c5 c6 c7 c8 c9 c10 c11 c12 c13 c14 c15 c16 c17 c18 c19 c20 c21 c22 c23 c24 c25 c26 c27 c28 c29 c30 c31 c32 c33 c34 c35 c36 c37 c38 c39 (rd C (x * 10)) (rd C (x * 10 + 1)) (rd C (x * 10 + 2)) (rd C (x * 10 + 3)) (rd C (x * 10 + 4)) (rd C (x * 10 + 5)) (rd C (x * 10 + 6)) (rd C (x * 10 + 7)) (rd C (x * 10 + 8)) (rd C (x * 10 + 9))) ?_ ?_ ?_ ?_
  · intro x s r hx h
    refine Ev.succ ?_
    simp only [impl_CountCrowd.l0]
    refine Ev.pos (by omega) ?_
    rw [idx26_c c0 c1 c2 c3 c4 c5 c6 c7 c8 c9 c10 c11 c12 c13 c14 c15 c16 c17 c18 c19 c20 c21 c22 c23 c24 c25 c26 c27 c28 c29 c30 c31 c32 c33 c34 c35 c36 c37 c38 c39 x hx C hC]
    simp only [Option.bind_some]
    exact h
  · intro s
    refine Ev.succ ?_
    simp only [impl_CountCrowd.l0]
    exact Ev.neg (by omega) (Ev.now s)
  · intro x d s r hx hd hs hb' h
    refine Ev.succ ?_
    simp only [impl_CountCrowd.l1]
    refine Ev.pos (by omega) (Ev.pos (by omega) ?_)
    rw [rd_row C (x : Int) d hd, pop_v (hb _).1 (hb _).2]
    simp only [Option.bind_some]
    have := hpb ((x : Int) * 10 + (d : Int))
    rw [wnat d 10 hd (by omega), wint (s + _) (by omega) (by omega)]
    exact h
  · intro x s r hx h
    refine Ev.succ ?_
    simp only [impl_CountCrowd.l1]
    refine Ev.neg (by omega) ?_
    rw [wnat x 4 hx (by omega)]
    exact h
theorem count_same (C : List Int) (hb : ∀ i, 0 ≤ rd C i ∧ rd C i < 65536) :
    sumN (fun x => sumN (fun d => if hasC C x d then 1 else 0) 4) 100 = sumN (fun i => sumN (fun j => sumN (bitV (rd C ((i : Int) * 10 + (j : Int)))) 10) 10) 4 := by
  have e1 : ∀ x d : Nat, x < 100 → (if hasC C x d then (1 : Int) else 0) = bitV (rd C ((d : Int) * 10 + ((x / 10 : Nat) : Int))) (x % 10) := by
    intro x d hx
    unfold hasC
    rw [shr_bit (hb _).1 (hb _).2 (by omega)]
    have := bitV_01 (rd C ((d : Int) * 10 + ((x / 10 : Nat) : Int))) (x % 10)
    by_cases h : bitV (rd C ((d : Int) * 10 + ((x / 10 : Nat) : Int))) (x % 10) = 1
    · rw [h]; rfl
    · rw [show bitV (rd C ((d : Int) * 10 + ((x / 10 : Nat) : Int))) (x % 10) = 0 by omega]; rfl
  rw [sumN_congr 100 (fun x hx => sumN_congr 4 (fun d _ => e1 x d hx)), sumN_comm]
  refine sumN_congr 4 fun d _ => ?_
  rw [show (100 : Nat) = 10 * 10 from rfl, sumN_mul]
  refine sumN_congr 10 fun y hy => sumN_congr 10 fun x hx => ?_
  rw [show (10 * y + x) / 10 = y by omega, show (10 * y + x) % 10 = x by omega]
theorem CountCrowd_both (c0 c1 c2 c3 c4 c5 c6 c7 c8 c9 c10 c11 c12 c13 c14 c15 c16 c17 c18 c19 c20 c21 c22 c23 c24 c25 c26 c27 c28 c29 c30 c31 c32 c33 c34 c35 c36 c37 c38 c39 : Int) (hb : ∀ i, 0 ≤ rd [c0, c1, c2, c3, c4, c5, c6, c7, c8, c9, c10, c11, c12, c13, c14, c15, c16, c17, c18, c19, c20, c21, c22, c23, c24, c25, c26, c27, c28, c29, c30, c31, c32, c33, c34, c35, c36, c37, c38, c39] i ∧ rd [c0, c1, c2, c3, c4, c5, c6, c7, c8, c9, c10, c11, c12, c13, c14, c15, c16, c17, c18, c19, c20, c21, c22, c23, c24, c25, c26, c27, c28, c29, c30, c31, c32, c33, c34, c35, c36, c37, c38, c39] i < 65536) : ∃ r, Ev (fun k => spec_CountCrowd.f k c0 c1 c2 c3 c4 c5 c6 c7 c8 c9 c10 c11 c12 c13 c14 c15 c16 c17 c18 c19 c20 c21 c22 c23 c24 c25 c26 c27 c28 c29 c30 c31 c32 c33 c34 c35 c36 c37 c38 c39) r ∧ Ev (fun k => impl_CountCrowd.f k c0 c1 c2 c3 c4 c5 c6 c7 c8 c9 c10 c11 c12 c13 c14 c15 c16 c17 c18 c19 c20 c21 c22 c23 c24 c25 c26 c27 c28 c29 c30 c31 c32 c33 c34 c35 c36 c37 c38 c39) r :=
  ⟨_, spec_Count_ev c0 c1 c2 c3 c4 c5 c6 c7 c8 c9 c10 c11 c12 c13 c14 c15 c16 c17 c18 c19 c20 c21 c22 c23 c24 c25 c26 c27 c28 c29 c30 c31 c32 c33 c34 c35 c36 c37 c38 c39, Ev.eq (impl_Count_ev c0 c1 c2 c3 c4 c5 c6 c7 c8 c9 c10 c11 c12 c13 c14 c15 c16 c17 c18 c19 c20 c21 c22 c23 c24 c25 c26 c27 c28 c29 c30 c31 c32 c33 c34 c35 c36 c37 c38 c39 [c0, c1, c2, c3, c4, c5, c6, c7, c8, c9, c10, c11, c12, c13, c14, c15, c16, c17, c18, c19, c20, c21, c22, c23, c24, c25, c26, c27, c28, c29, c30, c31, c32, c33, c34, c35, c36, c37, c38, c39] rfl hb) (count_same [c0, c1, c2, c3, c4, c5, c6, c7, c8, c9, c10, c11, c12, c13, c14, c15, c16, c17, c18, c19, c20, c21, c22, c23, c24, c25, c26, c27, c28, c29, c30, c31, c32, c33, c34, c35, c36, c37, c38, c39] hb).symm⟩

end Go.Proofs.Ytdedijjbdkoekaa.Q
