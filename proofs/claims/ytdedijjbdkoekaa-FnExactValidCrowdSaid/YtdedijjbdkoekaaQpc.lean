/- The crowd of all free cells, bit by bit. -/
import Derived.Test.YtdedijjbdkoekaaPAx11
import Derived.Test.YtdedijjbdkoekaaPAx3
import Derived.Test.YtdedijjbdkoekaaPAx9
import Derived.Test.YtdedijjbdkoekaaQrm
namespace Go.Proofs.Ytdedijjbdkoekaa.Q
open Go.RowKit Go.Proofs.YtdedijjbdkoekaaW.PrintWords Go.Proofs.YtdedijjbdkoekaaW.PrintLast Go.Proofs.YtdedijjbdkoekaaW.PrintMore Go.Proofs.Ytdedijjbdkoekaa.PA
set_option linter.unusedVariables false
set_option linter.unusedSimpArgs false

def putL (C : List Int) (x y d : Int) : List Int := C.set (d * 10 + y).toNat (Go.bits .or .u16 (rd C (d * 10 + y)) (shl .u16 1 x))
def foldD (C : List Int) (p : S33) : Nat → List Int
  | 0 => C
  | d + 1 => putL (foldD C p d) p.f0 p.f1 (d : Int)
theorem foldD_len (C : List Int) (p : S33) : ∀ d, (foldD C p d).length = C.length
  | 0 => rfl
  | d + 1 => by rw [foldD, putL, List.length_set, foldD_len C p d]
def plainL : List S33 → List Int → List Int
  | [], C => C
  | p :: ps, C => plainL ps (foldD C p 4)
theorem plainL_len : ∀ (l : List S33) (C : List Int), (plainL l C).length = C.length
  | [], _ => rfl
  | p :: ps, C => by rw [plainL, plainL_len ps, foldD_len]
def T40 (C : List Int) : Int × Int × Int × Int × Int × Int × Int × Int × Int × Int × Int × Int × Int × Int × Int × Int × Int × Int × Int × Int × Int × Int × Int × Int × Int × Int × Int × Int × Int × Int × Int × Int × Int × Int × Int × Int × Int × Int × Int × Int := (C.getD 0 0, C.getD 1 0, C.getD 2 0, C.getD 3 0, C.getD 4 0, C.getD 5 0, C.getD 6 0, C.getD 7 0, C.getD 8 0, C.getD 9 0, C.getD 10 0, C.getD 11 0, C.getD 12 0, C.getD 13 0, C.getD 14 0, C.getD 15 0, C.getD 16 0, C.getD 17 0, C.getD 18 0, C.getD 19 0, C.getD 20 0, C.getD 21 0, C.getD 22 0, C.getD 23 0, C.getD 24 0, C.getD 25 0, C.getD 26 0, C.getD 27 0, C.getD 28 0, C.getD 29 0, C.getD 30 0, C.getD 31 0, C.getD 32 0, C.getD 33 0, C.getD 34 0, C.getD 35 0, C.getD 36 0, C.getD 37 0, C.getD 38 0, C.getD 39 0)
set_option maxRecDepth 100000 in
theorem put_s (C : List Int) (hC : C.length = 40) (x y d : Int) (hx : 0 ≤ x ∧ x < 10) (hy : 0 ≤ y ∧ y < 10) (hd : 0 ≤ d ∧ d < 4) : spec_l06Put.f (C.getD 0 0) (C.getD 1 0) (C.getD 2 0) (C.getD 3 0) (C.getD 4 0) (C.getD 5 0) (C.getD 6 0) (C.getD 7 0) (C.getD 8 0) (C.getD 9 0) (C.getD 10 0) (C.getD 11 0) (C.getD 12 0) (C.getD 13 0) (C.getD 14 0) (C.getD 15 0) (C.getD 16 0) (C.getD 17 0) (C.getD 18 0) (C.getD 19 0) (C.getD 20 0) (C.getD 21 0) (C.getD 22 0) (C.getD 23 0) (C.getD 24 0) (C.getD 25 0) (C.getD 26 0) (C.getD 27 0) (C.getD 28 0) (C.getD 29 0) (C.getD 30 0) (C.getD 31 0) (C.getD 32 0) (C.getD 33 0) (C.getD 34 0) (C.getD 35 0) (C.getD 36 0) (C.getD 37 0) (C.getD 38 0) (C.getD 39 0) x y d = some (T40 (putL C x y d)) := by
  unfold spec_l06Put.f
  rw [if_pos (by omega), if_pos (by omega), if_pos (by omega), if_pos (by omega), ← list40 C hC, u64_int hx.1 (by omega)]
  unfold tup40
  rw [if_pos (by rw [List.length_set, hC])]
  rfl
theorem rdT_get (l : List S33) (i : Nat) : rd_T33 l (i : Int) = l.getD i z33 := by simp [rd_T33]
theorem Plain_inner (l : List S33) (i : Nat) (hi : i < l.length) (hp : (0 ≤ (l.getD i z33).f0 ∧ (l.getD i z33).f0 < 10) ∧ (0 ≤ (l.getD i z33).f1 ∧ (l.getD i z33).f1 < 10)) (hl : l.length ≤ 1000) (C : List Int) (hC : C.length = 40) (r : Int × Int × Int × Int × Int × Int × Int × Int × Int × Int × Int × Int × Int × Int × Int × Int × Int × Int × Int × Int × Int × Int × Int × Int × Int × Int × Int × Int × Int × Int × Int × Int × Int × Int × Int × Int × Int × Int × Int × Int) :
    ∀ n d : Nat, d + n = 4 → Ev (fun k => spec_l06Plain.l0 k l ((i + 1 : Nat) : Int) ((foldD C (l.getD i z33) 4).getD 0 0) ((foldD C (l.getD i z33) 4).getD 1 0) ((foldD C (l.getD i z33) 4).getD 2 0) ((foldD C (l.getD i z33) 4).getD 3 0) ((foldD C (l.getD i z33) 4).getD 4 0) ((foldD C (l.getD i z33) 4).getD 5 0) ((foldD C (l.getD i z33) 4).getD 6 0) ((foldD C (l.getD i z33) 4).getD 7 0) ((foldD C (l.getD i z33) 4).getD 8 0) ((foldD C (l.getD i z33) 4).getD 9 0) ((foldD C (l.getD i z33) 4).getD 10 0) ((foldD C (l.getD i z33) 4).getD 11 0) ((foldD C (l.getD i z33) 4).getD 12 0) ((foldD C (l.getD i z33) 4).getD 13 0) ((foldD C (l.getD i z33) 4).getD 14 0) ((foldD C (l.getD i z33) 4).getD 15 0) ((foldD C (l.getD i z33) 4).getD 16 0) ((foldD C (l.getD i z33) 4).getD 17 0) ((foldD C (l.getD i z33) 4).getD 18 0) ((foldD C (l.getD i z33) 4).getD 19 0) ((foldD C (l.getD i z33) 4).getD 20 0) ((foldD C (l.getD i z33) 4).getD 21 0) ((foldD C (l.getD i z33) 4).getD 22 0) ((foldD C (l.getD i z33) 4).getD 23 0) ((foldD C (l.getD i z33) 4).getD 24 0) ((foldD C (l.getD i z33) 4).getD 25 0) ((foldD C (l.getD i z33) 4).getD 26 0) ((foldD C (l.getD i z33) 4).getD 27 0) ((foldD C (l.getD i z33) 4).getD 28 0) ((foldD C (l.getD i z33) 4).getD 29 0) ((foldD C (l.getD i z33) 4).getD 30 0) ((foldD C (l.getD i z33) 4).getD 31 0) ((foldD C (l.getD i z33) 4).getD 32 0) ((foldD C (l.getD i z33) 4).getD 33 0) ((foldD C (l.getD i z33) 4).getD 34 0) ((foldD C (l.getD i z33) 4).getD 35 0) ((foldD C (l.getD i z33) 4).getD 36 0) ((foldD C (l.getD i z33) 4).getD 37 0) ((foldD C (l.getD i z33) 4).getD 38 0) ((foldD C (l.getD i z33) 4).getD 39 0)) r → Ev (fun k => spec_l06Plain.l1 k l (i : Int) (d : Int) ((foldD C (l.getD i z33) d).getD 0 0) ((foldD C (l.getD i z33) d).getD 1 0) ((foldD C (l.getD i z33) d).getD 2 0) ((foldD C (l.getD i z33) d).getD 3 0) ((foldD C (l.getD i z33) d).getD 4 0) ((foldD C (l.getD i z33) d).getD 5 0) ((foldD C (l.getD i z33) d).getD 6 0) ((foldD C (l.getD i z33) d).getD 7 0) ((foldD C (l.getD i z33) d).getD 8 0) ((foldD C (l.getD i z33) d).getD 9 0) ((foldD C (l.getD i z33) d).getD 10 0) ((foldD C (l.getD i z33) d).getD 11 0) ((foldD C (l.getD i z33) d).getD 12 0) ((foldD C (l.getD i z33) d).getD 13 0) ((foldD C (l.getD i z33) d).getD 14 0) ((foldD C (l.getD i z33) d).getD 15 0) ((foldD C (l.getD i z33) d).getD 16 0) ((foldD C (l.getD i z33) d).getD 17 0) ((foldD C (l.getD i z33) d).getD 18 0) ((foldD C (l.getD i z33) d).getD 19 0) ((foldD C (l.getD i z33) d).getD 20 0) ((foldD C (l.getD i z33) d).getD 21 0) ((foldD C (l.getD i z33) d).getD 22 0) ((foldD C (l.getD i z33) d).getD 23 0) ((foldD C (l.getD i z33) d).getD 24 0) ((foldD C (l.getD i z33) d).getD 25 0) ((foldD C (l.getD i z33) d).getD 26 0) ((foldD C (l.getD i z33) d).getD 27 0) ((foldD C (l.getD i z33) d).getD 28 0) ((foldD C (l.getD i z33) d).getD 29 0) ((foldD C (l.getD i z33) d).getD 30 0) ((foldD C (l.getD i z33) d).getD 31 0) ((foldD C (l.getD i z33) d).getD 32 0) ((foldD C (l.getD i z33) d).getD 33 0) ((foldD C (l.getD i z33) d).getD 34 0) ((foldD C (l.getD i z33) d).getD 35 0) ((foldD C (l.getD i z33) d).getD 36 0) ((foldD C (l.getD i z33) d).getD 37 0) ((foldD C (l.getD i z33) d).getD 38 0) ((foldD C (l.getD i z33) d).getD 39 0)) r := by
  intro n
  induction n with
  | zero =>
    intro d hd h
    obtain rfl : d = 4 := by omega
    refine Ev.succ ?_
    simp only [spec_l06Plain.l1]
    rw [wnat i l.length hi (by omega)]
    exact Ev.neg (by omega) h
  | succ n ih =>
    intro d hd h
    refine Ev.succ ?_
    simp only [spec_l06Plain.l1]
    refine Ev.pos (by omega) (Ev.pos (by omega) (Ev.pos (by omega) ?_))
    rw [rdT_get, put_s (foldD C (l.getD i z33) d) ((foldD_len _ _ _).trans hC) _ _ (d : Int) hp.1 hp.2 ⟨by omega, by omega⟩, wnat d 4 (by omega) (by omega)]
    simp only [Option.bind_some]
    exact ih (d + 1) (by omega) h
theorem Plain_ev (l : List S33) (hm : ∀ q ∈ l, (0 ≤ q.f0 ∧ q.f0 < 10) ∧ (0 ≤ q.f1 ∧ q.f1 < 10)) (hl : l.length ≤ 1000) :
    ∀ (n i : Nat) (C : List Int), i + n = l.length → C.length = 40 → Ev (fun k => spec_l06Plain.l0 k l (i : Int) (C.getD 0 0) (C.getD 1 0) (C.getD 2 0) (C.getD 3 0) (C.getD 4 0) (C.getD 5 0) (C.getD 6 0) (C.getD 7 0) (C.getD 8 0) (C.getD 9 0) (C.getD 10 0) (C.getD 11 0) (C.getD 12 0) (C.getD 13 0) (C.getD 14 0) (C.getD 15 0) (C.getD 16 0) (C.getD 17 0) (C.getD 18 0) (C.getD 19 0) (C.getD 20 0) (C.getD 21 0) (C.getD 22 0) (C.getD 23 0) (C.getD 24 0) (C.getD 25 0) (C.getD 26 0) (C.getD 27 0) (C.getD 28 0) (C.getD 29 0) (C.getD 30 0) (C.getD 31 0) (C.getD 32 0) (C.getD 33 0) (C.getD 34 0) (C.getD 35 0) (C.getD 36 0) (C.getD 37 0) (C.getD 38 0) (C.getD 39 0)) (T40 (plainL (l.drop i) C)) := by
  intro n
  induction n with
  | zero =>
    intro i C hi hC
    obtain rfl : i = l.length := by omega
    rw [List.drop_length]
    refine Ev.succ ?_
    simp only [spec_l06Plain.l0]
    exact Ev.neg (by omega) (Ev.now _)
  | succ n ih =>
    intro i C hi hC
    have hil : i < l.length := by omega
    have hp := hm _ (getD_mem l i z33 hil)
    refine Ev.succ ?_
    simp only [spec_l06Plain.l0]
    refine Ev.pos (by omega) ?_
    rw [drop_get l i z33 hil]
    exact Plain_inner l i hil hp hl C hC _ 4 0 rfl (ih (i + 1) (foldD C (l.getD i z33) 4) (by omega) ((foldD_len _ _ _).trans hC))

theorem rd_set_ne (x : List Int) (i j v : Int) (h0 : 0 ≤ i) (h1 : 0 ≤ j) (h : i ≠ j) : rd (x.set i.toNat v) j = rd x j := by
  have : i.toNat ≠ j.toNat := by omega
  simp [rd, List.getD_eq_getElem?_getD, List.getElem?_set, this]
/-- Each number of a crowd is one of 16 bits, and which bits are set. -/
def InvC (C : List Int) (M : Nat → Nat → Nat → Bool) : Prop := C.length = 40 ∧ ∀ d y : Nat, d < 4 → y < 10 → ∃ n : Nat, rd C ((d : Int) * 10 + (y : Int)) = n ∧ n < 2 ^ 16 ∧ ∀ x : Nat, n.testBit x = M d x y
theorem shl_pow (x : Nat) (hx : x < 10) : shl .u16 1 (x : Int) = ((2 ^ x : Nat) : Int) := by
  unfold shl
  rw [Int.one_mul, Int.toNat_natCast, Nat.min_eq_left (show x ≤ IntKind.u16.bits by unfold IntKind.bits; dsimp only; omega), wrap_u16]
  have h3 : 2 ^ x ≤ 2 ^ 9 := Nat.pow_le_pow_right (by omega) (by omega)
  have h2 : (2 : Int) ^ x = ((2 ^ x : Nat) : Int) := by simp
  rw [h2]
  generalize 2 ^ x = m at h3 ⊢
  omega
theorem InvC.put {C : List Int} {M : Nat → Nat → Nat → Bool} (h : InvC C M) (x y d : Nat) (hx : x < 10) (hy : y < 10) (hd : d < 4) : InvC (putL C (x : Int) (y : Int) (d : Int)) (fun d' x' y' => M d' x' y' || (decide (d' = d) && decide (x' = x) && decide (y' = y))) := by
  obtain ⟨hl, hb⟩ := h
  refine ⟨by rw [putL, List.length_set, hl], fun d' y' hd' hy' => ?_⟩
  by_cases he : d' = d ∧ y' = y
  · obtain ⟨rfl, rfl⟩ := he
    obtain ⟨n, hn, hlt, ht⟩ := hb d' y' hd hy
    have hp : 2 ^ x < 2 ^ 16 := Nat.pow_lt_pow_right (by omega) (by omega)
    refine ⟨n ||| 2 ^ x, ?_, Nat.or_lt_two_pow hlt hp, fun x' => ?_⟩
    · rw [putL, rd_set _ _ _ (by omega) (by rw [hl]; omega), hn, shl_pow x hx]
      exact (bits_nat .u16 16 (by decide) wraps_u16 n (2 ^ x) hlt hp).2
    · rw [Nat.testBit_or, Nat.testBit_two_pow, ht x']
      by_cases hxx : x' = x
      · subst hxx; simp
      · simp [hxx, Ne.symm hxx]
  · obtain ⟨n, hn, hlt, ht⟩ := hb d' y' hd' hy'
    refine ⟨n, ?_, hlt, fun x' => ?_⟩
    · rw [putL, rd_set_ne _ _ _ _ (by omega) (by omega) (by omega), hn]
    · rw [ht x']
      by_cases h1 : d' = d
      · have h2 : ¬ y' = y := fun h2 => he ⟨h1, h2⟩
        simp [h2]
      · simp [h1]
theorem InvC.congr {C : List Int} {M M' : Nat → Nat → Nat → Bool} (h : InvC C M) (e : ∀ d x y, d < 4 → M d x y = M' d x y) : InvC C M' :=
  ⟨h.1, fun d y hd hy => by obtain ⟨n, h1, h2, h3⟩ := h.2 d y hd hy; exact ⟨n, h1, h2, fun x => (h3 x).trans (e d x y hd)⟩⟩
theorem InvC.fold {C : List Int} {M : Nat → Nat → Nat → Bool} (h : InvC C M) (p : S33) (x y : Nat) (hx : x < 10) (hy : y < 10) (e0 : p.f0 = x) (e1 : p.f1 = y) : ∀ d, d ≤ 4 → InvC (foldD C p d) (fun d' x' y' => M d' x' y' || (decide (d' < d) && decide (x' = x) && decide (y' = y)))
  | 0, _ => h.congr fun d' x' y' _ => by simp
  | d + 1, hd => by
    have ih := InvC.fold h p x y hx hy e0 e1 d (by omega)
    rw [foldD, e0, e1]
    refine (ih.put x y d hx hy (by omega)).congr fun d' x' y' _ => ?_
    by_cases h1 : d' < d
    · have h2 : ¬ d' = d := by omega
      have h3 : d' < d + 1 := by omega
      simp [h1, h2, h3]
    · by_cases h2 : d' = d
      · subst h2; simp
      · have h3 : ¬ d' < d + 1 := by omega
        simp [h1, h2, h3]
theorem InvC.plain : ∀ (l : List S33) {C : List Int} {M : Nat → Nat → Nat → Bool}, InvC C M → (∀ q ∈ l, (0 ≤ q.f0 ∧ q.f0 < 10) ∧ (0 ≤ q.f1 ∧ q.f1 < 10)) → InvC (plainL l C) (fun d x y => M d x y || l.any fun q => decide (q.f0 = (x : Int)) && decide (q.f1 = (y : Int)))
  | [], _, _, h, _ => h.congr fun d x y _ => by simp
  | p :: ps, C, M, h, hm => by
    have hp := hm p (by simp)
    obtain ⟨x, hx⟩ : ∃ n : Nat, p.f0 = n := ⟨p.f0.toNat, by omega⟩
    obtain ⟨y, hy⟩ : ∃ n : Nat, p.f1 = n := ⟨p.f1.toNat, by omega⟩
    have h1 := InvC.plain ps (h.fold p x y (by omega) (by omega) hx hy 4 (by omega)) (fun q hq => hm q (by simp [hq]))
    refine h1.congr fun d x' y' hd => ?_
    have e0 : decide (p.f0 = (x' : Int)) = decide (x' = x) := by rw [hx]; exact decide_eq_decide.2 ⟨fun h => by omega, fun h => by omega⟩
    have e1 : decide (p.f1 = (y' : Int)) = decide (y' = y) := by rw [hy]; exact decide_eq_decide.2 ⟨fun h => by omega, fun h => by omega⟩
    have e2 : decide (d < 4) = true := decide_eq_true hd
    rw [List.any_cons, e0, e1, e2, Bool.true_and, Bool.or_assoc]
theorem rd_zero (i : Int) : rd (List.replicate 40 0) i = 0 := by
  rw [rd, List.getD_eq_getElem?_getD, List.getElem?_replicate]
  split <;> rfl
theorem InvC.zero : InvC (List.replicate 40 0) (fun _ _ _ => false) :=
  ⟨by rw [List.length_replicate], fun d y hd hy => ⟨0, rd_zero _, by omega, fun x => Nat.zero_testBit x⟩⟩
theorem row_any (p : Int → Int → Bool) (y : Nat) (acc : List S33) (x' y' : Nat) : ∀ n : Nat, ((rowL p (y : Int) acc n).any fun q => decide (q.f0 = (x' : Int)) && decide (q.f1 = (y' : Int))) = ((acc.any fun q => decide (q.f0 = (x' : Int)) && decide (q.f1 = (y' : Int))) || (decide (x' < n) && decide (y' = y) && p (x' : Int) (y' : Int)))
  | 0 => by simp [rowL]
  | n + 1 => by
    have ih := row_any p y acc x' y' n
    rw [rowL]
    by_cases h1 : x' = n
    · subst h1
      by_cases h2 : y' = y
      · subst h2
        cases hp : p (x' : Int) (y' : Int) with
        | true => rw [if_pos rfl, List.any_append, ih]; simp
        | false => rw [if_neg (by simp), ih]; simp [hp]
      · split
        · rw [List.any_append, ih]
          have : ¬ (y : Int) = (y' : Int) := by omega
          simp [h2, this]
        · rw [ih]; simp [h2]
    · have hlt : decide (x' < n + 1) = decide (x' < n) := decide_eq_decide.2 ⟨fun h => by omega, fun h => by omega⟩
      have hne : ¬ (n : Int) = (x' : Int) := by omega
      rw [hlt]
      split
      · rw [List.any_append, ih]; simp [hne]
      · exact ih
theorem cells_any (p : Int → Int → Bool) (w : Nat) (x y : Nat) : ∀ h : Nat, ((cellsL p w h).any fun q => decide (q.f0 = (x : Int)) && decide (q.f1 = (y : Int))) = (decide (x < w) && decide (y < h) && p (x : Int) (y : Int))
  | 0 => by simp [cellsL]
  | h + 1 => by
    rw [cellsL, row_any, cells_any p w x y h]
    by_cases h1 : y < h
    · have h2 : ¬ y = h := by omega
      have h3 : y < h + 1 := by omega
      simp [h1, h2, h3]
    · by_cases h2 : y = h
      · subst h2; simp
      · have h3 : ¬ y < h + 1 := by omega
        simp [h1, h2, h3]
/-- Which bits the crowd of all free cells has. -/
theorem plain_bits (W : List Int) (w h : Nat) (hw : w ≤ 10) (hh : h ≤ 10) : InvC (plainL (cellsL (fr W) w h) (List.replicate 40 0)) (fun d x y => decide (x < w) && decide (y < h) && fr W (x : Int) (y : Int)) := by
  have hm : ∀ q ∈ cellsL (fr W) w h, (0 ≤ q.f0 ∧ q.f0 < 10) ∧ (0 ≤ q.f1 ∧ q.f1 < 10) := fun q hq => by
    have := cellsL_mem (fr W) w h h (Nat.le_refl _) q hq
    omega
  exact (InvC.plain _ InvC.zero hm).congr fun d x y _ => by rw [cells_any, Bool.false_or]

end Go.Proofs.Ytdedijjbdkoekaa.Q
