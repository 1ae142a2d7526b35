/- Crowds of all free cells: the reference and the program put the same spots into the same crowd. -/
import Derived.Test.YtdedijjbdkoekaaPAx10
import Derived.Test.YtdedijjbdkoekaaPAx11
import Derived.Test.YtdedijjbdkoekaaPAx13
import Derived.Test.YtdedijjbdkoekaaPAx3
import Derived.Test.YtdedijjbdkoekaaPAx9
import Derived.Test.YtdedijjbdkoekaaQrm
namespace Go.Proofs.Ytdedijjbdkoekaa.Q
open Go.RowKit Go.Proofs.YtdedijjbdkoekaaW.PrintWords Go.Proofs.YtdedijjbdkoekaaW.PrintLast Go.Proofs.YtdedijjbdkoekaaW.PrintMore Go.Proofs.Ytdedijjbdkoekaa.PA
set_option linter.unusedVariables false
set_option linter.unusedSimpArgs false

def putL (C : List Int) (x y d : Int) : List Int := C.set (d * 10 + y).toNat (Go.bits .or .u16 (rd C (d * 10 + y)) (shl .u16 1 x))
def foldD (C : List Int) (p : S33) : Nat → List Int
  | 0 => C
  | d + 1 => putL (foldD C p d) p.f0 p.f1 (d : Int)
theorem foldD_len (C : List Int) (p : S33) : ∀ d, (foldD C p d).length = C.length
  | 0 => rfl
  | d + 1 => by rw [foldD, putL, List.length_set, foldD_len C p d]
def plainL : List S33 → List Int → List Int
  | [], C => C
  | p :: ps, C => plainL ps (foldD C p 4)
def T40 (C : List Int) : Int × Int × Int × Int × Int × Int × Int × Int × Int × Int × Int × Int × Int × Int × Int × Int × Int × Int × Int × Int × Int × Int × Int × Int × Int × Int × Int × Int × Int × Int × Int × Int × Int × Int × Int × Int × Int × Int × Int × Int := (C.getD 0 0, C.getD 1 0, C.getD 2 0, C.getD 3 0, C.getD 4 0, C.getD 5 0, C.getD 6 0, C.getD 7 0, C.getD 8 0, C.getD 9 0, C.getD 10 0, C.getD 11 0, C.getD 12 0, C.getD 13 0, C.getD 14 0, C.getD 15 0, C.getD 16 0, C.getD 17 0, C.getD 18 0, C.getD 19 0, C.getD 20 0, C.getD 21 0, C.getD 22 0, C.getD 23 0, C.getD 24 0, C.getD 25 0, C.getD 26 0, C.getD 27 0, C.getD 28 0, C.getD 29 0, C.getD 30 0, C.getD 31 0, C.getD 32 0, C.getD 33 0, C.getD 34 0, C.getD 35 0, C.getD 36 0, C.getD 37 0, C.getD 38 0, C.getD 39 0)
set_option maxRecDepth 100000 in
theorem put_s (C : List Int) (hC : C.length = 40) (x y d : Int) (hx : 0 ≤ x ∧ x < 10) (hy : 0 ≤ y ∧ y < 10) (hd : 0 ≤ d ∧ d < 4) : spec_l06Put.f (C.getD 0 0) (C.getD 1 0) (C.getD 2 0) (C.getD 3 0) (C.getD 4 0) (C.getD 5 0) (C.getD 6 0) (C.getD 7 0) (C.getD 8 0) (C.getD 9 0) (C.getD 10 0) (C.getD 11 0) (C.getD 12 0) (C.getD 13 0) (C.getD 14 0) (C.getD 15 0) (C.getD 16 0) (C.getD 17 0) (C.getD 18 0) (C.getD 19 0) (C.getD 20 0) (C.getD 21 0) (C.getD 22 0) (C.getD 23 0) (C.getD 24 0) (C.getD 25 0) (C.getD 26 0) (C.getD 27 0) (C.getD 28 0) (C.getD 29 0) (C.getD 30 0) (C.getD 31 0) (C.getD 32 0) (C.getD 33 0) (C.getD 34 0) (C.getD 35 0) (C.getD 36 0) (C.getD 37 0) (C.getD 38 0) (C.getD 39 0) x y d = some (T40 (putL C x y d)) := by
  unfold spec_l06Put.f
  rw [if_pos (by omega), if_pos (by omega), if_pos (by omega), if_pos (by omega), ← list40 C hC, u64_int hx.1 (by omega)]
  unfold tup40
  rw [if_pos (by rw [List.length_set, hC])]
  rfl
set_option maxRecDepth 100000 in
theorem put_i (C : List Int) (hC : C.length = 40) (x y d : Int) (hx : 0 ≤ x ∧ x < 10) (hy : 0 ≤ y ∧ y < 10) (hd : 0 ≤ d ∧ d < 4) : impl_Crowd_set.f (C.getD 0 0) (C.getD 1 0) (C.getD 2 0) (C.getD 3 0) (C.getD 4 0) (C.getD 5 0) (C.getD 6 0) (C.getD 7 0) (C.getD 8 0) (C.getD 9 0) (C.getD 10 0) (C.getD 11 0) (C.getD 12 0) (C.getD 13 0) (C.getD 14 0) (C.getD 15 0) (C.getD 16 0) (C.getD 17 0) (C.getD 18 0) (C.getD 19 0) (C.getD 20 0) (C.getD 21 0) (C.getD 22 0) (C.getD 23 0) (C.getD 24 0) (C.getD 25 0) (C.getD 26 0) (C.getD 27 0) (C.getD 28 0) (C.getD 29 0) (C.getD 30 0) (C.getD 31 0) (C.getD 32 0) (C.getD 33 0) (C.getD 34 0) (C.getD 35 0) (C.getD 36 0) (C.getD 37 0) (C.getD 38 0) (C.getD 39 0) x y d = some (T40 (putL C x y d)) := by
  unfold impl_Crowd_set.f
  rw [if_pos (by omega), if_pos (by omega), if_pos (by omega), if_pos (by omega), if_pos (by omega), ← list40 C hC]
  unfold tup40
  rw [if_pos (by rw [List.length_set, hC])]
  rfl
theorem rdT_get (l : List S33) (i : Nat) : rd_T33 l (i : Int) = l.getD i z33 := by simp [rd_T33]
theorem Plain_inner (l : List S33) (i : Nat) (hi : i < l.length) (hp : (0 ≤ (l.getD i z33).f0 ∧ (l.getD i z33).f0 < 10) ∧ (0 ≤ (l.getD i z33).f1 ∧ (l.getD i z33).f1 < 10)) (hl : l.length ≤ 1000) (C : List Int) (hC : C.length = 40) (r : Int × Int × Int × Int × Int × Int × Int × Int × Int × Int × Int × Int × Int × Int × Int × Int × Int × Int × Int × Int × Int × Int × Int × Int × Int × Int × Int × Int × Int × Int × Int × Int × Int × Int × Int × Int × Int × Int × Int × Int) :
    ∀ n d : Nat, d + n = 4 → Ev (fun k => spec_l06Plain.l0 k l ((i + 1 : Nat) : Int) ((foldD C (l.getD i z33) 4).getD 0 0) ((foldD C (l.getD i z33) 4).getD 1 0) ((foldD C (l.getD i z33) 4).getD 2 0) ((foldD C (l.getD i z33) 4).getD 3 0) ((foldD C (l.getD i z33) 4).getD 4 0) ((foldD C (l.getD i z33) 4).getD 5 0) ((foldD C (l.getD i z33) 4).getD 6 0) ((foldD C (l.getD i z33) 4).getD 7 0) ((foldD C (l.getD i z33) 4).getD 8 0) ((foldD C (l.getD i z33) 4).getD 9 0) ((foldD C (l.getD i z33) 4).getD 10 0) ((foldD C (l.getD i z33) 4).getD 11 0) ((foldD C (l.getD i z33) 4).getD 12 0) ((foldD C (l.getD i z33) 4).getD 13 0) ((foldD C (l.getD i z33) 4).getD 14 0) ((foldD C (l.getD i z33) 4).getD 15 0) ((foldD C (l.getD i z33) 4).getD 16 0) ((foldD C (l.getD i z33) 4).getD 17 0) ((foldD C (l.getD i z33) 4).getD 18 0) ((foldD C (l.getD i z33) 4).getD 19 0) ((foldD C (l.getD i z33) 4).getD 20 0) ((foldD C (l.getD i z33) 4).getD 21 0) ((foldD C (l.getD i z33) 4).getD 22 0) ((foldD C (l.getD i z33) 4).getD 23 0) ((foldD C (l.getD i z33) 4).getD 24 0) ((foldD C (l.getD i z33) 4).getD 25 0) ((foldD C (l.getD i z33) 4).getD 26 0) ((foldD C (l.getD i z33) 4).getD 27 0) ((foldD C (l.getD i z33) 4).getD 28 0) ((foldD C (l.getD i z33) 4).getD 29 0) ((foldD C (l.getD i z33) 4).getD 30 0) ((foldD C (l.getD i z33) 4).getD 31 0) ((foldD C (l.getD i z33) 4).getD 32 0) ((foldD C (l.getD i z33) 4).getD 33 0) ((foldD C (l.getD i z33) 4).getD 34 0) ((foldD C (l.getD i z33) 4).getD 35 0) ((foldD C (l.getD i z33) 4).getD 36 0) ((foldD C (l.getD i z33) 4).getD 37 0) ((foldD C (l.getD i z33) 4).getD 38 0) ((foldD C (l.getD i z33) 4).getD 39 0)) r → Ev (fun k => spec_l06Plain.l1 k l (i : Int) (d : Int) ((foldD C (l.getD i z33) d).getD 0 0) ((foldD C (l.getD i z33) d).getD 1 0) ((foldD C (l.getD i z33) d).getD 2 0) ((foldD C (l.getD i z33) d).getD 3 0) ((foldD C (l.getD i z33) d).getD 4 0) ((foldD C (l.getD i z33) d).getD 5 0) ((foldD C (l.getD i z33) d).getD 6 0) ((foldD C (l.getD i z33) d).getD 7 0) ((foldD C (l.getD i z33) d).getD 8 0) ((foldD C (l.getD i z33) d).getD 9 0) ((foldD C (l.getD i z33) d).getD 10 0) ((foldD C (l.getD i z33) d).getD 11 0) ((foldD C (l.getD i z33) d).getD 12 0) ((foldD C (l.getD i z33) d).getD 13 0) ((foldD C (l.getD i z33) d).getD 14 0) ((foldD C (l.getD i z33) d).getD 15 0) ((foldD C (l.getD i z33) d).getD 16 0) ((foldD C (l.getD i z33) d).getD 17 0) ((foldD C (l.getD i z33) d).getD 18 0) ((foldD C (l.getD i z33) d).getD 19 0) ((foldD C (l.getD i z33) d).getD 20 0) ((foldD C (l.getD i z33) d).getD 21 0) ((foldD C (l.getD i z33) d).getD 22 0) ((foldD C (l.getD i z33) d).getD 23 0) ((foldD C (l.getD i z33) d).getD 24 0) ((foldD C (l.getD i z33) d).getD 25 0) ((foldD C (l.getD i z33) d).getD 26 0) ((foldD C (l.getD i z33) d).getD 27 0) ((foldD C (l.getD i z33) d).getD 28 0) ((foldD C (l.getD i z33) d).getD 29 0) ((foldD C (l.getD i z33) d).getD 30 0) ((foldD C (l.getD i z33) d).getD 31 0) ((foldD C (l.getD i z33) d).getD 32 0) ((foldD C (l.getD i z33) d).getD 33 0) ((foldD C (l.getD i z33) d).getD 34 0) ((foldD C (l.getD i z33) d).getD 35 0) ((foldD C (l.getD i z33) d).getD 36 0) ((foldD C (l.getD i z33) d).getD 37 0) ((foldD C (l.getD i z33) d).getD 38 0) ((foldD C (l.getD i z33) d).getD 39 0)) r := by
  intro n
  induction n with
  | zero =>
    intro d hd h
    obtain rfl : d = 4 := by omega
    refine Ev.succ ?_
    simp only [spec_l06Plain.l1]
    rw [wnat i l.length hi (by omega)]
    exact Ev.neg (by omega) h
  | succ n ih =>
    intro d hd h
    refine Ev.succ ?_
    simp only [spec_l06Plain.l1]
    refine Ev.pos (by omega) (Ev.pos (by omega) (Ev.pos (by omega) ?_))
    rw [rdT_get, put_s (foldD C (l.getD i z33) d) ((foldD_len _ _ _).trans hC) _ _ (d : Int) hp.1 hp.2 ⟨by omega, by omega⟩, wnat d 4 (by omega) (by omega)]
    simp only [Option.bind_some]
    exact ih (d + 1) (by omega) h
theorem Plain_ev (l : List S33) (hm : ∀ q ∈ l, (0 ≤ q.f0 ∧ q.f0 < 10) ∧ (0 ≤ q.f1 ∧ q.f1 < 10)) (hl : l.length ≤ 1000) :
    ∀ (n i : Nat) (C : List Int), i + n = l.length → C.length = 40 → Ev (fun k => spec_l06Plain.l0 k l (i : Int) (C.getD 0 0) (C.getD 1 0) (C.getD 2 0) (C.getD 3 0) (C.getD 4 0) (C.getD 5 0) (C.getD 6 0) (C.getD 7 0) (C.getD 8 0) (C.getD 9 0) (C.getD 10 0) (C.getD 11 0) (C.getD 12 0) (C.getD 13 0) (C.getD 14 0) (C.getD 15 0) (C.getD 16 0) (C.getD 17 0) (C.getD 18 0) (C.getD 19 0) (C.getD 20 0) (C.getD 21 0) (C.getD 22 0) (C.getD 23 0) (C.getD 24 0) (C.getD 25 0) (C.getD 26 0) (C.getD 27 0) (C.getD 28 0) (C.getD 29 0) (C.getD 30 0) (C.getD 31 0) (C.getD 32 0) (C.getD 33 0) (C.getD 34 0) (C.getD 35 0) (C.getD 36 0) (C.getD 37 0) (C.getD 38 0) (C.getD 39 0)) (T40 (plainL (l.drop i) C)) := by
  intro n
  induction n with
  | zero =>
    intro i C hi hC
    obtain rfl : i = l.length := by omega
    rw [List.drop_length]
    refine Ev.succ ?_
    simp only [spec_l06Plain.l0]
    exact Ev.neg (by omega) (Ev.now _)
  | succ n ih =>
    intro i C hi hC
    have hil : i < l.length := by omega
    have hp := hm _ (getD_mem l i z33 hil)
    refine Ev.succ ?_
    simp only [spec_l06Plain.l0]
    refine Ev.pos (by omega) ?_
    rw [drop_get l i z33 hil]
    exact Plain_inner l i hil hp hl C hC _ 4 0 rfl (ih (i + 1) (foldD C (l.getD i z33) 4) (by omega) ((foldD_len _ _ _).trans hC))
theorem Any_inner (l : List S33) (i : Nat) (hi : i < l.length) (hp : (0 ≤ (l.getD i z33).f0 ∧ (l.getD i z33).f0 < 10) ∧ (0 ≤ (l.getD i z33).f1 ∧ (l.getD i z33).f1 < 10)) (hl : l.length ≤ 1000) (C : List Int) (hC : C.length = 40) (r : Int × Int × Int × Int × Int × Int × Int × Int × Int × Int × Int × Int × Int × Int × Int × Int × Int × Int × Int × Int × Int × Int × Int × Int × Int × Int × Int × Int × Int × Int × Int × Int × Int × Int × Int × Int × Int × Int × Int × Int) :
    ∀ n d : Nat, d + n = 4 → Ev (fun k => impl_anywhere.l0 k l (l.length : Int) ((i + 1 : Nat) : Int) ((foldD C (l.getD i z33) 4).getD 0 0) ((foldD C (l.getD i z33) 4).getD 1 0) ((foldD C (l.getD i z33) 4).getD 2 0) ((foldD C (l.getD i z33) 4).getD 3 0) ((foldD C (l.getD i z33) 4).getD 4 0) ((foldD C (l.getD i z33) 4).getD 5 0) ((foldD C (l.getD i z33) 4).getD 6 0) ((foldD C (l.getD i z33) 4).getD 7 0) ((foldD C (l.getD i z33) 4).getD 8 0) ((foldD C (l.getD i z33) 4).getD 9 0) ((foldD C (l.getD i z33) 4).getD 10 0) ((foldD C (l.getD i z33) 4).getD 11 0) ((foldD C (l.getD i z33) 4).getD 12 0) ((foldD C (l.getD i z33) 4).getD 13 0) ((foldD C (l.getD i z33) 4).getD 14 0) ((foldD C (l.getD i z33) 4).getD 15 0) ((foldD C (l.getD i z33) 4).getD 16 0) ((foldD C (l.getD i z33) 4).getD 17 0) ((foldD C (l.getD i z33) 4).getD 18 0) ((foldD C (l.getD i z33) 4).getD 19 0) ((foldD C (l.getD i z33) 4).getD 20 0) ((foldD C (l.getD i z33) 4).getD 21 0) ((foldD C (l.getD i z33) 4).getD 22 0) ((foldD C (l.getD i z33) 4).getD 23 0) ((foldD C (l.getD i z33) 4).getD 24 0) ((foldD C (l.getD i z33) 4).getD 25 0) ((foldD C (l.getD i z33) 4).getD 26 0) ((foldD C (l.getD i z33) 4).getD 27 0) ((foldD C (l.getD i z33) 4).getD 28 0) ((foldD C (l.getD i z33) 4).getD 29 0) ((foldD C (l.getD i z33) 4).getD 30 0) ((foldD C (l.getD i z33) 4).getD 31 0) ((foldD C (l.getD i z33) 4).getD 32 0) ((foldD C (l.getD i z33) 4).getD 33 0) ((foldD C (l.getD i z33) 4).getD 34 0) ((foldD C (l.getD i z33) 4).getD 35 0) ((foldD C (l.getD i z33) 4).getD 36 0) ((foldD C (l.getD i z33) 4).getD 37 0) ((foldD C (l.getD i z33) 4).getD 38 0) ((foldD C (l.getD i z33) 4).getD 39 0)) r → Ev (fun k => impl_anywhere.l1 k l (l.length : Int) (i : Int) (d : Int) ((foldD C (l.getD i z33) d).getD 0 0) ((foldD C (l.getD i z33) d).getD 1 0) ((foldD C (l.getD i z33) d).getD 2 0) ((foldD C (l.getD i z33) d).getD 3 0) ((foldD C (l.getD i z33) d).getD 4 0) ((foldD C (l.getD i z33) d).getD 5 0) ((foldD C (l.getD i z33) d).getD 6 0) ((foldD C (l.getD i z33) d).getD 7 0) ((foldD C (l.getD i z33) d).getD 8 0) ((foldD C (l.getD i z33) d).getD 9 0) ((foldD C (l.getD i z33) d).getD 10 0) ((foldD C (l.getD i z33) d).getD 11 0) ((foldD C (l.getD i z33) d).getD 12 0) ((foldD C (l.getD i z33) d).getD 13 0) ((foldD C (l.getD i z33) d).getD 14 0) ((foldD C (l.getD i z33) d).getD 15 0) ((foldD C (l.getD i z33) d).getD 16 0) ((foldD C (l.getD i z33) d).getD 17 0) ((foldD C (l.getD i z33) d).getD 18 0) ((foldD C (l.getD i z33) d).getD 19 0) ((foldD C (l.getD i z33) d).getD 20 0) ((foldD C (l.getD i z33) d).getD 21 0) ((foldD C (l.getD i z33) d).getD 22 0) ((foldD C (l.getD i z33) d).getD 23 0) ((foldD C (l.getD i z33) d).getD 24 0) ((foldD C (l.getD i z33) d).getD 25 0) ((foldD C (l.getD i z33) d).getD 26 0) ((foldD C (l.getD i z33) d).getD 27 0) ((foldD C (l.getD i z33) d).getD 28 0) ((foldD C (l.getD i z33) d).getD 29 0) ((foldD C (l.getD i z33) d).getD 30 0) ((foldD C (l.getD i z33) d).getD 31 0) ((foldD C (l.getD i z33) d).getD 32 0) ((foldD C (l.getD i z33) d).getD 33 0) ((foldD C (l.getD i z33) d).getD 34 0) ((foldD C (l.getD i z33) d).getD 35 0) ((foldD C (l.getD i z33) d).getD 36 0) ((foldD C (l.getD i z33) d).getD 37 0) ((foldD C (l.getD i z33) d).getD 38 0) ((foldD C (l.getD i z33) d).getD 39 0) (l.getD i z33).f0 (l.getD i z33).f1) r := by
  intro n
  induction n with
  | zero =>
    intro d hd h
    obtain rfl : d = 4 := by omega
    refine Ev.succ ?_
    simp only [impl_anywhere.l1]
    rw [wnat i l.length hi (by omega)]
    exact Ev.neg (by omega) h
  | succ n ih =>
    intro d hd h
    refine Ev.succ ?_
    simp only [impl_anywhere.l1]
    refine Ev.pos (by omega) ?_
    rw [put_i (foldD C (l.getD i z33) d) ((foldD_len _ _ _).trans hC) _ _ (d : Int) hp.1 hp.2 ⟨by omega, by omega⟩, wnat d 4 (by omega) (by omega)]
    simp only [Option.bind_some]
    exact ih (d + 1) (by omega) h
theorem Any_ev (l : List S33) (hm : ∀ q ∈ l, (0 ≤ q.f0 ∧ q.f0 < 10) ∧ (0 ≤ q.f1 ∧ q.f1 < 10)) (hl : l.length ≤ 1000) :
    ∀ (n i : Nat) (C : List Int), i + n = l.length → C.length = 40 → Ev (fun k => impl_anywhere.l0 k l (l.length : Int) (i : Int) (C.getD 0 0) (C.getD 1 0) (C.getD 2 0) (C.getD 3 0) (C.getD 4 0) (C.getD 5 0) (C.getD 6 0) (C.getD 7 0) (C.getD 8 0) (C.getD 9 0) (C.getD 10 0) (C.getD 11 0) (C.getD 12 0) (C.getD 13 0) (C.getD 14 0) (C.getD 15 0) (C.getD 16 0) (C.getD 17 0) (C.getD 18 0) (C.getD 19 0) (C.getD 20 0) (C.getD 21 0) (C.getD 22 0) (C.getD 23 0) (C.getD 24 0) (C.getD 25 0) (C.getD 26 0) (C.getD 27 0) (C.getD 28 0) (C.getD 29 0) (C.getD 30 0) (C.getD 31 0) (C.getD 32 0) (C.getD 33 0) (C.getD 34 0) (C.getD 35 0) (C.getD 36 0) (C.getD 37 0) (C.getD 38 0) (C.getD 39 0)) (T40 (plainL (l.drop i) C)) := by
  intro n
  induction n with
  | zero =>
    intro i C hi hC
    obtain rfl : i = l.length := by omega
    rw [List.drop_length]
    refine Ev.succ ?_
    simp only [impl_anywhere.l0]
    exact Ev.neg (by omega) (Ev.now _)
  | succ n ih =>
    intro i C hi hC
    have hil : i < l.length := by omega
    have hp := hm _ (getD_mem l i z33 hil)
    refine Ev.succ ?_
    simp only [impl_anywhere.l0]
    refine Ev.pos (by omega) (Ev.pos (by omega) (Ev.pos (by omega) ?_))
    rw [drop_get l i z33 hil, rdT_get]
    exact Any_inner l i hil hp hl C hC _ 4 0 rfl (ih (i + 1) (foldD C (l.getD i z33) 4) (by omega) ((foldD_len _ _ _).trans hC))
theorem Anywhere_both (s0 s1 s2 s3 s4 s5 s6 s7 s8 s9 s10 s11 : Int) (b0 : -128 ≤ s0 ∧ s0 ≤ 127) (b1 : -128 ≤ s1 ∧ s1 ≤ 127) (hb : ∀ i, 0 ≤ rd [s2, s3, s4, s5, s6, s7, s8, s9, s10, s11] i ∧ rd [s2, s3, s4, s5, s6, s7, s8, s9, s10, s11] i < 65536) :
    ∃ r, Ev (fun k => spec_Anywhere.f k s0 s1 s2 s3 s4 s5 s6 s7 s8 s9 s10 s11) r ∧ Ev (fun k => impl_Anywhere.f k s0 s1 s2 s3 s4 s5 s6 s7 s8 s9 s10 s11) r := by
  obtain ⟨b, h1, h2, h3⟩ := Ok_both s0 s1 s2 s3 s4 s5 s6 s7 s8 s9 s10 s11 b0 b1
  cases b with
  | false =>
    refine ⟨(0, 0, 0, 0, 0, 0, 0, 0, 0, 0, 0, 0, 0, 0, 0, 0, 0, 0, 0, 0, 0, 0, 0, 0, 0, 0, 0, 0, 0, 0, 0, 0, 0, 0, 0, 0, 0, 0, 0, 0, 1), ?_, ?_⟩
    · unfold spec_Anywhere.f
      refine Ev.bind h1 ?_
      exact Ev.neg (by simp) (Ev.now _)
    · unfold impl_Anywhere.f
      refine Ev.bind h2 ?_
      exact Ev.neg (by simp) (Ev.now _)
  | true =>
    obtain ⟨hw, hh⟩ := h3 rfl
    obtain ⟨w, e0⟩ : ∃ n : Nat, s0 = n := ⟨s0.toNat, by omega⟩
    obtain ⟨h, e1⟩ : ∃ n : Nat, s1 = n := ⟨s1.toNat, by omega⟩
    have ha := All_s s0 s1 s2 s3 s4 s5 s6 s7 s8 s9 s10 s11 hb w h (by omega) (by omega) e0 e1
    have hi := All_i s0 s1 s2 s3 s4 s5 s6 s7 s8 s9 s10 s11 hb w h (by omega) (by omega) e0 e1
    have hlen := cellsL_len (fr [s2, s3, s4, s5, s6, s7, s8, s9, s10, s11]) w h
    have hm : ∀ q ∈ cellsL (fr [s2, s3, s4, s5, s6, s7, s8, s9, s10, s11]) w h, (0 ≤ q.f0 ∧ q.f0 < 10) ∧ (0 ≤ q.f1 ∧ q.f1 < 10) := fun q hq => by
      have := cellsL_mem (fr [s2, s3, s4, s5, s6, s7, s8, s9, s10, s11]) w h h (Nat.le_refl _) q hq
      omega
    have hl : (cellsL (fr [s2, s3, s4, s5, s6, s7, s8, s9, s10, s11]) w h).length ≤ 1000 := by
      have : w * h ≤ 10 * 10 := Nat.mul_le_mul (by omega) (by omega)
      omega
    have p1 := Plain_ev _ hm hl (cellsL (fr [s2, s3, s4, s5, s6, s7, s8, s9, s10, s11]) w h).length 0 (List.replicate 40 0) (by omega) (by simp)
    have p2 := Any_ev _ hm hl (cellsL (fr [s2, s3, s4, s5, s6, s7, s8, s9, s10, s11]) w h).length 0 (List.replicate 40 0) (by omega) (by simp)
    obtain ⟨P, hP⟩ : ∃ P, plainL ((cellsL (fr [s2, s3, s4, s5, s6, s7, s8, s9, s10, s11]) w h).drop 0) (List.replicate 40 0) = P := ⟨_, rfl⟩
    rw [hP] at p1 p2
    have q1 : Ev (fun k => spec_l06Plain.f k s0 s1 s2 s3 s4 s5 s6 s7 s8 s9 s10 s11) (T40 P) := by
      unfold spec_l06Plain.f
      exact Ev.bind ha p1
    have q2 : Ev (fun k => impl_anywhere.f k s0 s1 s2 s3 s4 s5 s6 s7 s8 s9 s10 s11) (T40 P) := by
      unfold impl_anywhere.f
      exact Ev.bind hi p2
    refine ⟨(P.getD 0 0, P.getD 1 0, P.getD 2 0, P.getD 3 0, P.getD 4 0, P.getD 5 0, P.getD 6 0, P.getD 7 0, P.getD 8 0, P.getD 9 0, P.getD 10 0, P.getD 11 0, P.getD 12 0, P.getD 13 0, P.getD 14 0, P.getD 15 0, P.getD 16 0, P.getD 17 0, P.getD 18 0, P.getD 19 0, P.getD 20 0, P.getD 21 0, P.getD 22 0, P.getD 23 0, P.getD 24 0, P.getD 25 0, P.getD 26 0, P.getD 27 0, P.getD 28 0, P.getD 29 0, P.getD 30 0, P.getD 31 0, P.getD 32 0, P.getD 33 0, P.getD 34 0, P.getD 35 0, P.getD 36 0, P.getD 37 0, P.getD 38 0, P.getD 39 0, 0), ?_, ?_⟩
    · unfold spec_Anywhere.f
      refine Ev.bind h1 ?_
      refine Ev.pos rfl (Ev.bind q1 ?_)
      exact Ev.now _
    · unfold impl_Anywhere.f
      refine Ev.bind h2 ?_
      refine Ev.pos rfl (Ev.bind q2 ?_)
      exact Ev.now _

end Go.Proofs.Ytdedijjbdkoekaa.Q
