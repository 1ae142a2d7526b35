/- Valid crowds: the reference asks a set of bits, the program each bit. -/
import Derived.Test.YtdedijjbdkoekaaPAx11
import Derived.Test.YtdedijjbdkoekaaPAx12
import Derived.Test.YtdedijjbdkoekaaPAx13
import Derived.Test.YtdedijjbdkoekaaPAx15
import Derived.Test.YtdedijjbdkoekaaPAx7
import Derived.Test.YtdedijjbdkoekaaQpc
namespace Go.Proofs.Ytdedijjbdkoekaa.Q
open Go.RowKit Go.Proofs.YtdedijjbdkoekaaW.PrintWords Go.Proofs.YtdedijjbdkoekaaW.PrintLast Go.Proofs.YtdedijjbdkoekaaW.PrintMore Go.Proofs.Ytdedijjbdkoekaa.PA
set_option linter.unusedVariables false
set_option linter.unusedSimpArgs false

def RRe (f : Nat → Bool) (e : Bool) : Nat → Nat → Bool
  | 0, _ => e
  | n + 1, i => f i && RRe f e n (i + 1)
theorem RRe_and (f : Nat → Bool) (e : Bool) : ∀ n i, RRe f e n i = (RRe f true n i && e)
  | 0, _ => by simp [RRe]
  | n + 1, i => by rw [RRe, RRe, RRe_and f e n (i + 1), Bool.and_assoc]
theorem RRe_congr {f g : Nat → Bool} (e : Bool) : ∀ n i, (∀ j, i ≤ j → j < i + n → f j = g j) → RRe f e n i = RRe g e n i
  | 0, _, _ => rfl
  | n + 1, i, h => by rw [RRe, RRe, h i (by omega) (by omega), RRe_congr e n (i + 1) (fun j h1 h2 => h j (by omega) (by omega))]
theorem RRe_true (f : Nat → Bool) : ∀ n i, RRe f true n i = true ↔ ∀ j, i ≤ j → j < i + n → f j = true
  | 0, i => ⟨fun _ j h1 h2 => by omega, fun _ => rfl⟩
  | n + 1, i => by
    rw [RRe, Bool.and_eq_true, RRe_true f n (i + 1)]
    exact ⟨fun ⟨h1, h2⟩ j h3 h4 => by
      by_cases e : j = i
      · subst e; exact h1
      · exact h2 j (by omega) (by omega), fun h => ⟨h i (by omega) (by omega), fun j h1 h2 => h j (by omega) (by omega)⟩⟩
theorem Ev.loopB (L : Nat → Int → Option Bool) (f : Nat → Bool) (e : Bool) (N : Nat) (hstep : ∀ i : Nat, i < N → ∀ r, Ev (fun k => L k ((i + 1 : Nat) : Int)) r → Ev (fun k => L k (i : Int)) (f i && r)) (hend : Ev (fun k => L k (N : Int)) e) : Ev (fun k => L k 0) (RRe f e N 0) := by
  have key : ∀ n i : Nat, i + n = N → Ev (fun k => L k (i : Int)) (RRe f e n i) := by
    intro n
    induction n with
    | zero =>
      intro i hi
      obtain rfl : i = N := (by omega)
      exact hend
    | succ n ih => intro i hi; exact hstep i (by omega) _ (ih (i + 1) (by omega))
  exact key N 0 (by omega)
theorem andNot_zero (a b : Nat) (ha : a < 2 ^ 16) (hb : b < 2 ^ 16) : (Go.bits .andNot .u16 (a : Int) (b : Int) = 0) ↔ ∀ x, x < 16 → a.testBit x = true → b.testBit x = true := by
  have h16 : IntKind.u16.bits = 16 := rfl
  have e : Go.bits .andNot .u16 (a : Int) (b : Int) = (((BitVec.ofNat 16 a &&& ~~~ BitVec.ofNat 16 b).toNat : Nat) : Int) := by
    unfold Go.bits
    simp only [BitVec.ofInt_natCast]
    have hlt := (BitVec.ofNat 16 a &&& ~~~ BitVec.ofNat 16 b).isLt
    exact wraps_u16 _ (Int.natCast_nonneg _) (Int.lt_of_lt_of_le (Int.ofNat_lt.2 hlt) (by decide))
  rw [e]
  constructor
  · intro h x hx hax
    have h0 : (BitVec.ofNat 16 a &&& ~~~ BitVec.ofNat 16 b) = 0#16 := BitVec.toNat_eq.2 (by simpa using Int.ofNat.inj h)
    have h1 := congrArg (fun v => BitVec.getLsbD v x) h0
    simp only [BitVec.getLsbD_and, BitVec.getLsbD_not, BitVec.getLsbD_ofNat, BitVec.getLsbD_zero, hx, decide_true, Bool.true_and, hax] at h1
    simpa using h1
  · intro h
    have h0 : (BitVec.ofNat 16 a &&& ~~~ BitVec.ofNat 16 b) = 0#16 := BitVec.eq_of_getLsbD_eq (fun i hi => by
      simp only [BitVec.getLsbD_and, BitVec.getLsbD_not, BitVec.getLsbD_ofNat, BitVec.getLsbD_zero, hi, decide_true, Bool.true_and]
      cases h1 : a.testBit i with
      | false => simp
      | true => simp [h i hi h1])
    rw [h0]
    rfl
theorem bit16 (a : Nat) (ha : a < 2 ^ 16) (x : Nat) (hx : x < 16) : (Go.bits .and .u16 (shr .u16 (a : Int) (x : Int)) 1 = 1) ↔ a.testBit x = true := by
  have hs : shr .u16 (a : Int) (x : Int) = ((a / 2 ^ x : Nat) : Int) := by
    unfold shr
    rw [Int.toNat_natCast, Nat.min_eq_left (show x ≤ IntKind.u16.bits by unfold IntKind.bits; dsimp only; omega)]
    simp
  have hle : a / 2 ^ x ≤ a := Nat.div_le_self _ _
  rw [hs, Nat.testBit_eq_decide_div_mod_eq, decide_eq_true_iff]
  generalize a / 2 ^ x = q at hle ⊢
  rw [u16_and1 (by omega) (by omega)]
  omega
/-- Whether a cell is a free one of the room. -/
def freeB (W : List Int) (w h x y : Nat) : Bool := decide (x < w) && decide (y < h) && fr W (x : Int) (y : Int)
theorem isFree_c (s0 s1 s2 s3 s4 s5 s6 s7 s8 s9 s10 s11 : Int) (hb : ∀ i, 0 ≤ rd [s2, s3, s4, s5, s6, s7, s8, s9, s10, s11] i ∧ rd [s2, s3, s4, s5, s6, s7, s8, s9, s10, s11] i < 65536) (w h : Nat) (hw : w ≤ 10) (hh : h ≤ 10) (e0 : s0 = w) (e1 : s1 = h) (x y : Nat) (hx : x < 16) (hy : y < 10) : impl_Room_isFree.f s0 s1 s2 s3 s4 s5 s6 s7 s8 s9 s10 s11 (x : Int) (y : Int) = some (freeB [s2, s3, s4, s5, s6, s7, s8, s9, s10, s11] w h x y) := by
  unfold freeB
  by_cases h1 : x < w
  · by_cases h2 : y < h
    · rw [Free_i s0 s1 s2 s3 s4 s5 s6 s7 s8 s9 s10 s11 hb (by omega) (by omega) x y (by omega) (by omega)]
      simp [h1, h2]
    · unfold impl_Room_isFree.f impl_Room_isCell.f
      rw [wint s0 (by omega) (by omega), wint s1 (by omega) (by omega), wint (x : Int) (by omega) (by omega), wint (y : Int) (by omega) (by omega), mn_small (by omega), mn_small (by omega), wint (s0 - 1) (by omega) (by omega), wint (s1 - 1) (by omega) (by omega), Within_c, Within_c]
      rw [show inC (x : Int) 0 (s0 - 1) = true by unfold inC; simp; omega, show inC (y : Int) 0 (s1 - 1) = false by unfold inC; simp; omega]
      simp [h2]
  · unfold impl_Room_isFree.f impl_Room_isCell.f
    rw [wint s0 (by omega) (by omega), wint s1 (by omega) (by omega), wint (x : Int) (by omega) (by omega), wint (y : Int) (by omega) (by omega), mn_small (by omega), mn_small (by omega), wint (s0 - 1) (by omega) (by omega), wint (s1 - 1) (by omega) (by omega), Within_c]
    rw [show inC (x : Int) 0 (s0 - 1) = false by unfold inC; simp; omega]
    simp [h1]
theorem i8_wnat16 (x : Nat) (h : x < 16) : IntKind.i8.wrap ((x : Int) + 1) = ((x + 1 : Nat) : Int) := by
  have := i8_small (x + 1) (by omega)
  rw [← this]
  congr 1
def bitB (v : Int) (x : Nat) : Bool := decide (Go.bits .and .u16 (shr .u16 v (x : Int)) 1 = 1)
theorem idx26_v (c0 c1 c2 c3 c4 c5 c6 c7 c8 c9 c10 c11 c12 c13 c14 c15 c16 c17 c18 c19 c20 c21 c22 c23 c24 c25 c26 c27 c28 c29 c30 c31 c32 c33 c34 c35 c36 c37 c38 c39 : Int) (x : Nat) (hx : x < 4) (C : List Int) (hC : C = [c0, c1, c2, c3, c4, c5, c6, c7, c8, c9, c10, c11, c12, c13, c14, c15, c16, c17, c18, c19, c20, c21, c22, c23, c24, c25, c26, c27, c28, c29, c30, c31, c32, c33, c34, c35, c36, c37, c38, c39]) : idx26.f c0 c1 c2 c3 c4 c5 c6 c7 c8 c9 c10 c11 c12 c13 c14 c15 c16 c17 c18 c19 c20 c21 c22 c23 c24 c25 c26 c27 c28 c29 c30 c31 c32 c33 c34 c35 c36 c37 c38 c39 (x : Int) = some (rd C ((x : Int) * 10), rd C ((x : Int) * 10 + 1), rd C ((x : Int) * 10 + 2), rd C ((x : Int) * 10 + 3), rd C ((x : Int) * 10 + 4), rd C ((x : Int) * 10 + 5), rd C ((x : Int) * 10 + 6), rd C ((x : Int) * 10 + 7), rd C ((x : Int) * 10 + 8), rd C ((x : Int) * 10 + 9)) := by
  subst hC
  unfold idx26.f
  rw [if_pos (by omega), if_pos (by omega)]
theorem rd_rowv (C : List Int) (x : Int) (j : Nat) (hj : j < 10) : rd [rd C (x * 10), rd C (x * 10 + 1), rd C (x * 10 + 2), rd C (x * 10 + 3), rd C (x * 10 + 4), rd C (x * 10 + 5), rd C (x * 10 + 6), rd C (x * 10 + 7), rd C (x * 10 + 8), rd C (x * 10 + 9)] (j : Int) = rd C (x * 10 + j) := by
  rcases (show j = 0 ∨ j = 1 ∨ j = 2 ∨ j = 3 ∨ j = 4 ∨ j = 5 ∨ j = 6 ∨ j = 7 ∨ j = 8 ∨ j = 9 by omega) with rfl | rfl | rfl | rfl | rfl | rfl | rfl | rfl | rfl | rfl
  · rw [show x * 10 + ((0 : Nat) : Int) = x * 10 by omega]; rfl
  all_goals rfl
theorem isIn_ev (c0 c1 c2 c3 c4 c5 c6 c7 c8 c9 c10 c11 c12 c13 c14 c15 c16 c17 c18 c19 c20 c21 c22 c23 c24 c25 c26 c27 c28 c29 c30 c31 c32 c33 c34 c35 c36 c37 c38 c39 s0 s1 s2 s3 s4 s5 s6 s7 s8 s9 s10 s11 : Int) (Cl : List Int) (hC : Cl = [c0, c1, c2, c3, c4, c5, c6, c7, c8, c9, c10, c11, c12, c13, c14, c15, c16, c17, c18, c19, c20, c21, c22, c23, c24, c25, c26, c27, c28, c29, c30, c31, c32, c33, c34, c35, c36, c37, c38, c39]) (hb : ∀ i, 0 ≤ rd [s2, s3, s4, s5, s6, s7, s8, s9, s10, s11] i ∧ rd [s2, s3, s4, s5, s6, s7, s8, s9, s10, s11] i < 65536) (w h : Nat) (hw : w ≤ 10) (hh : h ≤ 10) (e0 : s0 = w) (e1 : s1 = h) :
    Ev (fun k => impl_Crowd_isIn.f k c0 c1 c2 c3 c4 c5 c6 c7 c8 c9 c10 c11 c12 c13 c14 c15 c16 c17 c18 c19 c20 c21 c22 c23 c24 c25 c26 c27 c28 c29 c30 c31 c32 c33 c34 c35 c36 c37 c38 c39 s0 s1 s2 s3 s4 s5 s6 s7 s8 s9 s10 s11) (RRe (fun d => RRe (fun y => RRe (fun x => !bitB (rd Cl ((d : Int) * 10 + (y : Int))) x || freeB [s2, s3, s4, s5, s6, s7, s8, s9, s10, s11] w h x y) true 16 0) true 10 0) true 4 0) := by
  show Ev (fun k => impl_Crowd_isIn.l0 k 0 s0 s1 s2 s3 s4 s5 s6 s7 s8 s9 s10 s11 c0 c1 c2 c3 c4 c5 c6 c7 c8 c9 c10 c11 c12 c13 c14 c15 c16 c17 c18 c19 c20 c21 c22 c23 c24 c25 c26 c27 c28 c29 c30 c31 c32 c33 c34 c35 c36 c37 c38 c39) _
  refine Ev.loopB (fun k i => impl_Crowd_isIn.l0 k i s0 s1 s2 s3 s4 s5 s6 s7 s8 s9 s10 s11 c0 c1 c2 c3 c4 c5 c6 c7 c8 c9 c10 c11 c12 c13 c14 c15 c16 c17 c18 c19 c20 c21 c22 c23 c24 c25 c26 c27 c28 c29 c30 c31 c32 c33 c34 c35 c36 c37 c38 c39) _ true 4 (fun d hd r hr => ?_) ?_
  · refine Ev.succ ?_
    simp only [impl_Crowd_isIn.l0]
    refine Ev.pos (by omega) ?_
    rw [idx26_v c0 c1 c2 c3 c4 c5 c6 c7 c8 c9 c10 c11 c12 c13 c14 c15 c16 c17 c18 c19 c20 c21 c22 c23 c24 c25 c26 c27 c28 c29 c30 c31 c32 c33 c34 c35 c36 c37 c38 c39 d hd Cl hC]
    simp only [Option.bind_some]
    rw [← RRe_and]
    refine Ev.loopB (fun k i => impl_Crowd_isIn.l1 k (d : Int) i s0 s1 s2 s3 s4 s5 s6 s7 s8 s9 s10 s11 c0 c1 c2 c3 c4 c5 c6 c7 c8 c9 c10 c11 c12 c13 c14 c15 c16 c17 c18 c19 c20 c21 c22 c23 c24 c25 c26 c27 c28 c29 c30 c31 c32 c33 c34 c35 c36 c37 c38 c39 (rd Cl ((d : Int) * 10)) (rd Cl ((d : Int) * 10 + 1)) (rd Cl ((d : Int) * 10 + 2)) (rd Cl ((d : Int) * 10 + 3)) (rd Cl ((d : Int) * 10 + 4)) (rd Cl ((d : Int) * 10 + 5)) (rd Cl ((d : Int) * 10 + 6)) (rd Cl ((d : Int) * 10 + 7)) (rd Cl ((d : Int) * 10 + 8)) (rd Cl ((d : Int) * 10 + 9))) _ r 10 (fun y hy r2 hr2 => ?_) ?_
    · refine Ev.succ ?_
      simp only [impl_Crowd_isIn.l1]
      refine Ev.pos (by omega) (Ev.pos (by omega) ?_)
      rw [rd_rowv Cl (d : Int) y hy, ← RRe_and]
      refine Ev.loopB (fun k i => impl_Crowd_isIn.l2 k (y : Int) (rd Cl ((d : Int) * 10 + (y : Int))) (d : Int) (y : Int) i s0 s1 s2 s3 s4 s5 s6 s7 s8 s9 s10 s11 c0 c1 c2 c3 c4 c5 c6 c7 c8 c9 c10 c11 c12 c13 c14 c15 c16 c17 c18 c19 c20 c21 c22 c23 c24 c25 c26 c27 c28 c29 c30 c31 c32 c33 c34 c35 c36 c37 c38 c39 (rd Cl ((d : Int) * 10)) (rd Cl ((d : Int) * 10 + 1)) (rd Cl ((d : Int) * 10 + 2)) (rd Cl ((d : Int) * 10 + 3)) (rd Cl ((d : Int) * 10 + 4)) (rd Cl ((d : Int) * 10 + 5)) (rd Cl ((d : Int) * 10 + 6)) (rd Cl ((d : Int) * 10 + 7)) (rd Cl ((d : Int) * 10 + 8)) (rd Cl ((d : Int) * 10 + 9))) _ r2 16 (fun x hx r3 hr3 => ?_) ?_
      · refine Ev.succ ?_
        simp only [impl_Crowd_isIn.l2]
        refine Ev.pos (by omega) (Ev.pos (by omega) ?_)
        rw [i8_small y (by omega), isFree_c s0 s1 s2 s3 s4 s5 s6 s7 s8 s9 s10 s11 hb w h hw hh e0 e1 x y hx hy, i8_wnat16 x hx]
        simp only [Option.bind_some]
        by_cases h1 : Go.bits .and .u16 (shr .u16 (rd Cl ((d : Int) * 10 + (y : Int))) (x : Int)) 1 = 1
        · refine Ev.pos h1 ?_
          have hbt : bitB (rd Cl ((d : Int) * 10 + (y : Int))) x = true := decide_eq_true h1
          rw [hbt, Bool.not_true, Bool.false_or]
          cases hf : freeB [s2, s3, s4, s5, s6, s7, s8, s9, s10, s11] w h x y with
          | true => exact Ev.pos rfl (by rw [Bool.true_and]; exact hr3)
          | false => exact Ev.neg (by simp) (by rw [Bool.false_and]; exact Ev.now false)
        · refine Ev.neg h1 ?_
          have hbt : bitB (rd Cl ((d : Int) * 10 + (y : Int))) x = false := decide_eq_false h1
          rw [hbt, Bool.not_false, Bool.true_or, Bool.true_and]
          exact hr3
      · refine Ev.succ ?_
        simp only [impl_Crowd_isIn.l2]
        rw [wnat y 10 hy (by omega)]
        exact Ev.neg (by omega) hr2
    · refine Ev.succ ?_
      simp only [impl_Crowd_isIn.l1]
      rw [wnat d 4 hd (by omega)]
      exact Ev.neg (by omega) hr
  · refine Ev.succ ?_
    simp only [impl_Crowd_isIn.l0]
    exact Ev.neg (by omega) (Ev.now true)
theorem okLoop_ev (c0 c1 c2 c3 c4 c5 c6 c7 c8 c9 c10 c11 c12 c13 c14 c15 c16 c17 c18 c19 c20 c21 c22 c23 c24 c25 c26 c27 c28 c29 c30 c31 c32 c33 c34 c35 c36 c37 c38 c39 : Int) (P Cl : List Int) (hC : Cl = [c0, c1, c2, c3, c4, c5, c6, c7, c8, c9, c10, c11, c12, c13, c14, c15, c16, c17, c18, c19, c20, c21, c22, c23, c24, c25, c26, c27, c28, c29, c30, c31, c32, c33, c34, c35, c36, c37, c38, c39]) (hP : P.length = 40) :
    Ev (fun k => spec_l06Ok.l0 k 0 c0 c1 c2 c3 c4 c5 c6 c7 c8 c9 c10 c11 c12 c13 c14 c15 c16 c17 c18 c19 c20 c21 c22 c23 c24 c25 c26 c27 c28 c29 c30 c31 c32 c33 c34 c35 c36 c37 c38 c39 (P.getD 0 0) (P.getD 1 0) (P.getD 2 0) (P.getD 3 0) (P.getD 4 0) (P.getD 5 0) (P.getD 6 0) (P.getD 7 0) (P.getD 8 0) (P.getD 9 0) (P.getD 10 0) (P.getD 11 0) (P.getD 12 0) (P.getD 13 0) (P.getD 14 0) (P.getD 15 0) (P.getD 16 0) (P.getD 17 0) (P.getD 18 0) (P.getD 19 0) (P.getD 20 0) (P.getD 21 0) (P.getD 22 0) (P.getD 23 0) (P.getD 24 0) (P.getD 25 0) (P.getD 26 0) (P.getD 27 0) (P.getD 28 0) (P.getD 29 0) (P.getD 30 0) (P.getD 31 0) (P.getD 32 0) (P.getD 33 0) (P.getD 34 0) (P.getD 35 0) (P.getD 36 0) (P.getD 37 0) (P.getD 38 0) (P.getD 39 0)) (RRe (fun d => RRe (fun y => decide (Go.bits .andNot .u16 (rd Cl ((d : Int) * 10 + (y : Int))) (rd P ((d : Int) * 10 + (y : Int))) = 0)) true 10 0) true 4 0) := by
  refine Ev.loopB (fun k i => spec_l06Ok.l0 k i c0 c1 c2 c3 c4 c5 c6 c7 c8 c9 c10 c11 c12 c13 c14 c15 c16 c17 c18 c19 c20 c21 c22 c23 c24 c25 c26 c27 c28 c29 c30 c31 c32 c33 c34 c35 c36 c37 c38 c39 (P.getD 0 0) (P.getD 1 0) (P.getD 2 0) (P.getD 3 0) (P.getD 4 0) (P.getD 5 0) (P.getD 6 0) (P.getD 7 0) (P.getD 8 0) (P.getD 9 0) (P.getD 10 0) (P.getD 11 0) (P.getD 12 0) (P.getD 13 0) (P.getD 14 0) (P.getD 15 0) (P.getD 16 0) (P.getD 17 0) (P.getD 18 0) (P.getD 19 0) (P.getD 20 0) (P.getD 21 0) (P.getD 22 0) (P.getD 23 0) (P.getD 24 0) (P.getD 25 0) (P.getD 26 0) (P.getD 27 0) (P.getD 28 0) (P.getD 29 0) (P.getD 30 0) (P.getD 31 0) (P.getD 32 0) (P.getD 33 0) (P.getD 34 0) (P.getD 35 0) (P.getD 36 0) (P.getD 37 0) (P.getD 38 0) (P.getD 39 0)) _ true 4 (fun d hd r hr => ?_) ?_
  · refine Ev.succ ?_
    simp only [spec_l06Ok.l0]
    refine Ev.pos (by omega) ?_
    rw [← RRe_and]
    refine Ev.loopB (fun k i => spec_l06Ok.l1 k (d : Int) i c0 c1 c2 c3 c4 c5 c6 c7 c8 c9 c10 c11 c12 c13 c14 c15 c16 c17 c18 c19 c20 c21 c22 c23 c24 c25 c26 c27 c28 c29 c30 c31 c32 c33 c34 c35 c36 c37 c38 c39 (P.getD 0 0) (P.getD 1 0) (P.getD 2 0) (P.getD 3 0) (P.getD 4 0) (P.getD 5 0) (P.getD 6 0) (P.getD 7 0) (P.getD 8 0) (P.getD 9 0) (P.getD 10 0) (P.getD 11 0) (P.getD 12 0) (P.getD 13 0) (P.getD 14 0) (P.getD 15 0) (P.getD 16 0) (P.getD 17 0) (P.getD 18 0) (P.getD 19 0) (P.getD 20 0) (P.getD 21 0) (P.getD 22 0) (P.getD 23 0) (P.getD 24 0) (P.getD 25 0) (P.getD 26 0) (P.getD 27 0) (P.getD 28 0) (P.getD 29 0) (P.getD 30 0) (P.getD 31 0) (P.getD 32 0) (P.getD 33 0) (P.getD 34 0) (P.getD 35 0) (P.getD 36 0) (P.getD 37 0) (P.getD 38 0) (P.getD 39 0)) _ r 10 (fun y hy r2 hr2 => ?_) ?_
    · refine Ev.succ ?_
      simp only [spec_l06Ok.l1]
      refine Ev.pos (by omega) (Ev.pos (by omega) (Ev.pos (by omega) (Ev.pos (by omega) ?_)))
      rw [← hC, ← list40 P hP, wnat y 10 hy (by omega)]
      by_cases h1 : Go.bits .andNot .u16 (rd Cl ((d : Int) * 10 + (y : Int))) (rd P ((d : Int) * 10 + (y : Int))) = 0
      · rw [decide_eq_true h1, Bool.true_and]
        exact Ev.pos h1 hr2
      · rw [decide_eq_false h1, Bool.false_and]
        exact Ev.neg h1 (Ev.now false)
    · refine Ev.succ ?_
      simp only [spec_l06Ok.l1]
      rw [wnat d 4 hd (by omega)]
      exact Ev.neg (by omega) hr
  · refine Ev.succ ?_
    simp only [spec_l06Ok.l0]
    exact Ev.neg (by omega) (Ev.now true)
theorem ValidCrowd_both (s0 s1 s2 s3 s4 s5 s6 s7 s8 s9 s10 s11 c0 c1 c2 c3 c4 c5 c6 c7 c8 c9 c10 c11 c12 c13 c14 c15 c16 c17 c18 c19 c20 c21 c22 c23 c24 c25 c26 c27 c28 c29 c30 c31 c32 c33 c34 c35 c36 c37 c38 c39 : Int) (b0 : -128 ≤ s0 ∧ s0 ≤ 127) (b1 : -128 ≤ s1 ∧ s1 ≤ 127) (hb : ∀ i, 0 ≤ rd [s2, s3, s4, s5, s6, s7, s8, s9, s10, s11] i ∧ rd [s2, s3, s4, s5, s6, s7, s8, s9, s10, s11] i < 65536) (hc : ∀ i, 0 ≤ rd [c0, c1, c2, c3, c4, c5, c6, c7, c8, c9, c10, c11, c12, c13, c14, c15, c16, c17, c18, c19, c20, c21, c22, c23, c24, c25, c26, c27, c28, c29, c30, c31, c32, c33, c34, c35, c36, c37, c38, c39] i ∧ rd [c0, c1, c2, c3, c4, c5, c6, c7, c8, c9, c10, c11, c12, c13, c14, c15, c16, c17, c18, c19, c20, c21, c22, c23, c24, c25, c26, c27, c28, c29, c30, c31, c32, c33, c34, c35, c36, c37, c38, c39] i < 65536) :
    ∃ r, Ev (fun k => spec_ValidCrowd.f k s0 s1 s2 s3 s4 s5 s6 s7 s8 s9 s10 s11 c0 c1 c2 c3 c4 c5 c6 c7 c8 c9 c10 c11 c12 c13 c14 c15 c16 c17 c18 c19 c20 c21 c22 c23 c24 c25 c26 c27 c28 c29 c30 c31 c32 c33 c34 c35 c36 c37 c38 c39) r ∧ Ev (fun k => impl_ValidCrowd.f k s0 s1 s2 s3 s4 s5 s6 s7 s8 s9 s10 s11 c0 c1 c2 c3 c4 c5 c6 c7 c8 c9 c10 c11 c12 c13 c14 c15 c16 c17 c18 c19 c20 c21 c22 c23 c24 c25 c26 c27 c28 c29 c30 c31 c32 c33 c34 c35 c36 c37 c38 c39) r := by
  obtain ⟨b, h1, h2, h3⟩ := Ok_both s0 s1 s2 s3 s4 s5 s6 s7 s8 s9 s10 s11 b0 b1
  cases b with
  | false =>
    refine ⟨false, ?_, ?_⟩
    · unfold spec_ValidCrowd.f spec_l06Ok.f
      refine Ev.bind (a := false) (Ev.bind h1 ?_) (Ev.now _)
      exact Ev.neg (by simp) (Ev.now _)
    · unfold impl_ValidCrowd.f
      refine Ev.bind h2 ?_
      exact Ev.neg (by simp) (Ev.now _)
  | true =>
    obtain ⟨hw, hh⟩ := h3 rfl
    obtain ⟨w, e0⟩ : ∃ n : Nat, s0 = n := ⟨s0.toNat, by omega⟩
    obtain ⟨h, e1⟩ : ∃ n : Nat, s1 = n := ⟨s1.toNat, by omega⟩
    have ha := All_s s0 s1 s2 s3 s4 s5 s6 s7 s8 s9 s10 s11 hb w h (by omega) (by omega) e0 e1
    have hlen := cellsL_len (fr [s2, s3, s4, s5, s6, s7, s8, s9, s10, s11]) w h
    have hm : ∀ q ∈ cellsL (fr [s2, s3, s4, s5, s6, s7, s8, s9, s10, s11]) w h, (0 ≤ q.f0 ∧ q.f0 < 10) ∧ (0 ≤ q.f1 ∧ q.f1 < 10) := fun q hq => by
      have := cellsL_mem (fr [s2, s3, s4, s5, s6, s7, s8, s9, s10, s11]) w h h (Nat.le_refl _) q hq
      omega
    have hl : (cellsL (fr [s2, s3, s4, s5, s6, s7, s8, s9, s10, s11]) w h).length ≤ 1000 := by
      have : w * h ≤ 10 * 10 := Nat.mul_le_mul (by omega) (by omega)
      omega
    have p1 := Plain_ev _ hm hl (cellsL (fr [s2, s3, s4, s5, s6, s7, s8, s9, s10, s11]) w h).length 0 (List.replicate 40 0) (by omega) (by simp)
    have hbits := plain_bits [s2, s3, s4, s5, s6, s7, s8, s9, s10, s11] w h (by omega) (by omega)
    rw [List.drop_zero] at p1
    obtain ⟨P, hP⟩ : ∃ P, plainL (cellsL (fr [s2, s3, s4, s5, s6, s7, s8, s9, s10, s11]) w h) (List.replicate 40 0) = P := ⟨_, rfl⟩
    rw [hP] at p1 hbits
    have q1 : Ev (fun k => spec_l06Plain.f k s0 s1 s2 s3 s4 s5 s6 s7 s8 s9 s10 s11) (T40 P) := by
      unfold spec_l06Plain.f
      exact Ev.bind ha p1
    obtain ⟨Cl, hC⟩ : ∃ Cl, Cl = [c0, c1, c2, c3, c4, c5, c6, c7, c8, c9, c10, c11, c12, c13, c14, c15, c16, c17, c18, c19, c20, c21, c22, c23, c24, c25, c26, c27, c28, c29, c30, c31, c32, c33, c34, c35, c36, c37, c38, c39] := ⟨_, rfl⟩
    have i1 := okLoop_ev c0 c1 c2 c3 c4 c5 c6 c7 c8 c9 c10 c11 c12 c13 c14 c15 c16 c17 c18 c19 c20 c21 c22 c23 c24 c25 c26 c27 c28 c29 c30 c31 c32 c33 c34 c35 c36 c37 c38 c39 P Cl hC hbits.1
    have i2 := isIn_ev c0 c1 c2 c3 c4 c5 c6 c7 c8 c9 c10 c11 c12 c13 c14 c15 c16 c17 c18 c19 c20 c21 c22 c23 c24 c25 c26 c27 c28 c29 c30 c31 c32 c33 c34 c35 c36 c37 c38 c39 s0 s1 s2 s3 s4 s5 s6 s7 s8 s9 s10 s11 Cl hC hb w h (by omega) (by omega) e0 e1
    rw [← hC] at hc
    have same : (RRe (fun d => RRe (fun y => decide (Go.bits .andNot .u16 (rd Cl ((d : Int) * 10 + (y : Int))) (rd P ((d : Int) * 10 + (y : Int))) = 0)) true 10 0) true 4 0) = (RRe (fun d => RRe (fun y => RRe (fun x => !bitB (rd Cl ((d : Int) * 10 + (y : Int))) x || freeB [s2, s3, s4, s5, s6, s7, s8, s9, s10, s11] w h x y) true 16 0) true 10 0) true 4 0) := by
      refine RRe_congr true 4 0 (fun d _ hd => RRe_congr true 10 0 (fun y _ hy => ?_))
      obtain ⟨n, hn, hlt, ht⟩ := hbits.2 d y (by omega) (by omega)
      obtain ⟨m, hmm⟩ : ∃ m : Nat, rd Cl ((d : Int) * 10 + (y : Int)) = m := ⟨(rd Cl ((d : Int) * 10 + (y : Int))).toNat, by have := (hc ((d : Int) * 10 + (y : Int))).1; omega⟩
      have hmlt : m < 2 ^ 16 := by have := (hc ((d : Int) * 10 + (y : Int))).2; omega
      rw [hn, hmm]
      rw [Bool.eq_iff_iff, decide_eq_true_iff, andNot_zero m n hmlt hlt, RRe_true]
      constructor
      · intro hall x _ hx
        by_cases hbx : m.testBit x = true
        · have hf := hall x (by omega) hbx
          rw [ht x] at hf
          rw [show freeB [s2, s3, s4, s5, s6, s7, s8, s9, s10, s11] w h x y = true from hf, Bool.or_true]
        · have : bitB (m : Int) x = false := decide_eq_false (fun hh' => hbx ((bit16 m hmlt x (by omega)).1 hh'))
          rw [this]
          rfl
      · intro hall x hx hbx
        have hx2 := hall x (by omega) (by omega)
        have : bitB (m : Int) x = true := decide_eq_true ((bit16 m hmlt x hx).2 hbx)
        rw [this, Bool.not_true, Bool.false_or] at hx2
        rw [ht x]
        exact hx2
    refine ⟨_, ?_, Ev.eq ?_ same.symm⟩
    rotate_left
    · unfold impl_ValidCrowd.f
      refine Ev.bind h2 ?_
      exact Ev.pos rfl (Ev.bind i2 (Ev.now _))
    · unfold spec_ValidCrowd.f spec_l06Ok.f
      refine Ev.bind (Ev.bind h1 (Ev.pos rfl (Ev.bind q1 i1))) (Ev.now _)

end Go.Proofs.Ytdedijjbdkoekaa.Q
