/- The statement FnExactWhereBegun of this program: what its proof uses, part 9 of 12. The call returns true for all arguments. No condition of its own. -/
import Derived.Test.YtdedijjbdkoekaaDoorZFnExactWhereBegun7
section
namespace Go.Proofs.YtdedijjbdkoekaaDoor.PB
open Go.RowKit Go.Proofs.YtdedijjbdkoekaaDoorW.PrintWords Go.Proofs.YtdedijjbdkoekaaDoorW.PrintLast Go.Proofs.YtdedijjbdkoekaaDoorW.PrintMore Go.Proofs.YtdedijjbdkoekaaDoor.La
attribute [local go_sem] max2_int min2_int max_two min_two max_three min_three max_four min_four   -- for this text's walks alone
set_option linter.unusedVariables false
set_option linter.unusedSimpArgs false
def spec_l06Moves.l0 : Nat → ByteArray → Int → Option (Int)
 | 0, _, _ => none
 | k + 1, x0, x3 => if x3 < (x0.size : Int) then (if 0 ≤ x3 then ((spec_l06Letter.f (bt x0 x3)).bind fun t269 => (if t269 = true then (spec_l06Moves.l0 k x0 (wrap64 (x3 + 1))) else (some 5))) else (none)) else (some 0)
def spec_l06Moves.f (k : Nat) (a0 : ByteArray) : Option (Int) := if (a0.size : Int) > 60 then (some 3) else (spec_l06Moves.l0 k a0 0)
theorem spec_l06Moves.mono_l : ∀ k, (∀ y0 y1, LeO (spec_l06Moves.l0 k y0 y1) (spec_l06Moves.l0 (k + 1) y0 y1))
 | 0 => fun _ _ r h => by simp [spec_l06Moves.l0] at h
 | k + 1 => by
  have ih0 := spec_l06Moves.mono_l k
  ·intro y0 y1
   unfold spec_l06Moves.l0
   repeat' first
   | (with_reducible exact ih0 _ _)
   | (with_reducible exact LeO.refl _)
   | (with_reducible exact LeO.none _)
   | (with_reducible refine LeO.ite ?_ ?_)
   | (with_reducible refine LeO.bind ?_ (fun _ => ?_))
   | exact ih0 _ _
   | exact LeO.none _
   | refine LeO.ite ?_ ?_
   | refine LeO.bind ?_ (fun _ => ?_)
theorem spec_l06Moves.mono : ∀ a0 k, LeO (spec_l06Moves.f k a0) (spec_l06Moves.f (k + 1) a0) := by
 intro a0 k
 have ih0 := spec_l06Moves.mono_l k
 unfold spec_l06Moves.f
 repeat' first
   | (with_reducible exact ih0 _ _)
   | (with_reducible exact LeO.refl _)
   | (with_reducible exact LeO.none _)
   | (with_reducible refine LeO.ite ?_ ?_)
   | (with_reducible refine LeO.bind ?_ (fun _ => ?_))
   | exact ih0 _ _
   | exact LeO.none _
   | refine LeO.ite ?_ ?_
   | refine LeO.bind ?_ (fun _ => ?_)
set_option maxHeartbeats 8000000 in
set_option maxRecDepth 100000 in
theorem spec_l06Moves.calls (k : Nat) (a0 : ByteArray) (r : Int) (w : World) (h : spec_l06Moves.f k a0 = some r) :
  Calls Tryd.prog 20 #[.string a0] w fun e w' => e = .returned (.int .i64 r) ∧ Drawn0 w w' := by
 have H : (if (a0.size : Int) > 60 then (some 3) else (spec_l06Moves.l0 k a0 0)) = some r := h
 clear h
 by_cases c2 : (a0.size : Int) > 60
 ·rw [if_pos c2] at H
  have c2b0 : decide (60 < (a0.size : Int)) = true := decide_eq_true c2
  have c2b1 : decide (60 < a0.size) = true := decide_eq_true (by omega)
  clear c2
  obtain rfl := Option.some.inj H
  go_enter Tryd.func20, Tryd.ntmps20
  go_wp2
  go_ret
  exact ⟨by first | rfl | (simp; done) | (simp [*]; done), by repeat (first | exact Drawn0.refl _ | apply Drawn0.step)⟩
 ·rw [if_neg c2] at H
  have c2b0 : decide (60 < (a0.size : Int)) = false := decide_eq_false c2
  have c2b1 : decide (60 < a0.size) = false := decide_eq_false (by omega)
  clear c2
  have H' := Aside0.mk H
  clear H
  go_enter Tryd.func20, Tryd.ntmps20
  go_wp2
  go_loopg [3] k (fun kq v3 w' => ∃ (x3_1 : Int), v3 = .int .i64 x3_1 ∧ Aside0 (spec_l06Moves.l0 kq a0 x3_1 = some r) ∧ Aside0 (kq ≤ k) ∧ Drawn0 w w')
  case atStart => exact ⟨(0), (by first | rfl | (simp; done) | (simp [*]; done)), H', ⟨Nat.le_refl _⟩, by repeat (first | exact Drawn0.refl _ | apply Drawn0.step)⟩
  case round =>
   clear H'
   try clear c2
   try clear c2b0
   try clear c2b1
   try clear p2
   obtain ⟨x3_1, rfl, HA, HK1, ⟨m1, rfl⟩⟩ := hrel
   cases gk with
   | zero => exact absurd HA.out (by simp [spec_l06Moves.l0])
   | succ k1 =>
    have H := HA.out
    clear HA
    simp only [spec_l06Moves.l0] at H
    by_cases c3 : x3_1 < (a0.size : Int)
    ·rw [if_pos c3] at H
     have c3b0 : decide (x3_1 < (a0.size : Int)) = true := decide_eq_true c3
     clear c3
     by_cases c4 : 0 ≤ x3_1
     ·rw [if_pos c4] at H
      have c4b0 : decide (0 ≤ x3_1) = true := decide_eq_true c4
      clear c4
      replace H := Option.bind_eq_some_iff.mp H
      obtain ⟨t269, A60, H⟩ := H
      replace H : (if t269 = true then (spec_l06Moves.l0 k1 a0 (wrap64 (x3_1 + 1))) else (some 5)) = some r := H
      have A6 := Aside0.mk A60
      clear A60
      by_cases c7 : t269 = true
      ·subst c7
       have H1 : (spec_l06Moves.l0 k1 a0 (wrap64 (x3_1 + 1))) = some r := by rw [if_pos rfl] at H; exact H
       clear H
       have H := H1
       clear H1
       have H' := Aside0.mk H
       clear H
       have p5 : 0 ≤ (x3_1 : Int) := of_decide_eq_true (by first | (with_reducible assumption) | assumption)
       have q5 : x3_1 < (a0.size : Int) := of_decide_eq_true (by first | (with_reducible assumption) | assumption)
       have hx5 := bt_at a0 x3_1
       replace p5 := eq_true p5
       replace q5 := eq_true q5
       go_wp2_with (first | ((with_reducible refine gate_callee (f := 34) rfl ?_); refine goesL_ (some 16) rfl rfl Tryd.func34 (by kernel_rfl) rfl #[.int .u8 (bt a0 x3_1)] rfl (by (try simp only [List.map_toArray, List.map_cons, List.map_nil]); first | done | rfl | (simp only [List.length_drop, List.length_take]; rfl)) ?_; (with_reducible refine (spec_l06Letter.calls (bt a0 x3_1) true _ A6.out).mono ?_); rintro e w' ⟨rfl, ⟨nd, rfl⟩⟩; refine ⟨_, rfl, ?_⟩))
       go_roundg k1
       case measure => have := HK1.out; omega
       case rel => exact ⟨(wrap64 (x3_1 + 1)), (by first | rfl | (simp; done) | (simp [*]; done)), H', ⟨by have := HK1.out; omega⟩, by repeat (first | exact Drawn0.refl _ | apply Drawn0.step)⟩
      ·replace c7 := Bool.eq_false_iff.mpr c7
       subst c7
       have H1 : (some 5) = some r := by rw [if_neg (show ¬ (false = true) by decide)] at H; exact H
       clear H
       have H := H1
       clear H1
       obtain rfl := Option.some.inj H
       have p5 : 0 ≤ (x3_1 : Int) := of_decide_eq_true (by first | (with_reducible assumption) | assumption)
       have q5 : x3_1 < (a0.size : Int) := of_decide_eq_true (by first | (with_reducible assumption) | assumption)
       have hx5 := bt_at a0 x3_1
       replace p5 := eq_true p5
       replace q5 := eq_true q5
       go_wp2_with (first | ((with_reducible refine gate_callee (f := 34) rfl ?_); refine goesL_ (some 16) rfl rfl Tryd.func34 (by kernel_rfl) rfl #[.int .u8 (bt a0 x3_1)] rfl (by (try simp only [List.map_toArray, List.map_cons, List.map_nil]); first | done | rfl | (simp only [List.length_drop, List.length_take]; rfl)) ?_; (with_reducible refine (spec_l06Letter.calls (bt a0 x3_1) false _ A6.out).mono ?_); rintro e w' ⟨rfl, ⟨nd, rfl⟩⟩; refine ⟨_, rfl, ?_⟩))
       go_ret
       exact ⟨by first | rfl | (simp; done) | (simp [*]; done), by repeat (first | exact Drawn0.refl _ | apply Drawn0.step)⟩
     ·rw [if_neg c4] at H
      exact absurd H (by simp)
    ·rw [if_neg c3] at H
     have c3b0 : decide (x3_1 < (a0.size : Int)) = false := decide_eq_false c3
     clear c3
     obtain rfl := Option.some.inj H
     go_wp2
     go_ret
     exact ⟨by first | rfl | (simp; done) | (simp [*]; done), by repeat (first | exact Drawn0.refl _ | apply Drawn0.step)⟩
end Go.Proofs.YtdedijjbdkoekaaDoor.PB
end
section
namespace Go.Proofs.YtdedijjbdkoekaaDoor.PB
open Go.RowKit Go.Proofs.YtdedijjbdkoekaaDoorW.PrintWords Go.Proofs.YtdedijjbdkoekaaDoorW.PrintLast Go.Proofs.YtdedijjbdkoekaaDoorW.PrintMore Go.Proofs.YtdedijjbdkoekaaDoor.La
attribute [local go_sem] max2_int min2_int max_two min_two max_three min_three max_four min_four   -- for this text's walks alone
set_option linter.unusedVariables false
set_option linter.unusedSimpArgs false
mutual
def spec_WhereBegun.l0 : Nat → ByteArray → List (S41) → Int → Int → Int → LA 10 → LA 40 → Option (LA 40 × Int)
 | 0, _, _, _, _, _, _, _ => none
 | k + 1, x1, x8, x9, x294000, x294001, x294002, x298000 => if x9 < (x8.length : Int) then (spec_WhereBegun.l1 k x1 x8 x9 0 x294000 x294001 x294002 x298000) else (some (x298000, 0))
def spec_WhereBegun.l1 : Nat → ByteArray → List (S41) → Int → Int → Int → Int → LA 10 → LA 40 → Option (LA 40 × Int)
 | 0, _, _, _, _, _, _, _, _ => none
 | k + 1, x1, x8, x9, x10, x294000, x294001, x294002, x298000 => if x10 < 4 then (if 0 ≤ x9 then (if x9 < (x8.length : Int) then (spec_WhereBegun.l2 k x1 x8 x9 x10 x10 true 0 x294000 x294001 x294002 x298000 ((rd_T41 x8 x9).f0) ((rd_T41 x8 x9).f1)) else (none)) else (none)) else (spec_WhereBegun.l0 k x1 x8 (wrap64 (x9 + 1)) x294000 x294001 x294002 x298000)
def spec_WhereBegun.l2 : Nat → ByteArray → List (S41) → Int → Int → Int → Bool → Int → Int → Int → LA 10 → LA 40 → Int → Int → Option (LA 40 × Int)
 | 0, _, _, _, _, _, _, _, _, _, _, _, _, _ => none
 | k + 1, x1, x8, x9, x10, x12, x13, x14, x294000, x294001, x294002, x298000, x303000, x303001 => if x14 < (x1.size : Int) then (spec_WhereBegun.j3 k x1 x8 x9 x10 x12 x13 x14 x13 x294000 x294001 x294002 x298000 x303000 x303001) else (spec_WhereBegun.j3 k x1 x8 x9 x10 x12 x13 x14 false x294000 x294001 x294002 x298000 x303000 x303001)
def spec_WhereBegun.j3 : Nat → ByteArray → List (S41) → Int → Int → Int → Bool → Int → Bool → Int → Int → LA 10 → LA 40 → Int → Int → Option (LA 40 × Int)
 | 0, _, _, _, _, _, _, _, _, _, _, _, _, _, _ => none
 | k + 1, x1, x8, x9, x10, x12, x13, x14, x49, x294000, x294001, x294002, x298000, x303000, x303001 => if x49 = true then (if 0 ≤ x14 then (if x14 < (x1.size : Int) then ((spec_l06Can.f x294000 x294001 x294002 x303000 x303001 x12 (bt x1 x14)).bind fun t305 => (if t305 = true then ((spec_l06Made.f x303000 x303001 x12 (bt x1 x14)).bind fun bt306 => (spec_WhereBegun.l2 k x1 x8 x9 x10 bt306.2.2 t305 (wrap64 (x14 + 1)) x294000 x294001 x294002 x298000 bt306.1 bt306.2.1)) else (spec_WhereBegun.l2 k x1 x8 x9 x10 x12 t305 (wrap64 (x14 + 1)) x294000 x294001 x294002 x298000 x303000 x303001))) else (none)) else (none)) else (if x13 = true then (if 0 ≤ x9 then (if x9 < (x8.length : Int) then ((spec_l06Put.f x298000 ((rd_T41 x8 x9).f0) ((rd_T41 x8 x9).f1) x10).bind fun t304 => (spec_WhereBegun.l1 k x1 x8 x9 (wrap64 (x10 + 1)) x294000 x294001 x294002 t304)) else (none)) else (none)) else (spec_WhereBegun.l1 k x1 x8 x9 (wrap64 (x10 + 1)) x294000 x294001 x294002 x298000))
end
def spec_WhereBegun.f (k : Nat) (a0_0 : Int) (a0_1 : Int) (a0_2 : LA 10) (a1 : ByteArray) : Option (LA 40 × Int) := (spec_l01Ok.f k a0_0 a0_1 a0_2).bind fun t295 => (if t295 = true then ((spec_l06Moves.f k a1).bind fun t296 => (if t296 = 0 then ((spec_l01All.f k a0_0 a0_1 a0_2).bind fun t298 => (spec_WhereBegun.l0 k a1 t298 0 a0_0 a0_1 a0_2 (LA.zero 40))) else (some ((LA.zero 40), t296)))) else (some ((LA.zero 40), 1)))
theorem spec_WhereBegun.mono_l : ∀ k, (∀ y0 y1 y2 y3 y4 y5 y6, LeO (spec_WhereBegun.l0 k y0 y1 y2 y3 y4 y5 y6) (spec_WhereBegun.l0 (k + 1) y0 y1 y2 y3 y4 y5 y6)) ∧ (∀ y0 y1 y2 y3 y4 y5 y6 y7, LeO (spec_WhereBegun.l1 k y0 y1 y2 y3 y4 y5 y6 y7) (spec_WhereBegun.l1 (k + 1) y0 y1 y2 y3 y4 y5 y6 y7)) ∧ (∀ y0 y1 y2 y3 y4 y5 y6 y7 y8 y9 y10 y11 y12, LeO (spec_WhereBegun.l2 k y0 y1 y2 y3 y4 y5 y6 y7 y8 y9 y10 y11 y12) (spec_WhereBegun.l2 (k + 1) y0 y1 y2 y3 y4 y5 y6 y7 y8 y9 y10 y11 y12)) ∧ (∀ y0 y1 y2 y3 y4 y5 y6 y7 y8 y9 y10 y11 y12 y13, LeO (spec_WhereBegun.j3 k y0 y1 y2 y3 y4 y5 y6 y7 y8 y9 y10 y11 y12 y13) (spec_WhereBegun.j3 (k + 1) y0 y1 y2 y3 y4 y5 y6 y7 y8 y9 y10 y11 y12 y13))
 | 0 => ⟨fun _ _ _ _ _ _ _ r h => by simp [spec_WhereBegun.l0] at h, fun _ _ _ _ _ _ _ _ r h => by simp [spec_WhereBegun.l1] at h, fun _ _ _ _ _ _ _ _ _ _ _ _ _ r h => by simp [spec_WhereBegun.l2] at h, fun _ _ _ _ _ _ _ _ _ _ _ _ _ _ r h => by simp [spec_WhereBegun.j3] at h⟩
 | k + 1 => by
  obtain ⟨ih0, ih1, ih2, ih3⟩ := spec_WhereBegun.mono_l k
  refine ⟨?_, ?_, ?_, ?_⟩
  ·intro y0 y1 y2 y3 y4 y5 y6
   unfold spec_WhereBegun.l0
   repeat' first
   | (with_reducible exact ih0 _ _ _ _ _ _ _)
   | (with_reducible exact ih1 _ _ _ _ _ _ _ _)
   | (with_reducible exact ih2 _ _ _ _ _ _ _ _ _ _ _ _ _)
   | (with_reducible exact ih3 _ _ _ _ _ _ _ _ _ _ _ _ _ _)
   | (with_reducible exact spec_l01All.mono _ _ _ _)
   | (with_reducible exact spec_l01Ok.mono _ _ _ _)
   | (with_reducible exact spec_l06Moves.mono _ _)
   | (with_reducible exact LeO.refl _)
   | (with_reducible exact LeO.none _)
   | (with_reducible refine LeO.ite ?_ ?_)
   | (with_reducible refine LeO.bind ?_ (fun _ => ?_))
   | exact ih0 _ _ _ _ _ _ _
   | exact ih1 _ _ _ _ _ _ _ _
   | exact ih2 _ _ _ _ _ _ _ _ _ _ _ _ _
   | exact ih3 _ _ _ _ _ _ _ _ _ _ _ _ _ _
   | exact spec_l01All.mono _ _ _ _
   | exact spec_l01Ok.mono _ _ _ _
   | exact spec_l06Moves.mono _ _
   | exact LeO.none _
   | refine LeO.ite ?_ ?_
   | refine LeO.bind ?_ (fun _ => ?_)
  ·intro y0 y1 y2 y3 y4 y5 y6 y7
   unfold spec_WhereBegun.l1
   repeat' first
   | (with_reducible exact ih0 _ _ _ _ _ _ _)
   | (with_reducible exact ih1 _ _ _ _ _ _ _ _)
   | (with_reducible exact ih2 _ _ _ _ _ _ _ _ _ _ _ _ _)
   | (with_reducible exact ih3 _ _ _ _ _ _ _ _ _ _ _ _ _ _)
   | (with_reducible exact spec_l01All.mono _ _ _ _)
   | (with_reducible exact spec_l01Ok.mono _ _ _ _)
   | (with_reducible exact spec_l06Moves.mono _ _)
   | (with_reducible exact LeO.refl _)
   | (with_reducible exact LeO.none _)
   | (with_reducible refine LeO.ite ?_ ?_)
   | (with_reducible refine LeO.bind ?_ (fun _ => ?_))
   | exact ih0 _ _ _ _ _ _ _
   | exact ih1 _ _ _ _ _ _ _ _
   | exact ih2 _ _ _ _ _ _ _ _ _ _ _ _ _
   | exact ih3 _ _ _ _ _ _ _ _ _ _ _ _ _ _
   | exact spec_l01All.mono _ _ _ _
   | exact spec_l01Ok.mono _ _ _ _
   | exact spec_l06Moves.mono _ _
   | exact LeO.none _
   | refine LeO.ite ?_ ?_
   | refine LeO.bind ?_ (fun _ => ?_)
  ·intro y0 y1 y2 y3 y4 y5 y6 y7 y8 y9 y10 y11 y12
   unfold spec_WhereBegun.l2
   repeat' first
   | (with_reducible exact ih0 _ _ _ _ _ _ _)
   | (with_reducible exact ih1 _ _ _ _ _ _ _ _)
   | (with_reducible exact ih2 _ _ _ _ _ _ _ _ _ _ _ _ _)
   | (with_reducible exact ih3 _ _ _ _ _ _ _ _ _ _ _ _ _ _)
   | (with_reducible exact spec_l01All.mono _ _ _ _)
   | (with_reducible exact spec_l01Ok.mono _ _ _ _)
   | (with_reducible exact spec_l06Moves.mono _ _)
   | (with_reducible exact LeO.refl _)
   | (with_reducible exact LeO.none _)
   | (with_reducible refine LeO.ite ?_ ?_)
   | (with_reducible refine LeO.bind ?_ (fun _ => ?_))
   | exact ih0 _ _ _ _ _ _ _
   | exact ih1 _ _ _ _ _ _ _ _
   | exact ih2 _ _ _ _ _ _ _ _ _ _ _ _ _
   | exact ih3 _ _ _ _ _ _ _ _ _ _ _ _ _ _
   | exact spec_l01All.mono _ _ _ _
   | exact spec_l01Ok.mono _ _ _ _
   | exact spec_l06Moves.mono _ _
   | exact LeO.none _
   | refine LeO.ite ?_ ?_
   | refine LeO.bind ?_ (fun _ => ?_)
  ·intro y0 y1 y2 y3 y4 y5 y6 y7 y8 y9 y10 y11 y12 y13
   unfold spec_WhereBegun.j3
   repeat' first
   | (with_reducible exact ih0 _ _ _ _ _ _ _)
   | (with_reducible exact ih1 _ _ _ _ _ _ _ _)
   | (with_reducible exact ih2 _ _ _ _ _ _ _ _ _ _ _ _ _)
   | (with_reducible exact ih3 _ _ _ _ _ _ _ _ _ _ _ _ _ _)
   | (with_reducible exact spec_l01All.mono _ _ _ _)
   | (with_reducible exact spec_l01Ok.mono _ _ _ _)
   | (with_reducible exact spec_l06Moves.mono _ _)
   | (with_reducible exact LeO.refl _)
   | (with_reducible exact LeO.none _)
   | (with_reducible refine LeO.ite ?_ ?_)
   | (with_reducible refine LeO.bind ?_ (fun _ => ?_))
   | exact ih0 _ _ _ _ _ _ _
   | exact ih1 _ _ _ _ _ _ _ _
   | exact ih2 _ _ _ _ _ _ _ _ _ _ _ _ _
   | exact ih3 _ _ _ _ _ _ _ _ _ _ _ _ _ _
   | exact spec_l01All.mono _ _ _ _
   | exact spec_l01Ok.mono _ _ _ _
   | exact spec_l06Moves.mono _ _
   | exact LeO.none _
   | refine LeO.ite ?_ ?_
   | refine LeO.bind ?_ (fun _ => ?_)
theorem spec_WhereBegun.mono : ∀ a0 a1 a2 a3 k, LeO (spec_WhereBegun.f k a0 a1 a2 a3) (spec_WhereBegun.f (k + 1) a0 a1 a2 a3) := by
 intro a0 a1 a2 a3 k
 obtain ⟨ih0, ih1, ih2, ih3⟩ := spec_WhereBegun.mono_l k
 unfold spec_WhereBegun.f
 repeat' first
   | (with_reducible exact ih0 _ _ _ _ _ _ _)
   | (with_reducible exact ih1 _ _ _ _ _ _ _ _)
   | (with_reducible exact ih2 _ _ _ _ _ _ _ _ _ _ _ _ _)
   | (with_reducible exact ih3 _ _ _ _ _ _ _ _ _ _ _ _ _ _)
   | (with_reducible exact spec_l01All.mono _ _ _ _)
   | (with_reducible exact spec_l01Ok.mono _ _ _ _)
   | (with_reducible exact spec_l06Moves.mono _ _)
   | (with_reducible exact LeO.refl _)
   | (with_reducible exact LeO.none _)
   | (with_reducible refine LeO.ite ?_ ?_)
   | (with_reducible refine LeO.bind ?_ (fun _ => ?_))
   | exact ih0 _ _ _ _ _ _ _
   | exact ih1 _ _ _ _ _ _ _ _
   | exact ih2 _ _ _ _ _ _ _ _ _ _ _ _ _
   | exact ih3 _ _ _ _ _ _ _ _ _ _ _ _ _ _
   | exact spec_l01All.mono _ _ _ _
   | exact spec_l01Ok.mono _ _ _ _
   | exact spec_l06Moves.mono _ _
   | exact LeO.none _
   | refine LeO.ite ?_ ?_
   | refine LeO.bind ?_ (fun _ => ?_)
def spec_WhereBegun.T22 : Bool × List (List Nat × List Nat) := (true, [([], []), ([], []), ([], []), ([], []), ([2, 3], [2, 3]), ([0, 1, 4], [0, 1, 4]), ([5], [5]), ([6], [6]), ([6], [6]), ([], []), ([9, 7, 5, 0, 1, 2, 3, 4, 5, 6, 7, 9], [7, 9]), ([8, 10, 0, 1, 2, 3, 4, 5, 6, 7, 8, 9, 10], [8])])
def spec_WhereBegun.B22 : List Nat := [0, 0, 0, 0, 12, 31, 63, 127, 127, 0, 767, 2047]
theorem spec_WhereBegun.tab22 : rtab .any (opsOf Tryd.f7 22) = spec_WhereBegun.T22 := by kernel_rfl
theorem spec_WhereBegun.bits22 : waitsOk spec_WhereBegun.T22.2 spec_WhereBegun.B22 = true := by kernel_rfl
set_option maxHeartbeats 8000000 in
set_option maxRecDepth 100000 in
theorem spec_WhereBegun.calls (k : Nat) (a0_0 : Int) (a0_1 : Int) (a0_2 : LA 10) (a1 : ByteArray) (r1 : LA 40) (r2 : Int) (w : World) (h : spec_WhereBegun.f k a0_0 a0_1 a0_2 a1 = some (r1, r2)) :
  Calls Tryd.prog 7 #[.agg (mixA (Value.int .u16) [.int .i8 a0_0, .int .i8 a0_1] a0_2), .string a1] w fun e w' => e = .returned (.tuple #[.agg (mixA (Value.int .u16) [] r1), .int .i64 r2]) ∧ Below w.heap.size w w' := by
 have hu31 := Tryd.underlying31
 have hu41 := Tryd.underlying41
 have HB := Aside0.mk (Below.refl w.heap.size w)
 have H : ((spec_l01Ok.f k a0_0 a0_1 a0_2).bind fun t295 => (if t295 = true then ((spec_l06Moves.f k a1).bind fun t296 => (if t296 = 0 then ((spec_l01All.f k a0_0 a0_1 a0_2).bind fun t298 => (spec_WhereBegun.l0 k a1 t298 0 a0_0 a0_1 a0_2 (LA.zero 40))) else (some ((LA.zero 40), t296)))) else (some ((LA.zero 40), 1)))) = some (r1, r2) := h
 clear h
 replace H := Option.bind_eq_some_iff.mp H
 obtain ⟨t295, A30, H⟩ := H
 replace H : (if t295 = true then ((spec_l06Moves.f k a1).bind fun t296 => (if t296 = 0 then ((spec_l01All.f k a0_0 a0_1 a0_2).bind fun t298 => (spec_WhereBegun.l0 k a1 t298 0 a0_0 a0_1 a0_2 (LA.zero 40))) else (some ((LA.zero 40), t296)))) else (some ((LA.zero 40), 1))) = some (r1, r2) := H
 have A3 := Aside0.mk A30
 clear A30
 by_cases c4 : t295 = true
 ·subst c4
  have H1 : ((spec_l06Moves.f k a1).bind fun t296 => (if t296 = 0 then ((spec_l01All.f k a0_0 a0_1 a0_2).bind fun t298 => (spec_WhereBegun.l0 k a1 t298 0 a0_0 a0_1 a0_2 (LA.zero 40))) else (some ((LA.zero 40), t296)))) = some (r1, r2) := by rw [if_pos rfl] at H; exact H
  clear H
  have H := H1
  clear H1
  replace H := Option.bind_eq_some_iff.mp H
  obtain ⟨t296, A50, H⟩ := H
  replace H : (if t296 = 0 then ((spec_l01All.f k a0_0 a0_1 a0_2).bind fun t298 => (spec_WhereBegun.l0 k a1 t298 0 a0_0 a0_1 a0_2 (LA.zero 40))) else (some ((LA.zero 40), t296))) = some (r1, r2) := H
  have A5 := Aside0.mk A50
  clear A50
  by_cases c6 : t296 = 0
  ·rw [if_pos c6] at H
   have c6b0 : (t296 == 0) = true := beq_iff_eq.mpr c6
   have c6b1 : (t296 != 0) = false := bne_eq_false_iff_eq.mpr c6
   clear c6
   replace H := Option.bind_eq_some_iff.mp H
   obtain ⟨t298, A70, H⟩ := H
   replace H : (spec_WhereBegun.l0 k a1 t298 0 a0_0 a0_1 a0_2 (LA.zero 40)) = some (r1, r2) := H
   have A7 := Aside0.mk A70
   clear A70
   have H' := Aside0.mk H
   clear H
   go_enter Tryd.func7, Tryd.ntmps7
   go_wp2_with (first | ((with_reducible refine gate_dst (N := 2) rfl ?_); refine box_event ?hg (N := 2) ?hd (cs := (mixA (Value.int .u16) [.int .i8 a0_0, .int .i8 a0_1] a0_2)) (t := 31) ?hr ?_; (case hd => rfl); (case hg => rfl); (case hr => first | (go_simp; done) | (go_simp; rfl)); intro gb293 hg w8 hbox hb; have n0_ := bst HB hb; have n1_ := Aside0.mk (hbox); have n2_ := gwl HB hg; have n3_ := gwl HB hg; clear HB; have HB := n0_; have BK293 := n1_; have GW293 := n2_; have GE293 := n3_; clear n0_ n1_ n2_ n3_; clear hb hbox hg) | ((with_reducible refine gate_dst (N := 4) rfl ?_); refine box_event ?hg (N := 4) ?hd (cs := (mixA (Value.int .u16) [] (LA.zero 40))) (t := 28) ?hr ?_; (case hd => rfl); (case hg => rfl); (case hr => first | (go_simp; done) | (go_simp; rfl)); intro gb294 hg w9 hbox hb; have n0_ := bkb BK293 hb; have n1_ := bst HB hb; have n2_ := Aside0.mk (hbox); have n3_ := gwl HB hg; have n4_ := gwl HB hg; have n5_ := nbl BK293 hg; have n6_ := nbg BK293 hg; clear BK293; clear HB; have BK293 := n0_; have HB := n1_; have BK294 := n2_; have GW294 := n3_; have GE294 := n4_; have NB293_294 := n5_; have NB294_293 := n6_; clear n0_ n1_ n2_ n3_ n4_ n5_ n6_; clear hb hbox hg) | ((with_reducible refine gate_callee (f := 19) rfl ?_); refine goesL_ (some 17) rfl rfl Tryd.func19 (by kernel_rfl) rfl #[.pointer (some ⟨gb293, 0, none⟩)] rfl (by (try simp only [List.map_toArray, List.map_cons, List.map_nil]); first | done | rfl | (simp only [List.length_drop, List.length_take]; rfl)) ?_; (with_reducible refine (spec_l01Ok.calls k gb293 a0_0 a0_1 a0_2 true _ ?side1 A3.out).mono ?_); (case side1 => exact (pk BK293)); rintro e w10 ⟨rfl, hb⟩; refine ⟨_, rfl, ?_⟩; have n0_ := bkb BK293 hb; have n1_ := bkb BK294 hb; have n2_ := bst HB hb; clear BK293; clear BK294; clear HB; have BK293 := n0_; have BK294 := n1_; have HB := n2_; clear n0_ n1_ n2_; (try clear hb); (try clear hb2); (try clear hk); (try clear hi)) | ((with_reducible refine gate_callee (f := 20) rfl ?_); refine goesL_ (some 21) rfl rfl Tryd.func20 (by kernel_rfl) rfl #[.string a1] rfl (by (try simp only [List.map_toArray, List.map_cons, List.map_nil]); first | done | rfl | (simp only [List.length_drop, List.length_take]; rfl)) ?_; (with_reducible refine (spec_l06Moves.calls k a1 t296 _ A5.out).mono ?_); rintro e w' ⟨rfl, ⟨nd, rfl⟩⟩; refine ⟨_, rfl, ?_⟩) | ((with_reducible refine gate_dst (N := 7) rfl ?_); refine box_event ?hg (N := 7) ?hd (cs := (mixA (Value.int .u16) [] (LA.zero 40))) (t := 28) ?hr ?_; (case hd => rfl); (case hg => rfl); (case hr => first | (go_simp; done) | (go_simp; rfl)); intro gb297 hg w11 hbox hb; have n0_ := bkb BK293 hb; have n1_ := bkb BK294 hb; have n2_ := bst HB hb; have n3_ := Aside0.mk (hbox); have n4_ := gwl HB hg; have n5_ := gwl HB hg; have n6_ := nbl BK293 hg; have n7_ := nbg BK293 hg; have n8_ := nbl BK294 hg; have n9_ := nbg BK294 hg; clear BK293; clear BK294; clear HB; have BK293 := n0_; have BK294 := n1_; have HB := n2_; have BK297 := n3_; have GW297 := n4_; have GE297 := n5_; have NB293_297 := n6_; have NB297_293 := n7_; have NB294_297 := n8_; have NB297_294 := n9_; clear n0_ n1_ n2_ n3_ n4_ n5_ n6_ n7_ n8_ n9_; clear hb hbox hg) | ((with_reducible refine gate_store (p := 7) rfl ?_); refine wpList_store_lmix rfl 28 _ _ rfl gb297 (e := (Value.int .u16)) (cs' := []) (W' := (LA.zero 40)) (cs := []) (W := (LA.zero 40)) (T := 28) rfl rfl (pk BK297) rfl (by kernel_rfl) rfl (fun _ => rfl) rfl ?_; intro w12 hi hk hbl; have n0_ := Aside0.mk (KeepBut.blk hk (g' := gb293) (o := .cells (mixA (Value.int .u16) [.int .i8 a0_0, .int .i8 a0_1] a0_2) 31 (0, 0)) (pk BK293) NB293_297.out (by simp)); have n1_ := Aside0.mk (KeepBut.blk hk (g' := gb294) (o := .cells (mixA (Value.int .u16) [] (LA.zero 40)) 28 (0, 0)) (pk BK294) NB294_297.out (by simp)); have n2_ := Aside0.mk (hbl _ _ (pbs HB) GE297.out); have n3_ := Aside0.mk (hi); clear BK293; clear BK294; clear HB; clear BK297; have BK293 := n0_; have BK294 := n1_; have HB := n2_; have BK297 := n3_; clear n0_ n1_ n2_ n3_; clear hi hk hbl) | ((with_reducible refine gate_callee (f := 21) rfl ?_); refine goesL_ (some 27) rfl rfl Tryd.func21 (by kernel_rfl) rfl #[.pointer (some ⟨gb293, 0, none⟩)] rfl (by (try simp only [List.map_toArray, List.map_cons, List.map_nil]); first | done | rfl | (simp only [List.length_drop, List.length_take]; rfl)) ?_; (with_reducible refine (spec_l01All.calls k gb293 a0_0 a0_1 a0_2 t298 _ ?side1 A7.out).mono ?_); (case side1 => exact (pk BK293)); rintro e w13 ⟨v299, rfl, ho0, hb⟩; refine ⟨_, rfl, ?_⟩; have n0_ := Aside0.mk (Kd.R_lower ho0 (below_size (by repeat (first | (with_reducible first | exact HB.out | apply below_alloc | apply pw_below_drewN | apply below_drew1 | refine below_set ?_ GE293.out | refine below_set ?_ GE294.out | refine below_set ?_ GE297.out) | exact HB.out)))); have n1_ := bkb BK293 hb; have n2_ := bkb BK294 hb; have n3_ := bkb BK297 hb; have n4_ := bst HB hb; clear BK293; clear BK294; clear BK297; clear HB; have HO300 := n0_; have BK293 := n1_; have BK294 := n2_; have BK297 := n3_; have HB := n4_; clear n0_ n1_ n2_ n3_ n4_; (try clear hb); (try clear hb2); (try clear hk); (try clear hi); (try clear ho0)))
   go_loopg [9] k (fun kq v9 w' => ∃ (x9_1 : Int) (x298000_1 : LA 40), v9 = .int .i64 x9_1 ∧ Aside0 (spec_WhereBegun.l0 kq a1 t298 x9_1 a0_0 a0_1 a0_2 x298000_1 = some (r1, r2)) ∧ Aside0 (kq ≤ k) ∧ Aside0 (Kd.R k41 41 w' w.heap.size (fun _ => True) v299 t298) ∧ Aside0 (w'.heap[gb293]? = some (.cells (mixA (Value.int .u16) [.int .i8 a0_0, .int .i8 a0_1] a0_2) 31 (0, 0))) ∧ Aside0 (w'.heap[gb294]? = some (.cells (mixA (Value.int .u16) [] (LA.zero 40)) 28 (0, 0))) ∧ Aside0 (w'.heap[gb297]? = some (.cells (mixA (Value.int .u16) [] x298000_1) 28 (0, 0))) ∧ Aside0 (Below w.heap.size w w'))
   case atStart => exact ⟨(0), ((LA.zero 40)), (by first | rfl | (simp; done) | (simp [*]; done)), H', ⟨Nat.le_refl _⟩, ⟨by (with_reducible repeat (first | apply Kd.R_alloc | apply Kd.R_drewN | apply Kd.R_drew)); exact HO300.out⟩, ⟨pk BK293⟩, ⟨pk BK294⟩, ⟨pk BK297⟩, ⟨pbs HB⟩⟩
   case round =>
    clear H'
    try clear c1
    try clear c2
    try clear p2
    try clear c4
    try clear c6
    try clear c6b0
    try clear c6b1
    try clear c7
    obtain ⟨x9_1, x298000_1, rfl, HA, HK1, HO_8, BK293, BK294, BK297, HB⟩ := hrel
    cases gk with
    | zero => exact absurd HA.out (by simp [spec_WhereBegun.l0])
    | succ k1 =>
     have H := HA.out
     clear HA
     simp only [spec_WhereBegun.l0] at H
     by_cases c14 : x9_1 < (t298.length : Int)
     ·rw [if_pos c14] at H
      have c14b0 : decide (x9_1 < (t298.length : Int)) = true := decide_eq_true c14
      clear c14
      have H' := Aside0.mk H
      clear H
      obtain ⟨Ao15, co15, eo15⟩ := Kd.R_slice HO_8.out
      subst eo15
      go_wp2
      go_loopg [10] k1 (fun kq v10 w' => ∃ (x10_2 : Int) (x298000_2 : LA 40), v10 = .int .i64 x10_2 ∧ Aside0 (spec_WhereBegun.l1 kq a1 t298 x9_1 x10_2 a0_0 a0_1 a0_2 x298000_2 = some (r1, r2)) ∧ Aside0 (kq ≤ k1) ∧ Aside0 (Kd.R k41 41 w' w.heap.size (fun _ => True) (.slice Ao15 t298.length co15) t298) ∧ Aside0 (w'.heap[gb293]? = some (.cells (mixA (Value.int .u16) [.int .i8 a0_0, .int .i8 a0_1] a0_2) 31 (0, 0))) ∧ Aside0 (w'.heap[gb294]? = some (.cells (mixA (Value.int .u16) [] (LA.zero 40)) 28 (0, 0))) ∧ Aside0 (w'.heap[gb297]? = some (.cells (mixA (Value.int .u16) [] x298000_2) 28 (0, 0))) ∧ Aside0 (Below w.heap.size w w'))
      case atStart => exact ⟨(0), (x298000_1), (by first | rfl | (simp; done) | (simp [*]; done)), H', ⟨Nat.le_refl _⟩, ⟨by (with_reducible repeat (first | apply Kd.R_alloc | apply Kd.R_drewN | apply Kd.R_drew)); exact HO_8.out⟩, ⟨pk BK293⟩, ⟨pk BK294⟩, ⟨pk BK297⟩, ⟨pbs HB⟩⟩
      case round =>
       clear H'
       try clear c1
       try clear c2
       try clear p2
       try clear c4
       try clear c6
       try clear c6b0
       try clear c6b1
       try clear c7
       try clear c14
       try clear c14b0
       try clear p2
       obtain ⟨x10_2, x298000_2, rfl, HA, HK2, HO_8, BK293, BK294, BK297, HB⟩ := hrel
       cases gk with
       | zero => exact absurd HA.out (by simp [spec_WhereBegun.l1])
       | succ k2 =>
        have H := HA.out
        clear HA
        simp only [spec_WhereBegun.l1] at H
        by_cases c16 : x10_2 < 4
        ·rw [if_pos c16] at H
         have c16b0 : decide (x10_2 < 4) = true := decide_eq_true c16
         clear c16
         by_cases c17 : 0 ≤ x9_1
         ·rw [if_pos c17] at H
          have c17b0 : decide (0 ≤ x9_1) = true := decide_eq_true c17
          clear c17
          by_cases c18 : x9_1 < (t298.length : Int)
          ·rw [if_pos c18] at H
           have c18b0 : decide (x9_1 < (t298.length : Int)) = true := decide_eq_true c18
           clear c18
           have H' := Aside0.mk H
           clear H
           have p301 : 0 ≤ (x9_1 : Int) := of_decide_eq_true (by first | (with_reducible assumption) | assumption)
           have q301 : x9_1 < (t298.length : Int) := of_decide_eq_true (by first | (with_reducible assumption) | assumption)
           obtain ⟨ad301, e301, hx301_0, hx301_1⟩ := at_T41 (Kd.R_reads' HO_8.out).2.2 x9_1 p301 q301
           cases e301
           replace p301 := eq_true p301
           replace q301 := eq_true q301
           go_wp2_with (first | ((with_reducible refine gate_dst (N := 11) rfl ?_); refine box_event ?hg (N := 11) ?hd (cs := #[.int .i8 0, .int .i8 0]) (t := 41) ?hr ?_; (case hd => rfl); (case hg => rfl); (case hr => first | (go_simp; done) | (go_simp; rfl)); intro gb302 hg w19 hbox hb; have n0_ := Aside0.mk (Kd.R_below (Kd.R_elderB (by (with_reducible repeat (first | apply Kd.R_alloc | apply Kd.R_drewN | apply Kd.R_drew)); exact HO_8.out) gb302 (Nat.le_of_eq hg.symm)) hb); have n1_ := bkb BK293 hb; have n2_ := bkb BK294 hb; have n3_ := bkb BK297 hb; have n4_ := bst HB hb; have n5_ := Aside0.mk (hbox); have n6_ := gwl HB hg; have n7_ := gwl HB hg; have n8_ := nbl BK293 hg; have n9_ := nbg BK293 hg; have n10_ := nbl BK294 hg; have n11_ := nbg BK294 hg; have n12_ := nbl BK297 hg; have n13_ := nbg BK297 hg; clear HO_8; clear BK293; clear BK294; clear BK297; clear HB; have HO_8 := n0_; have BK293 := n1_; have BK294 := n2_; have BK297 := n3_; have HB := n4_; have BK302 := n5_; have GW302 := n6_; have GE302 := n7_; have NB293_302 := n8_; have NB302_293 := n9_; have NB294_302 := n10_; have NB302_294 := n11_; have NB297_302 := n12_; have NB302_297 := n13_; clear n0_ n1_ n2_ n3_ n4_ n5_ n6_ n7_ n8_ n9_ n10_ n11_ n12_ n13_; clear hb hbox hg; have hnb20 := NB302_293.out; have hnc20 := NB293_302.out; have hnb21 := NB302_294.out; have hnc21 := NB294_302.out; have hnb22 := NB302_297.out; have hnc22 := NB297_302.out; have hcz23_0 : w19.cell? ⟨gb302, 0, none⟩ = some (.int .i8 0) := (blk_cell BK302.out 0).trans rfl; have hcz23_1 : w19.cell? ⟨gb302, 1, none⟩ = some (.int .i8 0) := (blk_cell BK302.out 1).trans rfl; have hfz23_0 := blk_frozen BK302.out 0; have hfz23_1 := blk_frozen BK302.out 1))
           go_loopg [12, 13, 14] k2 (fun kq v12 v13 v14 w' => ∃ (x12_3 : Int) (x13_3 : Bool) (x14_3 : Int) (x303000_3 : Int) (x303001_3 : Int), v12 = .int .i64 x12_3 ∧ v13 = .bool x13_3 ∧ v14 = .int .i64 x14_3 ∧ Aside0 (spec_WhereBegun.l2 kq a1 t298 x9_1 x10_2 x12_3 x13_3 x14_3 a0_0 a0_1 a0_2 x298000_2 x303000_3 x303001_3 = some (r1, r2)) ∧ Aside0 (kq ≤ k2) ∧ Aside0 (Kd.R k41 41 w' w.heap.size (fun k_ => k_ ≠ gb302) (.slice (some ad301) t298.length co15) t298) ∧ Aside0 (w'.heap[gb293]? = some (.cells (mixA (Value.int .u16) [.int .i8 a0_0, .int .i8 a0_1] a0_2) 31 (0, 0))) ∧ Aside0 (w'.heap[gb294]? = some (.cells (mixA (Value.int .u16) [] (LA.zero 40)) 28 (0, 0))) ∧ Aside0 (w'.heap[gb297]? = some (.cells (mixA (Value.int .u16) [] x298000_2) 28 (0, 0))) ∧ Aside0 (w'.heap[gb302]? = some (.cells #[.int .i8 x303000_3, .int .i8 x303001_3] 41 (0, 0))) ∧ Aside0 (Below w.heap.size w w'))
           case atStart => exact ⟨(x10_2), (true), (0), ((rd_T41 t298 x9_1).f0), ((rd_T41 t298 x9_1).f1), (by first | rfl | (simp; done) | (simp [*]; done)), (by first | rfl | (simp; done) | (simp [*]; done)), (by first | rfl | (simp; done) | (simp [*]; done)), H', ⟨Nat.le_refl _⟩, ⟨by (with_reducible repeat (first | apply Kd.R_alloc | apply Kd.R_drewN | apply Kd.R_drew)); exact Kd.R_mono (Kd.R_far (p := ⟨gb302, 1, none⟩) (Kd.R_far (p := ⟨gb302, 0, none⟩) (Kd.R_mono HO_8.out (fun k_ hk => (⟨hk, hk.2⟩ : _ ∧ k_ ≠ gb302))) (fun _ hk => hk.2) (.int .i8 ((rd_T41 t298 x9_1).f0))) (fun _ hk => hk.2) (.int .i8 ((rd_T41 t298 x9_1).f1))) (fun _ hk => hk.1.2)⟩, ⟨by (with_reducible repeat (first | refine blk_drewN ?_ _ | refine blk_drew ?_ | refine blk_alloc ?_ _)); refine blk_far ?_ NB293_302.out _; (with_reducible repeat (first | refine blk_drewN ?_ _ | refine blk_drew ?_ | refine blk_alloc ?_ _)); refine blk_far ?_ NB293_302.out _; (with_reducible repeat (first | refine blk_drewN ?_ _ | refine blk_drew ?_ | refine blk_alloc ?_ _)); exact BK293.out⟩, ⟨by (with_reducible repeat (first | refine blk_drewN ?_ _ | refine blk_drew ?_ | refine blk_alloc ?_ _)); refine blk_far ?_ NB294_302.out _; (with_reducible repeat (first | refine blk_drewN ?_ _ | refine blk_drew ?_ | refine blk_alloc ?_ _)); refine blk_far ?_ NB294_302.out _; (with_reducible repeat (first | refine blk_drewN ?_ _ | refine blk_drew ?_ | refine blk_alloc ?_ _)); exact BK294.out⟩, ⟨by (with_reducible repeat (first | refine blk_drewN ?_ _ | refine blk_drew ?_ | refine blk_alloc ?_ _)); refine blk_far ?_ NB297_302.out _; (with_reducible repeat (first | refine blk_drewN ?_ _ | refine blk_drew ?_ | refine blk_alloc ?_ _)); refine blk_far ?_ NB297_302.out _; (with_reducible repeat (first | refine blk_drewN ?_ _ | refine blk_drew ?_ | refine blk_alloc ?_ _)); exact BK297.out⟩, ⟨by (with_reducible repeat (first | refine blk_drewN ?_ _ | refine blk_drew ?_ | refine blk_alloc ?_ _)); refine blk_put (cs := #[.int .i8 ((rd_T41 t298 x9_1).f0), .int .i8 0]) ?_ 1 _ rfl; (with_reducible repeat (first | refine blk_drewN ?_ _ | refine blk_drew ?_ | refine blk_alloc ?_ _)); refine blk_put (cs := #[.int .i8 0, .int .i8 0]) ?_ 0 _ rfl; (with_reducible repeat (first | refine blk_drewN ?_ _ | refine blk_drew ?_ | refine blk_alloc ?_ _)); exact BK302.out⟩, ⟨pbs HB⟩⟩
           case round =>
            clear H'
            try clear c1
            try clear c2
            try clear p2
            try clear p3
            try clear q3
            try clear hx3
            try clear c4
            try clear c6
            try clear c6b0
            try clear c6b1
            try clear c7
            try clear c14
            try clear c14b0
            try clear c16
            try clear c16b0
            try clear c17
            try clear c17b0
            try clear c18
            try clear c18b0
            try clear c19
            try clear c20
            try clear c21
            try clear c22
            try clear hcz23_0
            try clear hcz23_1
            try clear hfz23_0
            try clear hfz23_1
            try clear hx301_0
            try clear hx301_1
            try clear p2
            try clear p301
            try clear q301
            obtain ⟨x12_3, x13_3, x14_3, x303000_3, x303001_3, rfl, rfl, rfl, HA, HK3, HO_8, BK293, BK294, BK297, BK302, HB⟩ := hrel
            cases gk with
            | zero => exact absurd HA.out (by simp [spec_WhereBegun.l2])
            | succ k3 =>
             have H := HA.out
             clear HA
             simp only [spec_WhereBegun.l2] at H
             have HC24 := Aside0.mk H
             clear H
             go_upto_region 18 with (fail)
             go_cut [49] (fun v49 wc => ∃ (kq : Nat) (x49_23 : Bool), v49 = .bool x49_23 ∧ Aside0 (spec_WhereBegun.j3 kq a1 t298 x9_1 x10_2 x12_3 x13_3 x14_3 x49_23 a0_0 a0_1 a0_2 x298000_2 x303000_3 x303001_3 = some (r1, r2)) ∧ Aside0 (kq ≤ k3) ∧ Aside0 (Kd.R k41 41 wc w.heap.size (fun k_ => k_ ≠ gb302) (.slice (some ad301) t298.length co15) t298) ∧ Aside0 (wc.heap[gb293]? = some (.cells (mixA (Value.int .u16) [.int .i8 a0_0, .int .i8 a0_1] a0_2) 31 (0, 0))) ∧ Aside0 (wc.heap[gb294]? = some (.cells (mixA (Value.int .u16) [] (LA.zero 40)) 28 (0, 0))) ∧ Aside0 (wc.heap[gb297]? = some (.cells (mixA (Value.int .u16) [] x298000_2) 28 (0, 0))) ∧ Aside0 (wc.heap[gb302]? = some (.cells #[.int .i8 x303000_3, .int .i8 x303001_3] 41 (0, 0))) ∧ Aside0 (Below w.heap.size w wc))
             case first =>
              have H := HC24.out
              clear HC24
              by_cases c25 : x14_3 < (a1.size : Int)
              ·rw [if_pos c25] at H
               have c25b0 : decide (x14_3 < (a1.size : Int)) = true := decide_eq_true c25
               clear c25
               (first | rw [c25b0] | (simp only [i64_w, i32_w]; rw [c25b0]) | skip)
               have H' := Aside0.mk H
               clear H
               go_wp2
               go_meet
               case rel => exact ⟨_, (x13_3), (by first | rfl | (simp; done) | (simp [*]; done)), H', ⟨by have := HK1.out; have := HK2.out; have := HK3.out; first | omega | exact Nat.le_refl _⟩, ⟨by (with_reducible repeat (first | apply Kd.R_alloc | apply Kd.R_drewN | apply Kd.R_drew)); exact HO_8.out⟩, ⟨pk BK293⟩, ⟨pk BK294⟩, ⟨pk BK297⟩, ⟨pk BK302⟩, ⟨pbs HB⟩⟩
              ·rw [if_neg c25] at H
               have c25b0 : decide (x14_3 < (a1.size : Int)) = false := decide_eq_false c25
               clear c25
               (first | rw [c25b0] | (simp only [i64_w, i32_w]; rw [c25b0]) | skip)
               have H' := Aside0.mk H
               clear H
               go_wp2
               go_meet
               case rel => exact ⟨_, (false), (by first | rfl | (simp; done) | (simp [*]; done)), H', ⟨by have := HK1.out; have := HK2.out; have := HK3.out; first | omega | exact Nat.le_refl _⟩, ⟨by (with_reducible repeat (first | apply Kd.R_alloc | apply Kd.R_drewN | apply Kd.R_drew)); exact HO_8.out⟩, ⟨pk BK293⟩, ⟨pk BK294⟩, ⟨pk BK297⟩, ⟨pk BK302⟩, ⟨pbs HB⟩⟩
             case rest =>
              clear HC24
              try clear c1
              try clear c2
              try clear p2
              try clear p3
              try clear q3
              try clear hx3
              try clear c4
              try clear c6
              try clear c6b0
              try clear c6b1
              try clear c7
              try clear c14
              try clear c14b0
              try clear c16
              try clear c16b0
              try clear c17
              try clear c17b0
              try clear c18
              try clear c18b0
              try clear c19
              try clear c20
              try clear c21
              try clear c22
              try clear c25
              try clear c25b0
              try clear hcz23_0
              try clear hcz23_1
              try clear hfz23_0
              try clear hfz23_1
              try clear hx301_0
              try clear hx301_1
              try clear p2
              try clear p3
              try clear p301
              try clear q3
              try clear q301
              obtain ⟨kq, x49_23, rfl, HA, HJ23, HO_8, BK293, BK294, BK297, BK302, HB⟩ := hcut
              cases kq with
              | zero => exact absurd HA.out (by simp [spec_WhereBegun.j3])
              | succ kj23 =>
               have H := HA.out
               clear HA
               simp only [spec_WhereBegun.j3] at H
               by_cases c26 : x49_23 = true
               ·subst c26
                have H1 : (if 0 ≤ x14_3 then (if x14_3 < (a1.size : Int) then ((spec_l06Can.f a0_0 a0_1 a0_2 x303000_3 x303001_3 x12_3 (bt a1 x14_3)).bind fun t305 => (if t305 = true then ((spec_l06Made.f x303000_3 x303001_3 x12_3 (bt a1 x14_3)).bind fun bt306 => (spec_WhereBegun.l2 kj23 a1 t298 x9_1 x10_2 bt306.2.2 t305 (wrap64 (x14_3 + 1)) a0_0 a0_1 a0_2 x298000_2 bt306.1 bt306.2.1)) else (spec_WhereBegun.l2 kj23 a1 t298 x9_1 x10_2 x12_3 t305 (wrap64 (x14_3 + 1)) a0_0 a0_1 a0_2 x298000_2 x303000_3 x303001_3))) else (none)) else (none)) = some (r1, r2) := by rw [if_pos rfl] at H; exact H
                clear H
                have H := H1
                clear H1
                by_cases c27 : 0 ≤ x14_3
                ·rw [if_pos c27] at H
                 have c27b0 : decide (0 ≤ x14_3) = true := decide_eq_true c27
                 clear c27
                 by_cases c28 : x14_3 < (a1.size : Int)
                 ·rw [if_pos c28] at H
                  have c28b0 : decide (x14_3 < (a1.size : Int)) = true := decide_eq_true c28
                  clear c28
                  replace H := Option.bind_eq_some_iff.mp H
                  obtain ⟨t305, A300, H⟩ := H
                  replace H : (if t305 = true then ((spec_l06Made.f x303000_3 x303001_3 x12_3 (bt a1 x14_3)).bind fun bt306 => (spec_WhereBegun.l2 kj23 a1 t298 x9_1 x10_2 bt306.2.2 t305 (wrap64 (x14_3 + 1)) a0_0 a0_1 a0_2 x298000_2 bt306.1 bt306.2.1)) else (spec_WhereBegun.l2 kj23 a1 t298 x9_1 x10_2 x12_3 t305 (wrap64 (x14_3 + 1)) a0_0 a0_1 a0_2 x298000_2 x303000_3 x303001_3)) = some (r1, r2) := H
                  have A30 := Aside0.mk A300
                  clear A300
                  by_cases c31 : t305 = true
                  ·subst c31
                   have H1 : ((spec_l06Made.f x303000_3 x303001_3 x12_3 (bt a1 x14_3)).bind fun bt306 => (spec_WhereBegun.l2 kj23 a1 t298 x9_1 x10_2 bt306.2.2 true (wrap64 (x14_3 + 1)) a0_0 a0_1 a0_2 x298000_2 bt306.1 bt306.2.1)) = some (r1, r2) := by rw [if_pos rfl] at H; exact H
                   clear H
                   have H := H1
                   clear H1
                   replace H := Option.bind_eq_some_iff.mp H
                   obtain ⟨⟨t306, t307, t308⟩, A330, H⟩ := H
                   replace H : (spec_WhereBegun.l2 kj23 a1 t298 x9_1 x10_2 t308 true (wrap64 (x14_3 + 1)) a0_0 a0_1 a0_2 x298000_2 t306 t307) = some (r1, r2) := H
                   have A33 := Aside0.mk A330
                   clear A330
                   have H' := Aside0.mk H
                   clear H
                   try go_wp2
                   have n0_ := Aside0.mk (Kd.R_drew HO_8.out)
                   have n1_ := Aside0.mk (blk_drew BK293.out)
                   have n2_ := Aside0.mk (blk_drew BK294.out)
                   have n3_ := Aside0.mk (blk_drew BK297.out)
                   have n4_ := Aside0.mk (blk_drew BK302.out)
                   have n5_ := Aside0.mk (below_drew1 HB.out)
                   clear HO_8
                   clear BK293
                   clear BK294
                   clear BK297
                   clear BK302
                   clear HB
                   have HO_8 := n0_
                   have BK293 := n1_
                   have BK294 := n2_
                   have BK297 := n3_
                   have BK302 := n4_
                   have HB := n5_
                   clear n0_ n1_ n2_ n3_ n4_ n5_
                   have p29 : 0 ≤ (x14_3 : Int) := of_decide_eq_true (by first | (with_reducible assumption) | assumption)
                   have q29 : x14_3 < (a1.size : Int) := of_decide_eq_true (by first | (with_reducible assumption) | assumption)
                   have hx29 := bt_at a1 x14_3
                   replace p29 := eq_true p29
                   replace q29 := eq_true q29
                   refine start_ (n := 7) (S := fun w' => w'.cell? ⟨gb302, 0, none⟩ = some (.int .i8 x303000_3) ∧ w'.cell? ⟨gb302, 1, none⟩ = some (.int .i8 x303001_3)) (ds := []) #[false, false, false, false, false, false, false] (by kernel_rfl) rfl rfl ⟨(blk_cell BK302.out 0).trans rfl, (blk_cell BK302.out 1).trans rfl⟩ (fun hHeld => ?_)
                   generalize wc.drew = w34 at HO_8 BK293 BK294 BK297 BK302 HB hHeld ⊢
                   refine pure_ (i := 1) (N := some 53) (v := ?_) (a' := ?_) #[false, true, false, false, false, false, false] rfl rfl (by kernel_rfl) (fun _ _ _ h => h) (Or.inl ⟨by rfl, ?_⟩) ?_ ?_
                   rotate_left
                   ·intro w'
                    go_simp
                    with_reducible rfl
                   rotate_left
                   ·simp only [Act.put, List.setIfInBounds_toArray, List.set_cons_zero, List.set_cons_succ, i64_w, i32_w]
                    rfl
                   refine pure_ (i := 2) (N := some 54) (v := ?_) (a' := ?_) #[false, true, true, false, false, false, false] rfl rfl (by kernel_rfl) (fun _ _ _ h => h) (Or.inl ⟨by rfl, ?_⟩) ?_ ?_
                   rotate_left
                   ·intro w'
                    go_simp
                    with_reducible rfl
                   rotate_left
                   ·simp only [Act.put, List.setIfInBounds_toArray, List.set_cons_zero, List.set_cons_succ, i64_w, i32_w]
                    rfl
                   refine pure_ (i := 3) (N := some 55) (v := ?_) (a' := ?_) #[false, true, true, true, false, false, false] rfl rfl (by kernel_rfl) (fun _ _ _ h => h) (Or.inl ⟨by rfl, ?_⟩) ?_ ?_
                   rotate_left
                   ·intro w'
                    go_simp
                    with_reducible rfl
                   rotate_left
                   ·simp only [Act.put, List.setIfInBounds_toArray, List.set_cons_zero, List.set_cons_succ, i64_w, i32_w]
                    rfl
                   refine take_ (i := 0) (N := some 52) (v := ?_) (a' := ?_) #[true, true, true, true, false, false, false] rfl rfl (by kernel_rfl) (fun _ _ _ h => h) (Or.inl ⟨by rfl, ?_⟩) hHeld ?_ ?_
                   rotate_left
                   ·rintro w' ⟨s0, s1⟩
                    go_simp
                    with_reducible rfl
                   rotate_left
                   ·simp only [Act.put, List.setIfInBounds_toArray, List.set_cons_zero, List.set_cons_succ, i64_w, i32_w]
                    rfl
                   refine take_ (i := 4) (N := some 56) (v := ?_) (a' := ?_) #[true, true, true, true, true, false, false] rfl rfl (by kernel_rfl) (fun _ _ _ h => h) (Or.inl ⟨by rfl, ?_⟩) hHeld ?_ ?_
                   rotate_left
                   ·rintro w' ⟨s0, s1⟩
                    go_simp
                    with_reducible rfl
                   rotate_left
                   ·simp only [Act.put, List.setIfInBounds_toArray, List.set_cons_zero, List.set_cons_succ, i64_w, i32_w]
                    rfl
                   refine one_ (i := 5) (N := some 57) #[true, true, true, true, true, true, false] rfl rfl (by kernel_rfl) (by decide) (fun K hK => ?_)
                   refine goes_ Tryd.func22 (by kernel_rfl) rfl #[.pointer (some ⟨gb293, 0, none⟩), .agg #[.int .i8 x303000_3, .int .i8 x303001_3], .int .i64 x12_3, .int .u8 (bt a1 x14_3)] (by rfl) rfl rfl (by (try simp only [List.map_toArray, List.map_cons, List.map_nil]); first | done | rfl | (simp only [List.length_drop, List.length_take]; rfl)) ?_
                   with_reducible refine (spec_l06Can.calls gb293 a0_0 a0_1 a0_2 x303000_3 x303001_3 x12_3 (bt a1 x14_3) true _ ?side1 A30.out).mono ?_
                   (case side1 => exact (pk BK293))
                   rintro e w35 ⟨rfl, hb⟩
                   refine ⟨_, rfl, ?_⟩
                   have n0_ := krb HO_8 hb
                   have n1_ := bkb BK293 hb
                   have n2_ := bkb BK294 hb
                   have n3_ := bkb BK297 hb
                   have n4_ := bkb BK302 hb
                   have n5_ := bst HB hb
                   clear HO_8
                   clear BK293
                   clear BK294
                   clear BK297
                   clear BK302
                   clear HB
                   have HO_8 := n0_
                   have BK293 := n1_
                   have BK294 := n2_
                   have BK297 := n3_
                   have BK302 := n4_
                   have HB := n5_
                   clear n0_ n1_ n2_ n3_ n4_ n5_
                   (try clear hb)
                   (try clear hb2)
                   (try clear hk)
                   (try clear hi)
                   refine hK.out _ _ ⟨(blk_cell BK302.out 0).trans rfl, (blk_cell BK302.out 1).trans rfl⟩ (fun hHeld => ?_)
                   clear hK K
                   refine norm_ (a' := ?_) ?_ ?_
                   rotate_left
                   ·show Act.put _ (some 57) _ = _
                    simp only [Act.put, List.setIfInBounds_toArray, List.set_cons_zero, List.set_cons_succ, i64_w, i32_w]
                    rfl
                   refine pure_ (i := 6) (N := some 13) (v := ?_) (a' := ?_) #[true, true, true, true, true, true, true] rfl rfl (by kernel_rfl) (fun _ _ _ h => h) (Or.inl ⟨by rfl, ?_⟩) ?_ ?_
                   rotate_left
                   ·intro w'
                    go_simp
                    with_reducible rfl
                   rotate_left
                   ·simp only [Act.put, List.setIfInBounds_toArray, List.set_cons_zero, List.set_cons_succ, i64_w, i32_w]
                    rfl
                   refine done_ (by kernel_rfl) ?_
                   try go_wp2
                   have n0_ := Aside0.mk (Kd.R_drew HO_8.out)
                   have n1_ := Aside0.mk (blk_drew BK293.out)
                   have n2_ := Aside0.mk (blk_drew BK294.out)
                   have n3_ := Aside0.mk (blk_drew BK297.out)
                   have n4_ := Aside0.mk (blk_drew BK302.out)
                   have n5_ := Aside0.mk (below_drew1 HB.out)
                   clear HO_8
                   clear BK293
                   clear BK294
                   clear BK297
                   clear BK302
                   clear HB
                   have HO_8 := n0_
                   have BK293 := n1_
                   have BK294 := n2_
                   have BK297 := n3_
                   have BK302 := n4_
                   have HB := n5_
                   clear n0_ n1_ n2_ n3_ n4_ n5_
                   have p32 : 0 ≤ (x14_3 : Int) := of_decide_eq_true (by first | (with_reducible assumption) | assumption)
                   have q32 : x14_3 < (a1.size : Int) := of_decide_eq_true (by first | (with_reducible assumption) | assumption)
                   have hx32 := bt_at a1 x14_3
                   replace p32 := eq_true p32
                   replace q32 := eq_true q32
                   refine start_ (n := 12) (S := fun w' => True) (ds := []) #[false, false, false, false, false, false, false, false, false, false, false, false] (by kernel_rfl) rfl rfl trivial (fun hHeld => ?_); refine with_tabW spec_WhereBegun.tab22 spec_WhereBegun.bits22 (fun HT_ HW_ => ?_)
                   generalize w35.drew = w36 at HO_8 BK293 BK294 BK297 BK302 HB hHeld ⊢
                   refine pure_ (i := 1) (N := some 61) (v := ?_) (a' := ?_) #[false, true, false, false, false, false, false, false, false, false, false, false] rfl rfl (any_of HT_.out (by kernel_rfl)) (fun _ _ _ h => h) (Or.inl ⟨by rfl, ?_⟩) ?_ ?_
                   rotate_left
                   ·intro w'
                    go_simp
                    with_reducible rfl
                   rotate_left
                   ·simp only [Act.put, List.setIfInBounds_toArray, List.set_cons_zero, List.set_cons_succ, i64_w, i32_w]
                    rfl
                   refine pure_ (i := 2) (N := some 62) (v := ?_) (a' := ?_) #[false, true, true, false, false, false, false, false, false, false, false, false] rfl rfl (any_of HT_.out (by kernel_rfl)) (fun _ _ _ h => h) (Or.inl ⟨by rfl, ?_⟩) ?_ ?_
                   rotate_left
                   ·intro w'
                    go_simp
                    with_reducible rfl
                   rotate_left
                   ·simp only [Act.put, List.setIfInBounds_toArray, List.set_cons_zero, List.set_cons_succ, i64_w, i32_w]
                    rfl
                   refine pure_ (i := 3) (N := some 63) (v := ?_) (a' := ?_) #[false, true, true, true, false, false, false, false, false, false, false, false] rfl rfl (any_of HT_.out (by kernel_rfl)) (fun _ _ _ h => h) (Or.inl ⟨by rfl, ?_⟩) ?_ ?_
                   rotate_left
                   ·intro w'
                    go_simp
                    with_reducible rfl
                   rotate_left
                   ·simp only [Act.put, List.setIfInBounds_toArray, List.set_cons_zero, List.set_cons_succ, i64_w, i32_w]
                    rfl
                   refine inv_at [0, 4, 5, 6, 7, 8, 9, 10, 11] (fun a0_ b a w' => ∃ (gb309 : Nat) (m9_ : Value), a = putSel a0_ b [(0, 60, .agg #[.int .i8 x303000_3, .int .i8 x303001_3]), (4, 64, .int .u8 (bt a1 x14_3)), (5, 65, .tuple #[.agg #[.int .i8 t306, .int .i8 t307], .int .i64 t308]), (6, 59, .tuple #[.agg #[.int .i8 t306, .int .i8 t307], .int .i64 t308]), (7, 66, .agg #[.int .i8 t306, .int .i8 t307]), (8, 67, .int .i64 t308), (9, 15, m9_), (11, 16, .int .i64 t308)] ∧ (b 9 = false → Kd.R k41 41 w' w.heap.size (fun k_ => k_ ≠ gb302) (.slice (some ad301) t298.length co15) t298) ∧ (w'.heap[gb293]? = some (.cells (mixA (Value.int .u16) [.int .i8 a0_0, .int .i8 a0_1] a0_2) 31 (0, 0))) ∧ (w'.heap[gb294]? = some (.cells (mixA (Value.int .u16) [] (LA.zero 40)) 28 (0, 0))) ∧ (w'.heap[gb297]? = some (.cells (mixA (Value.int .u16) [] x298000_2) 28 (0, 0))) ∧ (w'.heap[gb302]? = some (.cells #[.int .i8 x303000_3, .int .i8 x303001_3] 41 (0, 0))) ∧ (Below w.heap.size w w') ∧ (b 9 = true → Kd.R k41 41 w' w.heap.size (fun k_ => k_ ≠ gb302 ∧ k_ ≠ gb309) (.slice (some ad301) t298.length co15) t298) ∧ (b 9 = true → b 10 = false → w'.heap[gb309]? = some (.cells #[.int .i8 0, .int .i8 0] 41 (0, 0))) ∧ (b 9 = true → w.heap.size ≤ gb309) ∧ (b 9 = true → w.heap.size ≤ gb309) ∧ (b 9 = true → gb293 ≠ gb309) ∧ (b 9 = true → gb309 ≠ gb293) ∧ (b 9 = true → gb294 ≠ gb309) ∧ (b 9 = true → gb309 ≠ gb294) ∧ (b 9 = true → gb297 ≠ gb309) ∧ (b 9 = true → gb309 ≠ gb297) ∧ (b 9 = true → gb302 ≠ gb309) ∧ (b 9 = true → gb309 ≠ gb302) ∧ (b 10 = true → w'.heap[gb309]? = some (.cells #[.int .i8 t306, .int .i8 t307] 41 (0, 0))) ∧ (b 9 = true → (m9_ : Value) = .pointer (some ⟨gb309, 0, none⟩))) HT_.out HW_.out (by kernel_rfl) (by kernel_rfl) ?_ ?_ ?_
                   ·exact ⟨0, .bool false, by simp only [putSel, Bool.false_eq_true, if_false], fun _ => HO_8.out, BK293.out, BK294.out, BK297.out, BK302.out, HB.out, fun h_ => absurd h_ (by decide), fun h_ => absurd h_ (by decide), fun h_ => absurd h_ (by decide), fun h_ => absurd h_ (by decide), fun h_ => absurd h_ (by decide), fun h_ => absurd h_ (by decide), fun h_ => absurd h_ (by decide), fun h_ => absurd h_ (by decide), fun h_ => absurd h_ (by decide), fun h_ => absurd h_ (by decide), fun h_ => absurd h_ (by decide), fun h_ => absurd h_ (by decide), fun h_ => absurd h_ (by decide), fun h_ => absurd h_ (by decide)⟩
                   ·skip
                    clear BK293 BK294 BK297 BK302 HB HO_8
                    refine steps_cons ?_ ?_
                    ·rintro b a w' ⟨gb309, m9_, ha, Q_HO_8, Q_BK293, Q_BK294, Q_BK297, Q_BK302, Q_HB, Q_HO_8_e9, Q_BK309, Q_GW309, Q_GE309, Q_NB293_309, Q_NB309_293, Q_NB294_309, Q_NB309_294, Q_NB297_309, Q_NB309_297, Q_NB302_309, Q_NB309_302, Q_BK309_e10, Q_X9_⟩ hb_ hon hoff
                     refine ⟨_, rfl, fun K hK => ?_⟩
                     have e11 : a.tmps[11]? = some (.pointer (some ⟨gb302, 0, none⟩)) := by rw [ha]; exact (putSel_off rfl).trans rfl
                     replace ha := Aside0.mk ha
                     have BK293 := Aside0.mk Q_BK293
                     have BK294 := Aside0.mk Q_BK294
                     have BK297 := Aside0.mk Q_BK297
                     have BK302 := Aside0.mk Q_BK302
                     have HB := Aside0.mk Q_HB
                     have hc0_ : w'.cell? ⟨gb302, 0, none⟩ = some (.int .i8 x303000_3) := bc_ BK302.out 0
                     have hc1_ : w'.cell? ⟨gb302, 1, none⟩ = some (.int .i8 x303001_3) := bc_ BK302.out 1
                     refine value_ (w1 := w') (v := .agg #[.int .i8 x303000_3, .int .i8 x303001_3]) (by rfl) rfl ?_ ?_
                     ·go_simp
                      (try simp only [i64_w])
                      try rfl
                     refine hK.out _ _ ⟨gb309, m9_, (by rw [ha.out]; exact putSel_upk 0 hb_ rfl rfl rfl), Q_HO_8, Q_BK293, Q_BK294, Q_BK297, Q_BK302, Q_HB, Q_HO_8_e9, Q_BK309, Q_GW309, Q_GE309, Q_NB293_309, Q_NB309_293, Q_NB294_309, Q_NB309_294, Q_NB297_309, Q_NB309_297, Q_NB302_309, Q_NB309_302, fun h0_ => absurd ((hoff 10 (by kernel_rfl)).symm.trans h0_) (by decide), Q_X9_⟩
                    refine steps_cons ?_ ?_
                    ·rintro b a w' ⟨gb309, m9_, ha, Q_HO_8, Q_BK293, Q_BK294, Q_BK297, Q_BK302, Q_HB, Q_HO_8_e9, Q_BK309, Q_GW309, Q_GE309, Q_NB293_309, Q_NB309_293, Q_NB294_309, Q_NB309_294, Q_NB297_309, Q_NB309_297, Q_NB302_309, Q_NB309_302, Q_BK309_e10, Q_X9_⟩ hb_ hon hoff
                     refine ⟨_, rfl, fun K hK => ?_⟩
                     have e62 : a.tmps[62]? = some (.string a1) := by rw [ha]; exact (putSel_off rfl).trans rfl
                     have e63 : a.tmps[63]? = some (.int .i64 x14_3) := by rw [ha]; exact (putSel_off rfl).trans rfl
                     replace ha := Aside0.mk ha
                     have BK293 := Aside0.mk Q_BK293
                     have BK294 := Aside0.mk Q_BK294
                     have BK297 := Aside0.mk Q_BK297
                     have BK302 := Aside0.mk Q_BK302
                     have HB := Aside0.mk Q_HB
                     refine value_ (w1 := w') (v := .int .u8 (bt a1 x14_3)) (by rfl) rfl ?_ ?_
                     ·go_simp
                      (try simp only [i64_w])
                      try rfl
                     refine hK.out _ _ ⟨gb309, m9_, (by rw [ha.out]; exact putSel_upk 1 hb_ rfl rfl rfl), Q_HO_8, Q_BK293, Q_BK294, Q_BK297, Q_BK302, Q_HB, Q_HO_8_e9, Q_BK309, Q_GW309, Q_GE309, Q_NB293_309, Q_NB309_293, Q_NB294_309, Q_NB309_294, Q_NB297_309, Q_NB309_297, Q_NB302_309, Q_NB309_302, fun h0_ => absurd ((hoff 10 (by kernel_rfl)).symm.trans h0_) (by decide), Q_X9_⟩
                    refine steps_cons ?_ ?_
                    ·rintro b a w' ⟨gb309, m9_, ha, Q_HO_8, Q_BK293, Q_BK294, Q_BK297, Q_BK302, Q_HB, Q_HO_8_e9, Q_BK309, Q_GW309, Q_GE309, Q_NB293_309, Q_NB309_293, Q_NB294_309, Q_NB309_294, Q_NB297_309, Q_NB309_297, Q_NB302_309, Q_NB309_302, Q_BK309_e10, Q_X9_⟩ hb_ hon hoff
                     refine ⟨_, rfl, fun K hK => ?_⟩
                     have e60 : a.tmps[60]? = some (.agg #[.int .i8 x303000_3, .int .i8 x303001_3]) := by rw [ha]; exact putSel_on (e := (0, 60, .agg #[.int .i8 x303000_3, .int .i8 x303001_3])) 0 rfl rfl (hon 0 (by kernel_rfl)) rfl
                     have e61 : a.tmps[61]? = some (.int .i64 x12_3) := by rw [ha]; exact (putSel_off rfl).trans rfl
                     have e64 : a.tmps[64]? = some (.int .u8 (bt a1 x14_3)) := by rw [ha]; exact putSel_on (e := (4, 64, .int .u8 (bt a1 x14_3))) 1 rfl rfl (hon 4 (by kernel_rfl)) rfl
                     replace ha := Aside0.mk ha
                     have BK293 := Aside0.mk Q_BK293
                     have BK294 := Aside0.mk Q_BK294
                     have BK297 := Aside0.mk Q_BK297
                     have BK302 := Aside0.mk Q_BK302
                     have HB := Aside0.mk Q_HB
                     refine goes_ Tryd.func23 (by kernel_rfl) rfl #[.agg #[.int .i8 x303000_3, .int .i8 x303001_3], .int .i64 x12_3, .int .u8 (bt a1 x14_3)] (by rfl) rfl rfl (by first | (simp only [List.map_toArray, List.map_cons, List.map_nil, Act.eval, Array.getD_eq_getD_getElem?, Option.getD_some, e60, e61, e64]; done) | (simp only [List.map_toArray, List.map_cons, List.map_nil, Act.eval, Array.getD_eq_getD_getElem?, Option.getD_some, e60, e61, e64]; rfl)) ?_
                     with_reducible refine (spec_l06Made.calls x303000_3 x303001_3 x12_3 (bt a1 x14_3) t306 t307 t308 _ A33.out).mono ?_
                     rintro e w37 ⟨rfl, hb⟩
                     refine ⟨_, rfl, ?_⟩
                     have n1_ := bkb BK293 hb
                     have n2_ := bkb BK294 hb
                     have n3_ := bkb BK297 hb
                     have n4_ := bkb BK302 hb
                     have n5_ := bst HB hb
                     have z_HO_8 := fun (h0_ : b 9 = false) => (show Kd.R k41 41 w37 w.heap.size (fun k_ => k_ ≠ gb302) (.slice (some ad301) t298.length co15) t298 from by first | exact (Kd.R_below (by (with_reducible repeat (first | apply Kd.R_alloc | apply Kd.R_drewN | apply Kd.R_drew)); exact (Q_HO_8 h0_)) hb) | exact Kd.R_mono (Kd.R_below (by (with_reducible repeat (first | apply Kd.R_alloc | apply Kd.R_drewN | apply Kd.R_drew)); exact (Q_HO_8 h0_)) hb) (fun _ h_ => by first | trivial | exact h_ | exact h_.1))
                     have z_HO_8_e9 := fun (h0_ : b 9 = true) => (show Kd.R k41 41 w37 w.heap.size (fun k_ => k_ ≠ gb302 ∧ k_ ≠ gb309) (.slice (some ad301) t298.length co15) t298 from by first | exact (Kd.R_below (by (with_reducible repeat (first | apply Kd.R_alloc | apply Kd.R_drewN | apply Kd.R_drew)); exact (Q_HO_8_e9 h0_)) hb) | exact Kd.R_mono (Kd.R_below (by (with_reducible repeat (first | apply Kd.R_alloc | apply Kd.R_drewN | apply Kd.R_drew)); exact (Q_HO_8_e9 h0_)) hb) (fun _ h_ => by first | trivial | exact h_ | exact h_.1))
                     have z_BK309 := fun (h0_ : b 9 = true) (h1_ : b 10 = false) => (show w37.heap[gb309]? = some (.cells #[.int .i8 0, .int .i8 0] 41 (0, 0)) from by first | exact (blk_below (g := gb309) (o := .cells #[.int .i8 0, .int .i8 0] 41 (0, 0)) (by (with_reducible repeat (first | refine blk_drewN ?_ _ | refine blk_drew ?_ | refine blk_alloc ?_ _)); exact (Q_BK309 h0_ h1_)) hb))
                     clear BK293
                     clear BK294
                     clear BK297
                     clear BK302
                     clear HB
                     have BK293 := n1_
                     have BK294 := n2_
                     have BK297 := n3_
                     have BK302 := n4_
                     have HB := n5_
                     clear n1_ n2_ n3_ n4_ n5_
                     (try clear hb)
                     (try clear hb2)
                     (try clear hk)
                     (try clear hi)
                     refine hK.out _ _ ⟨gb309, m9_, (by rw [ha.out]; exact putSel_upk 2 hb_ rfl rfl rfl), z_HO_8, (pk BK293), (pk BK294), (pk BK297), (pk BK302), (pbs HB), z_HO_8_e9, z_BK309, Q_GW309, Q_GE309, Q_NB293_309, Q_NB309_293, Q_NB294_309, Q_NB309_294, Q_NB297_309, Q_NB309_297, Q_NB302_309, Q_NB309_302, fun h0_ => absurd ((hoff 10 (by kernel_rfl)).symm.trans h0_) (by decide), Q_X9_⟩
                    refine steps_cons ?_ ?_
                    ·rintro b a w' ⟨gb309, m9_, ha, Q_HO_8, Q_BK293, Q_BK294, Q_BK297, Q_BK302, Q_HB, Q_HO_8_e9, Q_BK309, Q_GW309, Q_GE309, Q_NB293_309, Q_NB309_293, Q_NB294_309, Q_NB309_294, Q_NB297_309, Q_NB309_297, Q_NB302_309, Q_NB309_302, Q_BK309_e10, Q_X9_⟩ hb_ hon hoff
                     refine ⟨_, rfl, fun K hK => ?_⟩
                     have e65 : a.tmps[65]? = some (.tuple #[.agg #[.int .i8 t306, .int .i8 t307], .int .i64 t308]) := by rw [ha]; exact putSel_on (e := (5, 65, .tuple #[.agg #[.int .i8 t306, .int .i8 t307], .int .i64 t308])) 2 rfl rfl (hon 5 (by kernel_rfl)) rfl
                     replace ha := Aside0.mk ha
                     have BK293 := Aside0.mk Q_BK293
                     have BK294 := Aside0.mk Q_BK294
                     have BK297 := Aside0.mk Q_BK297
                     have BK302 := Aside0.mk Q_BK302
                     have HB := Aside0.mk Q_HB
                     refine value_ (w1 := w') (v := .tuple #[.agg #[.int .i8 t306, .int .i8 t307], .int .i64 t308]) (by rfl) rfl ?_ ?_
                     ·go_simp
                      (try simp only [i64_w])
                      try rfl
                     refine hK.out _ _ ⟨gb309, m9_, (by rw [ha.out]; exact putSel_upk 3 hb_ rfl rfl rfl), Q_HO_8, Q_BK293, Q_BK294, Q_BK297, Q_BK302, Q_HB, Q_HO_8_e9, Q_BK309, Q_GW309, Q_GE309, Q_NB293_309, Q_NB309_293, Q_NB294_309, Q_NB309_294, Q_NB297_309, Q_NB309_297, Q_NB302_309, Q_NB309_302, fun h0_ => absurd ((hoff 10 (by kernel_rfl)).symm.trans h0_) (by decide), Q_X9_⟩
                    refine steps_cons ?_ ?_
                    ·rintro b a w' ⟨gb309, m9_, ha, Q_HO_8, Q_BK293, Q_BK294, Q_BK297, Q_BK302, Q_HB, Q_HO_8_e9, Q_BK309, Q_GW309, Q_GE309, Q_NB293_309, Q_NB309_293, Q_NB294_309, Q_NB309_294, Q_NB297_309, Q_NB309_297, Q_NB302_309, Q_NB309_302, Q_BK309_e10, Q_X9_⟩ hb_ hon hoff
                     refine ⟨_, rfl, fun K hK => ?_⟩
                     have e59 : a.tmps[59]? = some (.tuple #[.agg #[.int .i8 t306, .int .i8 t307], .int .i64 t308]) := by rw [ha]; exact putSel_on (e := (6, 59, .tuple #[.agg #[.int .i8 t306, .int .i8 t307], .int .i64 t308])) 3 rfl rfl (hon 6 (by kernel_rfl)) rfl
                     replace ha := Aside0.mk ha
                     have BK293 := Aside0.mk Q_BK293
                     have BK294 := Aside0.mk Q_BK294
                     have BK297 := Aside0.mk Q_BK297
                     have BK302 := Aside0.mk Q_BK302
                     have HB := Aside0.mk Q_HB
                     refine value_ (w1 := w') (v := .agg #[.int .i8 t306, .int .i8 t307]) (by rfl) rfl ?_ ?_
                     ·go_simp
                      (try simp only [i64_w])
                      try rfl
                     refine hK.out _ _ ⟨gb309, m9_, (by rw [ha.out]; exact putSel_upk 4 hb_ rfl rfl rfl), Q_HO_8, Q_BK293, Q_BK294, Q_BK297, Q_BK302, Q_HB, Q_HO_8_e9, Q_BK309, Q_GW309, Q_GE309, Q_NB293_309, Q_NB309_293, Q_NB294_309, Q_NB309_294, Q_NB297_309, Q_NB309_297, Q_NB302_309, Q_NB309_302, fun h0_ => absurd ((hoff 10 (by kernel_rfl)).symm.trans h0_) (by decide), Q_X9_⟩
                    refine steps_cons ?_ ?_
                    ·rintro b a w' ⟨gb309, m9_, ha, Q_HO_8, Q_BK293, Q_BK294, Q_BK297, Q_BK302, Q_HB, Q_HO_8_e9, Q_BK309, Q_GW309, Q_GE309, Q_NB293_309, Q_NB309_293, Q_NB294_309, Q_NB309_294, Q_NB297_309, Q_NB309_297, Q_NB302_309, Q_NB309_302, Q_BK309_e10, Q_X9_⟩ hb_ hon hoff
                     refine ⟨_, rfl, fun K hK => ?_⟩
                     have e59 : a.tmps[59]? = some (.tuple #[.agg #[.int .i8 t306, .int .i8 t307], .int .i64 t308]) := by rw [ha]; exact putSel_on (e := (6, 59, .tuple #[.agg #[.int .i8 t306, .int .i8 t307], .int .i64 t308])) 3 rfl rfl (hon 6 (by kernel_rfl)) rfl
                     replace ha := Aside0.mk ha
                     have BK293 := Aside0.mk Q_BK293
                     have BK294 := Aside0.mk Q_BK294
                     have BK297 := Aside0.mk Q_BK297
                     have BK302 := Aside0.mk Q_BK302
                     have HB := Aside0.mk Q_HB
                     refine value_ (w1 := w') (v := .int .i64 t308) (by rfl) rfl ?_ ?_
                     ·go_simp
                      (try simp only [i64_w])
                      try rfl
                     refine hK.out _ _ ⟨gb309, m9_, (by rw [ha.out]; exact putSel_upk 5 hb_ rfl rfl rfl), Q_HO_8, Q_BK293, Q_BK294, Q_BK297, Q_BK302, Q_HB, Q_HO_8_e9, Q_BK309, Q_GW309, Q_GE309, Q_NB293_309, Q_NB309_293, Q_NB294_309, Q_NB309_294, Q_NB297_309, Q_NB309_297, Q_NB302_309, Q_NB309_302, Q_BK309_e10, Q_X9_⟩
                    refine steps_cons ?_ ?_
                    ·rintro b a w' ⟨gb309, m9_, ha, Q_HO_8, Q_BK293, Q_BK294, Q_BK297, Q_BK302, Q_HB, Q_HO_8_e9, Q_BK309, Q_GW309, Q_GE309, Q_NB293_309, Q_NB309_293, Q_NB294_309, Q_NB309_294, Q_NB297_309, Q_NB309_297, Q_NB302_309, Q_NB309_302, Q_BK309_e10, Q_X9_⟩ hb_ hon hoff
                     refine ⟨_, rfl, fun K hK => ?_⟩
                     replace ha := Aside0.mk ha
                     have HO_8 := Aside0.mk (Q_HO_8 hb_)
                     have BK293 := Aside0.mk Q_BK293
                     have BK294 := Aside0.mk Q_BK294
                     have BK297 := Aside0.mk Q_BK297
                     have BK302 := Aside0.mk Q_BK302
                     have HB := Aside0.mk Q_HB
                     refine box_step ?hg (N := 15) ?hd (cs := #[.int .i8 0, .int .i8 0]) (t := 41) ?hr ?_; (case hd => rfl); (case hg => rfl); (case hr => first | (go_simp; done) | (go_simp; rfl))
                     intro gb309 hg w37 hbox hb
                     have n0_ := Aside0.mk (Kd.R_below (Kd.R_elderB (by (with_reducible repeat (first | apply Kd.R_alloc | apply Kd.R_drewN | apply Kd.R_drew)); exact HO_8.out) gb309 (Nat.le_of_eq hg.symm)) hb)
                     have n1_ := bkb BK293 hb
                     have n2_ := bkb BK294 hb
                     have n3_ := bkb BK297 hb
                     have n4_ := bkb BK302 hb
                     have n5_ := bst HB hb
                     have n6_ := Aside0.mk (hbox)
                     have n7_ := gwl HB hg
                     have n8_ := gwl HB hg
                     have n9_ := nbl BK293 hg
                     have n10_ := nbg BK293 hg
                     have n11_ := nbl BK294 hg
                     have n12_ := nbg BK294 hg
                     have n13_ := nbl BK297 hg
                     have n14_ := nbg BK297 hg
                     have n15_ := nbl BK302 hg
                     have n16_ := nbg BK302 hg
                     clear HO_8
                     clear BK293
                     clear BK294
                     clear BK297
                     clear BK302
                     clear HB
                     have HO_8 := n0_
                     have BK293 := n1_
                     have BK294 := n2_
                     have BK297 := n3_
                     have BK302 := n4_
                     have HB := n5_
                     have BK309 := n6_
                     have GW309 := n7_
                     have GE309 := n8_
                     have NB293_309 := n9_
                     have NB309_293 := n10_
                     have NB294_309 := n11_
                     have NB309_294 := n12_
                     have NB297_309 := n13_
                     have NB309_297 := n14_
                     have NB302_309 := n15_
                     have NB309_302 := n16_
                     clear n0_ n1_ n2_ n3_ n4_ n5_ n6_ n7_ n8_ n9_ n10_ n11_ n12_ n13_ n14_ n15_ n16_
                     clear hb hbox hg
                     refine hK.out _ _ ⟨gb309, (.pointer (some ⟨gb309, 0, none⟩)), (by rw [ha.out]; exact putSel_upk 6 hb_ rfl rfl rfl), fun h0_ => absurd ((up_self b 9).symm.trans h0_) (by decide), (pk BK293), (pk BK294), (pk BK297), (pk BK302), (pbs HB), fun _ => (by (with_reducible repeat (first | apply Kd.R_alloc | apply Kd.R_drewN | apply Kd.R_drew)); exact HO_8.out), fun _ _ => (pk BK309), fun _ => GW309.out, fun _ => GE309.out, fun _ => NB293_309.out, fun _ => NB309_293.out, fun _ => NB294_309.out, fun _ => NB309_294.out, fun _ => NB297_309.out, fun _ => NB309_297.out, fun _ => NB302_309.out, fun _ => NB309_302.out, fun h0_ => absurd ((hoff 10 (by kernel_rfl)).symm.trans h0_) (by decide), fun _ => rfl⟩
                    refine steps_cons ?_ ?_
                    ·rintro b a w' ⟨gb309, m9_, ha, Q_HO_8, Q_BK293, Q_BK294, Q_BK297, Q_BK302, Q_HB, Q_HO_8_e9, Q_BK309, Q_GW309, Q_GE309, Q_NB293_309, Q_NB309_293, Q_NB294_309, Q_NB309_294, Q_NB297_309, Q_NB309_297, Q_NB302_309, Q_NB309_302, Q_BK309_e10, Q_X9_⟩ hb_ hon hoff
                     refine ⟨_, rfl, fun K hK => ?_⟩
                     have e15 : a.tmps[15]? = some (m9_) := by rw [ha]; exact putSel_on (e := (9, 15, m9_)) 6 rfl rfl (hon 9 (by kernel_rfl)) rfl
                     rw [Q_X9_ (hon 9 (by kernel_rfl))] at e15
                     have e66 : a.tmps[66]? = some (.agg #[.int .i8 t306, .int .i8 t307]) := by rw [ha]; exact putSel_on (e := (7, 66, .agg #[.int .i8 t306, .int .i8 t307])) 4 rfl rfl (hon 7 (by kernel_rfl)) rfl
                     replace ha := Aside0.mk ha
                     have BK293 := Aside0.mk Q_BK293
                     have BK294 := Aside0.mk Q_BK294
                     have BK297 := Aside0.mk Q_BK297
                     have BK302 := Aside0.mk Q_BK302
                     have HB := Aside0.mk Q_HB
                     have HO_8 := Aside0.mk (Q_HO_8_e9 (hon 9 (by kernel_rfl)))
                     have BK309 := Aside0.mk (Q_BK309 (hon 9 (by kernel_rfl)) hb_)
                     have GW309 := Aside0.mk (Q_GW309 (hon 9 (by kernel_rfl)))
                     have GE309 := Aside0.mk (Q_GE309 (hon 9 (by kernel_rfl)))
                     have NB293_309 := Aside0.mk (Q_NB293_309 (hon 9 (by kernel_rfl)))
                     have NB309_293 := Aside0.mk (Q_NB309_293 (hon 9 (by kernel_rfl)))
                     have NB294_309 := Aside0.mk (Q_NB294_309 (hon 9 (by kernel_rfl)))
                     have NB309_294 := Aside0.mk (Q_NB309_294 (hon 9 (by kernel_rfl)))
                     have NB297_309 := Aside0.mk (Q_NB297_309 (hon 9 (by kernel_rfl)))
                     have NB309_297 := Aside0.mk (Q_NB309_297 (hon 9 (by kernel_rfl)))
                     have NB302_309 := Aside0.mk (Q_NB302_309 (hon 9 (by kernel_rfl)))
                     have NB309_302 := Aside0.mk (Q_NB309_302 (hon 9 (by kernel_rfl)))
                     have hs40 : w'.cell? ⟨gb309, 0, none⟩ = some (.int .i8 0) := bc_ BK309.out 0
                     have hfs40 := blk_frozen BK309.out 0
                     have hns40_0 := NB293_309.out
                     have hns40_1 := NB294_309.out
                     have hns40_2 := NB297_309.out
                     have hns40_3 := NB302_309.out
                     have hms40_0 := NB309_293.out
                     have hms40_1 := NB309_294.out
                     have hms40_2 := NB309_297.out
                     have hms40_3 := NB309_302.out
                     have hs41 : w'.cell? ⟨gb309, 1, none⟩ = some (.int .i8 0) := bc_ BK309.out 1
                     have hfs41 := blk_frozen BK309.out 1
                     have hns41_0 := NB293_309.out
                     have hns41_1 := NB294_309.out
                     have hns41_2 := NB297_309.out
                     have hns41_3 := NB302_309.out
                     have hms41_0 := NB309_293.out
                     have hms41_1 := NB309_294.out
                     have hms41_2 := NB309_297.out
                     have hms41_3 := NB309_302.out
                     refine skip_ (w1 := ?_) (by rfl) rfl ?_ ?_
                     rotate_left
                     ·go_simp
                      rfl
                     refine hK.out _ _ ⟨gb309, m9_, (by rw [ha.out]; exact putSel_none (v := undef) rfl), fun h0_ => absurd ((hon 9 (by kernel_rfl)).symm.trans h0_) (by decide), (by (with_reducible repeat (first | refine blk_drewN ?_ _ | refine blk_drew ?_ | refine blk_alloc ?_ _)); refine blk_far ?_ NB293_309.out _; (with_reducible repeat (first | refine blk_drewN ?_ _ | refine blk_drew ?_ | refine blk_alloc ?_ _)); refine blk_far ?_ NB293_309.out _; (with_reducible repeat (first | refine blk_drewN ?_ _ | refine blk_drew ?_ | refine blk_alloc ?_ _)); exact BK293.out), (by (with_reducible repeat (first | refine blk_drewN ?_ _ | refine blk_drew ?_ | refine blk_alloc ?_ _)); refine blk_far ?_ NB294_309.out _; (with_reducible repeat (first | refine blk_drewN ?_ _ | refine blk_drew ?_ | refine blk_alloc ?_ _)); refine blk_far ?_ NB294_309.out _; (with_reducible repeat (first | refine blk_drewN ?_ _ | refine blk_drew ?_ | refine blk_alloc ?_ _)); exact BK294.out), (by (with_reducible repeat (first | refine blk_drewN ?_ _ | refine blk_drew ?_ | refine blk_alloc ?_ _)); refine blk_far ?_ NB297_309.out _; (with_reducible repeat (first | refine blk_drewN ?_ _ | refine blk_drew ?_ | refine blk_alloc ?_ _)); refine blk_far ?_ NB297_309.out _; (with_reducible repeat (first | refine blk_drewN ?_ _ | refine blk_drew ?_ | refine blk_alloc ?_ _)); exact BK297.out), (by (with_reducible repeat (first | refine blk_drewN ?_ _ | refine blk_drew ?_ | refine blk_alloc ?_ _)); refine blk_far ?_ NB302_309.out _; (with_reducible repeat (first | refine blk_drewN ?_ _ | refine blk_drew ?_ | refine blk_alloc ?_ _)); refine blk_far ?_ NB302_309.out _; (with_reducible repeat (first | refine blk_drewN ?_ _ | refine blk_drew ?_ | refine blk_alloc ?_ _)); exact BK302.out), (pbs HB), fun _ => (by (with_reducible repeat (first | apply Kd.R_alloc | apply Kd.R_drewN | apply Kd.R_drew)); exact Kd.R_mono (Kd.R_far (p := ⟨gb309, 1, none⟩) (Kd.R_far (p := ⟨gb309, 0, none⟩) (Kd.R_mono HO_8.out (fun k_ hk => (⟨hk, hk.2⟩ : _ ∧ k_ ≠ gb309))) (fun _ hk => by first | exact hk.2 | trivial) (.int .i8 t306)) (fun _ hk => by first | exact hk.2 | trivial) (.int .i8 t307)) (fun _ hk => ⟨hk.1.1, hk.1.2⟩)), fun _ h1_ => absurd ((up_self b 10).symm.trans h1_) (by decide), fun _ => GW309.out, fun _ => GE309.out, fun _ => NB293_309.out, fun _ => NB309_293.out, fun _ => NB294_309.out, fun _ => NB309_294.out, fun _ => NB297_309.out, fun _ => NB309_297.out, fun _ => NB302_309.out, fun _ => NB309_302.out, fun _ => (by (with_reducible repeat (first | refine blk_drewN ?_ _ | refine blk_drew ?_ | refine blk_alloc ?_ _)); refine blk_put (cs := #[.int .i8 t306, .int .i8 0]) ?_ 1 _ rfl; (with_reducible repeat (first | refine blk_drewN ?_ _ | refine blk_drew ?_ | refine blk_alloc ?_ _)); refine blk_put (cs := #[.int .i8 0, .int .i8 0]) ?_ 0 _ rfl; (with_reducible repeat (first | refine blk_drewN ?_ _ | refine blk_drew ?_ | refine blk_alloc ?_ _)); exact BK309.out), Q_X9_⟩
                    refine steps_cons ?_ ?_
                    ·rintro b a w' ⟨gb309, m9_, ha, Q_HO_8, Q_BK293, Q_BK294, Q_BK297, Q_BK302, Q_HB, Q_HO_8_e9, Q_BK309, Q_GW309, Q_GE309, Q_NB293_309, Q_NB309_293, Q_NB294_309, Q_NB309_294, Q_NB297_309, Q_NB309_297, Q_NB302_309, Q_NB309_302, Q_BK309_e10, Q_X9_⟩ hb_ hon hoff
                     refine ⟨_, rfl, fun K hK => ?_⟩
                     have e67 : a.tmps[67]? = some (.int .i64 t308) := by rw [ha]; exact putSel_on (e := (8, 67, .int .i64 t308)) 5 rfl rfl (hon 8 (by kernel_rfl)) rfl
                     replace ha := Aside0.mk ha
                     have BK293 := Aside0.mk Q_BK293
                     have BK294 := Aside0.mk Q_BK294
                     have BK297 := Aside0.mk Q_BK297
                     have BK302 := Aside0.mk Q_BK302
                     have HB := Aside0.mk Q_HB
                     have HO_8 := Aside0.mk (Q_HO_8_e9 (hon 9 (by kernel_rfl)))
                     have GW309 := Aside0.mk (Q_GW309 (hon 9 (by kernel_rfl)))
                     have GE309 := Aside0.mk (Q_GE309 (hon 9 (by kernel_rfl)))
                     have NB293_309 := Aside0.mk (Q_NB293_309 (hon 9 (by kernel_rfl)))
                     have NB309_293 := Aside0.mk (Q_NB309_293 (hon 9 (by kernel_rfl)))
                     have NB294_309 := Aside0.mk (Q_NB294_309 (hon 9 (by kernel_rfl)))
                     have NB309_294 := Aside0.mk (Q_NB309_294 (hon 9 (by kernel_rfl)))
                     have NB297_309 := Aside0.mk (Q_NB297_309 (hon 9 (by kernel_rfl)))
                     have NB309_297 := Aside0.mk (Q_NB309_297 (hon 9 (by kernel_rfl)))
                     have NB302_309 := Aside0.mk (Q_NB302_309 (hon 9 (by kernel_rfl)))
                     have NB309_302 := Aside0.mk (Q_NB309_302 (hon 9 (by kernel_rfl)))
                     have BK309 := Aside0.mk (Q_BK309_e10 (hon 10 (by kernel_rfl)))
                     refine value_ (w1 := w') (v := .int .i64 t308) (by rfl) rfl ?_ ?_
                     ·go_simp
                      (try simp only [i64_w])
                      try rfl
                     refine hK.out _ _ ⟨gb309, m9_, (by rw [ha.out]; exact putSel_upk 7 hb_ rfl rfl rfl), fun h0_ => absurd ((hon 9 (by kernel_rfl)).symm.trans h0_) (by decide), Q_BK293, Q_BK294, Q_BK297, Q_BK302, Q_HB, Q_HO_8_e9, fun _ h1_ => absurd ((hon 10 (by kernel_rfl)).symm.trans h1_) (by decide), Q_GW309, Q_GE309, Q_NB293_309, Q_NB309_293, Q_NB294_309, Q_NB309_294, Q_NB297_309, Q_NB309_297, Q_NB302_309, Q_NB309_302, Q_BK309_e10, Q_X9_⟩
                    exact steps_nil
                   rintro b a w41 hall ⟨gb309, m9_, ha, Q_HO_8, Q_BK293, Q_BK294, Q_BK297, Q_BK302, Q_HB, Q_HO_8_e9, Q_BK309, Q_GW309, Q_GE309, Q_NB293_309, Q_NB309_293, Q_NB294_309, Q_NB309_294, Q_NB297_309, Q_NB309_297, Q_NB302_309, Q_NB309_302, Q_BK309_e10, Q_X9_⟩
                   clear BK293 BK294 BK297 BK302 HB HO_8
                   have hb0_ := hall 0 (by kernel_rfl)
                   have hb4_ := hall 4 (by kernel_rfl)
                   have hb5_ := hall 5 (by kernel_rfl)
                   have hb6_ := hall 6 (by kernel_rfl)
                   have hb7_ := hall 7 (by kernel_rfl)
                   have hb8_ := hall 8 (by kernel_rfl)
                   have hb9_ := hall 9 (by kernel_rfl)
                   have hb10_ := hall 10 (by kernel_rfl)
                   have hb11_ := hall 11 (by kernel_rfl)
                   subst ha
                   obtain rfl := (Q_X9_ hb9_).symm
                   simp only [putSel, hb0_, hb4_, hb5_, hb6_, hb7_, hb8_, hb9_, hb10_, hb11_, if_true, Act.put, List.setIfInBounds_toArray, List.set_cons_zero, List.set_cons_succ]
                   clear Q_HO_8
                   have BK293 := Aside0.mk Q_BK293
                   clear Q_BK293
                   have BK294 := Aside0.mk Q_BK294
                   clear Q_BK294
                   have BK297 := Aside0.mk Q_BK297
                   clear Q_BK297
                   have BK302 := Aside0.mk Q_BK302
                   clear Q_BK302
                   have HB := Aside0.mk Q_HB
                   clear Q_HB
                   have HO_8 := Aside0.mk (Q_HO_8_e9 hb9_)
                   clear Q_HO_8_e9
                   clear Q_BK309
                   have GW309 := Aside0.mk (Q_GW309 hb9_)
                   clear Q_GW309
                   have GE309 := Aside0.mk (Q_GE309 hb9_)
                   clear Q_GE309
                   have NB293_309 := Aside0.mk (Q_NB293_309 hb9_)
                   clear Q_NB293_309
                   have NB309_293 := Aside0.mk (Q_NB309_293 hb9_)
                   clear Q_NB309_293
                   have NB294_309 := Aside0.mk (Q_NB294_309 hb9_)
                   clear Q_NB294_309
                   have NB309_294 := Aside0.mk (Q_NB309_294 hb9_)
                   clear Q_NB309_294
                   have NB297_309 := Aside0.mk (Q_NB297_309 hb9_)
                   clear Q_NB297_309
                   have NB309_297 := Aside0.mk (Q_NB309_297 hb9_)
                   clear Q_NB309_297
                   have NB302_309 := Aside0.mk (Q_NB302_309 hb9_)
                   clear Q_NB302_309
                   have NB309_302 := Aside0.mk (Q_NB309_302 hb9_)
                   clear Q_NB309_302
                   have BK309 := Aside0.mk (Q_BK309_e10 hb10_)
                   clear Q_BK309_e10
                   clear hall hb0_ hb4_ hb5_ hb6_ hb7_ hb8_ hb9_ hb10_ hb11_
                   have hnb42 := NB309_293.out
                   have hnc42 := NB293_309.out
                   have hnb43 := NB309_294.out
                   have hnc43 := NB294_309.out
                   have hnb44 := NB309_297.out
                   have hnc44 := NB297_309.out
                   have hnb45 := NB309_302.out
                   have hnc45 := NB302_309.out
                   have hcz46_0 : w41.cell? ⟨gb309, 0, none⟩ = some (.int .i8 t306) := bc_ BK309.out 0
                   have hcz46_1 : w41.cell? ⟨gb309, 1, none⟩ = some (.int .i8 t307) := bc_ BK309.out 1
                   have hfz46_0 := blk_frozen BK309.out 0
                   have hfz46_1 := blk_frozen BK309.out 1
                   have hnb47 := NB302_293.out
                   have hnc47 := NB293_302.out
                   have hnb48 := NB302_294.out
                   have hnc48 := NB294_302.out
                   have hnb49 := NB302_297.out
                   have hnc49 := NB297_302.out
                   have hcz50_0 : w41.cell? ⟨gb302, 0, none⟩ = some (.int .i8 x303000_3) := bc_ BK302.out 0
                   have hcz50_1 : w41.cell? ⟨gb302, 1, none⟩ = some (.int .i8 x303001_3) := bc_ BK302.out 1
                   have hfz50_0 := blk_frozen BK302.out 0
                   have hfz50_1 := blk_frozen BK302.out 1
                   try go_wp2
                   go_roundg kj23
                   case measure => have := HK1.out; have := HK2.out; have := HK3.out; have := HJ23.out; omega
                   case rel => exact ⟨(t308), (true), (wrap64 (x14_3 + 1)), (t306), (t307), (by first | rfl | (simp; done) | (simp [*]; done)), (by first | rfl | (simp; done) | (simp [*]; done)), (by first | rfl | (simp; done) | (simp [*]; done)), H', ⟨by have := HK1.out; have := HK2.out; have := HK3.out; have := HJ23.out; omega⟩, ⟨by (with_reducible repeat (first | apply Kd.R_alloc | apply Kd.R_drewN | apply Kd.R_drew)); exact Kd.R_mono (Kd.R_far (p := ⟨gb302, 1, none⟩) (Kd.R_far (p := ⟨gb302, 0, none⟩) (Kd.R_mono HO_8.out (fun k_ hk => (⟨hk, hk.1⟩ : _ ∧ k_ ≠ gb302))) (fun _ hk => hk.2) (.int .i8 t306)) (fun _ hk => hk.2) (.int .i8 t307)) (fun _ hk => hk.1.1)⟩, ⟨by (with_reducible repeat (first | refine blk_drewN ?_ _ | refine blk_drew ?_ | refine blk_alloc ?_ _)); refine blk_far ?_ NB293_302.out _; (with_reducible repeat (first | refine blk_drewN ?_ _ | refine blk_drew ?_ | refine blk_alloc ?_ _)); refine blk_far ?_ NB293_302.out _; (with_reducible repeat (first | refine blk_drewN ?_ _ | refine blk_drew ?_ | refine blk_alloc ?_ _)); exact BK293.out⟩, ⟨by (with_reducible repeat (first | refine blk_drewN ?_ _ | refine blk_drew ?_ | refine blk_alloc ?_ _)); refine blk_far ?_ NB294_302.out _; (with_reducible repeat (first | refine blk_drewN ?_ _ | refine blk_drew ?_ | refine blk_alloc ?_ _)); refine blk_far ?_ NB294_302.out _; (with_reducible repeat (first | refine blk_drewN ?_ _ | refine blk_drew ?_ | refine blk_alloc ?_ _)); exact BK294.out⟩, ⟨by (with_reducible repeat (first | refine blk_drewN ?_ _ | refine blk_drew ?_ | refine blk_alloc ?_ _)); refine blk_far ?_ NB297_302.out _; (with_reducible repeat (first | refine blk_drewN ?_ _ | refine blk_drew ?_ | refine blk_alloc ?_ _)); refine blk_far ?_ NB297_302.out _; (with_reducible repeat (first | refine blk_drewN ?_ _ | refine blk_drew ?_ | refine blk_alloc ?_ _)); exact BK297.out⟩, ⟨by (with_reducible repeat (first | refine blk_drewN ?_ _ | refine blk_drew ?_ | refine blk_alloc ?_ _)); refine blk_put (cs := #[.int .i8 t306, .int .i8 x303001_3]) ?_ 1 _ rfl; (with_reducible repeat (first | refine blk_drewN ?_ _ | refine blk_drew ?_ | refine blk_alloc ?_ _)); refine blk_put (cs := #[.int .i8 x303000_3, .int .i8 x303001_3]) ?_ 0 _ rfl; (with_reducible repeat (first | refine blk_drewN ?_ _ | refine blk_drew ?_ | refine blk_alloc ?_ _)); exact BK302.out⟩, ⟨pbs HB⟩⟩
                  ·replace c31 := Bool.eq_false_iff.mpr c31
                   subst c31
                   have H1 : (spec_WhereBegun.l2 kj23 a1 t298 x9_1 x10_2 x12_3 false (wrap64 (x14_3 + 1)) a0_0 a0_1 a0_2 x298000_2 x303000_3 x303001_3) = some (r1, r2) := by rw [if_neg (show ¬ (false = true) by decide)] at H; exact H
                   clear H
                   have H := H1
                   clear H1
                   have H' := Aside0.mk H
                   clear H
                   try go_wp2
                   have n0_ := Aside0.mk (Kd.R_drew HO_8.out)
                   have n1_ := Aside0.mk (blk_drew BK293.out)
                   have n2_ := Aside0.mk (blk_drew BK294.out)
                   have n3_ := Aside0.mk (blk_drew BK297.out)
                   have n4_ := Aside0.mk (blk_drew BK302.out)
                   have n5_ := Aside0.mk (below_drew1 HB.out)
                   clear HO_8
                   clear BK293
                   clear BK294
                   clear BK297
                   clear BK302
                   clear HB
                   have HO_8 := n0_
                   have BK293 := n1_
                   have BK294 := n2_
                   have BK297 := n3_
                   have BK302 := n4_
                   have HB := n5_
                   clear n0_ n1_ n2_ n3_ n4_ n5_
                   have p29 : 0 ≤ (x14_3 : Int) := of_decide_eq_true (by first | (with_reducible assumption) | assumption)
                   have q29 : x14_3 < (a1.size : Int) := of_decide_eq_true (by first | (with_reducible assumption) | assumption)
                   have hx29 := bt_at a1 x14_3
                   replace p29 := eq_true p29
                   replace q29 := eq_true q29
                   refine start_ (n := 7) (S := fun w' => w'.cell? ⟨gb302, 0, none⟩ = some (.int .i8 x303000_3) ∧ w'.cell? ⟨gb302, 1, none⟩ = some (.int .i8 x303001_3)) (ds := []) #[false, false, false, false, false, false, false] (by kernel_rfl) rfl rfl ⟨(blk_cell BK302.out 0).trans rfl, (blk_cell BK302.out 1).trans rfl⟩ (fun hHeld => ?_)
                   generalize wc.drew = w51 at HO_8 BK293 BK294 BK297 BK302 HB hHeld ⊢
                   refine pure_ (i := 1) (N := some 53) (v := ?_) (a' := ?_) #[false, true, false, false, false, false, false] rfl rfl (by kernel_rfl) (fun _ _ _ h => h) (Or.inl ⟨by rfl, ?_⟩) ?_ ?_
                   rotate_left
                   ·intro w'
                    go_simp
                    with_reducible rfl
                   rotate_left
                   ·simp only [Act.put, List.setIfInBounds_toArray, List.set_cons_zero, List.set_cons_succ, i64_w, i32_w]
                    rfl
                   refine pure_ (i := 2) (N := some 54) (v := ?_) (a' := ?_) #[false, true, true, false, false, false, false] rfl rfl (by kernel_rfl) (fun _ _ _ h => h) (Or.inl ⟨by rfl, ?_⟩) ?_ ?_
                   rotate_left
                   ·intro w'
                    go_simp
                    with_reducible rfl
                   rotate_left
                   ·simp only [Act.put, List.setIfInBounds_toArray, List.set_cons_zero, List.set_cons_succ, i64_w, i32_w]
                    rfl
                   refine pure_ (i := 3) (N := some 55) (v := ?_) (a' := ?_) #[false, true, true, true, false, false, false] rfl rfl (by kernel_rfl) (fun _ _ _ h => h) (Or.inl ⟨by rfl, ?_⟩) ?_ ?_
                   rotate_left
                   ·intro w'
                    go_simp
                    with_reducible rfl
                   rotate_left
                   ·simp only [Act.put, List.setIfInBounds_toArray, List.set_cons_zero, List.set_cons_succ, i64_w, i32_w]
                    rfl
                   refine take_ (i := 0) (N := some 52) (v := ?_) (a' := ?_) #[true, true, true, true, false, false, false] rfl rfl (by kernel_rfl) (fun _ _ _ h => h) (Or.inl ⟨by rfl, ?_⟩) hHeld ?_ ?_
                   rotate_left
                   ·rintro w' ⟨s0, s1⟩
                    go_simp
                    with_reducible rfl
                   rotate_left
                   ·simp only [Act.put, List.setIfInBounds_toArray, List.set_cons_zero, List.set_cons_succ, i64_w, i32_w]
                    rfl
                   refine take_ (i := 4) (N := some 56) (v := ?_) (a' := ?_) #[true, true, true, true, true, false, false] rfl rfl (by kernel_rfl) (fun _ _ _ h => h) (Or.inl ⟨by rfl, ?_⟩) hHeld ?_ ?_
                   rotate_left
                   ·rintro w' ⟨s0, s1⟩
                    go_simp
                    with_reducible rfl
                   rotate_left
                   ·simp only [Act.put, List.setIfInBounds_toArray, List.set_cons_zero, List.set_cons_succ, i64_w, i32_w]
                    rfl
                   refine one_ (i := 5) (N := some 57) #[true, true, true, true, true, true, false] rfl rfl (by kernel_rfl) (by decide) (fun K hK => ?_)
                   refine goes_ Tryd.func22 (by kernel_rfl) rfl #[.pointer (some ⟨gb293, 0, none⟩), .agg #[.int .i8 x303000_3, .int .i8 x303001_3], .int .i64 x12_3, .int .u8 (bt a1 x14_3)] (by rfl) rfl rfl (by (try simp only [List.map_toArray, List.map_cons, List.map_nil]); first | done | rfl | (simp only [List.length_drop, List.length_take]; rfl)) ?_
                   with_reducible refine (spec_l06Can.calls gb293 a0_0 a0_1 a0_2 x303000_3 x303001_3 x12_3 (bt a1 x14_3) false _ ?side1 A30.out).mono ?_
                   (case side1 => exact (pk BK293))
                   rintro e w52 ⟨rfl, hb⟩
                   refine ⟨_, rfl, ?_⟩
                   have n0_ := krb HO_8 hb
                   have n1_ := bkb BK293 hb
                   have n2_ := bkb BK294 hb
                   have n3_ := bkb BK297 hb
                   have n4_ := bkb BK302 hb
                   have n5_ := bst HB hb
                   clear HO_8
                   clear BK293
                   clear BK294
                   clear BK297
                   clear BK302
                   clear HB
                   have HO_8 := n0_
                   have BK293 := n1_
                   have BK294 := n2_
                   have BK297 := n3_
                   have BK302 := n4_
                   have HB := n5_
                   clear n0_ n1_ n2_ n3_ n4_ n5_
                   (try clear hb)
                   (try clear hb2)
                   (try clear hk)
                   (try clear hi)
                   refine hK.out _ _ ⟨(blk_cell BK302.out 0).trans rfl, (blk_cell BK302.out 1).trans rfl⟩ (fun hHeld => ?_)
                   clear hK K
                   refine norm_ (a' := ?_) ?_ ?_
                   rotate_left
                   ·show Act.put _ (some 57) _ = _
                    simp only [Act.put, List.setIfInBounds_toArray, List.set_cons_zero, List.set_cons_succ, i64_w, i32_w]
                    rfl
                   refine pure_ (i := 6) (N := some 13) (v := ?_) (a' := ?_) #[true, true, true, true, true, true, true] rfl rfl (by kernel_rfl) (fun _ _ _ h => h) (Or.inl ⟨by rfl, ?_⟩) ?_ ?_
                   rotate_left
                   ·intro w'
                    go_simp
                    with_reducible rfl
                   rotate_left
                   ·simp only [Act.put, List.setIfInBounds_toArray, List.set_cons_zero, List.set_cons_succ, i64_w, i32_w]
                    rfl
                   refine done_ (by kernel_rfl) ?_
                   try go_wp2
                   go_roundg kj23
                   case measure => have := HK1.out; have := HK2.out; have := HK3.out; have := HJ23.out; omega
                   case rel => exact ⟨(x12_3), (false), (wrap64 (x14_3 + 1)), (x303000_3), (x303001_3), (by first | rfl | (simp; done) | (simp [*]; done)), (by first | rfl | (simp; done) | (simp [*]; done)), (by first | rfl | (simp; done) | (simp [*]; done)), H', ⟨by have := HK1.out; have := HK2.out; have := HK3.out; have := HJ23.out; omega⟩, ⟨by (with_reducible repeat (first | apply Kd.R_alloc | apply Kd.R_drewN | apply Kd.R_drew)); exact HO_8.out⟩, ⟨pk BK293⟩, ⟨pk BK294⟩, ⟨pk BK297⟩, ⟨pk BK302⟩, ⟨pbs HB⟩⟩
                 ·rw [if_neg c28] at H
                  exact absurd H (by simp)
                ·rw [if_neg c27] at H
                 exact absurd H (by simp)
               ·replace c26 := Bool.eq_false_iff.mpr c26
                subst c26
                have H1 : (if x13_3 = true then (if 0 ≤ x9_1 then (if x9_1 < (t298.length : Int) then ((spec_l06Put.f x298000_2 ((rd_T41 t298 x9_1).f0) ((rd_T41 t298 x9_1).f1) x10_2).bind fun t304 => (spec_WhereBegun.l1 kj23 a1 t298 x9_1 (wrap64 (x10_2 + 1)) a0_0 a0_1 a0_2 t304)) else (none)) else (none)) else (spec_WhereBegun.l1 kj23 a1 t298 x9_1 (wrap64 (x10_2 + 1)) a0_0 a0_1 a0_2 x298000_2)) = some (r1, r2) := by rw [if_neg (show ¬ (false = true) by decide)] at H; exact H
                clear H
                have H := H1
                clear H1
                by_cases c53 : x13_3 = true
                ·subst c53
                 have H1 : (if 0 ≤ x9_1 then (if x9_1 < (t298.length : Int) then ((spec_l06Put.f x298000_2 ((rd_T41 t298 x9_1).f0) ((rd_T41 t298 x9_1).f1) x10_2).bind fun t304 => (spec_WhereBegun.l1 kj23 a1 t298 x9_1 (wrap64 (x10_2 + 1)) a0_0 a0_1 a0_2 t304)) else (none)) else (none)) = some (r1, r2) := by rw [if_pos rfl] at H; exact H
                 clear H
                 have H := H1
                 clear H1
                 by_cases c54 : 0 ≤ x9_1
                 ·rw [if_pos c54] at H
                  have c54b0 : decide (0 ≤ x9_1) = true := decide_eq_true c54
                  clear c54
                  by_cases c55 : x9_1 < (t298.length : Int)
                  ·rw [if_pos c55] at H
                   have c55b0 : decide (x9_1 < (t298.length : Int)) = true := decide_eq_true c55
                   clear c55
                   replace H := Option.bind_eq_some_iff.mp H
                   obtain ⟨t304, A560, H⟩ := H
                   replace H : (spec_WhereBegun.l1 kj23 a1 t298 x9_1 (wrap64 (x10_2 + 1)) a0_0 a0_1 a0_2 t304) = some (r1, r2) := H
                   have A56 := Aside0.mk A560
                   clear A560
                   have H' := Aside0.mk H
                   clear H
                   have p303 : 0 ≤ (x9_1 : Int) := of_decide_eq_true (by first | (with_reducible assumption) | assumption)
                   have q303 : x9_1 < (t298.length : Int) := of_decide_eq_true (by first | (with_reducible assumption) | assumption)
                   obtain ⟨ad303, e303, hx303_0, hx303_1⟩ := at_T41 (Kd.R_reads' HO_8.out).2.2 x9_1 p303 q303
                   obtain rfl : ad301 = ad303 := (by injection e303)
                   replace p303 := eq_true p303
                   replace q303 := eq_true q303
                   go_wp2_with (first | ((with_reducible refine gate_callee (f := 24) rfl ?_); refine goesL_ (some 76) rfl rfl Tryd.func24 (by kernel_rfl) rfl #[.pointer (some ⟨gb297, 0, none⟩), .agg #[.int .i8 ((rd_T41 t298 x9_1).f0), .int .i8 ((rd_T41 t298 x9_1).f1)], .int .i64 x10_2] rfl (by (try simp only [List.map_toArray, List.map_cons, List.map_nil]); first | done | rfl | (simp only [List.length_drop, List.length_take]; rfl)) ?_; (with_reducible refine (spec_l06Put.calls gb297 x298000_2 ((rd_T41 t298 x9_1).f0) ((rd_T41 t298 x9_1).f1) x10_2 t304 w _ ?side1 ?side2 A56.out).mono ?_); (case side1 => exact ⟨(pk BK297), GE297.out⟩); (case side2 => repeat (first | (with_reducible first | exact HB.out | apply below_alloc | apply pw_below_drewN | apply below_drew1 | refine below_set ?_ GE293.out | refine below_set ?_ GE294.out | refine below_set ?_ GE297.out | refine below_set ?_ GE302.out) | exact HB.out)); rintro e w57 ⟨rfl, hi, hb, hk⟩; refine ⟨_, rfl, ?_⟩; have n0_ := Aside0.mk (Kd.R_mono (Kd.R_keep (Kd.R_types (by (with_reducible repeat (first | apply Kd.R_alloc | apply Kd.R_drewN | apply Kd.R_drew)); exact HO_8.out) (pk BK297) (by decide)) hk (fun _ h => h.2)) (fun _ h => h.1)); have n1_ := Aside0.mk (KeepBut.blk hk (g' := gb293) (o := .cells (mixA (Value.int .u16) [.int .i8 a0_0, .int .i8 a0_1] a0_2) 31 (0, 0)) (pk BK293) NB293_297.out (by simp)); have n2_ := Aside0.mk (KeepBut.blk hk (g' := gb294) (o := .cells (mixA (Value.int .u16) [] (LA.zero 40)) 28 (0, 0)) (pk BK294) NB294_297.out (by simp)); have n3_ := Aside0.mk (KeepBut.blk hk (g' := gb302) (o := .cells #[.int .i8 x303000_3, .int .i8 x303001_3] 41 (0, 0)) (pk BK302) NB302_297.out (by simp)); have n4_ := Aside0.mk (hb); have n5_ := Aside0.mk (hi.1); clear HO_8; clear BK293; clear BK294; clear BK302; clear HB; clear BK297; have HO_8 := n0_; have BK293 := n1_; have BK294 := n2_; have BK302 := n3_; have HB := n4_; have BK297 := n5_; clear n0_ n1_ n2_ n3_ n4_ n5_; (try clear hb); (try clear hb2); (try clear hk); (try clear hi)))
                   go_roundg kj23
                   case measure => have := HK1.out; have := HK2.out; have := HK3.out; have := HJ23.out; omega
                   case rel => exact ⟨(wrap64 (x10_2 + 1)), (t304), (by first | rfl | (simp; done) | (simp [*]; done)), H', ⟨by have := HK1.out; have := HK2.out; have := HK3.out; have := HJ23.out; omega⟩, ⟨by (with_reducible repeat (first | apply Kd.R_alloc | apply Kd.R_drewN | apply Kd.R_drew)); exact Kd.R_mono HO_8.out (fun _ hk => trivial)⟩, ⟨pk BK293⟩, ⟨pk BK294⟩, ⟨pk BK297⟩, ⟨pbs HB⟩⟩
                  ·rw [if_neg c55] at H
                   exact absurd H (by simp)
                 ·rw [if_neg c54] at H
                  exact absurd H (by simp)
                ·replace c53 := Bool.eq_false_iff.mpr c53
                 subst c53
                 have H1 : (spec_WhereBegun.l1 kj23 a1 t298 x9_1 (wrap64 (x10_2 + 1)) a0_0 a0_1 a0_2 x298000_2) = some (r1, r2) := by rw [if_neg (show ¬ (false = true) by decide)] at H; exact H
                 clear H
                 have H := H1
                 clear H1
                 have H' := Aside0.mk H
                 clear H
                 go_wp2
                 go_roundg kj23
                 case measure => have := HK1.out; have := HK2.out; have := HK3.out; have := HJ23.out; omega
                 case rel => exact ⟨(wrap64 (x10_2 + 1)), (x298000_2), (by first | rfl | (simp; done) | (simp [*]; done)), H', ⟨by have := HK1.out; have := HK2.out; have := HK3.out; have := HJ23.out; omega⟩, ⟨by (with_reducible repeat (first | apply Kd.R_alloc | apply Kd.R_drewN | apply Kd.R_drew)); exact Kd.R_mono HO_8.out (fun _ hk => trivial)⟩, ⟨pk BK293⟩, ⟨pk BK294⟩, ⟨pk BK297⟩, ⟨pbs HB⟩⟩
          ·rw [if_neg c18] at H
           exact absurd H (by simp)
         ·rw [if_neg c17] at H
          exact absurd H (by simp)
        ·rw [if_neg c16] at H
         have c16b0 : decide (x10_2 < 4) = false := decide_eq_false c16
         clear c16
         have H' := Aside0.mk H
         clear H
         go_wp2
         go_roundg k2
         case measure => have := HK1.out; have := HK2.out; omega
         case rel => exact ⟨(wrap64 (x9_1 + 1)), (x298000_2), (by first | rfl | (simp; done) | (simp [*]; done)), H', ⟨by have := HK1.out; have := HK2.out; omega⟩, ⟨by (with_reducible repeat (first | apply Kd.R_alloc | apply Kd.R_drewN | apply Kd.R_drew)); exact HO_8.out⟩, ⟨pk BK293⟩, ⟨pk BK294⟩, ⟨pk BK297⟩, ⟨pbs HB⟩⟩
     ·rw [if_neg c14] at H
      have c14b0 : decide (x9_1 < (t298.length : Int)) = false := decide_eq_false c14
      clear c14
      simp only [Option.some.injEq, Prod.mk.injEq] at H
      obtain ⟨rfl, rfl⟩ := H
      obtain ⟨Ao58, co58, eo58⟩ := Kd.R_slice HO_8.out
      subst eo58
      go_wp2_with (first | ((with_reducible refine gate_dst (N := 77) rfl ?_); refine wpList_run0 (v := .agg (mixA (Value.int .u16) [] x298000_1)) rfl (load_mix_run (P := Tryd.prog) 28 (.tmp 7) rfl gb297 rfl (show World.rangeAt _ gb297 0 ([] ++ x298000_1.l.map (Value.int .u16)) from mix_range (show (World.heap _)[gb297]? = some (.cells (mixA (Value.int .u16) [] x298000_1) 28 (0, 0)) from by (with_reducible repeat (first | refine blk_drewN ?_ _ | refine blk_drew ?_ | refine blk_alloc ?_ _)); exact BK297.out)) Tryd.underlying28 rfl (by kernel_rfl) rfl) ?_) | ((with_reducible refine gate_store (p := 4) rfl ?_); refine wpList_store_lmix rfl 28 _ _ rfl gb294 (e := (Value.int .u16)) (cs' := []) (W' := x298000_1) (cs := []) (W := (LA.zero 40)) (T := 28) rfl rfl (pk BK294) rfl (by kernel_rfl) rfl (fun _ => rfl) rfl ?_; intro w60 hi hk hbl; have n0_ := Aside0.mk (Kd.R_mono (Kd.R_keep (Kd.R_types (by (with_reducible repeat (first | apply Kd.R_alloc | apply Kd.R_drewN | apply Kd.R_drew)); exact HO_8.out) (pk BK294) (by decide)) hk (fun _ h => h.2)) (fun _ h => h.1)); have n1_ := Aside0.mk (KeepBut.blk hk (g' := gb293) (o := .cells (mixA (Value.int .u16) [.int .i8 a0_0, .int .i8 a0_1] a0_2) 31 (0, 0)) (pk BK293) NB293_294.out (by simp)); have n2_ := Aside0.mk (KeepBut.blk hk (g' := gb297) (o := .cells (mixA (Value.int .u16) [] x298000_1) 28 (0, 0)) (pk BK297) NB297_294.out (by simp)); have n3_ := Aside0.mk (hbl _ _ (pbs HB) GE294.out); have n4_ := Aside0.mk (hi); clear HO_8; clear BK293; clear BK297; clear HB; clear BK294; have HO_8 := n0_; have BK293 := n1_; have BK297 := n2_; have HB := n3_; have BK294 := n4_; clear n0_ n1_ n2_ n3_ n4_; clear hi hk hbl))
      refine bodyPost_ret (results_ct rfl _ _ gb294 28 (mixA (Value.int .u16) [] x298000_1) (0, 0) _ rfl (pk BK294) Tryd.underlying28 rfl (by rw [mix_size]; kernel_rfl)) rfl ?_
      exact ⟨by first | rfl | (simp [errW_none, errW_some] <;> rfl) | (simp [*, errW_none, errW_some] <;> rfl), pbs HB⟩
  ·rw [if_neg c6] at H
   have c6b0 : (t296 == 0) = false := beq_eq_false_iff_ne.mpr c6
   have c6b1 : (t296 != 0) = true := bne_iff_ne.mpr c6
   simp only [Option.some.injEq, Prod.mk.injEq] at H
   obtain ⟨rfl, rfl⟩ := H
   go_enter Tryd.func7, Tryd.ntmps7
   go_wp2_with (first | ((with_reducible refine gate_dst (N := 2) rfl ?_); refine box_event ?hg (N := 2) ?hd (cs := (mixA (Value.int .u16) [.int .i8 a0_0, .int .i8 a0_1] a0_2)) (t := 31) ?hr ?_; (case hd => rfl); (case hg => rfl); (case hr => first | (go_simp; done) | (go_simp; rfl)); intro gb293 hg w61 hbox hb; have n0_ := bst HB hb; have n1_ := Aside0.mk (hbox); have n2_ := gwl HB hg; have n3_ := gwl HB hg; clear HB; have HB := n0_; have BK293 := n1_; have GW293 := n2_; have GE293 := n3_; clear n0_ n1_ n2_ n3_; clear hb hbox hg) | ((with_reducible refine gate_dst (N := 4) rfl ?_); refine box_event ?hg (N := 4) ?hd (cs := (mixA (Value.int .u16) [] (LA.zero 40))) (t := 28) ?hr ?_; (case hd => rfl); (case hg => rfl); (case hr => first | (go_simp; done) | (go_simp; rfl)); intro gb294 hg w62 hbox hb; have n0_ := bkb BK293 hb; have n1_ := bst HB hb; have n2_ := Aside0.mk (hbox); have n3_ := gwl HB hg; have n4_ := gwl HB hg; have n5_ := nbl BK293 hg; have n6_ := nbg BK293 hg; clear BK293; clear HB; have BK293 := n0_; have HB := n1_; have BK294 := n2_; have GW294 := n3_; have GE294 := n4_; have NB293_294 := n5_; have NB294_293 := n6_; clear n0_ n1_ n2_ n3_ n4_ n5_ n6_; clear hb hbox hg) | ((with_reducible refine gate_callee (f := 19) rfl ?_); refine goesL_ (some 17) rfl rfl Tryd.func19 (by kernel_rfl) rfl #[.pointer (some ⟨gb293, 0, none⟩)] rfl (by (try simp only [List.map_toArray, List.map_cons, List.map_nil]); first | done | rfl | (simp only [List.length_drop, List.length_take]; rfl)) ?_; (with_reducible refine (spec_l01Ok.calls k gb293 a0_0 a0_1 a0_2 true _ ?side1 A3.out).mono ?_); (case side1 => exact (pk BK293)); rintro e w63 ⟨rfl, hb⟩; refine ⟨_, rfl, ?_⟩; have n0_ := bkb BK293 hb; have n1_ := bkb BK294 hb; have n2_ := bst HB hb; clear BK293; clear BK294; clear HB; have BK293 := n0_; have BK294 := n1_; have HB := n2_; clear n0_ n1_ n2_; (try clear hb); (try clear hb2); (try clear hk); (try clear hi)) | ((with_reducible refine gate_callee (f := 20) rfl ?_); refine goesL_ (some 21) rfl rfl Tryd.func20 (by kernel_rfl) rfl #[.string a1] rfl (by (try simp only [List.map_toArray, List.map_cons, List.map_nil]); first | done | rfl | (simp only [List.length_drop, List.length_take]; rfl)) ?_; (with_reducible refine (spec_l06Moves.calls k a1 t296 _ A5.out).mono ?_); rintro e w' ⟨rfl, ⟨nd, rfl⟩⟩; refine ⟨_, rfl, ?_⟩) | ((with_reducible refine gate_store (p := 4) rfl ?_); refine wpList_store_lmix rfl 28 _ _ rfl gb294 (e := (Value.int .u16)) (cs' := []) (W' := (LA.zero 40)) (cs := []) (W := (LA.zero 40)) (T := 28) rfl rfl (pk BK294) rfl (by kernel_rfl) rfl (fun _ => rfl) rfl ?_; intro w64 hi hk hbl; have n0_ := Aside0.mk (KeepBut.blk hk (g' := gb293) (o := .cells (mixA (Value.int .u16) [.int .i8 a0_0, .int .i8 a0_1] a0_2) 31 (0, 0)) (pk BK293) NB293_294.out (by simp)); have n1_ := Aside0.mk (hbl _ _ (pbs HB) GE294.out); have n2_ := Aside0.mk (hi); clear BK293; clear HB; clear BK294; have BK293 := n0_; have HB := n1_; have BK294 := n2_; clear n0_ n1_ n2_; clear hi hk hbl))
   refine bodyPost_ret (results_ct rfl _ _ gb294 28 (mixA (Value.int .u16) [] (LA.zero 40)) (0, 0) _ rfl (pk BK294) Tryd.underlying28 rfl (by rw [mix_size]; kernel_rfl)) rfl ?_
   exact ⟨by first | rfl | (simp [errW_none, errW_some] <;> rfl) | (simp [*, errW_none, errW_some] <;> rfl), pbs HB⟩
 ·replace c4 := Bool.eq_false_iff.mpr c4
  subst c4
  have H1 : (some ((LA.zero 40), 1)) = some (r1, r2) := by rw [if_neg (show ¬ (false = true) by decide)] at H; exact H
  clear H
  have H := H1
  clear H1
  simp only [Option.some.injEq, Prod.mk.injEq] at H
  obtain ⟨rfl, rfl⟩ := H
  go_enter Tryd.func7, Tryd.ntmps7
  go_wp2_with (first | ((with_reducible refine gate_dst (N := 2) rfl ?_); refine box_event ?hg (N := 2) ?hd (cs := (mixA (Value.int .u16) [.int .i8 a0_0, .int .i8 a0_1] a0_2)) (t := 31) ?hr ?_; (case hd => rfl); (case hg => rfl); (case hr => first | (go_simp; done) | (go_simp; rfl)); intro gb293 hg w65 hbox hb; have n0_ := bst HB hb; have n1_ := Aside0.mk (hbox); have n2_ := gwl HB hg; have n3_ := gwl HB hg; clear HB; have HB := n0_; have BK293 := n1_; have GW293 := n2_; have GE293 := n3_; clear n0_ n1_ n2_ n3_; clear hb hbox hg) | ((with_reducible refine gate_dst (N := 4) rfl ?_); refine box_event ?hg (N := 4) ?hd (cs := (mixA (Value.int .u16) [] (LA.zero 40))) (t := 28) ?hr ?_; (case hd => rfl); (case hg => rfl); (case hr => first | (go_simp; done) | (go_simp; rfl)); intro gb294 hg w66 hbox hb; have n0_ := bkb BK293 hb; have n1_ := bst HB hb; have n2_ := Aside0.mk (hbox); have n3_ := gwl HB hg; have n4_ := gwl HB hg; have n5_ := nbl BK293 hg; have n6_ := nbg BK293 hg; clear BK293; clear HB; have BK293 := n0_; have HB := n1_; have BK294 := n2_; have GW294 := n3_; have GE294 := n4_; have NB293_294 := n5_; have NB294_293 := n6_; clear n0_ n1_ n2_ n3_ n4_ n5_ n6_; clear hb hbox hg) | ((with_reducible refine gate_callee (f := 19) rfl ?_); refine goesL_ (some 17) rfl rfl Tryd.func19 (by kernel_rfl) rfl #[.pointer (some ⟨gb293, 0, none⟩)] rfl (by (try simp only [List.map_toArray, List.map_cons, List.map_nil]); first | done | rfl | (simp only [List.length_drop, List.length_take]; rfl)) ?_; (with_reducible refine (spec_l01Ok.calls k gb293 a0_0 a0_1 a0_2 false _ ?side1 A3.out).mono ?_); (case side1 => exact (pk BK293)); rintro e w67 ⟨rfl, hb⟩; refine ⟨_, rfl, ?_⟩; have n0_ := bkb BK293 hb; have n1_ := bkb BK294 hb; have n2_ := bst HB hb; clear BK293; clear BK294; clear HB; have BK293 := n0_; have BK294 := n1_; have HB := n2_; clear n0_ n1_ n2_; (try clear hb); (try clear hb2); (try clear hk); (try clear hi)) | ((with_reducible refine gate_store (p := 4) rfl ?_); refine wpList_store_lmix rfl 28 _ _ rfl gb294 (e := (Value.int .u16)) (cs' := []) (W' := (LA.zero 40)) (cs := []) (W := (LA.zero 40)) (T := 28) rfl rfl (pk BK294) rfl (by kernel_rfl) rfl (fun _ => rfl) rfl ?_; intro w68 hi hk hbl; have n0_ := Aside0.mk (KeepBut.blk hk (g' := gb293) (o := .cells (mixA (Value.int .u16) [.int .i8 a0_0, .int .i8 a0_1] a0_2) 31 (0, 0)) (pk BK293) NB293_294.out (by simp)); have n1_ := Aside0.mk (hbl _ _ (pbs HB) GE294.out); have n2_ := Aside0.mk (hi); clear BK293; clear HB; clear BK294; have BK293 := n0_; have HB := n1_; have BK294 := n2_; clear n0_ n1_ n2_; clear hi hk hbl))
  refine bodyPost_ret (results_ct rfl _ _ gb294 28 (mixA (Value.int .u16) [] (LA.zero 40)) (0, 0) _ rfl (pk BK294) Tryd.underlying28 rfl (by rw [mix_size]; kernel_rfl)) rfl ?_
  exact ⟨by first | rfl | (simp [errW_none, errW_some] <;> rfl) | (simp [*, errW_none, errW_some] <;> rfl), pbs HB⟩
end Go.Proofs.YtdedijjbdkoekaaDoor.PB
end
section
namespace Go.Proofs.YtdedijjbdkoekaaDoor.PB
open Go.RowKit Go.Proofs.YtdedijjbdkoekaaDoorW.PrintWords Go.Proofs.YtdedijjbdkoekaaDoorW.PrintLast Go.Proofs.YtdedijjbdkoekaaDoorW.PrintMore Go.Proofs.YtdedijjbdkoekaaDoor.La
attribute [local go_sem] max2_int min2_int max_two min_two max_three min_three max_four min_four   -- for this text's walks alone
set_option linter.unusedVariables false
set_option linter.unusedSimpArgs false
def bits_OnesCount16.f (a0 : Int) : Option (Int) := if 0 ≤ (a0 / 256) then (if (a0 / 256) < 256 then (if 0 ≤ (Go.bits .and .u16 a0 255) then (if (Go.bits .and .u16 a0 255) < 256 then (some (((bt (⟨#[0, 1, 1, 2, 1, 2, 2, 3, 1, 2, 2, 3, 2, 3, 3, 4, 1, 2, 2, 3, 2, 3, 3, 4, 2, 3, 3, 4, 3, 4, 4, 5, 1, 2, 2, 3, 2, 3, 3, 4, 2, 3, 3, 4, 3, 4, 4, 5, 2, 3, 3, 4, 3, 4, 4, 5, 3, 4, 4, 5, 4, 5, 5, 6, 1, 2, 2, 3, 2, 3, 3, 4, 2, 3, 3, 4, 3, 4, 4, 5, 2, 3, 3, 4, 3, 4, 4, 5, 3, 4, 4, 5, 4, 5, 5, 6, 2, 3, 3, 4, 3, 4, 4, 5, 3, 4, 4, 5, 4, 5, 5, 6, 3, 4, 4, 5, 4, 5, 5, 6, 4, 5, 5, 6, 5, 6, 6, 7, 1, 2, 2, 3, 2, 3, 3, 4, 2, 3, 3, 4, 3, 4, 4, 5, 2, 3, 3, 4, 3, 4, 4, 5, 3, 4, 4, 5, 4, 5, 5, 6, 2, 3, 3, 4, 3, 4, 4, 5, 3, 4, 4, 5, 4, 5, 5, 6, 3, 4, 4, 5, 4, 5, 5, 6, 4, 5, 5, 6, 5, 6, 6, 7, 2, 3, 3, 4, 3, 4, 4, 5, 3, 4, 4, 5, 4, 5, 5, 6, 3, 4, 4, 5, 4, 5, 5, 6, 4, 5, 5, 6, 5, 6, 6, 7, 3, 4, 4, 5, 4, 5, 5, 6, 4, 5, 5, 6, 5, 6, 6, 7, 4, 5, 5, 6, 5, 6, 6, 7, 5, 6, 6, 7, 6, 7, 7, 8]⟩ : ByteArray) (a0 / 256)) + (bt (⟨#[0, 1, 1, 2, 1, 2, 2, 3, 1, 2, 2, 3, 2, 3, 3, 4, 1, 2, 2, 3, 2, 3, 3, 4, 2, 3, 3, 4, 3, 4, 4, 5, 1, 2, 2, 3, 2, 3, 3, 4, 2, 3, 3, 4, 3, 4, 4, 5, 2, 3, 3, 4, 3, 4, 4, 5, 3, 4, 4, 5, 4, 5, 5, 6, 1, 2, 2, 3, 2, 3, 3, 4, 2, 3, 3, 4, 3, 4, 4, 5, 2, 3, 3, 4, 3, 4, 4, 5, 3, 4, 4, 5, 4, 5, 5, 6, 2, 3, 3, 4, 3, 4, 4, 5, 3, 4, 4, 5, 4, 5, 5, 6, 3, 4, 4, 5, 4, 5, 5, 6, 4, 5, 5, 6, 5, 6, 6, 7, 1, 2, 2, 3, 2, 3, 3, 4, 2, 3, 3, 4, 3, 4, 4, 5, 2, 3, 3, 4, 3, 4, 4, 5, 3, 4, 4, 5, 4, 5, 5, 6, 2, 3, 3, 4, 3, 4, 4, 5, 3, 4, 4, 5, 4, 5, 5, 6, 3, 4, 4, 5, 4, 5, 5, 6, 4, 5, 5, 6, 5, 6, 6, 7, 2, 3, 3, 4, 3, 4, 4, 5, 3, 4, 4, 5, 4, 5, 5, 6, 3, 4, 4, 5, 4, 5, 5, 6, 4, 5, 5, 6, 5, 6, 6, 7, 3, 4, 4, 5, 4, 5, 5, 6, 4, 5, 5, 6, 5, 6, 6, 7, 4, 5, 5, 6, 5, 6, 6, 7, 5, 6, 6, 7, 6, 7, 7, 8]⟩ : ByteArray) (Go.bits .and .u16 a0 255))) % 256)) else (none)) else (none)) else (none)) else (none)
set_option maxHeartbeats 8000000 in
set_option maxRecDepth 100000 in
theorem bits_OnesCount16.calls (a0 : Int) (r : Int) (w : World) (h : bits_OnesCount16.f a0 = some r) :
  Calls Tryd.prog 52 #[.int .u16 a0] w fun e w' => e = .returned (.int .i64 r) ∧ Drawn0 w w' := by
 have H : (if 0 ≤ (a0 / 256) then (if (a0 / 256) < 256 then (if 0 ≤ (Go.bits .and .u16 a0 255) then (if (Go.bits .and .u16 a0 255) < 256 then (some (((bt (⟨#[0, 1, 1, 2, 1, 2, 2, 3, 1, 2, 2, 3, 2, 3, 3, 4, 1, 2, 2, 3, 2, 3, 3, 4, 2, 3, 3, 4, 3, 4, 4, 5, 1, 2, 2, 3, 2, 3, 3, 4, 2, 3, 3, 4, 3, 4, 4, 5, 2, 3, 3, 4, 3, 4, 4, 5, 3, 4, 4, 5, 4, 5, 5, 6, 1, 2, 2, 3, 2, 3, 3, 4, 2, 3, 3, 4, 3, 4, 4, 5, 2, 3, 3, 4, 3, 4, 4, 5, 3, 4, 4, 5, 4, 5, 5, 6, 2, 3, 3, 4, 3, 4, 4, 5, 3, 4, 4, 5, 4, 5, 5, 6, 3, 4, 4, 5, 4, 5, 5, 6, 4, 5, 5, 6, 5, 6, 6, 7, 1, 2, 2, 3, 2, 3, 3, 4, 2, 3, 3, 4, 3, 4, 4, 5, 2, 3, 3, 4, 3, 4, 4, 5, 3, 4, 4, 5, 4, 5, 5, 6, 2, 3, 3, 4, 3, 4, 4, 5, 3, 4, 4, 5, 4, 5, 5, 6, 3, 4, 4, 5, 4, 5, 5, 6, 4, 5, 5, 6, 5, 6, 6, 7, 2, 3, 3, 4, 3, 4, 4, 5, 3, 4, 4, 5, 4, 5, 5, 6, 3, 4, 4, 5, 4, 5, 5, 6, 4, 5, 5, 6, 5, 6, 6, 7, 3, 4, 4, 5, 4, 5, 5, 6, 4, 5, 5, 6, 5, 6, 6, 7, 4, 5, 5, 6, 5, 6, 6, 7, 5, 6, 6, 7, 6, 7, 7, 8]⟩ : ByteArray) (a0 / 256)) + (bt (⟨#[0, 1, 1, 2, 1, 2, 2, 3, 1, 2, 2, 3, 2, 3, 3, 4, 1, 2, 2, 3, 2, 3, 3, 4, 2, 3, 3, 4, 3, 4, 4, 5, 1, 2, 2, 3, 2, 3, 3, 4, 2, 3, 3, 4, 3, 4, 4, 5, 2, 3, 3, 4, 3, 4, 4, 5, 3, 4, 4, 5, 4, 5, 5, 6, 1, 2, 2, 3, 2, 3, 3, 4, 2, 3, 3, 4, 3, 4, 4, 5, 2, 3, 3, 4, 3, 4, 4, 5, 3, 4, 4, 5, 4, 5, 5, 6, 2, 3, 3, 4, 3, 4, 4, 5, 3, 4, 4, 5, 4, 5, 5, 6, 3, 4, 4, 5, 4, 5, 5, 6, 4, 5, 5, 6, 5, 6, 6, 7, 1, 2, 2, 3, 2, 3, 3, 4, 2, 3, 3, 4, 3, 4, 4, 5, 2, 3, 3, 4, 3, 4, 4, 5, 3, 4, 4, 5, 4, 5, 5, 6, 2, 3, 3, 4, 3, 4, 4, 5, 3, 4, 4, 5, 4, 5, 5, 6, 3, 4, 4, 5, 4, 5, 5, 6, 4, 5, 5, 6, 5, 6, 6, 7, 2, 3, 3, 4, 3, 4, 4, 5, 3, 4, 4, 5, 4, 5, 5, 6, 3, 4, 4, 5, 4, 5, 5, 6, 4, 5, 5, 6, 5, 6, 6, 7, 3, 4, 4, 5, 4, 5, 5, 6, 4, 5, 5, 6, 5, 6, 6, 7, 4, 5, 5, 6, 5, 6, 6, 7, 5, 6, 6, 7, 6, 7, 7, 8]⟩ : ByteArray) (Go.bits .and .u16 a0 255))) % 256)) else (none)) else (none)) else (none)) else (none)) = some r := h
 clear h
 obtain ⟨ji2, hji2⟩ : ∃ j_ : Int, (a0 / 256) = j_ := ⟨_, rfl⟩
 replace H : (if 0 ≤ (ji2) then (if (ji2) < 256 then (if 0 ≤ (Go.bits .and .u16 a0 255) then (if (Go.bits .and .u16 a0 255) < 256 then (some (((bt (⟨#[0, 1, 1, 2, 1, 2, 2, 3, 1, 2, 2, 3, 2, 3, 3, 4, 1, 2, 2, 3, 2, 3, 3, 4, 2, 3, 3, 4, 3, 4, 4, 5, 1, 2, 2, 3, 2, 3, 3, 4, 2, 3, 3, 4, 3, 4, 4, 5, 2, 3, 3, 4, 3, 4, 4, 5, 3, 4, 4, 5, 4, 5, 5, 6, 1, 2, 2, 3, 2, 3, 3, 4, 2, 3, 3, 4, 3, 4, 4, 5, 2, 3, 3, 4, 3, 4, 4, 5, 3, 4, 4, 5, 4, 5, 5, 6, 2, 3, 3, 4, 3, 4, 4, 5, 3, 4, 4, 5, 4, 5, 5, 6, 3, 4, 4, 5, 4, 5, 5, 6, 4, 5, 5, 6, 5, 6, 6, 7, 1, 2, 2, 3, 2, 3, 3, 4, 2, 3, 3, 4, 3, 4, 4, 5, 2, 3, 3, 4, 3, 4, 4, 5, 3, 4, 4, 5, 4, 5, 5, 6, 2, 3, 3, 4, 3, 4, 4, 5, 3, 4, 4, 5, 4, 5, 5, 6, 3, 4, 4, 5, 4, 5, 5, 6, 4, 5, 5, 6, 5, 6, 6, 7, 2, 3, 3, 4, 3, 4, 4, 5, 3, 4, 4, 5, 4, 5, 5, 6, 3, 4, 4, 5, 4, 5, 5, 6, 4, 5, 5, 6, 5, 6, 6, 7, 3, 4, 4, 5, 4, 5, 5, 6, 4, 5, 5, 6, 5, 6, 6, 7, 4, 5, 5, 6, 5, 6, 6, 7, 5, 6, 6, 7, 6, 7, 7, 8]⟩ : ByteArray) (ji2)) + (bt (⟨#[0, 1, 1, 2, 1, 2, 2, 3, 1, 2, 2, 3, 2, 3, 3, 4, 1, 2, 2, 3, 2, 3, 3, 4, 2, 3, 3, 4, 3, 4, 4, 5, 1, 2, 2, 3, 2, 3, 3, 4, 2, 3, 3, 4, 3, 4, 4, 5, 2, 3, 3, 4, 3, 4, 4, 5, 3, 4, 4, 5, 4, 5, 5, 6, 1, 2, 2, 3, 2, 3, 3, 4, 2, 3, 3, 4, 3, 4, 4, 5, 2, 3, 3, 4, 3, 4, 4, 5, 3, 4, 4, 5, 4, 5, 5, 6, 2, 3, 3, 4, 3, 4, 4, 5, 3, 4, 4, 5, 4, 5, 5, 6, 3, 4, 4, 5, 4, 5, 5, 6, 4, 5, 5, 6, 5, 6, 6, 7, 1, 2, 2, 3, 2, 3, 3, 4, 2, 3, 3, 4, 3, 4, 4, 5, 2, 3, 3, 4, 3, 4, 4, 5, 3, 4, 4, 5, 4, 5, 5, 6, 2, 3, 3, 4, 3, 4, 4, 5, 3, 4, 4, 5, 4, 5, 5, 6, 3, 4, 4, 5, 4, 5, 5, 6, 4, 5, 5, 6, 5, 6, 6, 7, 2, 3, 3, 4, 3, 4, 4, 5, 3, 4, 4, 5, 4, 5, 5, 6, 3, 4, 4, 5, 4, 5, 5, 6, 4, 5, 5, 6, 5, 6, 6, 7, 3, 4, 4, 5, 4, 5, 5, 6, 4, 5, 5, 6, 5, 6, 6, 7, 4, 5, 5, 6, 5, 6, 6, 7, 5, 6, 6, 7, 6, 7, 7, 8]⟩ : ByteArray) (Go.bits .and .u16 a0 255))) % 256)) else (none)) else (none)) else (none)) else (none)) = some r := by first | (rw [hji2] at H; exact H) | (simp only [hji2] at H ⊢; exact H)
 by_cases c3 : 0 ≤ (ji2)
 ·rw [if_pos c3] at H
  have c3b0 : decide (0 ≤ (ji2)) = true := decide_eq_true c3
  clear c3
  by_cases c4 : (ji2) < 256
  ·rw [if_pos c4] at H
   have c4b0 : decide ((ji2) < 256) = true := decide_eq_true c4
   clear c4
   by_cases c6 : 0 ≤ (Go.bits .and .u16 a0 255)
   ·rw [if_pos c6] at H
    have c6b0 : decide (0 ≤ (Go.bits .and .u16 a0 255)) = true := decide_eq_true c6
    clear c6
    by_cases c7 : (Go.bits .and .u16 a0 255) < 256
    ·rw [if_pos c7] at H
     have c7b0 : decide ((Go.bits .and .u16 a0 255) < 256) = true := decide_eq_true c7
     clear c7
     obtain rfl := Option.some.inj H
     have p5 : 0 ≤ ((ji2) : Int) := of_decide_eq_true (by first | (with_reducible assumption) | assumption)
     have q5 : (ji2) < (256 : Int) := of_decide_eq_true (by first | (with_reducible assumption) | assumption)
     have hx5 := bt_at (⟨#[0, 1, 1, 2, 1, 2, 2, 3, 1, 2, 2, 3, 2, 3, 3, 4, 1, 2, 2, 3, 2, 3, 3, 4, 2, 3, 3, 4, 3, 4, 4, 5, 1, 2, 2, 3, 2, 3, 3, 4, 2, 3, 3, 4, 3, 4, 4, 5, 2, 3, 3, 4, 3, 4, 4, 5, 3, 4, 4, 5, 4, 5, 5, 6, 1, 2, 2, 3, 2, 3, 3, 4, 2, 3, 3, 4, 3, 4, 4, 5, 2, 3, 3, 4, 3, 4, 4, 5, 3, 4, 4, 5, 4, 5, 5, 6, 2, 3, 3, 4, 3, 4, 4, 5, 3, 4, 4, 5, 4, 5, 5, 6, 3, 4, 4, 5, 4, 5, 5, 6, 4, 5, 5, 6, 5, 6, 6, 7, 1, 2, 2, 3, 2, 3, 3, 4, 2, 3, 3, 4, 3, 4, 4, 5, 2, 3, 3, 4, 3, 4, 4, 5, 3, 4, 4, 5, 4, 5, 5, 6, 2, 3, 3, 4, 3, 4, 4, 5, 3, 4, 4, 5, 4, 5, 5, 6, 3, 4, 4, 5, 4, 5, 5, 6, 4, 5, 5, 6, 5, 6, 6, 7, 2, 3, 3, 4, 3, 4, 4, 5, 3, 4, 4, 5, 4, 5, 5, 6, 3, 4, 4, 5, 4, 5, 5, 6, 4, 5, 5, 6, 5, 6, 6, 7, 3, 4, 4, 5, 4, 5, 5, 6, 4, 5, 5, 6, 5, 6, 6, 7, 4, 5, 5, 6, 5, 6, 6, 7, 5, 6, 6, 7, 6, 7, 7, 8]⟩ : ByteArray) (ji2)
     replace p5 := eq_true p5
     replace q5 := eq_true q5
     have p8 : 0 ≤ ((Go.bits .and .u16 a0 255) : Int) := of_decide_eq_true (by first | (with_reducible assumption) | assumption)
     have q8 : (Go.bits .and .u16 a0 255) < (256 : Int) := of_decide_eq_true (by first | (with_reducible assumption) | assumption)
     have hx8 := bt_at (⟨#[0, 1, 1, 2, 1, 2, 2, 3, 1, 2, 2, 3, 2, 3, 3, 4, 1, 2, 2, 3, 2, 3, 3, 4, 2, 3, 3, 4, 3, 4, 4, 5, 1, 2, 2, 3, 2, 3, 3, 4, 2, 3, 3, 4, 3, 4, 4, 5, 2, 3, 3, 4, 3, 4, 4, 5, 3, 4, 4, 5, 4, 5, 5, 6, 1, 2, 2, 3, 2, 3, 3, 4, 2, 3, 3, 4, 3, 4, 4, 5, 2, 3, 3, 4, 3, 4, 4, 5, 3, 4, 4, 5, 4, 5, 5, 6, 2, 3, 3, 4, 3, 4, 4, 5, 3, 4, 4, 5, 4, 5, 5, 6, 3, 4, 4, 5, 4, 5, 5, 6, 4, 5, 5, 6, 5, 6, 6, 7, 1, 2, 2, 3, 2, 3, 3, 4, 2, 3, 3, 4, 3, 4, 4, 5, 2, 3, 3, 4, 3, 4, 4, 5, 3, 4, 4, 5, 4, 5, 5, 6, 2, 3, 3, 4, 3, 4, 4, 5, 3, 4, 4, 5, 4, 5, 5, 6, 3, 4, 4, 5, 4, 5, 5, 6, 4, 5, 5, 6, 5, 6, 6, 7, 2, 3, 3, 4, 3, 4, 4, 5, 3, 4, 4, 5, 4, 5, 5, 6, 3, 4, 4, 5, 4, 5, 5, 6, 4, 5, 5, 6, 5, 6, 6, 7, 3, 4, 4, 5, 4, 5, 5, 6, 4, 5, 5, 6, 5, 6, 6, 7, 4, 5, 5, 6, 5, 6, 6, 7, 5, 6, 6, 7, 6, 7, 7, 8]⟩ : ByteArray) (Go.bits .and .u16 a0 255)
     replace p8 := eq_true p8
     replace q8 := eq_true q8
     go_enter Tryd.func52, Tryd.ntmps52
     go_wp2
     repeat (go_quiet (fail); try go_wp2)
     go_ret
     exact ⟨by first | rfl | (simp; done) | (simp only [← hji2] <;> (first | rfl | simp)) | (simp [*]; done), by repeat (first | exact Drawn0.refl _ | apply Drawn0.step)⟩
    ·rw [if_neg c7] at H
     exact absurd H (by simp)
   ·rw [if_neg c6] at H
    exact absurd H (by simp)
  ·rw [if_neg c4] at H
   exact absurd H (by simp)
 ·rw [if_neg c3] at H
  exact absurd H (by simp)
mutual
def impl_CountCrowd.l0 : Nat → Int → LA 40 → Int → Option (Int)
 | 0, _, _, _ => none
 | k + 1, x3, x8, x9 => if x9 < 4 then (if 0 ≤ x9 then (impl_CountCrowd.l1 k x3 x8 x9 (LA.row x8 10 x9) 0) else (none)) else (some x3)
def impl_CountCrowd.l1 : Nat → Int → LA 40 → Int → LA 10 → Int → Option (Int)
 | 0, _, _, _, _, _ => none
 | k + 1, x3, x8, x9, x12, x13 => if x13 < 10 then (if 0 ≤ x13 then ((bits_OnesCount16.f (Go.bits .and .u16 (rd x12.l x13) 1023)).bind fun t312 => (impl_CountCrowd.l1 k (wrap64 (x3 + t312)) x8 x9 x12 (wrap64 (x13 + 1)))) else (none)) else (impl_CountCrowd.l0 k x3 x8 (wrap64 (x9 + 1)))
end
def impl_CountCrowd.f (k : Nat) (a0 : LA 40) : Option (Int) := impl_CountCrowd.l0 k 0 a0 0
theorem impl_CountCrowd.mono_l : ∀ k, (∀ y0 y1 y2, LeO (impl_CountCrowd.l0 k y0 y1 y2) (impl_CountCrowd.l0 (k + 1) y0 y1 y2)) ∧ (∀ y0 y1 y2 y3 y4, LeO (impl_CountCrowd.l1 k y0 y1 y2 y3 y4) (impl_CountCrowd.l1 (k + 1) y0 y1 y2 y3 y4))
 | 0 => ⟨fun _ _ _ r h => by simp [impl_CountCrowd.l0] at h, fun _ _ _ _ _ r h => by simp [impl_CountCrowd.l1] at h⟩
 | k + 1 => by
  obtain ⟨ih0, ih1⟩ := impl_CountCrowd.mono_l k
  refine ⟨?_, ?_⟩
  ·intro y0 y1 y2
   unfold impl_CountCrowd.l0
   repeat' first
   | (with_reducible exact ih0 _ _ _)
   | (with_reducible exact ih1 _ _ _ _ _)
   | (with_reducible exact LeO.refl _)
   | (with_reducible exact LeO.none _)
   | (with_reducible refine LeO.ite ?_ ?_)
   | (with_reducible refine LeO.bind ?_ (fun _ => ?_))
   | exact ih0 _ _ _
   | exact ih1 _ _ _ _ _
   | exact LeO.none _
   | refine LeO.ite ?_ ?_
   | refine LeO.bind ?_ (fun _ => ?_)
  ·intro y0 y1 y2 y3 y4
   unfold impl_CountCrowd.l1
   repeat' first
   | (with_reducible exact ih0 _ _ _)
   | (with_reducible exact ih1 _ _ _ _ _)
   | (with_reducible exact LeO.refl _)
   | (with_reducible exact LeO.none _)
   | (with_reducible refine LeO.ite ?_ ?_)
   | (with_reducible refine LeO.bind ?_ (fun _ => ?_))
   | exact ih0 _ _ _
   | exact ih1 _ _ _ _ _
   | exact LeO.none _
   | refine LeO.ite ?_ ?_
   | refine LeO.bind ?_ (fun _ => ?_)
theorem impl_CountCrowd.mono : ∀ a0 k, LeO (impl_CountCrowd.f k a0) (impl_CountCrowd.f (k + 1) a0) := by
 intro a0 k
 obtain ⟨ih0, ih1⟩ := impl_CountCrowd.mono_l k
 unfold impl_CountCrowd.f
 repeat' first
   | (with_reducible exact ih0 _ _ _)
   | (with_reducible exact ih1 _ _ _ _ _)
   | (with_reducible exact LeO.refl _)
   | (with_reducible exact LeO.none _)
   | (with_reducible refine LeO.ite ?_ ?_)
   | (with_reducible refine LeO.bind ?_ (fun _ => ?_))
   | exact ih0 _ _ _
   | exact ih1 _ _ _ _ _
   | exact LeO.none _
   | refine LeO.ite ?_ ?_
   | refine LeO.bind ?_ (fun _ => ?_)
set_option maxHeartbeats 8000000 in
set_option maxRecDepth 100000 in
theorem impl_CountCrowd.calls (k : Nat) (a0 : LA 40) (r : Int) (w : World) (h : impl_CountCrowd.f k a0 = some r) :
  Calls Tryd.prog 30 #[.agg (mixA (Value.int .u16) [] a0)] w fun e w' => e = .returned (.int .i64 r) ∧ Below w.heap.size w w' := by
 have HB := Aside0.mk (Below.refl w.heap.size w)
 have H : (impl_CountCrowd.l0 k 0 a0 0) = some r := h
 clear h
 have H' := Aside0.mk H
 clear H
 go_enter Tryd.func30, Tryd.ntmps30
 go_wp2_with (first | ((with_reducible refine gate_dst (N := 1) rfl ?_); refine box_event ?hg (N := 1) ?hd (cs := (mixA (Value.int .u16) [] a0)) (t := 28) ?hr ?_; (case hd => rfl); (case hg => rfl); (case hr => first | (go_simp; done) | (go_simp; rfl)); intro gb310 hg w2 hbox hb; have n0_ := bst HB hb; have n1_ := Aside0.mk (hbox); have n2_ := gwl HB hg; have n3_ := gwl HB hg; clear HB; have HB := n0_; have BK310 := n1_; have GW310 := n2_; have GE310 := n3_; clear n0_ n1_ n2_ n3_; clear hb hbox hg) | ((with_reducible refine gate_dst (N := 8) rfl ?_); refine wpList_run0 (v := .agg (mixA (Value.int .u16) [] a0)) rfl (load_mix_run (P := Tryd.prog) 28 (.tmp 1) rfl gb310 rfl (show World.rangeAt _ gb310 0 ([] ++ a0.l.map (Value.int .u16)) from mix_range (show (World.heap _)[gb310]? = some (.cells (mixA (Value.int .u16) [] a0) 28 (0, 0)) from by (with_reducible repeat (first | refine blk_drewN ?_ _ | refine blk_drew ?_ | refine blk_alloc ?_ _)); exact BK310.out)) Tryd.underlying28 rfl (by kernel_rfl) rfl) ?_))
 go_loopg [3, 9] k (fun kq v3 v9 w' => ∃ (x3_1 : Int) (x9_1 : Int), v3 = .int .i64 x3_1 ∧ v9 = .int .i64 x9_1 ∧ Aside0 (impl_CountCrowd.l0 kq x3_1 a0 x9_1 = some r) ∧ Aside0 (kq ≤ k) ∧ Aside0 (w'.heap[gb310]? = some (.cells (mixA (Value.int .u16) [] a0) 28 (0, 0))) ∧ Aside0 (Below w.heap.size w w'))
 case atStart => exact ⟨(0), (0), (by first | rfl | (simp; done) | (simp [*]; done)), (by first | rfl | (simp; done) | (simp [*]; done)), H', ⟨Nat.le_refl _⟩, ⟨pk BK310⟩, ⟨pbs HB⟩⟩
 case round =>
  clear H'
  try clear p2
  try clear c3
  obtain ⟨x3_1, x9_1, rfl, rfl, HA, HK1, BK310, HB⟩ := hrel
  cases gk with
  | zero => exact absurd HA.out (by simp [impl_CountCrowd.l0])
  | succ k1 =>
   have H := HA.out
   clear HA
   simp only [impl_CountCrowd.l0] at H
   by_cases c4 : x9_1 < 4
   ·rw [if_pos c4] at H
    have c4b0 : decide (x9_1 < 4) = true := decide_eq_true c4
    clear c4
    by_cases c5 : 0 ≤ x9_1
    ·rw [if_pos c5] at H
     have c5b0 : decide (0 ≤ x9_1) = true := decide_eq_true c5
     clear c5
     have H' := Aside0.mk H
     clear H
     have hixd6 : ∀ W_ : World, (Instr.index 28 (.agg (mixA (Value.int .u16) [] a0)) (.int .i64 x9_1)).run Tryd.prog W_ = .ok (.agg (mixA (Value.int .u16) [] (LA.row a0 10 x9_1))) W_ := fun W_ => idx_lar (c := 4) (m := 10) (e := (Value.int .u16)) Tryd.underlying28 (fun _ => by kernel_rfl) (fun _ => by kernel_rfl) rfl x9_1 (by first | omega | exact of_decide_eq_true (by first | (with_reducible assumption) | assumption)) (by first | omega | exact of_decide_eq_true (by first | (with_reducible assumption) | assumption)) W_
     go_wp2_with (first | ((with_reducible refine gate_dst (N := 5) rfl ?_); refine box_event ?hg (N := 5) ?hd (cs := (mixA (Value.int .u16) [] (LA.zero 10))) (t := 24) ?hr ?_; (case hd => rfl); (case hg => rfl); (case hr => first | (go_simp; done) | (go_simp; rfl)); intro gb311 hg w7 hbox hb; have n0_ := bkb BK310 hb; have n1_ := bst HB hb; have n2_ := Aside0.mk (hbox); have n3_ := gwl HB hg; have n4_ := gwl HB hg; have n5_ := nbl BK310 hg; have n6_ := nbg BK310 hg; clear BK310; clear HB; have BK310 := n0_; have HB := n1_; have BK311 := n2_; have GW311 := n3_; have GE311 := n4_; have NB310_311 := n5_; have NB311_310 := n6_; clear n0_ n1_ n2_ n3_ n4_ n5_ n6_; clear hb hbox hg) | ((with_reducible refine gate_store (p := 5) rfl ?_); refine wpList_store_lmix rfl 24 _ _ rfl gb311 (e := (Value.int .u16)) (cs' := []) (W' := (LA.row a0 10 x9_1)) (cs := []) (W := (LA.zero 10)) (T := 24) rfl rfl (pk BK311) rfl (by kernel_rfl) rfl (fun _ => rfl) rfl ?_; intro w8 hi hk hbl; have n0_ := Aside0.mk (KeepBut.blk hk (g' := gb310) (o := .cells (mixA (Value.int .u16) [] a0) 28 (0, 0)) (pk BK310) NB310_311.out (by simp)); have n1_ := Aside0.mk (hbl _ _ (pbs HB) GE311.out); have n2_ := Aside0.mk (hi); clear BK310; clear HB; clear BK311; have BK310 := n0_; have HB := n1_; have BK311 := n2_; clear n0_ n1_ n2_; clear hi hk hbl) | ((with_reducible refine gate_dst (N := 12) rfl ?_); refine wpList_run0 (v := .agg (mixA (Value.int .u16) [] (LA.row a0 10 x9_1))) rfl (load_mix_run (P := Tryd.prog) 24 (.tmp 5) rfl gb311 rfl (show World.rangeAt _ gb311 0 ([] ++ (LA.row a0 10 x9_1).l.map (Value.int .u16)) from mix_range (show (World.heap _)[gb311]? = some (.cells (mixA (Value.int .u16) [] (LA.row a0 10 x9_1)) 24 (0, 0)) from by (with_reducible repeat (first | refine blk_drewN ?_ _ | refine blk_drew ?_ | refine blk_alloc ?_ _)); exact BK311.out)) Tryd.underlying24 rfl (by kernel_rfl) rfl) ?_))
     go_loopg [3, 13] k1 (fun kq v3 v13 w' => ∃ (x3_2 : Int) (x13_2 : Int), v3 = .int .i64 x3_2 ∧ v13 = .int .i64 x13_2 ∧ Aside0 (impl_CountCrowd.l1 kq x3_2 a0 x9_1 (LA.row a0 10 x9_1) x13_2 = some r) ∧ Aside0 (kq ≤ k1) ∧ Aside0 (w'.heap[gb310]? = some (.cells (mixA (Value.int .u16) [] a0) 28 (0, 0))) ∧ Aside0 (w'.heap[gb311]? = some (.cells (mixA (Value.int .u16) [] (LA.row a0 10 x9_1)) 24 (0, 0))) ∧ Aside0 (Below w.heap.size w w'))
     case atStart => exact ⟨(x3_1), (0), (by first | rfl | (simp; done) | (simp [*]; done)), (by first | rfl | (simp; done) | (simp [*]; done)), H', ⟨Nat.le_refl _⟩, ⟨pk BK310⟩, ⟨pk BK311⟩, ⟨pbs HB⟩⟩
     case round =>
      clear H'
      try clear p2
      try clear c3
      try clear c4
      try clear c4b0
      try clear c5
      try clear c5b0
      try clear p2
      obtain ⟨x3_2, x13_2, rfl, rfl, HA, HK2, BK310, BK311, HB⟩ := hrel
      cases gk with
      | zero => exact absurd HA.out (by simp [impl_CountCrowd.l1])
      | succ k2 =>
       have H := HA.out
       clear HA
       simp only [impl_CountCrowd.l1] at H
       by_cases c10 : x13_2 < 10
       ·rw [if_pos c10] at H
        have c10b0 : decide (x13_2 < 10) = true := decide_eq_true c10
        clear c10
        by_cases c11 : 0 ≤ x13_2
        ·rw [if_pos c11] at H
         have c11b0 : decide (0 ≤ x13_2) = true := decide_eq_true c11
         clear c11
         replace H := Option.bind_eq_some_iff.mp H
         obtain ⟨t312, A120, H⟩ := H
         replace H : (impl_CountCrowd.l1 k2 (wrap64 (x3_2 + t312)) a0 x9_1 (LA.row a0 10 x9_1) (wrap64 (x13_2 + 1))) = some r := H
         have A12 := Aside0.mk A120
         clear A120
         have H' := Aside0.mk H
         clear H
         have hixd13 : ∀ W_ : World, (Instr.index 24 (.agg (mixA (Value.int .u16) [] (LA.row a0 10 x9_1))) (.int .i64 x13_2)).run Tryd.prog W_ = .ok (.int .u16 (rd (LA.row a0 10 x9_1).l x13_2)) W_ := fun W_ => idx_la (e := (Value.int .u16)) Tryd.underlying24 (fun _ => by kernel_rfl) (fun _ => by kernel_rfl) x13_2 (by first | omega | exact of_decide_eq_true (by first | (with_reducible assumption) | assumption)) (by first | omega | exact of_decide_eq_true (by first | (with_reducible assumption) | assumption)) W_
         go_wp2_with (first | ((with_reducible refine gate_callee (f := 52) rfl ?_); refine goesL_ (some 19) rfl rfl Tryd.func52 (by kernel_rfl) rfl #[.int .u16 (Go.bits .and .u16 (rd (LA.row a0 10 x9_1).l x13_2) 1023)] rfl (by (try simp only [List.map_toArray, List.map_cons, List.map_nil]); first | done | rfl | (simp only [List.length_drop, List.length_take]; rfl)) ?_; (with_reducible refine (bits_OnesCount16.calls (Go.bits .and .u16 (rd (LA.row a0 10 x9_1).l x13_2) 1023) t312 _ A12.out).mono ?_); rintro e w' ⟨rfl, ⟨nd, rfl⟩⟩; refine ⟨_, rfl, ?_⟩))
         go_roundg k2
         case measure => have := HK1.out; have := HK2.out; omega
         case rel => exact ⟨(wrap64 (x3_2 + t312)), (wrap64 (x13_2 + 1)), (by first | rfl | (simp; done) | (simp [*]; done)), (by first | rfl | (simp; done) | (simp [*]; done)), H', ⟨by have := HK1.out; have := HK2.out; omega⟩, ⟨pk BK310⟩, ⟨pk BK311⟩, ⟨pbs HB⟩⟩
        ·rw [if_neg c11] at H
         exact absurd H (by simp)
       ·rw [if_neg c10] at H
        have c10b0 : decide (x13_2 < 10) = false := decide_eq_false c10
        clear c10
        have H' := Aside0.mk H
        clear H
        go_wp2
        go_roundg k2
        case measure => have := HK1.out; have := HK2.out; omega
        case rel => exact ⟨(x3_2), (wrap64 (x9_1 + 1)), (by first | rfl | (simp; done) | (simp [*]; done)), (by first | rfl | (simp; done) | (simp [*]; done)), H', ⟨by have := HK1.out; have := HK2.out; omega⟩, ⟨pk BK310⟩, ⟨pbs HB⟩⟩
    ·rw [if_neg c5] at H
     exact absurd H (by simp)
   ·rw [if_neg c4] at H
    have c4b0 : decide (x9_1 < 4) = false := decide_eq_false c4
    clear c4
    obtain rfl := Option.some.inj H
    go_wp2
    go_ret
    exact ⟨by first | rfl | (simp [errW_none, errW_some] <;> rfl) | (simp [*, errW_none, errW_some] <;> rfl), pbs HB⟩
end Go.Proofs.YtdedijjbdkoekaaDoor.PB
end
section
namespace Go.Proofs.YtdedijjbdkoekaaDoor.PB
open Go.RowKit Go.Proofs.YtdedijjbdkoekaaDoorW.PrintWords Go.Proofs.YtdedijjbdkoekaaDoorW.PrintLast Go.Proofs.YtdedijjbdkoekaaDoorW.PrintMore Go.Proofs.YtdedijjbdkoekaaDoor.La
attribute [local go_sem] max2_int min2_int max_two min_two max_three min_three max_four min_four   -- for this text's walks alone
set_option linter.unusedVariables false
set_option linter.unusedSimpArgs false
mutual
def impl_WhereBegun.l0 : Nat → ByteArray → List (S41) → Int → Int → Int → Int → LA 10 → LA 40 → Option (LA 40 × Int)
 | 0, _, _, _, _, _, _, _, _ => none
 | k + 1, x1, x24, x25, x26, x314000, x314001, x314002, x318000 => if x26 < x25 then (if 0 ≤ x26 then (if x26 < (x24.length : Int) then (impl_WhereBegun.l1 k x1 x24 x25 x26 0 x314000 x314001 x314002 x318000 ((rd_T41 x24 x26).f0) ((rd_T41 x24 x26).f1)) else (none)) else (none)) else (some (x318000, 0))
def impl_WhereBegun.l1 : Nat → ByteArray → List (S41) → Int → Int → Int → Int → Int → LA 10 → LA 40 → Int → Int → Option (LA 40 × Int)
 | 0, _, _, _, _, _, _, _, _, _, _, _ => none
 | k + 1, x1, x24, x25, x26, x30, x314000, x314001, x314002, x318000, x323000, x323001 => if x30 < 4 then ((impl_Crowd_set.f (LA.zero 40) x323000 x323001 x30).bind fun t324 => ((impl_Crowd_movedBy.f k t324 x314000 x314001 x314002 x1).bind fun t325 => ((impl_CountCrowd.f k t325).bind fun t326 => (if t326 > 0 then ((impl_Crowd_set.f x318000 x323000 x323001 x30).bind fun t327 => (impl_WhereBegun.l1 k x1 x24 x25 x26 (wrap64 (x30 + 1)) x314000 x314001 x314002 t327 x323000 x323001)) else (impl_WhereBegun.l1 k x1 x24 x25 x26 (wrap64 (x30 + 1)) x314000 x314001 x314002 x318000 x323000 x323001))))) else (impl_WhereBegun.l0 k x1 x24 x25 (wrap64 (x26 + 1)) x314000 x314001 x314002 x318000)
end
def impl_WhereBegun.f (k : Nat) (a0_0 : Int) (a0_1 : Int) (a0_2 : LA 10) (a1 : ByteArray) : Option (LA 40 × Int) := (impl_ValidRoom.f k a0_0 a0_1 a0_2).bind fun t315 => (if t315 = true then ((impl_movesCode.f a1).bind fun t316 => (if t316 = 0 then ((impl_Room_free.f k a0_0 a0_1 a0_2).bind fun t318 => (impl_WhereBegun.l0 k a1 t318 (t318.length : Int) 0 a0_0 a0_1 a0_2 (LA.zero 40))) else (some ((LA.zero 40), t316)))) else (some ((LA.zero 40), 1)))
theorem impl_WhereBegun.mono_l : ∀ k, (∀ y0 y1 y2 y3 y4 y5 y6 y7, LeO (impl_WhereBegun.l0 k y0 y1 y2 y3 y4 y5 y6 y7) (impl_WhereBegun.l0 (k + 1) y0 y1 y2 y3 y4 y5 y6 y7)) ∧ (∀ y0 y1 y2 y3 y4 y5 y6 y7 y8 y9 y10, LeO (impl_WhereBegun.l1 k y0 y1 y2 y3 y4 y5 y6 y7 y8 y9 y10) (impl_WhereBegun.l1 (k + 1) y0 y1 y2 y3 y4 y5 y6 y7 y8 y9 y10))
 | 0 => ⟨fun _ _ _ _ _ _ _ _ r h => by simp [impl_WhereBegun.l0] at h, fun _ _ _ _ _ _ _ _ _ _ _ r h => by simp [impl_WhereBegun.l1] at h⟩
 | k + 1 => by
  obtain ⟨ih0, ih1⟩ := impl_WhereBegun.mono_l k
  refine ⟨?_, ?_⟩
  ·intro y0 y1 y2 y3 y4 y5 y6 y7
   unfold impl_WhereBegun.l0
   repeat' first
   | (with_reducible exact ih0 _ _ _ _ _ _ _ _)
   | (with_reducible exact ih1 _ _ _ _ _ _ _ _ _ _ _)
   | (with_reducible exact impl_CountCrowd.mono _ _)
   | (with_reducible exact impl_Crowd_movedBy.mono _ _ _ _ _ _)
   | (with_reducible exact impl_Room_free.mono _ _ _ _)
   | (with_reducible exact impl_ValidRoom.mono _ _ _ _)
   | (with_reducible exact LeO.refl _)
   | (with_reducible exact LeO.none _)
   | (with_reducible refine LeO.ite ?_ ?_)
   | (with_reducible refine LeO.bind ?_ (fun _ => ?_))
   | exact ih0 _ _ _ _ _ _ _ _
   | exact ih1 _ _ _ _ _ _ _ _ _ _ _
   | exact impl_CountCrowd.mono _ _
   | exact impl_Crowd_movedBy.mono _ _ _ _ _ _
   | exact impl_Room_free.mono _ _ _ _
   | exact impl_ValidRoom.mono _ _ _ _
   | exact LeO.none _
   | refine LeO.ite ?_ ?_
   | refine LeO.bind ?_ (fun _ => ?_)
  ·intro y0 y1 y2 y3 y4 y5 y6 y7 y8 y9 y10
   unfold impl_WhereBegun.l1
   repeat' first
   | (with_reducible exact ih0 _ _ _ _ _ _ _ _)
   | (with_reducible exact ih1 _ _ _ _ _ _ _ _ _ _ _)
   | (with_reducible exact impl_CountCrowd.mono _ _)
   | (with_reducible exact impl_Crowd_movedBy.mono _ _ _ _ _ _)
   | (with_reducible exact impl_Room_free.mono _ _ _ _)
   | (with_reducible exact impl_ValidRoom.mono _ _ _ _)
   | (with_reducible exact LeO.refl _)
   | (with_reducible exact LeO.none _)
   | (with_reducible refine LeO.ite ?_ ?_)
   | (with_reducible refine LeO.bind ?_ (fun _ => ?_))
   | exact ih0 _ _ _ _ _ _ _ _
   | exact ih1 _ _ _ _ _ _ _ _ _ _ _
   | exact impl_CountCrowd.mono _ _
   | exact impl_Crowd_movedBy.mono _ _ _ _ _ _
   | exact impl_Room_free.mono _ _ _ _
   | exact impl_ValidRoom.mono _ _ _ _
   | exact LeO.none _
   | refine LeO.ite ?_ ?_
   | refine LeO.bind ?_ (fun _ => ?_)
theorem impl_WhereBegun.mono : ∀ a0 a1 a2 a3 k, LeO (impl_WhereBegun.f k a0 a1 a2 a3) (impl_WhereBegun.f (k + 1) a0 a1 a2 a3) := by
 intro a0 a1 a2 a3 k
 obtain ⟨ih0, ih1⟩ := impl_WhereBegun.mono_l k
 unfold impl_WhereBegun.f
 repeat' first
   | (with_reducible exact ih0 _ _ _ _ _ _ _ _)
   | (with_reducible exact ih1 _ _ _ _ _ _ _ _ _ _ _)
   | (with_reducible exact impl_CountCrowd.mono _ _)
   | (with_reducible exact impl_Crowd_movedBy.mono _ _ _ _ _ _)
   | (with_reducible exact impl_Room_free.mono _ _ _ _)
   | (with_reducible exact impl_ValidRoom.mono _ _ _ _)
   | (with_reducible exact LeO.refl _)
   | (with_reducible exact LeO.none _)
   | (with_reducible refine LeO.ite ?_ ?_)
   | (with_reducible refine LeO.bind ?_ (fun _ => ?_))
   | exact ih0 _ _ _ _ _ _ _ _
   | exact ih1 _ _ _ _ _ _ _ _ _ _ _
   | exact impl_CountCrowd.mono _ _
   | exact impl_Crowd_movedBy.mono _ _ _ _ _ _
   | exact impl_Room_free.mono _ _ _ _
   | exact impl_ValidRoom.mono _ _ _ _
   | exact LeO.none _
   | refine LeO.ite ?_ ?_
   | refine LeO.bind ?_ (fun _ => ?_)
set_option maxHeartbeats 8000000 in
set_option maxRecDepth 100000 in
theorem impl_WhereBegun.calls (k : Nat) (a0_0 : Int) (a0_1 : Int) (a0_2 : LA 10) (a1 : ByteArray) (r1 : LA 40) (r2 : Int) (w : World) (h : impl_WhereBegun.f k a0_0 a0_1 a0_2 a1 = some (r1, r2)) :
  Calls Tryd.prog 9 #[.agg (mixA (Value.int .u16) [.int .i8 a0_0, .int .i8 a0_1] a0_2), .string a1] w fun e w' => e = .returned (.tuple #[.agg (mixA (Value.int .u16) [] r1), .int .i64 r2]) ∧ Below w.heap.size w w' := by
 have hu31 := Tryd.underlying31
 have hu41 := Tryd.underlying41
 have HB := Aside0.mk (Below.refl w.heap.size w)
 have H : ((impl_ValidRoom.f k a0_0 a0_1 a0_2).bind fun t315 => (if t315 = true then ((impl_movesCode.f a1).bind fun t316 => (if t316 = 0 then ((impl_Room_free.f k a0_0 a0_1 a0_2).bind fun t318 => (impl_WhereBegun.l0 k a1 t318 (t318.length : Int) 0 a0_0 a0_1 a0_2 (LA.zero 40))) else (some ((LA.zero 40), t316)))) else (some ((LA.zero 40), 1)))) = some (r1, r2) := h
 clear h
 replace H := Option.bind_eq_some_iff.mp H
 obtain ⟨t315, A30, H⟩ := H
 replace H : (if t315 = true then ((impl_movesCode.f a1).bind fun t316 => (if t316 = 0 then ((impl_Room_free.f k a0_0 a0_1 a0_2).bind fun t318 => (impl_WhereBegun.l0 k a1 t318 (t318.length : Int) 0 a0_0 a0_1 a0_2 (LA.zero 40))) else (some ((LA.zero 40), t316)))) else (some ((LA.zero 40), 1))) = some (r1, r2) := H
 have A3 := Aside0.mk A30
 clear A30
 by_cases c4 : t315 = true
 ·subst c4
  have H1 : ((impl_movesCode.f a1).bind fun t316 => (if t316 = 0 then ((impl_Room_free.f k a0_0 a0_1 a0_2).bind fun t318 => (impl_WhereBegun.l0 k a1 t318 (t318.length : Int) 0 a0_0 a0_1 a0_2 (LA.zero 40))) else (some ((LA.zero 40), t316)))) = some (r1, r2) := by rw [if_pos rfl] at H; exact H
  clear H
  have H := H1
  clear H1
  replace H := Option.bind_eq_some_iff.mp H
  obtain ⟨t316, A50, H⟩ := H
  replace H : (if t316 = 0 then ((impl_Room_free.f k a0_0 a0_1 a0_2).bind fun t318 => (impl_WhereBegun.l0 k a1 t318 (t318.length : Int) 0 a0_0 a0_1 a0_2 (LA.zero 40))) else (some ((LA.zero 40), t316))) = some (r1, r2) := H
  have A5 := Aside0.mk A50
  clear A50
  by_cases c6 : t316 = 0
  ·rw [if_pos c6] at H
   have c6b0 : (t316 == 0) = true := beq_iff_eq.mpr c6
   have c6b1 : (t316 != 0) = false := bne_eq_false_iff_eq.mpr c6
   clear c6
   replace H := Option.bind_eq_some_iff.mp H
   obtain ⟨t318, A70, H⟩ := H
   replace H : (impl_WhereBegun.l0 k a1 t318 (t318.length : Int) 0 a0_0 a0_1 a0_2 (LA.zero 40)) = some (r1, r2) := H
   have A7 := Aside0.mk A70
   clear A70
   have H' := Aside0.mk H
   clear H
   go_enter Tryd.func9, Tryd.ntmps9
   go_wp2_with (first | ((with_reducible refine gate_dst (N := 2) rfl ?_); refine box_event ?hg (N := 2) ?hd (cs := (mixA (Value.int .u16) [.int .i8 a0_0, .int .i8 a0_1] a0_2)) (t := 31) ?hr ?_; (case hd => rfl); (case hg => rfl); (case hr => first | (go_simp; done) | (go_simp; rfl)); intro gb313 hg w8 hbox hb; have n0_ := bst HB hb; have n1_ := Aside0.mk (hbox); have n2_ := gwl HB hg; have n3_ := gwl HB hg; clear HB; have HB := n0_; have BK313 := n1_; have GW313 := n2_; have GE313 := n3_; clear n0_ n1_ n2_ n3_; clear hb hbox hg) | ((with_reducible refine gate_dst (N := 4) rfl ?_); refine box_event ?hg (N := 4) ?hd (cs := (mixA (Value.int .u16) [] (LA.zero 40))) (t := 28) ?hr ?_; (case hd => rfl); (case hg => rfl); (case hr => first | (go_simp; done) | (go_simp; rfl)); intro gb314 hg w9 hbox hb; have n0_ := bkb BK313 hb; have n1_ := bst HB hb; have n2_ := Aside0.mk (hbox); have n3_ := gwl HB hg; have n4_ := gwl HB hg; have n5_ := nbl BK313 hg; have n6_ := nbg BK313 hg; clear BK313; clear HB; have BK313 := n0_; have HB := n1_; have BK314 := n2_; have GW314 := n3_; have GE314 := n4_; have NB313_314 := n5_; have NB314_313 := n6_; clear n0_ n1_ n2_ n3_ n4_ n5_ n6_; clear hb hbox hg) | ((with_reducible refine gate_dst (N := 12) rfl ?_); refine wpList_run0 (v := .agg (mixA (Value.int .u16) [.int .i8 a0_0, .int .i8 a0_1] a0_2)) rfl (load_mix_run (P := Tryd.prog) 31 (.tmp 2) rfl gb313 rfl (show World.rangeAt _ gb313 0 ([.int .i8 a0_0, .int .i8 a0_1] ++ a0_2.l.map (Value.int .u16)) from mix_range (show (World.heap _)[gb313]? = some (.cells (mixA (Value.int .u16) [.int .i8 a0_0, .int .i8 a0_1] a0_2) 31 (0, 0)) from by (with_reducible repeat (first | refine blk_drewN ?_ _ | refine blk_drew ?_ | refine blk_alloc ?_ _)); exact BK313.out)) Tryd.underlying31 rfl (by kernel_rfl) rfl) ?_) | ((with_reducible refine gate_callee (f := 26) rfl ?_); refine goesL_ (some 13) rfl rfl Tryd.func26 (by kernel_rfl) rfl #[.agg (mixA (Value.int .u16) [.int .i8 a0_0, .int .i8 a0_1] a0_2)] rfl (by (try simp only [List.map_toArray, List.map_cons, List.map_nil]); first | done | rfl | (simp only [List.length_drop, List.length_take]; rfl)) ?_; (with_reducible refine (impl_ValidRoom.calls k a0_0 a0_1 a0_2 true _ A3.out).mono ?_); rintro e w11 ⟨rfl, hb⟩; refine ⟨_, rfl, ?_⟩; have n0_ := bkb BK313 hb; have n1_ := bkb BK314 hb; have n2_ := bst HB hb; clear BK313; clear BK314; clear HB; have BK313 := n0_; have BK314 := n1_; have HB := n2_; clear n0_ n1_ n2_; (try clear hb); (try clear hb2); (try clear hk); (try clear hi)) | ((with_reducible refine gate_callee (f := 27) rfl ?_); refine goesL_ (some 17) rfl rfl Tryd.func27 (by kernel_rfl) rfl #[.string a1] rfl (by (try simp only [List.map_toArray, List.map_cons, List.map_nil]); first | done | rfl | (simp only [List.length_drop, List.length_take]; rfl)) ?_; (with_reducible refine (impl_movesCode.calls a1 t316 _ A5.out).mono ?_); rintro e w12 ⟨rfl, hb⟩; refine ⟨_, rfl, ?_⟩; have n0_ := bkb BK313 hb; have n1_ := bkb BK314 hb; have n2_ := bst HB hb; clear BK313; clear BK314; clear HB; have BK313 := n0_; have BK314 := n1_; have HB := n2_; clear n0_ n1_ n2_; (try clear hb); (try clear hb2); (try clear hk); (try clear hi)) | ((with_reducible refine gate_dst (N := 7) rfl ?_); refine box_event ?hg (N := 7) ?hd (cs := (mixA (Value.int .u16) [] (LA.zero 40))) (t := 28) ?hr ?_; (case hd => rfl); (case hg => rfl); (case hr => first | (go_simp; done) | (go_simp; rfl)); intro gb317 hg w13 hbox hb; have n0_ := bkb BK313 hb; have n1_ := bkb BK314 hb; have n2_ := bst HB hb; have n3_ := Aside0.mk (hbox); have n4_ := gwl HB hg; have n5_ := gwl HB hg; have n6_ := nbl BK313 hg; have n7_ := nbg BK313 hg; have n8_ := nbl BK314 hg; have n9_ := nbg BK314 hg; clear BK313; clear BK314; clear HB; have BK313 := n0_; have BK314 := n1_; have HB := n2_; have BK317 := n3_; have GW317 := n4_; have GE317 := n5_; have NB313_317 := n6_; have NB317_313 := n7_; have NB314_317 := n8_; have NB317_314 := n9_; clear n0_ n1_ n2_ n3_ n4_ n5_ n6_ n7_ n8_ n9_; clear hb hbox hg) | ((with_reducible refine gate_store (p := 7) rfl ?_); refine wpList_store_lmix rfl 28 _ _ rfl gb317 (e := (Value.int .u16)) (cs' := []) (W' := (LA.zero 40)) (cs := []) (W := (LA.zero 40)) (T := 28) rfl rfl (pk BK317) rfl (by kernel_rfl) rfl (fun _ => rfl) rfl ?_; intro w14 hi hk hbl; have n0_ := Aside0.mk (KeepBut.blk hk (g' := gb313) (o := .cells (mixA (Value.int .u16) [.int .i8 a0_0, .int .i8 a0_1] a0_2) 31 (0, 0)) (pk BK313) NB313_317.out (by simp)); have n1_ := Aside0.mk (KeepBut.blk hk (g' := gb314) (o := .cells (mixA (Value.int .u16) [] (LA.zero 40)) 28 (0, 0)) (pk BK314) NB314_317.out (by simp)); have n2_ := Aside0.mk (hbl _ _ (pbs HB) GE317.out); have n3_ := Aside0.mk (hi); clear BK313; clear BK314; clear HB; clear BK317; have BK313 := n0_; have BK314 := n1_; have HB := n2_; have BK317 := n3_; clear n0_ n1_ n2_ n3_; clear hi hk hbl) | ((with_reducible refine gate_dst (N := 23) rfl ?_); refine wpList_run0 (v := .agg (mixA (Value.int .u16) [.int .i8 a0_0, .int .i8 a0_1] a0_2)) rfl (load_mix_run (P := Tryd.prog) 31 (.tmp 2) rfl gb313 rfl (show World.rangeAt _ gb313 0 ([.int .i8 a0_0, .int .i8 a0_1] ++ a0_2.l.map (Value.int .u16)) from mix_range (show (World.heap _)[gb313]? = some (.cells (mixA (Value.int .u16) [.int .i8 a0_0, .int .i8 a0_1] a0_2) 31 (0, 0)) from by (with_reducible repeat (first | refine blk_drewN ?_ _ | refine blk_drew ?_ | refine blk_alloc ?_ _)); exact BK313.out)) Tryd.underlying31 rfl (by kernel_rfl) rfl) ?_) | ((with_reducible refine gate_callee (f := 28) rfl ?_); refine goesL_ (some 24) rfl rfl Tryd.func28 (by kernel_rfl) rfl #[.agg (mixA (Value.int .u16) [.int .i8 a0_0, .int .i8 a0_1] a0_2)] rfl (by (try simp only [List.map_toArray, List.map_cons, List.map_nil]); first | done | rfl | (simp only [List.length_drop, List.length_take]; rfl)) ?_; (with_reducible refine (impl_Room_free.calls k a0_0 a0_1 a0_2 t318 _ A7.out).mono ?_); rintro e w16 ⟨v319, rfl, ho0, hb⟩; refine ⟨_, rfl, ?_⟩; have n0_ := Aside0.mk (Kd.R_lower ho0 (below_size (by repeat (first | (with_reducible first | exact HB.out | apply below_alloc | apply pw_below_drewN | apply below_drew1 | refine below_set ?_ GE313.out | refine below_set ?_ GE314.out | refine below_set ?_ GE317.out) | exact HB.out)))); have n1_ := bkb BK313 hb; have n2_ := bkb BK314 hb; have n3_ := bkb BK317 hb; have n4_ := bst HB hb; clear BK313; clear BK314; clear BK317; clear HB; have HO320 := n0_; have BK313 := n1_; have BK314 := n2_; have BK317 := n3_; have HB := n4_; clear n0_ n1_ n2_ n3_ n4_; (try clear hb); (try clear hb2); (try clear hk); (try clear hi); (try clear ho0); obtain ⟨Ao17, co17, eo17⟩ := Kd.R_slice HO320.out; subst eo17))
   go_loopg [26] k (fun kq v26 w' => ∃ (x26_1 : Int) (x318000_1 : LA 40), v26 = .int .i64 x26_1 ∧ Aside0 (impl_WhereBegun.l0 kq a1 t318 (t318.length : Int) x26_1 a0_0 a0_1 a0_2 x318000_1 = some (r1, r2)) ∧ Aside0 (kq ≤ k) ∧ Aside0 (Kd.R k41 41 w' w.heap.size (fun _ => True) (.slice Ao17 t318.length co17) t318) ∧ Aside0 (w'.heap[gb313]? = some (.cells (mixA (Value.int .u16) [.int .i8 a0_0, .int .i8 a0_1] a0_2) 31 (0, 0))) ∧ Aside0 (w'.heap[gb314]? = some (.cells (mixA (Value.int .u16) [] (LA.zero 40)) 28 (0, 0))) ∧ Aside0 (w'.heap[gb317]? = some (.cells (mixA (Value.int .u16) [] x318000_1) 28 (0, 0))) ∧ Aside0 (Below w.heap.size w w'))
   case atStart => exact ⟨(0), ((LA.zero 40)), (by first | rfl | (simp; done) | (simp [*]; done)), H', ⟨Nat.le_refl _⟩, ⟨by (with_reducible repeat (first | apply Kd.R_alloc | apply Kd.R_drewN | apply Kd.R_drew)); exact HO320.out⟩, ⟨pk BK313⟩, ⟨pk BK314⟩, ⟨pk BK317⟩, ⟨pbs HB⟩⟩
   case round =>
    clear H'
    try clear c2
    try clear p2
    try clear c4
    try clear c6
    try clear c6b0
    try clear c6b1
    try clear c9
    obtain ⟨x26_1, x318000_1, rfl, HA, HK1, HO_24, BK313, BK314, BK317, HB⟩ := hrel
    cases gk with
    | zero => exact absurd HA.out (by simp [impl_WhereBegun.l0])
    | succ k1 =>
     have H := HA.out
     clear HA
     simp only [impl_WhereBegun.l0] at H
     by_cases c18 : x26_1 < (t318.length : Int)
     ·rw [if_pos c18] at H
      have c18b0 : decide (x26_1 < (t318.length : Int)) = true := decide_eq_true c18
      clear c18
      by_cases c19 : 0 ≤ x26_1
      ·rw [if_pos c19] at H
       have c19b0 : decide (0 ≤ x26_1) = true := decide_eq_true c19
       clear c19
       by_cases c20 : x26_1 < (t318.length : Int)
       ·rw [if_pos c20] at H
        have c20b0 : decide (x26_1 < (t318.length : Int)) = true := decide_eq_true c20
        clear c20
        have H' := Aside0.mk H
        clear H
        have p321 : 0 ≤ (x26_1 : Int) := of_decide_eq_true (by first | (with_reducible assumption) | assumption)
        have q321 : x26_1 < (t318.length : Int) := of_decide_eq_true (by first | (with_reducible assumption) | assumption)
        obtain ⟨ad321, e321, hx321_0, hx321_1⟩ := at_T41 (Kd.R_reads' HO_24.out).2.2 x26_1 p321 q321
        cases e321
        replace p321 := eq_true p321
        replace q321 := eq_true q321
        go_wp2_with (first | ((with_reducible refine gate_dst (N := 9) rfl ?_); refine box_event ?hg (N := 9) ?hd (cs := #[.int .i8 0, .int .i8 0]) (t := 41) ?hr ?_; (case hd => rfl); (case hg => rfl); (case hr => first | (go_simp; done) | (go_simp; rfl)); intro gb322 hg w21 hbox hb; have n0_ := Aside0.mk (Kd.R_below (Kd.R_elderB (by (with_reducible repeat (first | apply Kd.R_alloc | apply Kd.R_drewN | apply Kd.R_drew)); exact HO_24.out) gb322 (Nat.le_of_eq hg.symm)) hb); have n1_ := bkb BK313 hb; have n2_ := bkb BK314 hb; have n3_ := bkb BK317 hb; have n4_ := bst HB hb; have n5_ := Aside0.mk (hbox); have n6_ := gwl HB hg; have n7_ := gwl HB hg; have n8_ := nbl BK313 hg; have n9_ := nbg BK313 hg; have n10_ := nbl BK314 hg; have n11_ := nbg BK314 hg; have n12_ := nbl BK317 hg; have n13_ := nbg BK317 hg; clear HO_24; clear BK313; clear BK314; clear BK317; clear HB; have HO_24 := n0_; have BK313 := n1_; have BK314 := n2_; have BK317 := n3_; have HB := n4_; have BK322 := n5_; have GW322 := n6_; have GE322 := n7_; have NB313_322 := n8_; have NB322_313 := n9_; have NB314_322 := n10_; have NB322_314 := n11_; have NB317_322 := n12_; have NB322_317 := n13_; clear n0_ n1_ n2_ n3_ n4_ n5_ n6_ n7_ n8_ n9_ n10_ n11_ n12_ n13_; clear hb hbox hg; have hnb22 := NB322_313.out; have hnc22 := NB313_322.out; have hnb23 := NB322_314.out; have hnc23 := NB314_322.out; have hnb24 := NB322_317.out; have hnc24 := NB317_322.out; have hcz25_0 : w21.cell? ⟨gb322, 0, none⟩ = some (.int .i8 0) := (blk_cell BK322.out 0).trans rfl; have hcz25_1 : w21.cell? ⟨gb322, 1, none⟩ = some (.int .i8 0) := (blk_cell BK322.out 1).trans rfl; have hfz25_0 := blk_frozen BK322.out 0; have hfz25_1 := blk_frozen BK322.out 1))
        go_loopg [30] k1 (fun kq v30 w' => ∃ (x30_2 : Int) (x318000_2 : LA 40), v30 = .int .i64 x30_2 ∧ Aside0 (impl_WhereBegun.l1 kq a1 t318 (t318.length : Int) x26_1 x30_2 a0_0 a0_1 a0_2 x318000_2 ((rd_T41 t318 x26_1).f0) ((rd_T41 t318 x26_1).f1) = some (r1, r2)) ∧ Aside0 (kq ≤ k1) ∧ Aside0 (Kd.R k41 41 w' w.heap.size (fun k_ => k_ ≠ gb322) (.slice (some ad321) t318.length co17) t318) ∧ Aside0 (w'.heap[gb313]? = some (.cells (mixA (Value.int .u16) [.int .i8 a0_0, .int .i8 a0_1] a0_2) 31 (0, 0))) ∧ Aside0 (w'.heap[gb314]? = some (.cells (mixA (Value.int .u16) [] (LA.zero 40)) 28 (0, 0))) ∧ Aside0 (w'.heap[gb317]? = some (.cells (mixA (Value.int .u16) [] x318000_2) 28 (0, 0))) ∧ Aside0 (w'.heap[gb322]? = some (.cells #[.int .i8 ((rd_T41 t318 x26_1).f0), .int .i8 ((rd_T41 t318 x26_1).f1)] 41 (0, 0))) ∧ Aside0 (Below w.heap.size w w'))
        case atStart => exact ⟨(0), (x318000_1), (by first | rfl | (simp; done) | (simp [*]; done)), H', ⟨Nat.le_refl _⟩, ⟨by (with_reducible repeat (first | apply Kd.R_alloc | apply Kd.R_drewN | apply Kd.R_drew)); exact Kd.R_mono (Kd.R_far (p := ⟨gb322, 1, none⟩) (Kd.R_far (p := ⟨gb322, 0, none⟩) (Kd.R_mono HO_24.out (fun k_ hk => (⟨hk, hk.2⟩ : _ ∧ k_ ≠ gb322))) (fun _ hk => hk.2) (.int .i8 ((rd_T41 t318 x26_1).f0))) (fun _ hk => hk.2) (.int .i8 ((rd_T41 t318 x26_1).f1))) (fun _ hk => hk.1.2)⟩, ⟨by (with_reducible repeat (first | refine blk_drewN ?_ _ | refine blk_drew ?_ | refine blk_alloc ?_ _)); refine blk_far ?_ NB313_322.out _; (with_reducible repeat (first | refine blk_drewN ?_ _ | refine blk_drew ?_ | refine blk_alloc ?_ _)); refine blk_far ?_ NB313_322.out _; (with_reducible repeat (first | refine blk_drewN ?_ _ | refine blk_drew ?_ | refine blk_alloc ?_ _)); exact BK313.out⟩, ⟨by (with_reducible repeat (first | refine blk_drewN ?_ _ | refine blk_drew ?_ | refine blk_alloc ?_ _)); refine blk_far ?_ NB314_322.out _; (with_reducible repeat (first | refine blk_drewN ?_ _ | refine blk_drew ?_ | refine blk_alloc ?_ _)); refine blk_far ?_ NB314_322.out _; (with_reducible repeat (first | refine blk_drewN ?_ _ | refine blk_drew ?_ | refine blk_alloc ?_ _)); exact BK314.out⟩, ⟨by (with_reducible repeat (first | refine blk_drewN ?_ _ | refine blk_drew ?_ | refine blk_alloc ?_ _)); refine blk_far ?_ NB317_322.out _; (with_reducible repeat (first | refine blk_drewN ?_ _ | refine blk_drew ?_ | refine blk_alloc ?_ _)); refine blk_far ?_ NB317_322.out _; (with_reducible repeat (first | refine blk_drewN ?_ _ | refine blk_drew ?_ | refine blk_alloc ?_ _)); exact BK317.out⟩, ⟨by (with_reducible repeat (first | refine blk_drewN ?_ _ | refine blk_drew ?_ | refine blk_alloc ?_ _)); refine blk_put (cs := #[.int .i8 ((rd_T41 t318 x26_1).f0), .int .i8 0]) ?_ 1 _ rfl; (with_reducible repeat (first | refine blk_drewN ?_ _ | refine blk_drew ?_ | refine blk_alloc ?_ _)); refine blk_put (cs := #[.int .i8 0, .int .i8 0]) ?_ 0 _ rfl; (with_reducible repeat (first | refine blk_drewN ?_ _ | refine blk_drew ?_ | refine blk_alloc ?_ _)); exact BK322.out⟩, ⟨pbs HB⟩⟩
        case round =>
         clear H'
         try clear c1
         try clear c2
         try clear p2
         try clear p3
         try clear q3
         try clear hx3
         try clear c4
         try clear c6
         try clear c6b0
         try clear c6b1
         try clear c9
         try clear c18
         try clear c18b0
         try clear c19
         try clear c19b0
         try clear c20
         try clear c20b0
         try clear c22
         try clear c23
         try clear c24
         try clear hcz25_0
         try clear hcz25_1
         try clear hfz25_0
         try clear hfz25_1
         try clear hx321_0
         try clear hx321_1
         try clear p2
         try clear p321
         try clear q321
         obtain ⟨x30_2, x318000_2, rfl, HA, HK2, HO_24, BK313, BK314, BK317, BK322, HB⟩ := hrel
         cases gk with
         | zero => exact absurd HA.out (by simp [impl_WhereBegun.l1])
         | succ k2 =>
          have H := HA.out
          clear HA
          simp only [impl_WhereBegun.l1] at H
          by_cases c26 : x30_2 < 4
          ·rw [if_pos c26] at H
           have c26b0 : decide (x30_2 < 4) = true := decide_eq_true c26
           clear c26
           replace H := Option.bind_eq_some_iff.mp H
           obtain ⟨t324, A270, H⟩ := H
           replace H : ((impl_Crowd_movedBy.f k2 t324 a0_0 a0_1 a0_2 a1).bind fun t325 => ((impl_CountCrowd.f k2 t325).bind fun t326 => (if t326 > 0 then ((impl_Crowd_set.f x318000_2 ((rd_T41 t318 x26_1).f0) ((rd_T41 t318 x26_1).f1) x30_2).bind fun t327 => (impl_WhereBegun.l1 k2 a1 t318 (t318.length : Int) x26_1 (wrap64 (x30_2 + 1)) a0_0 a0_1 a0_2 t327 ((rd_T41 t318 x26_1).f0) ((rd_T41 t318 x26_1).f1))) else (impl_WhereBegun.l1 k2 a1 t318 (t318.length : Int) x26_1 (wrap64 (x30_2 + 1)) a0_0 a0_1 a0_2 x318000_2 ((rd_T41 t318 x26_1).f0) ((rd_T41 t318 x26_1).f1))))) = some (r1, r2) := H
           have A27 := Aside0.mk A270
           clear A270
           replace H := Option.bind_eq_some_iff.mp H
           obtain ⟨t325, A280, H⟩ := H
           replace H : ((impl_CountCrowd.f k2 t325).bind fun t326 => (if t326 > 0 then ((impl_Crowd_set.f x318000_2 ((rd_T41 t318 x26_1).f0) ((rd_T41 t318 x26_1).f1) x30_2).bind fun t327 => (impl_WhereBegun.l1 k2 a1 t318 (t318.length : Int) x26_1 (wrap64 (x30_2 + 1)) a0_0 a0_1 a0_2 t327 ((rd_T41 t318 x26_1).f0) ((rd_T41 t318 x26_1).f1))) else (impl_WhereBegun.l1 k2 a1 t318 (t318.length : Int) x26_1 (wrap64 (x30_2 + 1)) a0_0 a0_1 a0_2 x318000_2 ((rd_T41 t318 x26_1).f0) ((rd_T41 t318 x26_1).f1)))) = some (r1, r2) := H
           have A28 := Aside0.mk A280
           clear A280
           replace H := Option.bind_eq_some_iff.mp H
           obtain ⟨t326, A290, H⟩ := H
           replace H : (if t326 > 0 then ((impl_Crowd_set.f x318000_2 ((rd_T41 t318 x26_1).f0) ((rd_T41 t318 x26_1).f1) x30_2).bind fun t327 => (impl_WhereBegun.l1 k2 a1 t318 (t318.length : Int) x26_1 (wrap64 (x30_2 + 1)) a0_0 a0_1 a0_2 t327 ((rd_T41 t318 x26_1).f0) ((rd_T41 t318 x26_1).f1))) else (impl_WhereBegun.l1 k2 a1 t318 (t318.length : Int) x26_1 (wrap64 (x30_2 + 1)) a0_0 a0_1 a0_2 x318000_2 ((rd_T41 t318 x26_1).f0) ((rd_T41 t318 x26_1).f1))) = some (r1, r2) := H
           have A29 := Aside0.mk A290
           clear A290
           by_cases c30 : t326 > 0
           ·rw [if_pos c30] at H
            have c30b0 : decide (0 < t326) = true := decide_eq_true c30
            clear c30
            replace H := Option.bind_eq_some_iff.mp H
            obtain ⟨t327, A310, H⟩ := H
            replace H : (impl_WhereBegun.l1 k2 a1 t318 (t318.length : Int) x26_1 (wrap64 (x30_2 + 1)) a0_0 a0_1 a0_2 t327 ((rd_T41 t318 x26_1).f0) ((rd_T41 t318 x26_1).f1)) = some (r1, r2) := H
            have A31 := Aside0.mk A310
            clear A310
            have H' := Aside0.mk H
            clear H
            go_wp2_with (first | ((with_reducible refine gate_dst (N := 11) rfl ?_); refine box_event ?hg (N := 11) ?hd (cs := (mixA (Value.int .u16) [] (LA.zero 40))) (t := 28) ?hr ?_; (case hd => rfl); (case hg => rfl); (case hr => first | (go_simp; done) | (go_simp; rfl)); intro gb323 hg w32 hbox hb; have n0_ := krb HO_24 hb; have n1_ := bkb BK313 hb; have n2_ := bkb BK314 hb; have n3_ := bkb BK317 hb; have n4_ := bkb BK322 hb; have n5_ := bst HB hb; have n6_ := Aside0.mk (hbox); have n7_ := gwl HB hg; have n8_ := gwl HB hg; have n9_ := nbl BK313 hg; have n10_ := nbg BK313 hg; have n11_ := nbl BK314 hg; have n12_ := nbg BK314 hg; have n13_ := nbl BK317 hg; have n14_ := nbg BK317 hg; have n15_ := nbl BK322 hg; have n16_ := nbg BK322 hg; clear HO_24; clear BK313; clear BK314; clear BK317; clear BK322; clear HB; have HO_24 := n0_; have BK313 := n1_; have BK314 := n2_; have BK317 := n3_; have BK322 := n4_; have HB := n5_; have BK323 := n6_; have GW323 := n7_; have GE323 := n8_; have NB313_323 := n9_; have NB323_313 := n10_; have NB314_323 := n11_; have NB323_314 := n12_; have NB317_323 := n13_; have NB323_317 := n14_; have NB322_323 := n15_; have NB323_322 := n16_; clear n0_ n1_ n2_ n3_ n4_ n5_ n6_ n7_ n8_ n9_ n10_ n11_ n12_ n13_ n14_ n15_ n16_; clear hb hbox hg) | ((with_reducible refine gate_store (p := 11) rfl ?_); refine wpList_store_lmix rfl 28 _ _ rfl gb323 (e := (Value.int .u16)) (cs' := []) (W' := (LA.zero 40)) (cs := []) (W := (LA.zero 40)) (T := 28) rfl rfl (pk BK323) rfl (by kernel_rfl) rfl (fun _ => rfl) rfl ?_; intro w33 hi hk hbl; have n0_ := Aside0.mk (Kd.R_mono (Kd.R_keep (Kd.R_types (by (with_reducible repeat (first | apply Kd.R_alloc | apply Kd.R_drewN | apply Kd.R_drew)); exact HO_24.out) (pk BK323) (by decide)) hk (fun _ h => h.2)) (fun _ h => h.1)); have n1_ := Aside0.mk (KeepBut.blk hk (g' := gb313) (o := .cells (mixA (Value.int .u16) [.int .i8 a0_0, .int .i8 a0_1] a0_2) 31 (0, 0)) (pk BK313) NB313_323.out (by simp)); have n2_ := Aside0.mk (KeepBut.blk hk (g' := gb314) (o := .cells (mixA (Value.int .u16) [] (LA.zero 40)) 28 (0, 0)) (pk BK314) NB314_323.out (by simp)); have n3_ := Aside0.mk (KeepBut.blk hk (g' := gb317) (o := .cells (mixA (Value.int .u16) [] x318000_2) 28 (0, 0)) (pk BK317) NB317_323.out (by simp)); have n4_ := Aside0.mk (KeepBut.blk hk (g' := gb322) (o := .cells #[.int .i8 ((rd_T41 t318 x26_1).f0), .int .i8 ((rd_T41 t318 x26_1).f1)] 41 (0, 0)) (pk BK322) NB322_323.out (by simp)); have n5_ := Aside0.mk (hbl _ _ (pbs HB) GE323.out); have n6_ := Aside0.mk (hi); clear HO_24; clear BK313; clear BK314; clear BK317; clear BK322; clear HB; clear BK323; have HO_24 := n0_; have BK313 := n1_; have BK314 := n2_; have BK317 := n3_; have BK322 := n4_; have HB := n5_; have BK323 := n6_; clear n0_ n1_ n2_ n3_ n4_ n5_ n6_; clear hi hk hbl; have hnb34 := NB322_313.out; have hnc34 := NB313_322.out; have hnb35 := NB322_314.out; have hnc35 := NB314_322.out; have hnb36 := NB322_317.out; have hnc36 := NB317_322.out; have hnb37 := NB322_323.out; have hnc37 := NB323_322.out; have hcz38_0 : w33.cell? ⟨gb322, 0, none⟩ = some (.int .i8 ((rd_T41 t318 x26_1).f0)) := (blk_cell BK322.out 0).trans rfl; have hcz38_1 : w33.cell? ⟨gb322, 1, none⟩ = some (.int .i8 ((rd_T41 t318 x26_1).f1)) := (blk_cell BK322.out 1).trans rfl; have hfz38_0 := blk_frozen BK322.out 0; have hfz38_1 := blk_frozen BK322.out 1) | ((with_reducible refine gate_callee (f := 29) rfl ?_); refine goesL_ (some 36) rfl rfl Tryd.func29 (by kernel_rfl) rfl #[.pointer (some ⟨gb323, 0, none⟩), .agg #[.int .i8 ((rd_T41 t318 x26_1).f0), .int .i8 ((rd_T41 t318 x26_1).f1)], .int .i64 x30_2] rfl (by (try simp only [List.map_toArray, List.map_cons, List.map_nil]); first | done | rfl | (simp only [List.length_drop, List.length_take]; rfl)) ?_; (with_reducible refine (impl_Crowd_set.calls gb323 (LA.zero 40) ((rd_T41 t318 x26_1).f0) ((rd_T41 t318 x26_1).f1) x30_2 t324 w _ ?side1 ?side2 A27.out).mono ?_); (case side1 => exact ⟨(pk BK323), GE323.out⟩); (case side2 => repeat (first | (with_reducible first | exact HB.out | apply below_alloc | apply pw_below_drewN | apply below_drew1 | refine below_set ?_ GE313.out | refine below_set ?_ GE314.out | refine below_set ?_ GE317.out | refine below_set ?_ GE322.out | refine below_set ?_ GE323.out) | exact HB.out)); rintro e w39 ⟨rfl, hi, hb, hk⟩; refine ⟨_, rfl, ?_⟩; have n0_ := Aside0.mk (Kd.R_mono (Kd.R_keep (Kd.R_types (by (with_reducible repeat (first | apply Kd.R_alloc | apply Kd.R_drewN | apply Kd.R_drew)); exact HO_24.out) (pk BK323) (by decide)) hk (fun _ h => h.2)) (fun _ h => h.1)); have n1_ := Aside0.mk (KeepBut.blk hk (g' := gb313) (o := .cells (mixA (Value.int .u16) [.int .i8 a0_0, .int .i8 a0_1] a0_2) 31 (0, 0)) (pk BK313) NB313_323.out (by simp)); have n2_ := Aside0.mk (KeepBut.blk hk (g' := gb314) (o := .cells (mixA (Value.int .u16) [] (LA.zero 40)) 28 (0, 0)) (pk BK314) NB314_323.out (by simp)); have n3_ := Aside0.mk (KeepBut.blk hk (g' := gb317) (o := .cells (mixA (Value.int .u16) [] x318000_2) 28 (0, 0)) (pk BK317) NB317_323.out (by simp)); have n4_ := Aside0.mk (KeepBut.blk hk (g' := gb322) (o := .cells #[.int .i8 ((rd_T41 t318 x26_1).f0), .int .i8 ((rd_T41 t318 x26_1).f1)] 41 (0, 0)) (pk BK322) NB322_323.out (by simp)); have n5_ := Aside0.mk (hb); have n6_ := Aside0.mk (hi.1); clear HO_24; clear BK313; clear BK314; clear BK317; clear BK322; clear HB; clear BK323; have HO_24 := n0_; have BK313 := n1_; have BK314 := n2_; have BK317 := n3_; have BK322 := n4_; have HB := n5_; have BK323 := n6_; clear n0_ n1_ n2_ n3_ n4_ n5_ n6_; (try clear hb); (try clear hb2); (try clear hk); (try clear hi)) | ((with_reducible refine gate_dst (N := 37) rfl ?_); refine wpList_run0 (v := .agg (mixA (Value.int .u16) [] t324)) rfl (load_mix_run (P := Tryd.prog) 28 (.tmp 11) rfl gb323 rfl (show World.rangeAt _ gb323 0 ([] ++ t324.l.map (Value.int .u16)) from mix_range (show (World.heap _)[gb323]? = some (.cells (mixA (Value.int .u16) [] t324) 28 (0, 0)) from by (with_reducible repeat (first | refine blk_drewN ?_ _ | refine blk_drew ?_ | refine blk_alloc ?_ _)); exact BK323.out)) Tryd.underlying28 rfl (by kernel_rfl) rfl) ?_) | ((with_reducible refine gate_dst (N := 38) rfl ?_); refine wpList_run0 (v := .agg (mixA (Value.int .u16) [.int .i8 a0_0, .int .i8 a0_1] a0_2)) rfl (load_mix_run (P := Tryd.prog) 31 (.tmp 2) rfl gb313 rfl (show World.rangeAt _ gb313 0 ([.int .i8 a0_0, .int .i8 a0_1] ++ a0_2.l.map (Value.int .u16)) from mix_range (show (World.heap _)[gb313]? = some (.cells (mixA (Value.int .u16) [.int .i8 a0_0, .int .i8 a0_1] a0_2) 31 (0, 0)) from by (with_reducible repeat (first | refine blk_drewN ?_ _ | refine blk_drew ?_ | refine blk_alloc ?_ _)); exact BK313.out)) Tryd.underlying31 rfl (by kernel_rfl) rfl) ?_) | ((with_reducible refine gate_callee (f := 31) rfl ?_); refine goesL_ (some 40) rfl rfl Tryd.func31 (by kernel_rfl) rfl #[.agg (mixA (Value.int .u16) [] t324), .agg (mixA (Value.int .u16) [.int .i8 a0_0, .int .i8 a0_1] a0_2), .string a1] rfl (by (try simp only [List.map_toArray, List.map_cons, List.map_nil]); first | done | rfl | (simp only [List.length_drop, List.length_take]; rfl)) ?_; (with_reducible refine (impl_Crowd_movedBy.calls k2 t324 a0_0 a0_1 a0_2 a1 t325 _ A28.out).mono ?_); rintro e w42 ⟨rfl, hb⟩; refine ⟨_, rfl, ?_⟩; have n0_ := krb HO_24 hb; have n1_ := bkb BK313 hb; have n2_ := bkb BK314 hb; have n3_ := bkb BK317 hb; have n4_ := bkb BK322 hb; have n5_ := bkb BK323 hb; have n6_ := bst HB hb; clear HO_24; clear BK313; clear BK314; clear BK317; clear BK322; clear BK323; clear HB; have HO_24 := n0_; have BK313 := n1_; have BK314 := n2_; have BK317 := n3_; have BK322 := n4_; have BK323 := n5_; have HB := n6_; clear n0_ n1_ n2_ n3_ n4_ n5_ n6_; (try clear hb); (try clear hb2); (try clear hk); (try clear hi)) | ((with_reducible refine gate_callee (f := 30) rfl ?_); refine goesL_ (some 41) rfl rfl Tryd.func30 (by kernel_rfl) rfl #[.agg (mixA (Value.int .u16) [] t325)] rfl (by (try simp only [List.map_toArray, List.map_cons, List.map_nil]); first | done | rfl | (simp only [List.length_drop, List.length_take]; rfl)) ?_; (with_reducible refine (impl_CountCrowd.calls k2 t325 t326 _ A29.out).mono ?_); rintro e w43 ⟨rfl, hb⟩; refine ⟨_, rfl, ?_⟩; have n0_ := krb HO_24 hb; have n1_ := bkb BK313 hb; have n2_ := bkb BK314 hb; have n3_ := bkb BK317 hb; have n4_ := bkb BK322 hb; have n5_ := bkb BK323 hb; have n6_ := bst HB hb; clear HO_24; clear BK313; clear BK314; clear BK317; clear BK322; clear BK323; clear HB; have HO_24 := n0_; have BK313 := n1_; have BK314 := n2_; have BK317 := n3_; have BK322 := n4_; have BK323 := n5_; have HB := n6_; clear n0_ n1_ n2_ n3_ n4_ n5_ n6_; (try clear hb); (try clear hb2); (try clear hk); (try clear hi); have hcz44_0 : w43.cell? ⟨gb322, 0, none⟩ = some (.int .i8 ((rd_T41 t318 x26_1).f0)) := (blk_cell BK322.out 0).trans rfl; have hcz44_1 : w43.cell? ⟨gb322, 1, none⟩ = some (.int .i8 ((rd_T41 t318 x26_1).f1)) := (blk_cell BK322.out 1).trans rfl; have hfz44_0 := blk_frozen BK322.out 0; have hfz44_1 := blk_frozen BK322.out 1) | ((with_reducible refine gate_callee (f := 29) rfl ?_); refine goesL_ (some 45) rfl rfl Tryd.func29 (by kernel_rfl) rfl #[.pointer (some ⟨gb317, 0, none⟩), .agg #[.int .i8 ((rd_T41 t318 x26_1).f0), .int .i8 ((rd_T41 t318 x26_1).f1)], .int .i64 x30_2] rfl (by (try simp only [List.map_toArray, List.map_cons, List.map_nil]); first | done | rfl | (simp only [List.length_drop, List.length_take]; rfl)) ?_; (with_reducible refine (impl_Crowd_set.calls gb317 x318000_2 ((rd_T41 t318 x26_1).f0) ((rd_T41 t318 x26_1).f1) x30_2 t327 w _ ?side1 ?side2 A31.out).mono ?_); (case side1 => exact ⟨(pk BK317), GE317.out⟩); (case side2 => repeat (first | (with_reducible first | exact HB.out | apply below_alloc | apply pw_below_drewN | apply below_drew1 | refine below_set ?_ GE313.out | refine below_set ?_ GE314.out | refine below_set ?_ GE317.out | refine below_set ?_ GE322.out | refine below_set ?_ GE323.out) | exact HB.out)); rintro e w45 ⟨rfl, hi, hb, hk⟩; refine ⟨_, rfl, ?_⟩; have n0_ := Aside0.mk (Kd.R_mono (Kd.R_keep (Kd.R_types (by (with_reducible repeat (first | apply Kd.R_alloc | apply Kd.R_drewN | apply Kd.R_drew)); exact HO_24.out) (pk BK317) (by decide)) hk (fun _ h => h.2)) (fun _ h => h.1)); have n1_ := Aside0.mk (KeepBut.blk hk (g' := gb313) (o := .cells (mixA (Value.int .u16) [.int .i8 a0_0, .int .i8 a0_1] a0_2) 31 (0, 0)) (pk BK313) NB313_317.out (by simp)); have n2_ := Aside0.mk (KeepBut.blk hk (g' := gb314) (o := .cells (mixA (Value.int .u16) [] (LA.zero 40)) 28 (0, 0)) (pk BK314) NB314_317.out (by simp)); have n3_ := Aside0.mk (KeepBut.blk hk (g' := gb322) (o := .cells #[.int .i8 ((rd_T41 t318 x26_1).f0), .int .i8 ((rd_T41 t318 x26_1).f1)] 41 (0, 0)) (pk BK322) NB322_317.out (by simp)); have n4_ := Aside0.mk (KeepBut.blk hk (g' := gb323) (o := .cells (mixA (Value.int .u16) [] t324) 28 (0, 0)) (pk BK323) NB323_317.out (by simp)); have n5_ := Aside0.mk (hb); have n6_ := Aside0.mk (hi.1); clear HO_24; clear BK313; clear BK314; clear BK322; clear BK323; clear HB; clear BK317; have HO_24 := n0_; have BK313 := n1_; have BK314 := n2_; have BK322 := n3_; have BK323 := n4_; have HB := n5_; have BK317 := n6_; clear n0_ n1_ n2_ n3_ n4_ n5_ n6_; (try clear hb); (try clear hb2); (try clear hk); (try clear hi)))
            go_roundg k2
            case measure => have := HK1.out; have := HK2.out; omega
            case rel => exact ⟨(wrap64 (x30_2 + 1)), (t327), (by first | rfl | (simp; done) | (simp [*]; done)), H', ⟨by have := HK1.out; have := HK2.out; omega⟩, ⟨by (with_reducible repeat (first | apply Kd.R_alloc | apply Kd.R_drewN | apply Kd.R_drew)); exact HO_24.out⟩, ⟨pk BK313⟩, ⟨pk BK314⟩, ⟨pk BK317⟩, ⟨pk BK322⟩, ⟨pbs HB⟩⟩
           ·rw [if_neg c30] at H
            have c30b0 : decide (0 < t326) = false := decide_eq_false c30
            clear c30
            have H' := Aside0.mk H
            clear H
            go_wp2_with (first | ((with_reducible refine gate_dst (N := 11) rfl ?_); refine box_event ?hg (N := 11) ?hd (cs := (mixA (Value.int .u16) [] (LA.zero 40))) (t := 28) ?hr ?_; (case hd => rfl); (case hg => rfl); (case hr => first | (go_simp; done) | (go_simp; rfl)); intro gb323 hg w46 hbox hb; have n0_ := krb HO_24 hb; have n1_ := bkb BK313 hb; have n2_ := bkb BK314 hb; have n3_ := bkb BK317 hb; have n4_ := bkb BK322 hb; have n5_ := bst HB hb; have n6_ := Aside0.mk (hbox); have n7_ := gwl HB hg; have n8_ := gwl HB hg; have n9_ := nbl BK313 hg; have n10_ := nbg BK313 hg; have n11_ := nbl BK314 hg; have n12_ := nbg BK314 hg; have n13_ := nbl BK317 hg; have n14_ := nbg BK317 hg; have n15_ := nbl BK322 hg; have n16_ := nbg BK322 hg; clear HO_24; clear BK313; clear BK314; clear BK317; clear BK322; clear HB; have HO_24 := n0_; have BK313 := n1_; have BK314 := n2_; have BK317 := n3_; have BK322 := n4_; have HB := n5_; have BK323 := n6_; have GW323 := n7_; have GE323 := n8_; have NB313_323 := n9_; have NB323_313 := n10_; have NB314_323 := n11_; have NB323_314 := n12_; have NB317_323 := n13_; have NB323_317 := n14_; have NB322_323 := n15_; have NB323_322 := n16_; clear n0_ n1_ n2_ n3_ n4_ n5_ n6_ n7_ n8_ n9_ n10_ n11_ n12_ n13_ n14_ n15_ n16_; clear hb hbox hg) | ((with_reducible refine gate_store (p := 11) rfl ?_); refine wpList_store_lmix rfl 28 _ _ rfl gb323 (e := (Value.int .u16)) (cs' := []) (W' := (LA.zero 40)) (cs := []) (W := (LA.zero 40)) (T := 28) rfl rfl (pk BK323) rfl (by kernel_rfl) rfl (fun _ => rfl) rfl ?_; intro w47 hi hk hbl; have n0_ := Aside0.mk (Kd.R_mono (Kd.R_keep (Kd.R_types (by (with_reducible repeat (first | apply Kd.R_alloc | apply Kd.R_drewN | apply Kd.R_drew)); exact HO_24.out) (pk BK323) (by decide)) hk (fun _ h => h.2)) (fun _ h => h.1)); have n1_ := Aside0.mk (KeepBut.blk hk (g' := gb313) (o := .cells (mixA (Value.int .u16) [.int .i8 a0_0, .int .i8 a0_1] a0_2) 31 (0, 0)) (pk BK313) NB313_323.out (by simp)); have n2_ := Aside0.mk (KeepBut.blk hk (g' := gb314) (o := .cells (mixA (Value.int .u16) [] (LA.zero 40)) 28 (0, 0)) (pk BK314) NB314_323.out (by simp)); have n3_ := Aside0.mk (KeepBut.blk hk (g' := gb317) (o := .cells (mixA (Value.int .u16) [] x318000_2) 28 (0, 0)) (pk BK317) NB317_323.out (by simp)); have n4_ := Aside0.mk (KeepBut.blk hk (g' := gb322) (o := .cells #[.int .i8 ((rd_T41 t318 x26_1).f0), .int .i8 ((rd_T41 t318 x26_1).f1)] 41 (0, 0)) (pk BK322) NB322_323.out (by simp)); have n5_ := Aside0.mk (hbl _ _ (pbs HB) GE323.out); have n6_ := Aside0.mk (hi); clear HO_24; clear BK313; clear BK314; clear BK317; clear BK322; clear HB; clear BK323; have HO_24 := n0_; have BK313 := n1_; have BK314 := n2_; have BK317 := n3_; have BK322 := n4_; have HB := n5_; have BK323 := n6_; clear n0_ n1_ n2_ n3_ n4_ n5_ n6_; clear hi hk hbl; have hnb48 := NB322_313.out; have hnc48 := NB313_322.out; have hnb49 := NB322_314.out; have hnc49 := NB314_322.out; have hnb50 := NB322_317.out; have hnc50 := NB317_322.out; have hnb51 := NB322_323.out; have hnc51 := NB323_322.out; have hcz52_0 : w47.cell? ⟨gb322, 0, none⟩ = some (.int .i8 ((rd_T41 t318 x26_1).f0)) := (blk_cell BK322.out 0).trans rfl; have hcz52_1 : w47.cell? ⟨gb322, 1, none⟩ = some (.int .i8 ((rd_T41 t318 x26_1).f1)) := (blk_cell BK322.out 1).trans rfl; have hfz52_0 := blk_frozen BK322.out 0; have hfz52_1 := blk_frozen BK322.out 1) | ((with_reducible refine gate_callee (f := 29) rfl ?_); refine goesL_ (some 36) rfl rfl Tryd.func29 (by kernel_rfl) rfl #[.pointer (some ⟨gb323, 0, none⟩), .agg #[.int .i8 ((rd_T41 t318 x26_1).f0), .int .i8 ((rd_T41 t318 x26_1).f1)], .int .i64 x30_2] rfl (by (try simp only [List.map_toArray, List.map_cons, List.map_nil]); first | done | rfl | (simp only [List.length_drop, List.length_take]; rfl)) ?_; (with_reducible refine (impl_Crowd_set.calls gb323 (LA.zero 40) ((rd_T41 t318 x26_1).f0) ((rd_T41 t318 x26_1).f1) x30_2 t324 w _ ?side1 ?side2 A27.out).mono ?_); (case side1 => exact ⟨(pk BK323), GE323.out⟩); (case side2 => repeat (first | (with_reducible first | exact HB.out | apply below_alloc | apply pw_below_drewN | apply below_drew1 | refine below_set ?_ GE313.out | refine below_set ?_ GE314.out | refine below_set ?_ GE317.out | refine below_set ?_ GE322.out | refine below_set ?_ GE323.out) | exact HB.out)); rintro e w53 ⟨rfl, hi, hb, hk⟩; refine ⟨_, rfl, ?_⟩; have n0_ := Aside0.mk (Kd.R_mono (Kd.R_keep (Kd.R_types (by (with_reducible repeat (first | apply Kd.R_alloc | apply Kd.R_drewN | apply Kd.R_drew)); exact HO_24.out) (pk BK323) (by decide)) hk (fun _ h => h.2)) (fun _ h => h.1)); have n1_ := Aside0.mk (KeepBut.blk hk (g' := gb313) (o := .cells (mixA (Value.int .u16) [.int .i8 a0_0, .int .i8 a0_1] a0_2) 31 (0, 0)) (pk BK313) NB313_323.out (by simp)); have n2_ := Aside0.mk (KeepBut.blk hk (g' := gb314) (o := .cells (mixA (Value.int .u16) [] (LA.zero 40)) 28 (0, 0)) (pk BK314) NB314_323.out (by simp)); have n3_ := Aside0.mk (KeepBut.blk hk (g' := gb317) (o := .cells (mixA (Value.int .u16) [] x318000_2) 28 (0, 0)) (pk BK317) NB317_323.out (by simp)); have n4_ := Aside0.mk (KeepBut.blk hk (g' := gb322) (o := .cells #[.int .i8 ((rd_T41 t318 x26_1).f0), .int .i8 ((rd_T41 t318 x26_1).f1)] 41 (0, 0)) (pk BK322) NB322_323.out (by simp)); have n5_ := Aside0.mk (hb); have n6_ := Aside0.mk (hi.1); clear HO_24; clear BK313; clear BK314; clear BK317; clear BK322; clear HB; clear BK323; have HO_24 := n0_; have BK313 := n1_; have BK314 := n2_; have BK317 := n3_; have BK322 := n4_; have HB := n5_; have BK323 := n6_; clear n0_ n1_ n2_ n3_ n4_ n5_ n6_; (try clear hb); (try clear hb2); (try clear hk); (try clear hi)) | ((with_reducible refine gate_dst (N := 37) rfl ?_); refine wpList_run0 (v := .agg (mixA (Value.int .u16) [] t324)) rfl (load_mix_run (P := Tryd.prog) 28 (.tmp 11) rfl gb323 rfl (show World.rangeAt _ gb323 0 ([] ++ t324.l.map (Value.int .u16)) from mix_range (show (World.heap _)[gb323]? = some (.cells (mixA (Value.int .u16) [] t324) 28 (0, 0)) from by (with_reducible repeat (first | refine blk_drewN ?_ _ | refine blk_drew ?_ | refine blk_alloc ?_ _)); exact BK323.out)) Tryd.underlying28 rfl (by kernel_rfl) rfl) ?_) | ((with_reducible refine gate_dst (N := 38) rfl ?_); refine wpList_run0 (v := .agg (mixA (Value.int .u16) [.int .i8 a0_0, .int .i8 a0_1] a0_2)) rfl (load_mix_run (P := Tryd.prog) 31 (.tmp 2) rfl gb313 rfl (show World.rangeAt _ gb313 0 ([.int .i8 a0_0, .int .i8 a0_1] ++ a0_2.l.map (Value.int .u16)) from mix_range (show (World.heap _)[gb313]? = some (.cells (mixA (Value.int .u16) [.int .i8 a0_0, .int .i8 a0_1] a0_2) 31 (0, 0)) from by (with_reducible repeat (first | refine blk_drewN ?_ _ | refine blk_drew ?_ | refine blk_alloc ?_ _)); exact BK313.out)) Tryd.underlying31 rfl (by kernel_rfl) rfl) ?_) | ((with_reducible refine gate_callee (f := 31) rfl ?_); refine goesL_ (some 40) rfl rfl Tryd.func31 (by kernel_rfl) rfl #[.agg (mixA (Value.int .u16) [] t324), .agg (mixA (Value.int .u16) [.int .i8 a0_0, .int .i8 a0_1] a0_2), .string a1] rfl (by (try simp only [List.map_toArray, List.map_cons, List.map_nil]); first | done | rfl | (simp only [List.length_drop, List.length_take]; rfl)) ?_; (with_reducible refine (impl_Crowd_movedBy.calls k2 t324 a0_0 a0_1 a0_2 a1 t325 _ A28.out).mono ?_); rintro e w56 ⟨rfl, hb⟩; refine ⟨_, rfl, ?_⟩; have n0_ := krb HO_24 hb; have n1_ := bkb BK313 hb; have n2_ := bkb BK314 hb; have n3_ := bkb BK317 hb; have n4_ := bkb BK322 hb; have n5_ := bkb BK323 hb; have n6_ := bst HB hb; clear HO_24; clear BK313; clear BK314; clear BK317; clear BK322; clear BK323; clear HB; have HO_24 := n0_; have BK313 := n1_; have BK314 := n2_; have BK317 := n3_; have BK322 := n4_; have BK323 := n5_; have HB := n6_; clear n0_ n1_ n2_ n3_ n4_ n5_ n6_; (try clear hb); (try clear hb2); (try clear hk); (try clear hi)) | ((with_reducible refine gate_callee (f := 30) rfl ?_); refine goesL_ (some 41) rfl rfl Tryd.func30 (by kernel_rfl) rfl #[.agg (mixA (Value.int .u16) [] t325)] rfl (by (try simp only [List.map_toArray, List.map_cons, List.map_nil]); first | done | rfl | (simp only [List.length_drop, List.length_take]; rfl)) ?_; (with_reducible refine (impl_CountCrowd.calls k2 t325 t326 _ A29.out).mono ?_); rintro e w57 ⟨rfl, hb⟩; refine ⟨_, rfl, ?_⟩; have n0_ := krb HO_24 hb; have n1_ := bkb BK313 hb; have n2_ := bkb BK314 hb; have n3_ := bkb BK317 hb; have n4_ := bkb BK322 hb; have n5_ := bkb BK323 hb; have n6_ := bst HB hb; clear HO_24; clear BK313; clear BK314; clear BK317; clear BK322; clear BK323; clear HB; have HO_24 := n0_; have BK313 := n1_; have BK314 := n2_; have BK317 := n3_; have BK322 := n4_; have BK323 := n5_; have HB := n6_; clear n0_ n1_ n2_ n3_ n4_ n5_ n6_; (try clear hb); (try clear hb2); (try clear hk); (try clear hi)))
            go_roundg k2
            case measure => have := HK1.out; have := HK2.out; omega
            case rel => exact ⟨(wrap64 (x30_2 + 1)), (x318000_2), (by first | rfl | (simp; done) | (simp [*]; done)), H', ⟨by have := HK1.out; have := HK2.out; omega⟩, ⟨by (with_reducible repeat (first | apply Kd.R_alloc | apply Kd.R_drewN | apply Kd.R_drew)); exact HO_24.out⟩, ⟨pk BK313⟩, ⟨pk BK314⟩, ⟨pk BK317⟩, ⟨pk BK322⟩, ⟨pbs HB⟩⟩
          ·rw [if_neg c26] at H
           have c26b0 : decide (x30_2 < 4) = false := decide_eq_false c26
           clear c26
           have H' := Aside0.mk H
           clear H
           go_wp2
           go_roundg k2
           case measure => have := HK1.out; have := HK2.out; omega
           case rel => exact ⟨(wrap64 (x26_1 + 1)), (x318000_2), (by first | rfl | (simp; done) | (simp [*]; done)), H', ⟨by have := HK1.out; have := HK2.out; omega⟩, ⟨by (with_reducible repeat (first | apply Kd.R_alloc | apply Kd.R_drewN | apply Kd.R_drew)); exact Kd.R_mono HO_24.out (fun _ hk => trivial)⟩, ⟨pk BK313⟩, ⟨pk BK314⟩, ⟨pk BK317⟩, ⟨pbs HB⟩⟩
       ·rw [if_neg c20] at H
        exact absurd H (by simp)
      ·rw [if_neg c19] at H
       exact absurd H (by simp)
     ·rw [if_neg c18] at H
      have c18b0 : decide (x26_1 < (t318.length : Int)) = false := decide_eq_false c18
      clear c18
      simp only [Option.some.injEq, Prod.mk.injEq] at H
      obtain ⟨rfl, rfl⟩ := H
      go_wp2_with (first | ((with_reducible refine gate_dst (N := 48) rfl ?_); refine wpList_run0 (v := .agg (mixA (Value.int .u16) [] x318000_1)) rfl (load_mix_run (P := Tryd.prog) 28 (.tmp 7) rfl gb317 rfl (show World.rangeAt _ gb317 0 ([] ++ x318000_1.l.map (Value.int .u16)) from mix_range (show (World.heap _)[gb317]? = some (.cells (mixA (Value.int .u16) [] x318000_1) 28 (0, 0)) from by (with_reducible repeat (first | refine blk_drewN ?_ _ | refine blk_drew ?_ | refine blk_alloc ?_ _)); exact BK317.out)) Tryd.underlying28 rfl (by kernel_rfl) rfl) ?_) | ((with_reducible refine gate_store (p := 4) rfl ?_); refine wpList_store_lmix rfl 28 _ _ rfl gb314 (e := (Value.int .u16)) (cs' := []) (W' := x318000_1) (cs := []) (W := (LA.zero 40)) (T := 28) rfl rfl (pk BK314) rfl (by kernel_rfl) rfl (fun _ => rfl) rfl ?_; intro w59 hi hk hbl; have n0_ := Aside0.mk (Kd.R_mono (Kd.R_keep (Kd.R_types (by (with_reducible repeat (first | apply Kd.R_alloc | apply Kd.R_drewN | apply Kd.R_drew)); exact HO_24.out) (pk BK314) (by decide)) hk (fun _ h => h.2)) (fun _ h => h.1)); have n1_ := Aside0.mk (KeepBut.blk hk (g' := gb313) (o := .cells (mixA (Value.int .u16) [.int .i8 a0_0, .int .i8 a0_1] a0_2) 31 (0, 0)) (pk BK313) NB313_314.out (by simp)); have n2_ := Aside0.mk (KeepBut.blk hk (g' := gb317) (o := .cells (mixA (Value.int .u16) [] x318000_1) 28 (0, 0)) (pk BK317) NB317_314.out (by simp)); have n3_ := Aside0.mk (hbl _ _ (pbs HB) GE314.out); have n4_ := Aside0.mk (hi); clear HO_24; clear BK313; clear BK317; clear HB; clear BK314; have HO_24 := n0_; have BK313 := n1_; have BK317 := n2_; have HB := n3_; have BK314 := n4_; clear n0_ n1_ n2_ n3_ n4_; clear hi hk hbl))
      refine bodyPost_ret (results_ct rfl _ _ gb314 28 (mixA (Value.int .u16) [] x318000_1) (0, 0) _ rfl (pk BK314) Tryd.underlying28 rfl (by rw [mix_size]; kernel_rfl)) rfl ?_
      exact ⟨by first | rfl | (simp [errW_none, errW_some] <;> rfl) | (simp [*, errW_none, errW_some] <;> rfl), pbs HB⟩
  ·rw [if_neg c6] at H
   have c6b0 : (t316 == 0) = false := beq_eq_false_iff_ne.mpr c6
   have c6b1 : (t316 != 0) = true := bne_iff_ne.mpr c6
   simp only [Option.some.injEq, Prod.mk.injEq] at H
   obtain ⟨rfl, rfl⟩ := H
   go_enter Tryd.func9, Tryd.ntmps9
   go_wp2_with (first | ((with_reducible refine gate_dst (N := 2) rfl ?_); refine box_event ?hg (N := 2) ?hd (cs := (mixA (Value.int .u16) [.int .i8 a0_0, .int .i8 a0_1] a0_2)) (t := 31) ?hr ?_; (case hd => rfl); (case hg => rfl); (case hr => first | (go_simp; done) | (go_simp; rfl)); intro gb313 hg w60 hbox hb; have n0_ := bst HB hb; have n1_ := Aside0.mk (hbox); have n2_ := gwl HB hg; have n3_ := gwl HB hg; clear HB; have HB := n0_; have BK313 := n1_; have GW313 := n2_; have GE313 := n3_; clear n0_ n1_ n2_ n3_; clear hb hbox hg) | ((with_reducible refine gate_dst (N := 4) rfl ?_); refine box_event ?hg (N := 4) ?hd (cs := (mixA (Value.int .u16) [] (LA.zero 40))) (t := 28) ?hr ?_; (case hd => rfl); (case hg => rfl); (case hr => first | (go_simp; done) | (go_simp; rfl)); intro gb314 hg w61 hbox hb; have n0_ := bkb BK313 hb; have n1_ := bst HB hb; have n2_ := Aside0.mk (hbox); have n3_ := gwl HB hg; have n4_ := gwl HB hg; have n5_ := nbl BK313 hg; have n6_ := nbg BK313 hg; clear BK313; clear HB; have BK313 := n0_; have HB := n1_; have BK314 := n2_; have GW314 := n3_; have GE314 := n4_; have NB313_314 := n5_; have NB314_313 := n6_; clear n0_ n1_ n2_ n3_ n4_ n5_ n6_; clear hb hbox hg) | ((with_reducible refine gate_dst (N := 12) rfl ?_); refine wpList_run0 (v := .agg (mixA (Value.int .u16) [.int .i8 a0_0, .int .i8 a0_1] a0_2)) rfl (load_mix_run (P := Tryd.prog) 31 (.tmp 2) rfl gb313 rfl (show World.rangeAt _ gb313 0 ([.int .i8 a0_0, .int .i8 a0_1] ++ a0_2.l.map (Value.int .u16)) from mix_range (show (World.heap _)[gb313]? = some (.cells (mixA (Value.int .u16) [.int .i8 a0_0, .int .i8 a0_1] a0_2) 31 (0, 0)) from by (with_reducible repeat (first | refine blk_drewN ?_ _ | refine blk_drew ?_ | refine blk_alloc ?_ _)); exact BK313.out)) Tryd.underlying31 rfl (by kernel_rfl) rfl) ?_) | ((with_reducible refine gate_callee (f := 26) rfl ?_); refine goesL_ (some 13) rfl rfl Tryd.func26 (by kernel_rfl) rfl #[.agg (mixA (Value.int .u16) [.int .i8 a0_0, .int .i8 a0_1] a0_2)] rfl (by (try simp only [List.map_toArray, List.map_cons, List.map_nil]); first | done | rfl | (simp only [List.length_drop, List.length_take]; rfl)) ?_; (with_reducible refine (impl_ValidRoom.calls k a0_0 a0_1 a0_2 true _ A3.out).mono ?_); rintro e w63 ⟨rfl, hb⟩; refine ⟨_, rfl, ?_⟩; have n0_ := bkb BK313 hb; have n1_ := bkb BK314 hb; have n2_ := bst HB hb; clear BK313; clear BK314; clear HB; have BK313 := n0_; have BK314 := n1_; have HB := n2_; clear n0_ n1_ n2_; (try clear hb); (try clear hb2); (try clear hk); (try clear hi)) | ((with_reducible refine gate_callee (f := 27) rfl ?_); refine goesL_ (some 17) rfl rfl Tryd.func27 (by kernel_rfl) rfl #[.string a1] rfl (by (try simp only [List.map_toArray, List.map_cons, List.map_nil]); first | done | rfl | (simp only [List.length_drop, List.length_take]; rfl)) ?_; (with_reducible refine (impl_movesCode.calls a1 t316 _ A5.out).mono ?_); rintro e w64 ⟨rfl, hb⟩; refine ⟨_, rfl, ?_⟩; have n0_ := bkb BK313 hb; have n1_ := bkb BK314 hb; have n2_ := bst HB hb; clear BK313; clear BK314; clear HB; have BK313 := n0_; have BK314 := n1_; have HB := n2_; clear n0_ n1_ n2_; (try clear hb); (try clear hb2); (try clear hk); (try clear hi)) | ((with_reducible refine gate_store (p := 4) rfl ?_); refine wpList_store_lmix rfl 28 _ _ rfl gb314 (e := (Value.int .u16)) (cs' := []) (W' := (LA.zero 40)) (cs := []) (W := (LA.zero 40)) (T := 28) rfl rfl (pk BK314) rfl (by kernel_rfl) rfl (fun _ => rfl) rfl ?_; intro w65 hi hk hbl; have n0_ := Aside0.mk (KeepBut.blk hk (g' := gb313) (o := .cells (mixA (Value.int .u16) [.int .i8 a0_0, .int .i8 a0_1] a0_2) 31 (0, 0)) (pk BK313) NB313_314.out (by simp)); have n1_ := Aside0.mk (hbl _ _ (pbs HB) GE314.out); have n2_ := Aside0.mk (hi); clear BK313; clear HB; clear BK314; have BK313 := n0_; have HB := n1_; have BK314 := n2_; clear n0_ n1_ n2_; clear hi hk hbl))
   refine bodyPost_ret (results_ct rfl _ _ gb314 28 (mixA (Value.int .u16) [] (LA.zero 40)) (0, 0) _ rfl (pk BK314) Tryd.underlying28 rfl (by rw [mix_size]; kernel_rfl)) rfl ?_
   exact ⟨by first | rfl | (simp [errW_none, errW_some] <;> rfl) | (simp [*, errW_none, errW_some] <;> rfl), pbs HB⟩
 ·replace c4 := Bool.eq_false_iff.mpr c4
  subst c4
  have H1 : (some ((LA.zero 40), 1)) = some (r1, r2) := by rw [if_neg (show ¬ (false = true) by decide)] at H; exact H
  clear H
  have H := H1
  clear H1
  simp only [Option.some.injEq, Prod.mk.injEq] at H
  obtain ⟨rfl, rfl⟩ := H
  go_enter Tryd.func9, Tryd.ntmps9
  go_wp2_with (first | ((with_reducible refine gate_dst (N := 2) rfl ?_); refine box_event ?hg (N := 2) ?hd (cs := (mixA (Value.int .u16) [.int .i8 a0_0, .int .i8 a0_1] a0_2)) (t := 31) ?hr ?_; (case hd => rfl); (case hg => rfl); (case hr => first | (go_simp; done) | (go_simp; rfl)); intro gb313 hg w66 hbox hb; have n0_ := bst HB hb; have n1_ := Aside0.mk (hbox); have n2_ := gwl HB hg; have n3_ := gwl HB hg; clear HB; have HB := n0_; have BK313 := n1_; have GW313 := n2_; have GE313 := n3_; clear n0_ n1_ n2_ n3_; clear hb hbox hg) | ((with_reducible refine gate_dst (N := 4) rfl ?_); refine box_event ?hg (N := 4) ?hd (cs := (mixA (Value.int .u16) [] (LA.zero 40))) (t := 28) ?hr ?_; (case hd => rfl); (case hg => rfl); (case hr => first | (go_simp; done) | (go_simp; rfl)); intro gb314 hg w67 hbox hb; have n0_ := bkb BK313 hb; have n1_ := bst HB hb; have n2_ := Aside0.mk (hbox); have n3_ := gwl HB hg; have n4_ := gwl HB hg; have n5_ := nbl BK313 hg; have n6_ := nbg BK313 hg; clear BK313; clear HB; have BK313 := n0_; have HB := n1_; have BK314 := n2_; have GW314 := n3_; have GE314 := n4_; have NB313_314 := n5_; have NB314_313 := n6_; clear n0_ n1_ n2_ n3_ n4_ n5_ n6_; clear hb hbox hg) | ((with_reducible refine gate_dst (N := 12) rfl ?_); refine wpList_run0 (v := .agg (mixA (Value.int .u16) [.int .i8 a0_0, .int .i8 a0_1] a0_2)) rfl (load_mix_run (P := Tryd.prog) 31 (.tmp 2) rfl gb313 rfl (show World.rangeAt _ gb313 0 ([.int .i8 a0_0, .int .i8 a0_1] ++ a0_2.l.map (Value.int .u16)) from mix_range (show (World.heap _)[gb313]? = some (.cells (mixA (Value.int .u16) [.int .i8 a0_0, .int .i8 a0_1] a0_2) 31 (0, 0)) from by (with_reducible repeat (first | refine blk_drewN ?_ _ | refine blk_drew ?_ | refine blk_alloc ?_ _)); exact BK313.out)) Tryd.underlying31 rfl (by kernel_rfl) rfl) ?_) | ((with_reducible refine gate_callee (f := 26) rfl ?_); refine goesL_ (some 13) rfl rfl Tryd.func26 (by kernel_rfl) rfl #[.agg (mixA (Value.int .u16) [.int .i8 a0_0, .int .i8 a0_1] a0_2)] rfl (by (try simp only [List.map_toArray, List.map_cons, List.map_nil]); first | done | rfl | (simp only [List.length_drop, List.length_take]; rfl)) ?_; (with_reducible refine (impl_ValidRoom.calls k a0_0 a0_1 a0_2 false _ A3.out).mono ?_); rintro e w69 ⟨rfl, hb⟩; refine ⟨_, rfl, ?_⟩; have n0_ := bkb BK313 hb; have n1_ := bkb BK314 hb; have n2_ := bst HB hb; clear BK313; clear BK314; clear HB; have BK313 := n0_; have BK314 := n1_; have HB := n2_; clear n0_ n1_ n2_; (try clear hb); (try clear hb2); (try clear hk); (try clear hi)) | ((with_reducible refine gate_store (p := 4) rfl ?_); refine wpList_store_lmix rfl 28 _ _ rfl gb314 (e := (Value.int .u16)) (cs' := []) (W' := (LA.zero 40)) (cs := []) (W := (LA.zero 40)) (T := 28) rfl rfl (pk BK314) rfl (by kernel_rfl) rfl (fun _ => rfl) rfl ?_; intro w70 hi hk hbl; have n0_ := Aside0.mk (KeepBut.blk hk (g' := gb313) (o := .cells (mixA (Value.int .u16) [.int .i8 a0_0, .int .i8 a0_1] a0_2) 31 (0, 0)) (pk BK313) NB313_314.out (by simp)); have n1_ := Aside0.mk (hbl _ _ (pbs HB) GE314.out); have n2_ := Aside0.mk (hi); clear BK313; clear HB; clear BK314; have BK313 := n0_; have HB := n1_; have BK314 := n2_; clear n0_ n1_ n2_; clear hi hk hbl))
  refine bodyPost_ret (results_ct rfl _ _ gb314 28 (mixA (Value.int .u16) [] (LA.zero 40)) (0, 0) _ rfl (pk BK314) Tryd.underlying28 rfl (by rw [mix_size]; kernel_rfl)) rfl ?_
  exact ⟨by first | rfl | (simp [errW_none, errW_some] <;> rfl) | (simp [*, errW_none, errW_some] <;> rfl), pbs HB⟩
def laws_FnExactWhereBegun.f (k : Nat) (a0_0 : Int) (a0_1 : Int) (a0_2 : LA 10) (a1 : ByteArray) : Option (Bool) := if (a1.size : Int) > 1048576 then (some true) else ((laws_toRoom.f k a0_0 a0_1 a0_2).bind fun bt329 => ((spec_WhereBegun.f k bt329.1 bt329.2.1 bt329.2.2 a1).bind fun bt332 => ((laws_toRoom.f k a0_0 a0_1 a0_2).bind fun bt335 => ((impl_WhereBegun.f k bt335.1 bt335.2.1 bt335.2.2 a1).bind fun bt338 => ((laws_eqCrowd.f k bt338.1 bt332.1).bind fun t341 => (if t341 = true then (if bt338.2 = bt332.2 then (some true) else (some false)) else (some false)))))))
theorem laws_FnExactWhereBegun.mono : ∀ a0 a1 a2 a3 k, LeO (laws_FnExactWhereBegun.f k a0 a1 a2 a3) (laws_FnExactWhereBegun.f (k + 1) a0 a1 a2 a3) := by
 intro a0 a1 a2 a3 k
 unfold laws_FnExactWhereBegun.f
 repeat' first
   | (with_reducible exact impl_WhereBegun.mono _ _ _ _ _)
   | (with_reducible exact laws_eqCrowd.mono _ _ _)
   | (with_reducible exact laws_toRoom.mono _ _ _ _)
   | (with_reducible exact spec_WhereBegun.mono _ _ _ _ _)
   | (with_reducible exact LeO.refl _)
   | (with_reducible exact LeO.none _)
   | (with_reducible refine LeO.ite ?_ ?_)
   | (with_reducible refine LeO.bind ?_ (fun _ => ?_))
   | exact impl_WhereBegun.mono _ _ _ _ _
   | exact laws_eqCrowd.mono _ _ _
   | exact laws_toRoom.mono _ _ _ _
   | exact spec_WhereBegun.mono _ _ _ _ _
   | exact LeO.none _
   | refine LeO.ite ?_ ?_
   | refine LeO.bind ?_ (fun _ => ?_)
set_option maxHeartbeats 8000000 in
set_option maxRecDepth 100000 in
theorem laws_FnExactWhereBegun.calls (k : Nat) (a0_0 : Int) (a0_1 : Int) (a0_2 : LA 10) (a1 : ByteArray) (r : Bool) (w : World) (h : laws_FnExactWhereBegun.f k a0_0 a0_1 a0_2 a1 = some r) :
  Calls Tryd.prog 3 #[.agg (mixA (Value.int .u16) [.int .i8 a0_0, .int .i8 a0_1] a0_2), .string a1] w fun e w' => e = .returned (.bool r) ∧ Below w.heap.size w w' := by
 have hu26 := Tryd.underlying26
 have HB := Aside0.mk (Below.refl w.heap.size w)
 have H : (if (a1.size : Int) > 1048576 then (some true) else ((laws_toRoom.f k a0_0 a0_1 a0_2).bind fun bt329 => ((spec_WhereBegun.f k bt329.1 bt329.2.1 bt329.2.2 a1).bind fun bt332 => ((laws_toRoom.f k a0_0 a0_1 a0_2).bind fun bt335 => ((impl_WhereBegun.f k bt335.1 bt335.2.1 bt335.2.2 a1).bind fun bt338 => ((laws_eqCrowd.f k bt338.1 bt332.1).bind fun t341 => (if t341 = true then (if bt338.2 = bt332.2 then (some true) else (some false)) else (some false)))))))) = some r := h
 clear h
 by_cases c3 : (a1.size : Int) > 1048576
 ·rw [if_pos c3] at H
  have c3b0 : decide (1048576 < (a1.size : Int)) = true := decide_eq_true c3
  have c3b1 : decide (1048576 < a1.size) = true := decide_eq_true (by omega)
  clear c3
  obtain rfl := Option.some.inj H
  go_enter Tryd.func3, Tryd.ntmps3
  go_wp2_with (first | ((with_reducible refine gate_dst (N := 2) rfl ?_); refine box_event ?hg (N := 2) ?hd (cs := (mixA (Value.int .u16) [.int .i8 a0_0, .int .i8 a0_1] a0_2)) (t := 26) ?hr ?_; (case hd => rfl); (case hg => rfl); (case hr => first | (go_simp; done) | (go_simp; rfl)); intro gb328 hg w4 hbox hb; have n0_ := bst HB hb; have n1_ := Aside0.mk (hbox); have n2_ := gwl HB hg; have n3_ := gwl HB hg; clear HB; have HB := n0_; have BK328 := n1_; have GW328 := n2_; have GE328 := n3_; clear n0_ n1_ n2_ n3_; clear hb hbox hg))
  go_ret
  exact ⟨by first | rfl | (simp [errW_none, errW_some] <;> rfl) | (simp [*, errW_none, errW_some] <;> rfl), pbs HB⟩
 ·rw [if_neg c3] at H
  have c3b0 : decide (1048576 < (a1.size : Int)) = false := decide_eq_false c3
  have c3b1 : decide (1048576 < a1.size) = false := decide_eq_false (by omega)
  clear c3
  replace H := Option.bind_eq_some_iff.mp H
  obtain ⟨⟨t329, t330, t331⟩, A50, H⟩ := H
  replace H : ((spec_WhereBegun.f k t329 t330 t331 a1).bind fun bt332 => ((laws_toRoom.f k a0_0 a0_1 a0_2).bind fun bt335 => ((impl_WhereBegun.f k bt335.1 bt335.2.1 bt335.2.2 a1).bind fun bt338 => ((laws_eqCrowd.f k bt338.1 bt332.1).bind fun t341 => (if t341 = true then (if bt338.2 = bt332.2 then (some true) else (some false)) else (some false)))))) = some r := H
  have A5 := Aside0.mk A50
  clear A50
  replace H := Option.bind_eq_some_iff.mp H
  obtain ⟨⟨t332, t333⟩, A60, H⟩ := H
  replace H : ((laws_toRoom.f k a0_0 a0_1 a0_2).bind fun bt335 => ((impl_WhereBegun.f k bt335.1 bt335.2.1 bt335.2.2 a1).bind fun bt338 => ((laws_eqCrowd.f k bt338.1 t332).bind fun t341 => (if t341 = true then (if bt338.2 = t333 then (some true) else (some false)) else (some false))))) = some r := H
  have A6 := Aside0.mk A60
  clear A60
  replace H := Option.bind_eq_some_iff.mp H
  obtain ⟨⟨t335, t336, t337⟩, A70, H⟩ := H
  replace H : ((impl_WhereBegun.f k t335 t336 t337 a1).bind fun bt338 => ((laws_eqCrowd.f k bt338.1 t332).bind fun t341 => (if t341 = true then (if bt338.2 = t333 then (some true) else (some false)) else (some false)))) = some r := H
  have A7 := Aside0.mk A70
  clear A70
  replace H := Option.bind_eq_some_iff.mp H
  obtain ⟨⟨t338, t339⟩, A80, H⟩ := H
  replace H : ((laws_eqCrowd.f k t338 t332).bind fun t341 => (if t341 = true then (if t339 = t333 then (some true) else (some false)) else (some false))) = some r := H
  have A8 := Aside0.mk A80
  clear A80
  replace H := Option.bind_eq_some_iff.mp H
  obtain ⟨t341, A90, H⟩ := H
  replace H : (if t341 = true then (if t339 = t333 then (some true) else (some false)) else (some false)) = some r := H
  have A9 := Aside0.mk A90
  clear A90
  by_cases c10 : t341 = true
  ·subst c10
   have H1 : (if t339 = t333 then (some true) else (some false)) = some r := by rw [if_pos rfl] at H; exact H
   clear H
   have H := H1
   clear H1
   by_cases c11 : t339 = t333
   ·rw [if_pos c11] at H
    have c11b0 : (t339 == t333) = true := beq_iff_eq.mpr c11
    have c11b1 : (t339 != t333) = false := bne_eq_false_iff_eq.mpr c11
    clear c11
    obtain rfl := Option.some.inj H
    go_enter Tryd.func3, Tryd.ntmps3
    go_wp2_with (first | ((with_reducible refine gate_dst (N := 2) rfl ?_); refine box_event ?hg (N := 2) ?hd (cs := (mixA (Value.int .u16) [.int .i8 a0_0, .int .i8 a0_1] a0_2)) (t := 26) ?hr ?_; (case hd => rfl); (case hg => rfl); (case hr => first | (go_simp; done) | (go_simp; rfl)); intro gb328 hg w12 hbox hb; have n0_ := bst HB hb; have n1_ := Aside0.mk (hbox); have n2_ := gwl HB hg; have n3_ := gwl HB hg; clear HB; have HB := n0_; have BK328 := n1_; have GW328 := n2_; have GE328 := n3_; clear n0_ n1_ n2_ n3_; clear hb hbox hg) | ((with_reducible refine gate_dst (N := 13) rfl ?_); refine wpList_run0 (v := .agg (mixA (Value.int .u16) [.int .i8 a0_0, .int .i8 a0_1] a0_2)) rfl (load_mix_run (P := Tryd.prog) 26 (.tmp 2) rfl gb328 rfl (show World.rangeAt _ gb328 0 ([.int .i8 a0_0, .int .i8 a0_1] ++ a0_2.l.map (Value.int .u16)) from mix_range (show (World.heap _)[gb328]? = some (.cells (mixA (Value.int .u16) [.int .i8 a0_0, .int .i8 a0_1] a0_2) 26 (0, 0)) from by (with_reducible repeat (first | refine blk_drewN ?_ _ | refine blk_drew ?_ | refine blk_alloc ?_ _)); exact BK328.out)) Tryd.underlying26 rfl (by kernel_rfl) rfl) ?_) | ((with_reducible refine gate_callee (f := 8) rfl ?_); refine goesL_ (some 14) rfl rfl Tryd.func8 (by kernel_rfl) rfl #[.agg (mixA (Value.int .u16) [.int .i8 a0_0, .int .i8 a0_1] a0_2)] rfl (by (try simp only [List.map_toArray, List.map_cons, List.map_nil]); first | done | rfl | (simp only [List.length_drop, List.length_take]; rfl)) ?_; (with_reducible refine (laws_toRoom.calls k a0_0 a0_1 a0_2 t329 t330 t331 _ A5.out).mono ?_); rintro e w14 ⟨rfl, hb⟩; refine ⟨_, rfl, ?_⟩; have n0_ := bkb BK328 hb; have n1_ := bst HB hb; clear BK328; clear HB; have BK328 := n0_; have HB := n1_; clear n0_ n1_; (try clear hb); (try clear hb2); (try clear hk); (try clear hi)) | ((with_reducible refine gate_callee (f := 7) rfl ?_); refine goesL_ (some 16) rfl rfl Tryd.func7 (by kernel_rfl) rfl #[.agg (mixA (Value.int .u16) [.int .i8 t329, .int .i8 t330] t331), .string a1] rfl (by (try simp only [List.map_toArray, List.map_cons, List.map_nil]); first | done | rfl | (simp only [List.length_drop, List.length_take]; rfl)) ?_; (with_reducible refine (spec_WhereBegun.calls k t329 t330 t331 a1 t332 t333 _ A6.out).mono ?_); rintro e w15 ⟨rfl, hb⟩; refine ⟨_, rfl, ?_⟩; have n0_ := bkb BK328 hb; have n1_ := bst HB hb; clear BK328; clear HB; have BK328 := n0_; have HB := n1_; clear n0_ n1_; (try clear hb); (try clear hb2); (try clear hk); (try clear hi)) | ((with_reducible refine gate_dst (N := 5) rfl ?_); refine box_event ?hg (N := 5) ?hd (cs := (mixA (Value.int .u16) [] (LA.zero 40))) (t := 28) ?hr ?_; (case hd => rfl); (case hg => rfl); (case hr => first | (go_simp; done) | (go_simp; rfl)); intro gb334 hg w16 hbox hb; have n0_ := bkb BK328 hb; have n1_ := bst HB hb; have n2_ := Aside0.mk (hbox); have n3_ := gwl HB hg; have n4_ := gwl HB hg; have n5_ := nbl BK328 hg; have n6_ := nbg BK328 hg; clear BK328; clear HB; have BK328 := n0_; have HB := n1_; have BK334 := n2_; have GW334 := n3_; have GE334 := n4_; have NB328_334 := n5_; have NB334_328 := n6_; clear n0_ n1_ n2_ n3_ n4_ n5_ n6_; clear hb hbox hg) | ((with_reducible refine gate_store (p := 5) rfl ?_); refine wpList_store_lmix rfl 28 _ _ rfl gb334 (e := (Value.int .u16)) (cs' := []) (W' := t332) (cs := []) (W := (LA.zero 40)) (T := 28) rfl rfl (pk BK334) rfl (by kernel_rfl) rfl (fun _ => rfl) rfl ?_; intro w17 hi hk hbl; have n0_ := Aside0.mk (KeepBut.blk hk (g' := gb328) (o := .cells (mixA (Value.int .u16) [.int .i8 a0_0, .int .i8 a0_1] a0_2) 26 (0, 0)) (pk BK328) NB328_334.out (by simp)); have n1_ := Aside0.mk (hbl _ _ (pbs HB) GE334.out); have n2_ := Aside0.mk (hi); clear BK328; clear HB; clear BK334; have BK328 := n0_; have HB := n1_; have BK334 := n2_; clear n0_ n1_ n2_; clear hi hk hbl) | ((with_reducible refine gate_dst (N := 20) rfl ?_); refine wpList_run0 (v := .agg (mixA (Value.int .u16) [.int .i8 a0_0, .int .i8 a0_1] a0_2)) rfl (load_mix_run (P := Tryd.prog) 26 (.tmp 2) rfl gb328 rfl (show World.rangeAt _ gb328 0 ([.int .i8 a0_0, .int .i8 a0_1] ++ a0_2.l.map (Value.int .u16)) from mix_range (show (World.heap _)[gb328]? = some (.cells (mixA (Value.int .u16) [.int .i8 a0_0, .int .i8 a0_1] a0_2) 26 (0, 0)) from by (with_reducible repeat (first | refine blk_drewN ?_ _ | refine blk_drew ?_ | refine blk_alloc ?_ _)); exact BK328.out)) Tryd.underlying26 rfl (by kernel_rfl) rfl) ?_) | ((with_reducible refine gate_callee (f := 8) rfl ?_); refine goesL_ (some 21) rfl rfl Tryd.func8 (by kernel_rfl) rfl #[.agg (mixA (Value.int .u16) [.int .i8 a0_0, .int .i8 a0_1] a0_2)] rfl (by (try simp only [List.map_toArray, List.map_cons, List.map_nil]); first | done | rfl | (simp only [List.length_drop, List.length_take]; rfl)) ?_; (with_reducible refine (laws_toRoom.calls k a0_0 a0_1 a0_2 t335 t336 t337 _ A7.out).mono ?_); rintro e w19 ⟨rfl, hb⟩; refine ⟨_, rfl, ?_⟩; have n0_ := bkb BK328 hb; have n1_ := bkb BK334 hb; have n2_ := bst HB hb; clear BK328; clear BK334; clear HB; have BK328 := n0_; have BK334 := n1_; have HB := n2_; clear n0_ n1_ n2_; (try clear hb); (try clear hb2); (try clear hk); (try clear hi)) | ((with_reducible refine gate_callee (f := 9) rfl ?_); refine goesL_ (some 23) rfl rfl Tryd.func9 (by kernel_rfl) rfl #[.agg (mixA (Value.int .u16) [.int .i8 t335, .int .i8 t336] t337), .string a1] rfl (by (try simp only [List.map_toArray, List.map_cons, List.map_nil]); first | done | rfl | (simp only [List.length_drop, List.length_take]; rfl)) ?_; (with_reducible refine (impl_WhereBegun.calls k t335 t336 t337 a1 t338 t339 _ A8.out).mono ?_); rintro e w20 ⟨rfl, hb⟩; refine ⟨_, rfl, ?_⟩; have n0_ := bkb BK328 hb; have n1_ := bkb BK334 hb; have n2_ := bst HB hb; clear BK328; clear BK334; clear HB; have BK328 := n0_; have BK334 := n1_; have HB := n2_; clear n0_ n1_ n2_; (try clear hb); (try clear hb2); (try clear hk); (try clear hi)) | ((with_reducible refine gate_dst (N := 7) rfl ?_); refine box_event ?hg (N := 7) ?hd (cs := (mixA (Value.int .u16) [] (LA.zero 40))) (t := 28) ?hr ?_; (case hd => rfl); (case hg => rfl); (case hr => first | (go_simp; done) | (go_simp; rfl)); intro gb340 hg w21 hbox hb; have n0_ := bkb BK328 hb; have n1_ := bkb BK334 hb; have n2_ := bst HB hb; have n3_ := Aside0.mk (hbox); have n4_ := gwl HB hg; have n5_ := gwl HB hg; have n6_ := nbl BK328 hg; have n7_ := nbg BK328 hg; have n8_ := nbl BK334 hg; have n9_ := nbg BK334 hg; clear BK328; clear BK334; clear HB; have BK328 := n0_; have BK334 := n1_; have HB := n2_; have BK340 := n3_; have GW340 := n4_; have GE340 := n5_; have NB328_340 := n6_; have NB340_328 := n7_; have NB334_340 := n8_; have NB340_334 := n9_; clear n0_ n1_ n2_ n3_ n4_ n5_ n6_ n7_ n8_ n9_; clear hb hbox hg) | ((with_reducible refine gate_store (p := 7) rfl ?_); refine wpList_store_lmix rfl 28 _ _ rfl gb340 (e := (Value.int .u16)) (cs' := []) (W' := t338) (cs := []) (W := (LA.zero 40)) (T := 28) rfl rfl (pk BK340) rfl (by kernel_rfl) rfl (fun _ => rfl) rfl ?_; intro w22 hi hk hbl; have n0_ := Aside0.mk (KeepBut.blk hk (g' := gb328) (o := .cells (mixA (Value.int .u16) [.int .i8 a0_0, .int .i8 a0_1] a0_2) 26 (0, 0)) (pk BK328) NB328_340.out (by simp)); have n1_ := Aside0.mk (KeepBut.blk hk (g' := gb334) (o := .cells (mixA (Value.int .u16) [] t332) 28 (0, 0)) (pk BK334) NB334_340.out (by simp)); have n2_ := Aside0.mk (hbl _ _ (pbs HB) GE340.out); have n3_ := Aside0.mk (hi); clear BK328; clear BK334; clear HB; clear BK340; have BK328 := n0_; have BK334 := n1_; have HB := n2_; have BK340 := n3_; clear n0_ n1_ n2_ n3_; clear hi hk hbl) | ((with_reducible refine gate_dst (N := 26) rfl ?_); refine wpList_run0 (v := .agg (mixA (Value.int .u16) [] t338)) rfl (load_mix_run (P := Tryd.prog) 28 (.tmp 7) rfl gb340 rfl (show World.rangeAt _ gb340 0 ([] ++ t338.l.map (Value.int .u16)) from mix_range (show (World.heap _)[gb340]? = some (.cells (mixA (Value.int .u16) [] t338) 28 (0, 0)) from by (with_reducible repeat (first | refine blk_drewN ?_ _ | refine blk_drew ?_ | refine blk_alloc ?_ _)); exact BK340.out)) Tryd.underlying28 rfl (by kernel_rfl) rfl) ?_) | ((with_reducible refine gate_dst (N := 27) rfl ?_); refine wpList_run0 (v := .agg (mixA (Value.int .u16) [] t332)) rfl (load_mix_run (P := Tryd.prog) 28 (.tmp 5) rfl gb334 rfl (show World.rangeAt _ gb334 0 ([] ++ t332.l.map (Value.int .u16)) from mix_range (show (World.heap _)[gb334]? = some (.cells (mixA (Value.int .u16) [] t332) 28 (0, 0)) from by (with_reducible repeat (first | refine blk_drewN ?_ _ | refine blk_drew ?_ | refine blk_alloc ?_ _)); exact BK334.out)) Tryd.underlying28 rfl (by kernel_rfl) rfl) ?_) | ((with_reducible refine gate_callee (f := 10) rfl ?_); refine goesL_ (some 28) rfl rfl Tryd.func10 (by kernel_rfl) rfl #[.agg (mixA (Value.int .u16) [] t338), .agg (mixA (Value.int .u16) [] t332)] rfl (by (try simp only [List.map_toArray, List.map_cons, List.map_nil]); first | done | rfl | (simp only [List.length_drop, List.length_take]; rfl)) ?_; (with_reducible refine (laws_eqCrowd.calls k t338 t332 true _ A9.out).mono ?_); rintro e w25 ⟨rfl, hb⟩; refine ⟨_, rfl, ?_⟩; have n0_ := bkb BK328 hb; have n1_ := bkb BK334 hb; have n2_ := bkb BK340 hb; have n3_ := bst HB hb; clear BK328; clear BK334; clear BK340; clear HB; have BK328 := n0_; have BK334 := n1_; have BK340 := n2_; have HB := n3_; clear n0_ n1_ n2_ n3_; (try clear hb); (try clear hb2); (try clear hk); (try clear hi)))
    go_ret
    exact ⟨by first | rfl | (simp [errW_none, errW_some] <;> rfl) | (simp [*, errW_none, errW_some] <;> rfl), pbs HB⟩
   ·rw [if_neg c11] at H
    have c11b0 : (t339 == t333) = false := beq_eq_false_iff_ne.mpr c11
    have c11b1 : (t339 != t333) = true := bne_iff_ne.mpr c11
    obtain rfl := Option.some.inj H
    go_enter Tryd.func3, Tryd.ntmps3
    go_wp2_with (first | ((with_reducible refine gate_dst (N := 2) rfl ?_); refine box_event ?hg (N := 2) ?hd (cs := (mixA (Value.int .u16) [.int .i8 a0_0, .int .i8 a0_1] a0_2)) (t := 26) ?hr ?_; (case hd => rfl); (case hg => rfl); (case hr => first | (go_simp; done) | (go_simp; rfl)); intro gb328 hg w26 hbox hb; have n0_ := bst HB hb; have n1_ := Aside0.mk (hbox); have n2_ := gwl HB hg; have n3_ := gwl HB hg; clear HB; have HB := n0_; have BK328 := n1_; have GW328 := n2_; have GE328 := n3_; clear n0_ n1_ n2_ n3_; clear hb hbox hg) | ((with_reducible refine gate_dst (N := 13) rfl ?_); refine wpList_run0 (v := .agg (mixA (Value.int .u16) [.int .i8 a0_0, .int .i8 a0_1] a0_2)) rfl (load_mix_run (P := Tryd.prog) 26 (.tmp 2) rfl gb328 rfl (show World.rangeAt _ gb328 0 ([.int .i8 a0_0, .int .i8 a0_1] ++ a0_2.l.map (Value.int .u16)) from mix_range (show (World.heap _)[gb328]? = some (.cells (mixA (Value.int .u16) [.int .i8 a0_0, .int .i8 a0_1] a0_2) 26 (0, 0)) from by (with_reducible repeat (first | refine blk_drewN ?_ _ | refine blk_drew ?_ | refine blk_alloc ?_ _)); exact BK328.out)) Tryd.underlying26 rfl (by kernel_rfl) rfl) ?_) | ((with_reducible refine gate_callee (f := 8) rfl ?_); refine goesL_ (some 14) rfl rfl Tryd.func8 (by kernel_rfl) rfl #[.agg (mixA (Value.int .u16) [.int .i8 a0_0, .int .i8 a0_1] a0_2)] rfl (by (try simp only [List.map_toArray, List.map_cons, List.map_nil]); first | done | rfl | (simp only [List.length_drop, List.length_take]; rfl)) ?_; (with_reducible refine (laws_toRoom.calls k a0_0 a0_1 a0_2 t329 t330 t331 _ A5.out).mono ?_); rintro e w28 ⟨rfl, hb⟩; refine ⟨_, rfl, ?_⟩; have n0_ := bkb BK328 hb; have n1_ := bst HB hb; clear BK328; clear HB; have BK328 := n0_; have HB := n1_; clear n0_ n1_; (try clear hb); (try clear hb2); (try clear hk); (try clear hi)) | ((with_reducible refine gate_callee (f := 7) rfl ?_); refine goesL_ (some 16) rfl rfl Tryd.func7 (by kernel_rfl) rfl #[.agg (mixA (Value.int .u16) [.int .i8 t329, .int .i8 t330] t331), .string a1] rfl (by (try simp only [List.map_toArray, List.map_cons, List.map_nil]); first | done | rfl | (simp only [List.length_drop, List.length_take]; rfl)) ?_; (with_reducible refine (spec_WhereBegun.calls k t329 t330 t331 a1 t332 t333 _ A6.out).mono ?_); rintro e w29 ⟨rfl, hb⟩; refine ⟨_, rfl, ?_⟩; have n0_ := bkb BK328 hb; have n1_ := bst HB hb; clear BK328; clear HB; have BK328 := n0_; have HB := n1_; clear n0_ n1_; (try clear hb); (try clear hb2); (try clear hk); (try clear hi)) | ((with_reducible refine gate_dst (N := 5) rfl ?_); refine box_event ?hg (N := 5) ?hd (cs := (mixA (Value.int .u16) [] (LA.zero 40))) (t := 28) ?hr ?_; (case hd => rfl); (case hg => rfl); (case hr => first | (go_simp; done) | (go_simp; rfl)); intro gb334 hg w30 hbox hb; have n0_ := bkb BK328 hb; have n1_ := bst HB hb; have n2_ := Aside0.mk (hbox); have n3_ := gwl HB hg; have n4_ := gwl HB hg; have n5_ := nbl BK328 hg; have n6_ := nbg BK328 hg; clear BK328; clear HB; have BK328 := n0_; have HB := n1_; have BK334 := n2_; have GW334 := n3_; have GE334 := n4_; have NB328_334 := n5_; have NB334_328 := n6_; clear n0_ n1_ n2_ n3_ n4_ n5_ n6_; clear hb hbox hg) | ((with_reducible refine gate_store (p := 5) rfl ?_); refine wpList_store_lmix rfl 28 _ _ rfl gb334 (e := (Value.int .u16)) (cs' := []) (W' := t332) (cs := []) (W := (LA.zero 40)) (T := 28) rfl rfl (pk BK334) rfl (by kernel_rfl) rfl (fun _ => rfl) rfl ?_; intro w31 hi hk hbl; have n0_ := Aside0.mk (KeepBut.blk hk (g' := gb328) (o := .cells (mixA (Value.int .u16) [.int .i8 a0_0, .int .i8 a0_1] a0_2) 26 (0, 0)) (pk BK328) NB328_334.out (by simp)); have n1_ := Aside0.mk (hbl _ _ (pbs HB) GE334.out); have n2_ := Aside0.mk (hi); clear BK328; clear HB; clear BK334; have BK328 := n0_; have HB := n1_; have BK334 := n2_; clear n0_ n1_ n2_; clear hi hk hbl) | ((with_reducible refine gate_dst (N := 20) rfl ?_); refine wpList_run0 (v := .agg (mixA (Value.int .u16) [.int .i8 a0_0, .int .i8 a0_1] a0_2)) rfl (load_mix_run (P := Tryd.prog) 26 (.tmp 2) rfl gb328 rfl (show World.rangeAt _ gb328 0 ([.int .i8 a0_0, .int .i8 a0_1] ++ a0_2.l.map (Value.int .u16)) from mix_range (show (World.heap _)[gb328]? = some (.cells (mixA (Value.int .u16) [.int .i8 a0_0, .int .i8 a0_1] a0_2) 26 (0, 0)) from by (with_reducible repeat (first | refine blk_drewN ?_ _ | refine blk_drew ?_ | refine blk_alloc ?_ _)); exact BK328.out)) Tryd.underlying26 rfl (by kernel_rfl) rfl) ?_) | ((with_reducible refine gate_callee (f := 8) rfl ?_); refine goesL_ (some 21) rfl rfl Tryd.func8 (by kernel_rfl) rfl #[.agg (mixA (Value.int .u16) [.int .i8 a0_0, .int .i8 a0_1] a0_2)] rfl (by (try simp only [List.map_toArray, List.map_cons, List.map_nil]); first | done | rfl | (simp only [List.length_drop, List.length_take]; rfl)) ?_; (with_reducible refine (laws_toRoom.calls k a0_0 a0_1 a0_2 t335 t336 t337 _ A7.out).mono ?_); rintro e w33 ⟨rfl, hb⟩; refine ⟨_, rfl, ?_⟩; have n0_ := bkb BK328 hb; have n1_ := bkb BK334 hb; have n2_ := bst HB hb; clear BK328; clear BK334; clear HB; have BK328 := n0_; have BK334 := n1_; have HB := n2_; clear n0_ n1_ n2_; (try clear hb); (try clear hb2); (try clear hk); (try clear hi)) | ((with_reducible refine gate_callee (f := 9) rfl ?_); refine goesL_ (some 23) rfl rfl Tryd.func9 (by kernel_rfl) rfl #[.agg (mixA (Value.int .u16) [.int .i8 t335, .int .i8 t336] t337), .string a1] rfl (by (try simp only [List.map_toArray, List.map_cons, List.map_nil]); first | done | rfl | (simp only [List.length_drop, List.length_take]; rfl)) ?_; (with_reducible refine (impl_WhereBegun.calls k t335 t336 t337 a1 t338 t339 _ A8.out).mono ?_); rintro e w34 ⟨rfl, hb⟩; refine ⟨_, rfl, ?_⟩; have n0_ := bkb BK328 hb; have n1_ := bkb BK334 hb; have n2_ := bst HB hb; clear BK328; clear BK334; clear HB; have BK328 := n0_; have BK334 := n1_; have HB := n2_; clear n0_ n1_ n2_; (try clear hb); (try clear hb2); (try clear hk); (try clear hi)) | ((with_reducible refine gate_dst (N := 7) rfl ?_); refine box_event ?hg (N := 7) ?hd (cs := (mixA (Value.int .u16) [] (LA.zero 40))) (t := 28) ?hr ?_; (case hd => rfl); (case hg => rfl); (case hr => first | (go_simp; done) | (go_simp; rfl)); intro gb340 hg w35 hbox hb; have n0_ := bkb BK328 hb; have n1_ := bkb BK334 hb; have n2_ := bst HB hb; have n3_ := Aside0.mk (hbox); have n4_ := gwl HB hg; have n5_ := gwl HB hg; have n6_ := nbl BK328 hg; have n7_ := nbg BK328 hg; have n8_ := nbl BK334 hg; have n9_ := nbg BK334 hg; clear BK328; clear BK334; clear HB; have BK328 := n0_; have BK334 := n1_; have HB := n2_; have BK340 := n3_; have GW340 := n4_; have GE340 := n5_; have NB328_340 := n6_; have NB340_328 := n7_; have NB334_340 := n8_; have NB340_334 := n9_; clear n0_ n1_ n2_ n3_ n4_ n5_ n6_ n7_ n8_ n9_; clear hb hbox hg) | ((with_reducible refine gate_store (p := 7) rfl ?_); refine wpList_store_lmix rfl 28 _ _ rfl gb340 (e := (Value.int .u16)) (cs' := []) (W' := t338) (cs := []) (W := (LA.zero 40)) (T := 28) rfl rfl (pk BK340) rfl (by kernel_rfl) rfl (fun _ => rfl) rfl ?_; intro w36 hi hk hbl; have n0_ := Aside0.mk (KeepBut.blk hk (g' := gb328) (o := .cells (mixA (Value.int .u16) [.int .i8 a0_0, .int .i8 a0_1] a0_2) 26 (0, 0)) (pk BK328) NB328_340.out (by simp)); have n1_ := Aside0.mk (KeepBut.blk hk (g' := gb334) (o := .cells (mixA (Value.int .u16) [] t332) 28 (0, 0)) (pk BK334) NB334_340.out (by simp)); have n2_ := Aside0.mk (hbl _ _ (pbs HB) GE340.out); have n3_ := Aside0.mk (hi); clear BK328; clear BK334; clear HB; clear BK340; have BK328 := n0_; have BK334 := n1_; have HB := n2_; have BK340 := n3_; clear n0_ n1_ n2_ n3_; clear hi hk hbl) | ((with_reducible refine gate_dst (N := 26) rfl ?_); refine wpList_run0 (v := .agg (mixA (Value.int .u16) [] t338)) rfl (load_mix_run (P := Tryd.prog) 28 (.tmp 7) rfl gb340 rfl (show World.rangeAt _ gb340 0 ([] ++ t338.l.map (Value.int .u16)) from mix_range (show (World.heap _)[gb340]? = some (.cells (mixA (Value.int .u16) [] t338) 28 (0, 0)) from by (with_reducible repeat (first | refine blk_drewN ?_ _ | refine blk_drew ?_ | refine blk_alloc ?_ _)); exact BK340.out)) Tryd.underlying28 rfl (by kernel_rfl) rfl) ?_) | ((with_reducible refine gate_dst (N := 27) rfl ?_); refine wpList_run0 (v := .agg (mixA (Value.int .u16) [] t332)) rfl (load_mix_run (P := Tryd.prog) 28 (.tmp 5) rfl gb334 rfl (show World.rangeAt _ gb334 0 ([] ++ t332.l.map (Value.int .u16)) from mix_range (show (World.heap _)[gb334]? = some (.cells (mixA (Value.int .u16) [] t332) 28 (0, 0)) from by (with_reducible repeat (first | refine blk_drewN ?_ _ | refine blk_drew ?_ | refine blk_alloc ?_ _)); exact BK334.out)) Tryd.underlying28 rfl (by kernel_rfl) rfl) ?_) | ((with_reducible refine gate_callee (f := 10) rfl ?_); refine goesL_ (some 28) rfl rfl Tryd.func10 (by kernel_rfl) rfl #[.agg (mixA (Value.int .u16) [] t338), .agg (mixA (Value.int .u16) [] t332)] rfl (by (try simp only [List.map_toArray, List.map_cons, List.map_nil]); first | done | rfl | (simp only [List.length_drop, List.length_take]; rfl)) ?_; (with_reducible refine (laws_eqCrowd.calls k t338 t332 true _ A9.out).mono ?_); rintro e w39 ⟨rfl, hb⟩; refine ⟨_, rfl, ?_⟩; have n0_ := bkb BK328 hb; have n1_ := bkb BK334 hb; have n2_ := bkb BK340 hb; have n3_ := bst HB hb; clear BK328; clear BK334; clear BK340; clear HB; have BK328 := n0_; have BK334 := n1_; have BK340 := n2_; have HB := n3_; clear n0_ n1_ n2_ n3_; (try clear hb); (try clear hb2); (try clear hk); (try clear hi)))
    go_ret
    exact ⟨by first | rfl | (simp [errW_none, errW_some] <;> rfl) | (simp [*, errW_none, errW_some] <;> rfl), pbs HB⟩
  ·replace c10 := Bool.eq_false_iff.mpr c10
   subst c10
   have H1 : (some false) = some r := by rw [if_neg (show ¬ (false = true) by decide)] at H; exact H
   clear H
   have H := H1
   clear H1
   obtain rfl := Option.some.inj H
   go_enter Tryd.func3, Tryd.ntmps3
   go_wp2_with (first | ((with_reducible refine gate_dst (N := 2) rfl ?_); refine box_event ?hg (N := 2) ?hd (cs := (mixA (Value.int .u16) [.int .i8 a0_0, .int .i8 a0_1] a0_2)) (t := 26) ?hr ?_; (case hd => rfl); (case hg => rfl); (case hr => first | (go_simp; done) | (go_simp; rfl)); intro gb328 hg w40 hbox hb; have n0_ := bst HB hb; have n1_ := Aside0.mk (hbox); have n2_ := gwl HB hg; have n3_ := gwl HB hg; clear HB; have HB := n0_; have BK328 := n1_; have GW328 := n2_; have GE328 := n3_; clear n0_ n1_ n2_ n3_; clear hb hbox hg) | ((with_reducible refine gate_dst (N := 13) rfl ?_); refine wpList_run0 (v := .agg (mixA (Value.int .u16) [.int .i8 a0_0, .int .i8 a0_1] a0_2)) rfl (load_mix_run (P := Tryd.prog) 26 (.tmp 2) rfl gb328 rfl (show World.rangeAt _ gb328 0 ([.int .i8 a0_0, .int .i8 a0_1] ++ a0_2.l.map (Value.int .u16)) from mix_range (show (World.heap _)[gb328]? = some (.cells (mixA (Value.int .u16) [.int .i8 a0_0, .int .i8 a0_1] a0_2) 26 (0, 0)) from by (with_reducible repeat (first | refine blk_drewN ?_ _ | refine blk_drew ?_ | refine blk_alloc ?_ _)); exact BK328.out)) Tryd.underlying26 rfl (by kernel_rfl) rfl) ?_) | ((with_reducible refine gate_callee (f := 8) rfl ?_); refine goesL_ (some 14) rfl rfl Tryd.func8 (by kernel_rfl) rfl #[.agg (mixA (Value.int .u16) [.int .i8 a0_0, .int .i8 a0_1] a0_2)] rfl (by (try simp only [List.map_toArray, List.map_cons, List.map_nil]); first | done | rfl | (simp only [List.length_drop, List.length_take]; rfl)) ?_; (with_reducible refine (laws_toRoom.calls k a0_0 a0_1 a0_2 t329 t330 t331 _ A5.out).mono ?_); rintro e w42 ⟨rfl, hb⟩; refine ⟨_, rfl, ?_⟩; have n0_ := bkb BK328 hb; have n1_ := bst HB hb; clear BK328; clear HB; have BK328 := n0_; have HB := n1_; clear n0_ n1_; (try clear hb); (try clear hb2); (try clear hk); (try clear hi)) | ((with_reducible refine gate_callee (f := 7) rfl ?_); refine goesL_ (some 16) rfl rfl Tryd.func7 (by kernel_rfl) rfl #[.agg (mixA (Value.int .u16) [.int .i8 t329, .int .i8 t330] t331), .string a1] rfl (by (try simp only [List.map_toArray, List.map_cons, List.map_nil]); first | done | rfl | (simp only [List.length_drop, List.length_take]; rfl)) ?_; (with_reducible refine (spec_WhereBegun.calls k t329 t330 t331 a1 t332 t333 _ A6.out).mono ?_); rintro e w43 ⟨rfl, hb⟩; refine ⟨_, rfl, ?_⟩; have n0_ := bkb BK328 hb; have n1_ := bst HB hb; clear BK328; clear HB; have BK328 := n0_; have HB := n1_; clear n0_ n1_; (try clear hb); (try clear hb2); (try clear hk); (try clear hi)) | ((with_reducible refine gate_dst (N := 5) rfl ?_); refine box_event ?hg (N := 5) ?hd (cs := (mixA (Value.int .u16) [] (LA.zero 40))) (t := 28) ?hr ?_; (case hd => rfl); (case hg => rfl); (case hr => first | (go_simp; done) | (go_simp; rfl)); intro gb334 hg w44 hbox hb; have n0_ := bkb BK328 hb; have n1_ := bst HB hb; have n2_ := Aside0.mk (hbox); have n3_ := gwl HB hg; have n4_ := gwl HB hg; have n5_ := nbl BK328 hg; have n6_ := nbg BK328 hg; clear BK328; clear HB; have BK328 := n0_; have HB := n1_; have BK334 := n2_; have GW334 := n3_; have GE334 := n4_; have NB328_334 := n5_; have NB334_328 := n6_; clear n0_ n1_ n2_ n3_ n4_ n5_ n6_; clear hb hbox hg) | ((with_reducible refine gate_store (p := 5) rfl ?_); refine wpList_store_lmix rfl 28 _ _ rfl gb334 (e := (Value.int .u16)) (cs' := []) (W' := t332) (cs := []) (W := (LA.zero 40)) (T := 28) rfl rfl (pk BK334) rfl (by kernel_rfl) rfl (fun _ => rfl) rfl ?_; intro w45 hi hk hbl; have n0_ := Aside0.mk (KeepBut.blk hk (g' := gb328) (o := .cells (mixA (Value.int .u16) [.int .i8 a0_0, .int .i8 a0_1] a0_2) 26 (0, 0)) (pk BK328) NB328_334.out (by simp)); have n1_ := Aside0.mk (hbl _ _ (pbs HB) GE334.out); have n2_ := Aside0.mk (hi); clear BK328; clear HB; clear BK334; have BK328 := n0_; have HB := n1_; have BK334 := n2_; clear n0_ n1_ n2_; clear hi hk hbl) | ((with_reducible refine gate_dst (N := 20) rfl ?_); refine wpList_run0 (v := .agg (mixA (Value.int .u16) [.int .i8 a0_0, .int .i8 a0_1] a0_2)) rfl (load_mix_run (P := Tryd.prog) 26 (.tmp 2) rfl gb328 rfl (show World.rangeAt _ gb328 0 ([.int .i8 a0_0, .int .i8 a0_1] ++ a0_2.l.map (Value.int .u16)) from mix_range (show (World.heap _)[gb328]? = some (.cells (mixA (Value.int .u16) [.int .i8 a0_0, .int .i8 a0_1] a0_2) 26 (0, 0)) from by (with_reducible repeat (first | refine blk_drewN ?_ _ | refine blk_drew ?_ | refine blk_alloc ?_ _)); exact BK328.out)) Tryd.underlying26 rfl (by kernel_rfl) rfl) ?_) | ((with_reducible refine gate_callee (f := 8) rfl ?_); refine goesL_ (some 21) rfl rfl Tryd.func8 (by kernel_rfl) rfl #[.agg (mixA (Value.int .u16) [.int .i8 a0_0, .int .i8 a0_1] a0_2)] rfl (by (try simp only [List.map_toArray, List.map_cons, List.map_nil]); first | done | rfl | (simp only [List.length_drop, List.length_take]; rfl)) ?_; (with_reducible refine (laws_toRoom.calls k a0_0 a0_1 a0_2 t335 t336 t337 _ A7.out).mono ?_); rintro e w47 ⟨rfl, hb⟩; refine ⟨_, rfl, ?_⟩; have n0_ := bkb BK328 hb; have n1_ := bkb BK334 hb; have n2_ := bst HB hb; clear BK328; clear BK334; clear HB; have BK328 := n0_; have BK334 := n1_; have HB := n2_; clear n0_ n1_ n2_; (try clear hb); (try clear hb2); (try clear hk); (try clear hi)) | ((with_reducible refine gate_callee (f := 9) rfl ?_); refine goesL_ (some 23) rfl rfl Tryd.func9 (by kernel_rfl) rfl #[.agg (mixA (Value.int .u16) [.int .i8 t335, .int .i8 t336] t337), .string a1] rfl (by (try simp only [List.map_toArray, List.map_cons, List.map_nil]); first | done | rfl | (simp only [List.length_drop, List.length_take]; rfl)) ?_; (with_reducible refine (impl_WhereBegun.calls k t335 t336 t337 a1 t338 t339 _ A8.out).mono ?_); rintro e w48 ⟨rfl, hb⟩; refine ⟨_, rfl, ?_⟩; have n0_ := bkb BK328 hb; have n1_ := bkb BK334 hb; have n2_ := bst HB hb; clear BK328; clear BK334; clear HB; have BK328 := n0_; have BK334 := n1_; have HB := n2_; clear n0_ n1_ n2_; (try clear hb); (try clear hb2); (try clear hk); (try clear hi)) | ((with_reducible refine gate_dst (N := 7) rfl ?_); refine box_event ?hg (N := 7) ?hd (cs := (mixA (Value.int .u16) [] (LA.zero 40))) (t := 28) ?hr ?_; (case hd => rfl); (case hg => rfl); (case hr => first | (go_simp; done) | (go_simp; rfl)); intro gb340 hg w49 hbox hb; have n0_ := bkb BK328 hb; have n1_ := bkb BK334 hb; have n2_ := bst HB hb; have n3_ := Aside0.mk (hbox); have n4_ := gwl HB hg; have n5_ := gwl HB hg; have n6_ := nbl BK328 hg; have n7_ := nbg BK328 hg; have n8_ := nbl BK334 hg; have n9_ := nbg BK334 hg; clear BK328; clear BK334; clear HB; have BK328 := n0_; have BK334 := n1_; have HB := n2_; have BK340 := n3_; have GW340 := n4_; have GE340 := n5_; have NB328_340 := n6_; have NB340_328 := n7_; have NB334_340 := n8_; have NB340_334 := n9_; clear n0_ n1_ n2_ n3_ n4_ n5_ n6_ n7_ n8_ n9_; clear hb hbox hg) | ((with_reducible refine gate_store (p := 7) rfl ?_); refine wpList_store_lmix rfl 28 _ _ rfl gb340 (e := (Value.int .u16)) (cs' := []) (W' := t338) (cs := []) (W := (LA.zero 40)) (T := 28) rfl rfl (pk BK340) rfl (by kernel_rfl) rfl (fun _ => rfl) rfl ?_; intro w50 hi hk hbl; have n0_ := Aside0.mk (KeepBut.blk hk (g' := gb328) (o := .cells (mixA (Value.int .u16) [.int .i8 a0_0, .int .i8 a0_1] a0_2) 26 (0, 0)) (pk BK328) NB328_340.out (by simp)); have n1_ := Aside0.mk (KeepBut.blk hk (g' := gb334) (o := .cells (mixA (Value.int .u16) [] t332) 28 (0, 0)) (pk BK334) NB334_340.out (by simp)); have n2_ := Aside0.mk (hbl _ _ (pbs HB) GE340.out); have n3_ := Aside0.mk (hi); clear BK328; clear BK334; clear HB; clear BK340; have BK328 := n0_; have BK334 := n1_; have HB := n2_; have BK340 := n3_; clear n0_ n1_ n2_ n3_; clear hi hk hbl) | ((with_reducible refine gate_dst (N := 26) rfl ?_); refine wpList_run0 (v := .agg (mixA (Value.int .u16) [] t338)) rfl (load_mix_run (P := Tryd.prog) 28 (.tmp 7) rfl gb340 rfl (show World.rangeAt _ gb340 0 ([] ++ t338.l.map (Value.int .u16)) from mix_range (show (World.heap _)[gb340]? = some (.cells (mixA (Value.int .u16) [] t338) 28 (0, 0)) from by (with_reducible repeat (first | refine blk_drewN ?_ _ | refine blk_drew ?_ | refine blk_alloc ?_ _)); exact BK340.out)) Tryd.underlying28 rfl (by kernel_rfl) rfl) ?_) | ((with_reducible refine gate_dst (N := 27) rfl ?_); refine wpList_run0 (v := .agg (mixA (Value.int .u16) [] t332)) rfl (load_mix_run (P := Tryd.prog) 28 (.tmp 5) rfl gb334 rfl (show World.rangeAt _ gb334 0 ([] ++ t332.l.map (Value.int .u16)) from mix_range (show (World.heap _)[gb334]? = some (.cells (mixA (Value.int .u16) [] t332) 28 (0, 0)) from by (with_reducible repeat (first | refine blk_drewN ?_ _ | refine blk_drew ?_ | refine blk_alloc ?_ _)); exact BK334.out)) Tryd.underlying28 rfl (by kernel_rfl) rfl) ?_) | ((with_reducible refine gate_callee (f := 10) rfl ?_); refine goesL_ (some 28) rfl rfl Tryd.func10 (by kernel_rfl) rfl #[.agg (mixA (Value.int .u16) [] t338), .agg (mixA (Value.int .u16) [] t332)] rfl (by (try simp only [List.map_toArray, List.map_cons, List.map_nil]); first | done | rfl | (simp only [List.length_drop, List.length_take]; rfl)) ?_; (with_reducible refine (laws_eqCrowd.calls k t338 t332 false _ A9.out).mono ?_); rintro e w53 ⟨rfl, hb⟩; refine ⟨_, rfl, ?_⟩; have n0_ := bkb BK328 hb; have n1_ := bkb BK334 hb; have n2_ := bkb BK340 hb; have n3_ := bst HB hb; clear BK328; clear BK334; clear BK340; clear HB; have BK328 := n0_; have BK334 := n1_; have BK340 := n2_; have HB := n3_; clear n0_ n1_ n2_ n3_; (try clear hb); (try clear hb2); (try clear hk); (try clear hi)))
   go_ret
   exact ⟨by first | rfl | (simp [errW_none, errW_some] <;> rfl) | (simp [*, errW_none, errW_some] <;> rfl), pbs HB⟩
end Go.Proofs.YtdedijjbdkoekaaDoor.PB
end
section
namespace Go.Proofs.YtdedijjbdkoekaaDoor.PB
open Go.RowKit Go.Proofs.YtdedijjbdkoekaaDoorW.PrintWords Go.Proofs.YtdedijjbdkoekaaDoorW.PrintLast Go.Proofs.YtdedijjbdkoekaaDoorW.PrintMore Go.Proofs.YtdedijjbdkoekaaDoor.La
attribute [local go_sem] max2_int min2_int max_two min_two max_three min_three max_four min_four   -- for this text's walks alone
set_option linter.unusedVariables false
set_option linter.unusedSimpArgs false
mutual
def spec_l06Plain.l0 : Nat → List (S41) → Int → LA 40 → Option (LA 40)
 | 0, _, _, _ => none
 | k + 1, x4, x5, x129000 => if x5 < (x4.length : Int) then (spec_l06Plain.l1 k x4 x5 0 x129000) else (some x129000)
def spec_l06Plain.l1 : Nat → List (S41) → Int → Int → LA 40 → Option (LA 40)
 | 0, _, _, _, _ => none
 | k + 1, x4, x5, x6, x129000 => if x6 < 4 then (if 0 ≤ x5 then (if x5 < (x4.length : Int) then ((spec_l06Put.f x129000 ((rd_T41 x4 x5).f0) ((rd_T41 x4 x5).f1) x6).bind fun t133 => (spec_l06Plain.l1 k x4 x5 (wrap64 (x6 + 1)) t133)) else (none)) else (none)) else (spec_l06Plain.l0 k x4 (wrap64 (x5 + 1)) x129000)
end
def spec_l06Plain.f (k : Nat) (s0_0 : Int) (s0_1 : Int) (s0_2 : LA 10) : Option (LA 40) := (spec_l01All.f k s0_0 s0_1 s0_2).bind fun t129 => (spec_l06Plain.l0 k t129 0 (LA.zero 40))
theorem spec_l06Plain.mono_l : ∀ k, (∀ y0 y1 y2, LeO (spec_l06Plain.l0 k y0 y1 y2) (spec_l06Plain.l0 (k + 1) y0 y1 y2)) ∧ (∀ y0 y1 y2 y3, LeO (spec_l06Plain.l1 k y0 y1 y2 y3) (spec_l06Plain.l1 (k + 1) y0 y1 y2 y3))
 | 0 => ⟨fun _ _ _ r h => by simp [spec_l06Plain.l0] at h, fun _ _ _ _ r h => by simp [spec_l06Plain.l1] at h⟩
 | k + 1 => by
  obtain ⟨ih0, ih1⟩ := spec_l06Plain.mono_l k
  refine ⟨?_, ?_⟩
  ·intro y0 y1 y2
   unfold spec_l06Plain.l0
   repeat' first
   | (with_reducible exact ih0 _ _ _)
   | (with_reducible exact ih1 _ _ _ _)
   | (with_reducible exact spec_l01All.mono _ _ _ _)
   | (with_reducible exact LeO.refl _)
   | (with_reducible exact LeO.none _)
   | (with_reducible refine LeO.ite ?_ ?_)
   | (with_reducible refine LeO.bind ?_ (fun _ => ?_))
   | exact ih0 _ _ _
   | exact ih1 _ _ _ _
   | exact spec_l01All.mono _ _ _ _
   | exact LeO.none _
   | refine LeO.ite ?_ ?_
   | refine LeO.bind ?_ (fun _ => ?_)
  ·intro y0 y1 y2 y3
   unfold spec_l06Plain.l1
   repeat' first
   | (with_reducible exact ih0 _ _ _)
   | (with_reducible exact ih1 _ _ _ _)
   | (with_reducible exact spec_l01All.mono _ _ _ _)
   | (with_reducible exact LeO.refl _)
   | (with_reducible exact LeO.none _)
   | (with_reducible refine LeO.ite ?_ ?_)
   | (with_reducible refine LeO.bind ?_ (fun _ => ?_))
   | exact ih0 _ _ _
   | exact ih1 _ _ _ _
   | exact spec_l01All.mono _ _ _ _
   | exact LeO.none _
   | refine LeO.ite ?_ ?_
   | refine LeO.bind ?_ (fun _ => ?_)
theorem spec_l06Plain.mono : ∀ a0 a1 a2 k, LeO (spec_l06Plain.f k a0 a1 a2) (spec_l06Plain.f (k + 1) a0 a1 a2) := by
 intro a0 a1 a2 k
 obtain ⟨ih0, ih1⟩ := spec_l06Plain.mono_l k
 unfold spec_l06Plain.f
 repeat' first
   | (with_reducible exact ih0 _ _ _)
   | (with_reducible exact ih1 _ _ _ _)
   | (with_reducible exact spec_l01All.mono _ _ _ _)
   | (with_reducible exact LeO.refl _)
   | (with_reducible exact LeO.none _)
   | (with_reducible refine LeO.ite ?_ ?_)
   | (with_reducible refine LeO.bind ?_ (fun _ => ?_))
   | exact ih0 _ _ _
   | exact ih1 _ _ _ _
   | exact spec_l01All.mono _ _ _ _
   | exact LeO.none _
   | refine LeO.ite ?_ ?_
   | refine LeO.bind ?_ (fun _ => ?_)
mutual
def spec_l06Ok.l0 : Nat → Int → LA 40 → LA 40 → Option (Bool)
 | 0, _, _, _ => none
 | k + 1, x6, x2000, x137000 => if x6 < 4 then (spec_l06Ok.l1 k x6 0 x2000 x137000) else (some true)
def spec_l06Ok.l1 : Nat → Int → Int → LA 40 → LA 40 → Option (Bool)
 | 0, _, _, _, _ => none
 | k + 1, x6, x7, x2000, x137000 => if x7 < 10 then (if 0 ≤ x6 then (if x6 < 4 then (if 0 ≤ x7 then (if (Go.bits .andNot .u16 (rd x2000.l (x6 * 10 + x7)) (rd x137000.l (x6 * 10 + x7))) = 0 then (spec_l06Ok.l1 k x6 (wrap64 (x7 + 1)) x2000 x137000) else (some false)) else (none)) else (none)) else (none)) else (spec_l06Ok.l0 k (wrap64 (x6 + 1)) x2000 x137000)
end
def spec_l06Ok.f (k : Nat) (s0_0 : Int) (s0_1 : Int) (s0_2 : LA 10) (s1_0 : LA 40) : Option (Bool) := (spec_l01Ok.f k s0_0 s0_1 s0_2).bind fun t134 => (if t134 = true then ((spec_l06Plain.f k s0_0 s0_1 s0_2).bind fun t135 => (spec_l06Ok.l0 k 0 s1_0 t135)) else (some false))
theorem spec_l06Ok.mono_l : ∀ k, (∀ y0 y1 y2, LeO (spec_l06Ok.l0 k y0 y1 y2) (spec_l06Ok.l0 (k + 1) y0 y1 y2)) ∧ (∀ y0 y1 y2 y3, LeO (spec_l06Ok.l1 k y0 y1 y2 y3) (spec_l06Ok.l1 (k + 1) y0 y1 y2 y3))
 | 0 => ⟨fun _ _ _ r h => by simp [spec_l06Ok.l0] at h, fun _ _ _ _ r h => by simp [spec_l06Ok.l1] at h⟩
 | k + 1 => by
  obtain ⟨ih0, ih1⟩ := spec_l06Ok.mono_l k
  refine ⟨?_, ?_⟩
  ·intro y0 y1 y2
   unfold spec_l06Ok.l0
   repeat' first
   | (with_reducible exact ih0 _ _ _)
   | (with_reducible exact ih1 _ _ _ _)
   | (with_reducible exact spec_l01Ok.mono _ _ _ _)
   | (with_reducible exact spec_l06Plain.mono _ _ _ _)
   | (with_reducible exact LeO.refl _)
   | (with_reducible exact LeO.none _)
   | (with_reducible refine LeO.ite ?_ ?_)
   | (with_reducible refine LeO.bind ?_ (fun _ => ?_))
   | exact ih0 _ _ _
   | exact ih1 _ _ _ _
   | exact spec_l01Ok.mono _ _ _ _
   | exact spec_l06Plain.mono _ _ _ _
   | exact LeO.none _
   | refine LeO.ite ?_ ?_
   | refine LeO.bind ?_ (fun _ => ?_)
  ·intro y0 y1 y2 y3
   unfold spec_l06Ok.l1
   repeat' first
   | (with_reducible exact ih0 _ _ _)
   | (with_reducible exact ih1 _ _ _ _)
   | (with_reducible exact spec_l01Ok.mono _ _ _ _)
   | (with_reducible exact spec_l06Plain.mono _ _ _ _)
   | (with_reducible exact LeO.refl _)
   | (with_reducible exact LeO.none _)
   | (with_reducible refine LeO.ite ?_ ?_)
   | (with_reducible refine LeO.bind ?_ (fun _ => ?_))
   | exact ih0 _ _ _
   | exact ih1 _ _ _ _
   | exact spec_l01Ok.mono _ _ _ _
   | exact spec_l06Plain.mono _ _ _ _
   | exact LeO.none _
   | refine LeO.ite ?_ ?_
   | refine LeO.bind ?_ (fun _ => ?_)
theorem spec_l06Ok.mono : ∀ a0 a1 a2 a3 k, LeO (spec_l06Ok.f k a0 a1 a2 a3) (spec_l06Ok.f (k + 1) a0 a1 a2 a3) := by
 intro a0 a1 a2 a3 k
 obtain ⟨ih0, ih1⟩ := spec_l06Ok.mono_l k
 unfold spec_l06Ok.f
 repeat' first
   | (with_reducible exact ih0 _ _ _)
   | (with_reducible exact ih1 _ _ _ _)
   | (with_reducible exact spec_l01Ok.mono _ _ _ _)
   | (with_reducible exact spec_l06Plain.mono _ _ _ _)
   | (with_reducible exact LeO.refl _)
   | (with_reducible exact LeO.none _)
   | (with_reducible refine LeO.ite ?_ ?_)
   | (with_reducible refine LeO.bind ?_ (fun _ => ?_))
   | exact ih0 _ _ _
   | exact ih1 _ _ _ _
   | exact spec_l01Ok.mono _ _ _ _
   | exact spec_l06Plain.mono _ _ _ _
   | exact LeO.none _
   | refine LeO.ite ?_ ?_
   | refine LeO.bind ?_ (fun _ => ?_)
def spec_l06Has.f (s0_0 : LA 40) (a1_0 : Int) (a1_1 : Int) (a2 : Int) : Option (Bool) := if 0 ≤ a2 then (if a2 < 4 then (if 0 ≤ a1_1 then (if a1_1 < 10 then (if 0 ≤ (IntKind.u64.wrap (a1_0)) then (some ((Go.bits .and .u16 (shr .u16 (rd s0_0.l (a2 * 10 + a1_1)) (IntKind.u64.wrap (a1_0))) 1) == 1)) else (none)) else (none)) else (none)) else (none)) else (none)
def spec_l06Spot.f (a0 : Int) : Option (Int × Int) := some (IntKind.i8.wrap (Int.tmod a0 10), IntKind.i8.wrap (wrap64 (Int.tdiv a0 10)))
end Go.Proofs.YtdedijjbdkoekaaDoor.PB
end
section
namespace Go.Proofs.YtdedijjbdkoekaaDoor.PB
open Go.RowKit Go.Proofs.YtdedijjbdkoekaaDoorW.PrintWords Go.Proofs.YtdedijjbdkoekaaDoorW.PrintLast Go.Proofs.YtdedijjbdkoekaaDoorW.PrintMore Go.Proofs.YtdedijjbdkoekaaDoor.La
attribute [local go_sem] max2_int min2_int max_two min_two max_three min_three max_four min_four   -- for this text's walks alone
set_option linter.unusedVariables false
set_option linter.unusedSimpArgs false
mutual
def spec_l06Move.l0 : Nat → Int → Int → Int → Int → LA 10 → LA 40 → LA 40 → Option (LA 40)
 | 0, _, _, _, _, _, _, _ => none
 | k + 1, x2, x8, x1000, x1001, x1002, x2000, x153000 => if x8 < 100 then (spec_l06Move.l1 k x2 x8 0 x1000 x1001 x1002 x2000 x153000) else (some x153000)
def spec_l06Move.l1 : Nat → Int → Int → Int → Int → Int → LA 10 → LA 40 → LA 40 → Option (LA 40)
 | 0, _, _, _, _, _, _, _, _ => none
 | k + 1, x2, x8, x9, x1000, x1001, x1002, x2000, x153000 => if x9 < 4 then ((spec_l06Spot.f x8).bind fun bt153 => ((spec_l06Has.f x2000 bt153.1 bt153.2 x9).bind fun t156 => (if t156 = true then ((spec_l06Can.f x1000 x1001 x1002 bt153.1 bt153.2 x9 x2).bind fun t157 => (spec_l06Move.j2 k x2 x8 x9 t157 x1000 x1001 x1002 x2000 x153000 bt153.1 bt153.2)) else (spec_l06Move.j2 k x2 x8 x9 false x1000 x1001 x1002 x2000 x153000 bt153.1 bt153.2)))) else (spec_l06Move.l0 k x2 (wrap64 (x8 + 1)) x1000 x1001 x1002 x2000 x153000)
def spec_l06Move.j2 : Nat → Int → Int → Int → Bool → Int → Int → LA 10 → LA 40 → LA 40 → Int → Int → Option (LA 40)
 | 0, _, _, _, _, _, _, _, _, _, _, _ => none
 | k + 1, x2, x8, x9, x34, x1000, x1001, x1002, x2000, x153000, x156000, x156001 => if x34 = true then ((spec_l06Made.f x156000 x156001 x9 x2).bind fun bt158 => ((spec_l06Put.f x153000 bt158.1 bt158.2.1 bt158.2.2).bind fun t162 => (spec_l06Move.l1 k x2 x8 (wrap64 (x9 + 1)) x1000 x1001 x1002 x2000 t162))) else (spec_l06Move.l1 k x2 x8 (wrap64 (x9 + 1)) x1000 x1001 x1002 x2000 x153000)
end
def spec_l06Move.f (k : Nat) (s0_0 : Int) (s0_1 : Int) (s0_2 : LA 10) (s1_0 : LA 40) (a2 : Int) : Option (LA 40) := spec_l06Move.l0 k a2 0 s0_0 s0_1 s0_2 s1_0 (LA.zero 40)
theorem spec_l06Move.mono_l : ∀ k, (∀ y0 y1 y2 y3 y4 y5 y6, LeO (spec_l06Move.l0 k y0 y1 y2 y3 y4 y5 y6) (spec_l06Move.l0 (k + 1) y0 y1 y2 y3 y4 y5 y6)) ∧ (∀ y0 y1 y2 y3 y4 y5 y6 y7, LeO (spec_l06Move.l1 k y0 y1 y2 y3 y4 y5 y6 y7) (spec_l06Move.l1 (k + 1) y0 y1 y2 y3 y4 y5 y6 y7)) ∧ (∀ y0 y1 y2 y3 y4 y5 y6 y7 y8 y9 y10, LeO (spec_l06Move.j2 k y0 y1 y2 y3 y4 y5 y6 y7 y8 y9 y10) (spec_l06Move.j2 (k + 1) y0 y1 y2 y3 y4 y5 y6 y7 y8 y9 y10))
 | 0 => ⟨fun _ _ _ _ _ _ _ r h => by simp [spec_l06Move.l0] at h, fun _ _ _ _ _ _ _ _ r h => by simp [spec_l06Move.l1] at h, fun _ _ _ _ _ _ _ _ _ _ _ r h => by simp [spec_l06Move.j2] at h⟩
 | k + 1 => by
  obtain ⟨ih0, ih1, ih2⟩ := spec_l06Move.mono_l k
  refine ⟨?_, ?_, ?_⟩
  ·intro y0 y1 y2 y3 y4 y5 y6
   unfold spec_l06Move.l0
   repeat' first
   | (with_reducible exact ih0 _ _ _ _ _ _ _)
   | (with_reducible exact ih1 _ _ _ _ _ _ _ _)
   | (with_reducible exact ih2 _ _ _ _ _ _ _ _ _ _ _)
   | (with_reducible exact LeO.refl _)
   | (with_reducible exact LeO.none _)
   | (with_reducible refine LeO.ite ?_ ?_)
   | (with_reducible refine LeO.bind ?_ (fun _ => ?_))
   | exact ih0 _ _ _ _ _ _ _
   | exact ih1 _ _ _ _ _ _ _ _
   | exact ih2 _ _ _ _ _ _ _ _ _ _ _
   | exact LeO.none _
   | refine LeO.ite ?_ ?_
   | refine LeO.bind ?_ (fun _ => ?_)
  ·intro y0 y1 y2 y3 y4 y5 y6 y7
   unfold spec_l06Move.l1
   repeat' first
   | (with_reducible exact ih0 _ _ _ _ _ _ _)
   | (with_reducible exact ih1 _ _ _ _ _ _ _ _)
   | (with_reducible exact ih2 _ _ _ _ _ _ _ _ _ _ _)
   | (with_reducible exact LeO.refl _)
   | (with_reducible exact LeO.none _)
   | (with_reducible refine LeO.ite ?_ ?_)
   | (with_reducible refine LeO.bind ?_ (fun _ => ?_))
   | exact ih0 _ _ _ _ _ _ _
   | exact ih1 _ _ _ _ _ _ _ _
   | exact ih2 _ _ _ _ _ _ _ _ _ _ _
   | exact LeO.none _
   | refine LeO.ite ?_ ?_
   | refine LeO.bind ?_ (fun _ => ?_)
  ·intro y0 y1 y2 y3 y4 y5 y6 y7 y8 y9 y10
   unfold spec_l06Move.j2
   repeat' first
   | (with_reducible exact ih0 _ _ _ _ _ _ _)
   | (with_reducible exact ih1 _ _ _ _ _ _ _ _)
   | (with_reducible exact ih2 _ _ _ _ _ _ _ _ _ _ _)
   | (with_reducible exact LeO.refl _)
   | (with_reducible exact LeO.none _)
   | (with_reducible refine LeO.ite ?_ ?_)
   | (with_reducible refine LeO.bind ?_ (fun _ => ?_))
   | exact ih0 _ _ _ _ _ _ _
   | exact ih1 _ _ _ _ _ _ _ _
   | exact ih2 _ _ _ _ _ _ _ _ _ _ _
   | exact LeO.none _
   | refine LeO.ite ?_ ?_
   | refine LeO.bind ?_ (fun _ => ?_)
theorem spec_l06Move.mono : ∀ a0 a1 a2 a3 a4 k, LeO (spec_l06Move.f k a0 a1 a2 a3 a4) (spec_l06Move.f (k + 1) a0 a1 a2 a3 a4) := by
 intro a0 a1 a2 a3 a4 k
 obtain ⟨ih0, ih1, ih2⟩ := spec_l06Move.mono_l k
 unfold spec_l06Move.f
 repeat' first
   | (with_reducible exact ih0 _ _ _ _ _ _ _)
   | (with_reducible exact ih1 _ _ _ _ _ _ _ _)
   | (with_reducible exact ih2 _ _ _ _ _ _ _ _ _ _ _)
   | (with_reducible exact LeO.refl _)
   | (with_reducible exact LeO.none _)
   | (with_reducible refine LeO.ite ?_ ?_)
   | (with_reducible refine LeO.bind ?_ (fun _ => ?_))
   | exact ih0 _ _ _ _ _ _ _
   | exact ih1 _ _ _ _ _ _ _ _
   | exact ih2 _ _ _ _ _ _ _ _ _ _ _
   | exact LeO.none _
   | refine LeO.ite ?_ ?_
   | refine LeO.bind ?_ (fun _ => ?_)
mutual
def impl_Crowd_isIn.l0 : Nat → LA 40 → Int → Int → Int → LA 10 → Option (Bool)
 | 0, _, _, _, _, _ => none
 | k + 1, x10, x11, x232000, x232001, x232002 => if x11 < 4 then (if 0 ≤ x11 then (impl_Crowd_isIn.l1 k x10 x11 (LA.row x10 10 x11) 0 x232000 x232001 x232002) else (none)) else (some true)
def impl_Crowd_isIn.l1 : Nat → LA 40 → Int → LA 10 → Int → Int → Int → LA 10 → Option (Bool)
 | 0, _, _, _, _, _, _, _ => none
 | k + 1, x10, x11, x14, x15, x232000, x232001, x232002 => if x15 < 10 then (if 0 ≤ x15 then (impl_Crowd_isIn.l2 k x15 (rd x14.l x15) x10 x11 x14 x15 0 x232000 x232001 x232002) else (none)) else (impl_Crowd_isIn.l0 k x10 (wrap64 (x11 + 1)) x232000 x232001 x232002)
def impl_Crowd_isIn.l2 : Nat → Int → Int → LA 40 → Int → LA 10 → Int → Int → Int → Int → LA 10 → Option (Bool)
 | 0, _, _, _, _, _, _, _, _, _, _ => none
 | k + 1, x7, x8, x10, x11, x14, x15, x19, x232000, x232001, x232002 => if x19 < 16 then (if 0 ≤ x19 then (if (Go.bits .and .u16 (shr .u16 x8 x19) 1) = 1 then ((impl_Room_isFree.f x232000 x232001 x232002 x19 (IntKind.i8.wrap (x7))).bind fun t233 => (if t233 = true then (impl_Crowd_isIn.l2 k x7 x8 x10 x11 x14 x15 (IntKind.i8.wrap (x19 + 1)) x232000 x232001 x232002) else (some false))) else (impl_Crowd_isIn.l2 k x7 x8 x10 x11 x14 x15 (IntKind.i8.wrap (x19 + 1)) x232000 x232001 x232002)) else (none)) else (impl_Crowd_isIn.l1 k x10 x11 x14 (wrap64 (x15 + 1)) x232000 x232001 x232002)
end
def impl_Crowd_isIn.f (k : Nat) (a0 : LA 40) (a1_0 : Int) (a1_1 : Int) (a1_2 : LA 10) : Option (Bool) := impl_Crowd_isIn.l0 k a0 0 a1_0 a1_1 a1_2
theorem impl_Crowd_isIn.mono_l : ∀ k, (∀ y0 y1 y2 y3 y4, LeO (impl_Crowd_isIn.l0 k y0 y1 y2 y3 y4) (impl_Crowd_isIn.l0 (k + 1) y0 y1 y2 y3 y4)) ∧ (∀ y0 y1 y2 y3 y4 y5 y6, LeO (impl_Crowd_isIn.l1 k y0 y1 y2 y3 y4 y5 y6) (impl_Crowd_isIn.l1 (k + 1) y0 y1 y2 y3 y4 y5 y6)) ∧ (∀ y0 y1 y2 y3 y4 y5 y6 y7 y8 y9, LeO (impl_Crowd_isIn.l2 k y0 y1 y2 y3 y4 y5 y6 y7 y8 y9) (impl_Crowd_isIn.l2 (k + 1) y0 y1 y2 y3 y4 y5 y6 y7 y8 y9))
 | 0 => ⟨fun _ _ _ _ _ r h => by simp [impl_Crowd_isIn.l0] at h, fun _ _ _ _ _ _ _ r h => by simp [impl_Crowd_isIn.l1] at h, fun _ _ _ _ _ _ _ _ _ _ r h => by simp [impl_Crowd_isIn.l2] at h⟩
 | k + 1 => by
  obtain ⟨ih0, ih1, ih2⟩ := impl_Crowd_isIn.mono_l k
  refine ⟨?_, ?_, ?_⟩
  ·intro y0 y1 y2 y3 y4
   unfold impl_Crowd_isIn.l0
   repeat' first
   | (with_reducible exact ih0 _ _ _ _ _)
   | (with_reducible exact ih1 _ _ _ _ _ _ _)
   | (with_reducible exact ih2 _ _ _ _ _ _ _ _ _ _)
   | (with_reducible exact LeO.refl _)
   | (with_reducible exact LeO.none _)
   | (with_reducible refine LeO.ite ?_ ?_)
   | (with_reducible refine LeO.bind ?_ (fun _ => ?_))
   | exact ih0 _ _ _ _ _
   | exact ih1 _ _ _ _ _ _ _
   | exact ih2 _ _ _ _ _ _ _ _ _ _
   | exact LeO.none _
   | refine LeO.ite ?_ ?_
   | refine LeO.bind ?_ (fun _ => ?_)
  ·intro y0 y1 y2 y3 y4 y5 y6
   unfold impl_Crowd_isIn.l1
   repeat' first
   | (with_reducible exact ih0 _ _ _ _ _)
   | (with_reducible exact ih1 _ _ _ _ _ _ _)
   | (with_reducible exact ih2 _ _ _ _ _ _ _ _ _ _)
   | (with_reducible exact LeO.refl _)
   | (with_reducible exact LeO.none _)
   | (with_reducible refine LeO.ite ?_ ?_)
   | (with_reducible refine LeO.bind ?_ (fun _ => ?_))
   | exact ih0 _ _ _ _ _
   | exact ih1 _ _ _ _ _ _ _
   | exact ih2 _ _ _ _ _ _ _ _ _ _
   | exact LeO.none _
   | refine LeO.ite ?_ ?_
   | refine LeO.bind ?_ (fun _ => ?_)
  ·intro y0 y1 y2 y3 y4 y5 y6 y7 y8 y9
   unfold impl_Crowd_isIn.l2
   repeat' first
   | (with_reducible exact ih0 _ _ _ _ _)
   | (with_reducible exact ih1 _ _ _ _ _ _ _)
   | (with_reducible exact ih2 _ _ _ _ _ _ _ _ _ _)
   | (with_reducible exact LeO.refl _)
   | (with_reducible exact LeO.none _)
   | (with_reducible refine LeO.ite ?_ ?_)
   | (with_reducible refine LeO.bind ?_ (fun _ => ?_))
   | exact ih0 _ _ _ _ _
   | exact ih1 _ _ _ _ _ _ _
   | exact ih2 _ _ _ _ _ _ _ _ _ _
   | exact LeO.none _
   | refine LeO.ite ?_ ?_
   | refine LeO.bind ?_ (fun _ => ?_)
theorem impl_Crowd_isIn.mono : ∀ a0 a1 a2 a3 k, LeO (impl_Crowd_isIn.f k a0 a1 a2 a3) (impl_Crowd_isIn.f (k + 1) a0 a1 a2 a3) := by
 intro a0 a1 a2 a3 k
 obtain ⟨ih0, ih1, ih2⟩ := impl_Crowd_isIn.mono_l k
 unfold impl_Crowd_isIn.f
 repeat' first
   | (with_reducible exact ih0 _ _ _ _ _)
   | (with_reducible exact ih1 _ _ _ _ _ _ _)
   | (with_reducible exact ih2 _ _ _ _ _ _ _ _ _ _)
   | (with_reducible exact LeO.refl _)
   | (with_reducible exact LeO.none _)
   | (with_reducible refine LeO.ite ?_ ?_)
   | (with_reducible refine LeO.bind ?_ (fun _ => ?_))
   | exact ih0 _ _ _ _ _
   | exact ih1 _ _ _ _ _ _ _
   | exact ih2 _ _ _ _ _ _ _ _ _ _
   | exact LeO.none _
   | refine LeO.ite ?_ ?_
   | refine LeO.bind ?_ (fun _ => ?_)
def impl_ValidCrowd.f (k : Nat) (a0_0 : Int) (a0_1 : Int) (a0_2 : LA 10) (a1 : LA 40) : Option (Bool) := (impl_ValidRoom.f k a0_0 a0_1 a0_2).bind fun t236 => (if t236 = true then ((impl_Crowd_isIn.f k a1 a0_0 a0_1 a0_2).bind fun t237 => (some t237)) else (some false))
theorem impl_ValidCrowd.mono : ∀ a0 a1 a2 a3 k, LeO (impl_ValidCrowd.f k a0 a1 a2 a3) (impl_ValidCrowd.f (k + 1) a0 a1 a2 a3) := by
 intro a0 a1 a2 a3 k
 unfold impl_ValidCrowd.f
 repeat' first
   | (with_reducible exact impl_Crowd_isIn.mono _ _ _ _ _)
   | (with_reducible exact impl_ValidRoom.mono _ _ _ _)
   | (with_reducible exact LeO.refl _)
   | (with_reducible exact LeO.none _)
   | (with_reducible refine LeO.ite ?_ ?_)
   | (with_reducible refine LeO.bind ?_ (fun _ => ?_))
   | exact impl_Crowd_isIn.mono _ _ _ _ _
   | exact impl_ValidRoom.mono _ _ _ _
   | exact LeO.none _
   | refine LeO.ite ?_ ?_
   | refine LeO.bind ?_ (fun _ => ?_)
end Go.Proofs.YtdedijjbdkoekaaDoor.PB
end
section
namespace Go.Proofs.YtdedijjbdkoekaaDoor.PB
open Go.RowKit Go.Proofs.YtdedijjbdkoekaaDoorW.PrintWords Go.Proofs.YtdedijjbdkoekaaDoorW.PrintLast Go.Proofs.YtdedijjbdkoekaaDoorW.PrintMore Go.Proofs.YtdedijjbdkoekaaDoor.La
attribute [local go_sem] max2_int min2_int max_two min_two max_three min_three max_four min_four   -- for this text's walks alone
set_option linter.unusedVariables false
set_option linter.unusedSimpArgs false
def impl_MovesCrowd.f (k : Nat) (a0_0 : Int) (a0_1 : Int) (a0_2 : LA 10) (a1 : LA 40) (a2 : ByteArray) : Option (LA 40 × Int) := (impl_ValidCrowd.f k a0_0 a0_1 a0_2 a1).bind fun t241 => (if t241 = true then ((impl_movesCode.f a2).bind fun t242 => (if t242 = 0 then ((impl_Crowd_movedBy.f k a1 a0_0 a0_1 a0_2 a2).bind fun t243 => (some (t243, 0))) else (some ((LA.zero 40), t242)))) else (some ((LA.zero 40), 1)))
theorem impl_MovesCrowd.mono : ∀ a0 a1 a2 a3 a4 k, LeO (impl_MovesCrowd.f k a0 a1 a2 a3 a4) (impl_MovesCrowd.f (k + 1) a0 a1 a2 a3 a4) := by
 intro a0 a1 a2 a3 a4 k
 unfold impl_MovesCrowd.f
 repeat' first
   | (with_reducible exact impl_Crowd_movedBy.mono _ _ _ _ _ _)
   | (with_reducible exact impl_ValidCrowd.mono _ _ _ _ _)
   | (with_reducible exact LeO.refl _)
   | (with_reducible exact LeO.none _)
   | (with_reducible refine LeO.ite ?_ ?_)
   | (with_reducible refine LeO.bind ?_ (fun _ => ?_))
   | exact impl_Crowd_movedBy.mono _ _ _ _ _ _
   | exact impl_ValidCrowd.mono _ _ _ _ _
   | exact LeO.none _
   | refine LeO.ite ?_ ?_
   | refine LeO.bind ?_ (fun _ => ?_)
end Go.Proofs.YtdedijjbdkoekaaDoor.PB
end
section
namespace Go.Proofs.YtdedijjbdkoekaaDoor.PB
open Go.RowKit Go.Proofs.YtdedijjbdkoekaaDoorW.PrintWords Go.Proofs.YtdedijjbdkoekaaDoorW.PrintLast Go.Proofs.YtdedijjbdkoekaaDoorW.PrintMore Go.Proofs.YtdedijjbdkoekaaDoor.La
attribute [local go_sem] max2_int min2_int max_two min_two max_three min_three max_four min_four   -- for this text's walks alone
set_option linter.unusedVariables false
set_option linter.unusedSimpArgs false
def spec_MoveCrowd.f (k : Nat) (a0_0 : Int) (a0_1 : Int) (a0_2 : LA 10) (a1 : LA 40) (a2 : Int) : Option (LA 40 × Int) := (spec_l06Ok.f k a0_0 a0_1 a0_2 a1).bind fun t166 => (if t166 = true then ((spec_l06Letter.f a2).bind fun t167 => (if t167 = true then ((spec_l06Move.f k a0_0 a0_1 a0_2 a1 a2).bind fun t168 => (some (t168, 0))) else (some ((LA.zero 40), 5)))) else (some ((LA.zero 40), 1)))
theorem spec_MoveCrowd.mono : ∀ a0 a1 a2 a3 a4 k, LeO (spec_MoveCrowd.f k a0 a1 a2 a3 a4) (spec_MoveCrowd.f (k + 1) a0 a1 a2 a3 a4) := by
 intro a0 a1 a2 a3 a4 k
 unfold spec_MoveCrowd.f
 repeat' first
   | (with_reducible exact spec_l06Move.mono _ _ _ _ _ _)
   | (with_reducible exact spec_l06Ok.mono _ _ _ _ _)
   | (with_reducible exact LeO.refl _)
   | (with_reducible exact LeO.none _)
   | (with_reducible refine LeO.ite ?_ ?_)
   | (with_reducible refine LeO.bind ?_ (fun _ => ?_))
   | exact spec_l06Move.mono _ _ _ _ _ _
   | exact spec_l06Ok.mono _ _ _ _ _
   | exact LeO.none _
   | refine LeO.ite ?_ ?_
   | refine LeO.bind ?_ (fun _ => ?_)
def impl_MoveCrowd.f (k : Nat) (a0_0 : Int) (a0_1 : Int) (a0_2 : LA 10) (a1 : LA 40) (a2 : Int) : Option (LA 40 × Int) := (impl_MovesCrowd.f k a0_0 a0_1 a0_2 a1 (strOfNums (([a2] : List Int)))).bind fun bt250 => (some (bt250.1, bt250.2))
theorem impl_MoveCrowd.mono : ∀ a0 a1 a2 a3 a4 k, LeO (impl_MoveCrowd.f k a0 a1 a2 a3 a4) (impl_MoveCrowd.f (k + 1) a0 a1 a2 a3 a4) := by
 intro a0 a1 a2 a3 a4 k
 unfold impl_MoveCrowd.f
 repeat' first
   | (with_reducible exact impl_MovesCrowd.mono _ _ _ _ _ _)
   | (with_reducible exact LeO.refl _)
   | (with_reducible exact LeO.none _)
   | (with_reducible refine LeO.ite ?_ ?_)
   | (with_reducible refine LeO.bind ?_ (fun _ => ?_))
   | exact impl_MovesCrowd.mono _ _ _ _ _ _
   | exact LeO.none _
   | refine LeO.ite ?_ ?_
   | refine LeO.bind ?_ (fun _ => ?_)
end Go.Proofs.YtdedijjbdkoekaaDoor.PB
end
