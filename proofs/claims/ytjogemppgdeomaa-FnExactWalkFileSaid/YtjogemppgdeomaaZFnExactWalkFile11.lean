/- The statement FnExactWalkFile of this program: what its proof uses, part 12 of 13. The call returns true for all arguments. No condition of its own. -/
import Derived.Test.YtjogemppgdeomaaZFnExactWalkFile10
section
namespace Go.Proofs.Ytjogemppgdeomaa.PB
open Go.RowKit Go.Proofs.YtjogemppgdeomaaW.PrintWords Go.Proofs.YtjogemppgdeomaaW.PrintLast Go.Proofs.YtjogemppgdeomaaW.PrintMore Go.Proofs.Ytjogemppgdeomaa.La
attribute [local go_sem] max2_int min2_int max_two min_two max_three min_three max_four min_four   -- for this text's walks alone
set_option linter.unusedVariables false
set_option linter.unusedSimpArgs false
def laws_markFileS.l0 : Nat → List (List S55) → Int → Int → Option (Int × List (List S55))
  | 0, _, _, _ => none
  | k + 1, x, m, i => if i < (x.length : Int) then (if 0 ≤ i then ((laws_markFile.f k (x.getD i.toNat []) m).bind fun t => laws_markFileS.l0 k (x.set i.toNat t.2) t.1 (wrap64 (i + 1))) else none) else some (m, x)
def laws_markFileS.f (k : Nat) (l0 : List (List S55)) (a1 : Int) : Option (Int × List (List S55)) := laws_markFileS.l0 k l0 a1 0
theorem laws_markFileS.mono_l : ∀ k, ∀ y0 y1 y2, LeO (laws_markFileS.l0 k y0 y1 y2) (laws_markFileS.l0 (k + 1) y0 y1 y2)
  | 0 => fun _ _ _ r h => by simp [laws_markFileS.l0] at h
  | k + 1 => by
    have ih0 := laws_markFileS.mono_l k
    intro y0 y1 y2
    unfold laws_markFileS.l0
    exact LeO.ite (LeO.ite (LeO.bind (laws_markFile.mono _ _ _) (fun _ => ih0 _ _ _)) (LeO.none _)) (LeO.refl _)
theorem laws_markFileS.mono : ∀ a0 a1 k, LeO (laws_markFileS.f k a0 a1) (laws_markFileS.f (k + 1) a0 a1) := fun a0 a1 k => laws_markFileS.mono_l k _ _ _
set_option maxHeartbeats 8000000 in
set_option maxRecDepth 100000 in
theorem laws_markFileS.calls (k : Nat) (P0_ : Nat → Prop) (u : Value) (l0 : List (List S55)) (a1 : Int) (r1 : Int) (r2 : List (List S55)) (w0 w : World) (hB : Below w0.heap.size w0 w) (ho0 : Kd.S (Kd.slice 55 k55) 30 w w0.heap.size P0_ u l0) (h : laws_markFileS.f k l0 a1 = some (r1, r2)) :
    Calls Try.prog 26 #[u, .int .i64 a1] w fun e w' => e = .returned (.int .i64 r1) ∧ Kd.S (Kd.slice 55 k55) 30 w' w0.heap.size (fun k_ => (P0_ k_ ∨ w.heap.size ≤ k_)) u r2 ∧ Below w0.heap.size w0 w' ∧ Kept w w' (fun k_ => P0_ k_) := by
  have HO := Aside0.mk (Kd.S_mono (ok' := fun k_ => (P0_ k_ ∨ w.heap.size ≤ k_)) ho0 (fun _ hk => .inl hk))
  have HK := Aside0.mk (Kept.refl w (fun k_ => P0_ k_))
  have HB := Aside0.mk hB
  have H' := Aside0.mk (show laws_markFileS.l0 k l0 a1 0 = some (r1, r2) from h)
  obtain ⟨A0, c0, e0⟩ := Kd.S_slice ho0
  subst e0
  clear ho0 hB h
  go_enter Try.func26, Try.ntmps26
  go_wp2
  go_loopg [1, 5] k (fun kq v1 v5 w' => ∃ (m i : Int) (x : List (List S55)), v1 = .int .i64 m ∧ v5 = .int .i64 i ∧ Aside0 (x.length = l0.length) ∧ Aside0 (laws_markFileS.l0 kq x m i = some (r1, r2)) ∧ Aside0 (kq ≤ k) ∧ Aside0 (Kd.S (Kd.slice 55 k55) 30 w' w0.heap.size (fun k_ => (P0_ k_ ∨ w.heap.size ≤ k_)) (.slice A0 l0.length c0) x) ∧ Aside0 (Below w0.heap.size w0 w') ∧ Aside0 (Kept w w' (fun k_ => P0_ k_)))
  case atStart => exact ⟨a1, 0, l0, (by first | rfl | (simp; done) | (simp [*]; done)), (by first | rfl | (simp; done) | (simp [*]; done)), ⟨rfl⟩, H', ⟨Nat.le_refl _⟩, ⟨by (with_reducible repeat (first | apply Kd.S_alloc | apply Kd.S_drewN | apply Kd.S_drew)); exact HO.out⟩, ⟨pbs HB⟩, ⟨HK.out⟩⟩
  case round =>
    clear H'
    obtain ⟨m, i, x, rfl, rfl, HX, HA, HK1, HO, HB, HK⟩ := hrel
    cases gk with
    | zero => exact absurd HA.out (by simp [laws_markFileS.l0])
    | succ k1 =>
      have H := HA.out
      clear HA
      simp only [laws_markFileS.l0] at H
      have hl := HX.out
      by_cases c2_ : i < (x.length : Int)
      · rw [if_pos c2_] at H
        have c2b0 : decide (i < (l0.length : Int)) = true := decide_eq_true (by omega)
        by_cases c3_ : 0 ≤ i
        · rw [if_pos c3_] at H
          obtain ⟨⟨t1, t2⟩, A4, H⟩ := Option.bind_eq_some_iff.mp H
          have A5 := Aside0.mk A4
          clear A4
          have H' := Aside0.mk (show laws_markFileS.l0 k1 (x.set i.toNat t2) t1 (wrap64 (i + 1)) = some (r1, r2) from H)
          clear H
          obtain ⟨g, cap, eg, hgb, hglt, _⟩ := Kd.S_form HO.out (by omega)
          injection eg with e1 e2 e3
          subst e1
          clear e2 e3
          obtain ⟨oki, cs, hcl, hM, hcc, hok, hH⟩ := Kd.S_lend HO.out [] i c3_ (by omega)
          obtain ⟨v, rfl, hR⟩ := hM
          obtain ⟨y, hy⟩ : ∃ y_ : List S55, y_ = x.getD i.toNat [] := ⟨_, rfl⟩
          rw [← hy] at hR
          have A6 := Aside0.mk (show laws_markFile.f k1 y m = some (t1, t2) by rw [hy]; exact A5.out)
          clear A5 hy
          obtain ⟨Av, cv, ev⟩ := Kd.R_slice hR
          subst ev
          have hx := hcc 0 _ rfl
          rw [show (Kd.slice 55 k55).sz = 1 from rfl, Nat.mul_one, Nat.add_zero] at hx
          have HR := Aside0.mk hR
          have HH := Aside0.mk hH
          have p_ := eq_true c3_
          have q_ : (i < (l0.length : Int)) = True := eq_true (by omega)
          clear hR hH hcc hcl c2_ c3_
          have HL := Aside0.mk hl
          clear hl
          go_wp2_with (first | ((with_reducible refine gate_callee (f := 16) rfl ?_); refine goesL_ (some 17) rfl rfl Try.func16 (by kernel_rfl) rfl #[.slice Av y.length cv, .int .i64 m] rfl (by (try simp only [List.map_toArray, List.map_cons, List.map_nil]); first | done | rfl) ?_; (with_reducible refine (laws_markFile.calls k1 oki (.slice Av y.length cv) y m t1 t2 w0 _ ?sB ?sR A6.out).mono ?_); (case sB => exact pbs HB); (case sR => (with_reducible repeat (first | apply Kd.R_alloc | apply Kd.R_drewN | apply Kd.R_drew)); exact HR.out); rintro e w1 ⟨rfl, hy, hb, hkp⟩; refine ⟨_, rfl, ?_⟩; have n0_ := Aside0.mk (Kd.H_back (Kd.H_kept (Kd.H_widen (by (with_reducible repeat (first | apply Kd.H_alloc | apply Kd.H_drewN | apply Kd.H_drew)); exact HH.out)) hkp (fun k_ _ hn hs => hn (.inl hs))) (Kd.M_row hy) (fun k_ hk => Or.elim hk (fun h2 => Or.inl h2) (fun h2 => Or.inr ⟨Or.inr (Nat.le_trans HK.out.1 h2), h2⟩))); have n1_ := Aside0.mk hb; have n2_ := Aside0.mk (Kept.then_ HK.out hkp (fun k_ hk => (hok k_ hk).1)); clear HO HB HK; have HO := n0_; have HB := n1_; have HK := n2_; clear n0_ n1_ n2_; clear hb hkp hy))
          go_roundg k1
          case measure => have := HK1.out; omega
          case rel => exact ⟨t1, (wrap64 (i + 1)), _, (by first | rfl | (simp; done) | (simp [*]; done)), (by first | rfl | (simp; done) | (simp [*]; done)), ⟨by rw [List.length_set]; exact HL.out⟩, H', ⟨by have := HK1.out; omega⟩, ⟨by (with_reducible repeat (first | apply Kd.S_alloc | apply Kd.S_drewN | apply Kd.S_drew)); exact HO.out⟩, ⟨pbs HB⟩, ⟨HK.out⟩⟩
        · rw [if_neg c3_] at H
          exact absurd H (by simp)
      · rw [if_neg c2_] at H
        injection H with H
        injection H with H1 H2
        subst H1 H2
        have c2b0 : decide (i < (l0.length : Int)) = false := decide_eq_false (by omega)
        go_wp2
        go_ret
        exact ⟨by first | rfl | (simp; done) | (simp [*]; done), by (with_reducible repeat (first | apply Kd.S_alloc | apply Kd.S_drewN | apply Kd.S_drew)); exact HO.out, pbs HB, HK.out⟩
def laws_heldFileS.l0 : Nat → List (List (S55)) → Int → Int → Option (Int)
 | 0, _, _, _ => none
 | k + 1, x0, x1, x5 => if x5 < (x0.length : Int) then (if 0 ≤ x5 then ((laws_heldFile.f k (rd_L3 x0 x5) x1).bind fun t417 => (if t417 < 0 then (some (-1)) else (laws_heldFileS.l0 k x0 t417 (wrap64 (x5 + 1))))) else (none)) else (some x1)
def laws_heldFileS.f (k : Nat) (l0 : List (List (S55))) (a1 : Int) : Option (Int) := laws_heldFileS.l0 k l0 a1 0
theorem laws_heldFileS.mono_l : ∀ k, (∀ y0 y1 y2, LeO (laws_heldFileS.l0 k y0 y1 y2) (laws_heldFileS.l0 (k + 1) y0 y1 y2))
 | 0 => fun _ _ _ r h => by simp [laws_heldFileS.l0] at h
 | k + 1 => by
  have ih0 := laws_heldFileS.mono_l k
  ·intro y0 y1 y2
   unfold laws_heldFileS.l0
   repeat' first
   | (with_reducible exact ih0 _ _ _)
   | (with_reducible exact laws_heldFile.mono _ _ _)
   | (with_reducible exact LeO.refl _)
   | (with_reducible exact LeO.none _)
   | (with_reducible refine LeO.ite ?_ ?_)
   | (with_reducible refine LeO.bind ?_ (fun _ => ?_))
   | exact ih0 _ _ _
   | exact laws_heldFile.mono _ _ _
   | exact LeO.none _
   | refine LeO.ite ?_ ?_
   | refine LeO.bind ?_ (fun _ => ?_)
theorem laws_heldFileS.mono : ∀ a0 a1 k, LeO (laws_heldFileS.f k a0 a1) (laws_heldFileS.f (k + 1) a0 a1) := by
 intro a0 a1 k
 have ih0 := laws_heldFileS.mono_l k
 unfold laws_heldFileS.f
 repeat' first
   | (with_reducible exact ih0 _ _ _)
   | (with_reducible exact laws_heldFile.mono _ _ _)
   | (with_reducible exact LeO.refl _)
   | (with_reducible exact LeO.none _)
   | (with_reducible refine LeO.ite ?_ ?_)
   | (with_reducible refine LeO.bind ?_ (fun _ => ?_))
   | exact ih0 _ _ _
   | exact laws_heldFile.mono _ _ _
   | exact LeO.none _
   | refine LeO.ite ?_ ?_
   | refine LeO.bind ?_ (fun _ => ?_)
set_option maxHeartbeats 8000000 in
set_option maxRecDepth 100000 in
theorem laws_heldFileS.calls (k : Nat) (A0 : Option Addr) (c0 : Nat) (l0 : List (List (S55))) (a1 : Int) (r : Int) (w : World) (hr0 : Kd.C (Kd.slice 55 k55) w A0 l0.length l0) (hc0 : l0.length ≤ c0) (h : laws_heldFileS.f k l0 a1 = some r) :
  Calls Try.prog 27 #[.slice A0 l0.length c0, .int .i64 a1] w fun e w' => e = .returned (.int .i64 r) ∧ Drawn0 w w' := by
 have HR0 := Aside0.mk hr0
 have HC0 := Aside0.mk hc0
 clear hr0 hc0
 have H : (laws_heldFileS.l0 k l0 a1 0) = some r := h
 clear h
 have H' := Aside0.mk H
 clear H
 go_enter Try.func27, Try.ntmps27
 go_wp2
 go_loopg [1, 5] k (fun kq v1 v5 w' => ∃ (x1_1 : Int) (x5_1 : Int), v1 = .int .i64 x1_1 ∧ v5 = .int .i64 x5_1 ∧ Aside0 (laws_heldFileS.l0 kq l0 x1_1 x5_1 = some r) ∧ Aside0 (kq ≤ k) ∧ Drawn0 w w')
 case atStart => exact ⟨(a1), (0), (by first | rfl | (simp; done) | (simp [*]; done)), (by first | rfl | (simp; done) | (simp [*]; done)), H', ⟨Nat.le_refl _⟩, by repeat (first | exact Drawn0.refl _ | apply Drawn0.step)⟩
 case round =>
  clear H'
  try clear c2
  try clear p2
  obtain ⟨x1_1, x5_1, rfl, rfl, HA, HK1, ⟨m1, rfl⟩⟩ := hrel
  cases gk with
  | zero => exact absurd HA.out (by simp [laws_heldFileS.l0])
  | succ k1 =>
   have H := HA.out
   clear HA
   simp only [laws_heldFileS.l0] at H
   by_cases c3 : x5_1 < (l0.length : Int)
   ·rw [if_pos c3] at H
    have c3b0 : decide (x5_1 < (l0.length : Int)) = true := decide_eq_true c3
    clear c3
    by_cases c4 : 0 ≤ x5_1
    ·rw [if_pos c4] at H
     have c4b0 : decide (0 ≤ x5_1) = true := decide_eq_true c4
     clear c4
     replace H := Option.bind_eq_some_iff.mp H
     obtain ⟨t417, A50, H⟩ := H
     replace H : (if t417 < 0 then (some (-1)) else (laws_heldFileS.l0 k1 l0 t417 (wrap64 (x5_1 + 1)))) = some r := H
     have A5 := Aside0.mk A50
     clear A50
     by_cases c6 : t417 < 0
     ·rw [if_pos c6] at H
      have c6b0 : decide (t417 < 0) = true := decide_eq_true c6
      clear c6
      obtain rfl := Option.some.inj H
      have p416 : 0 ≤ (x5_1 : Int) := of_decide_eq_true (by first | (with_reducible assumption) | assumption)
      have q416 : x5_1 < (l0.length : Int) := of_decide_eq_true (by first | (with_reducible assumption) | assumption)
      obtain ⟨ad416, A416_0, c416_0, e416, hx416_0, hl416_0, hi416_0⟩ := at_L3 HR0.out x5_1 p416 q416
      cases e416
      have HR416_0 := Aside0.mk hi416_0
      have HC416_0 := Aside0.mk hl416_0
      clear hi416_0 hl416_0
      replace p416 := eq_true p416
      replace q416 := eq_true q416
      go_wp2_with (first | ((with_reducible refine gate_callee (f := 17) rfl ?_); refine goesL_ (some 17) rfl rfl Try.func17 (by kernel_rfl) rfl #[.slice A416_0 (rd_L3 l0 x5_1).length c416_0, .int .i64 x1_1] rfl (by (try simp only [List.map_toArray, List.map_cons, List.map_nil]); first | done | rfl | (simp only [List.length_drop, List.length_take]; rfl)) ?_; (with_reducible refine (laws_heldFile.calls k1 _ _ (rd_L3 l0 x5_1) x1_1 t417 _ ?side1 ?side2 A5.out).mono ?_); (case side1 => repeat (first | exact HR416_0.out | (with_reducible refine Kd.C_alloc ?_ _) | (with_reducible refine Kd.C_drewN ?_ _) | (with_reducible refine Kd.C_drew ?_))); (case side2 => exact HC416_0.out); rintro e w' ⟨rfl, ⟨nd, rfl⟩⟩; refine ⟨_, rfl, ?_⟩))
      go_ret
      exact ⟨by first | rfl | (simp; done) | (simp [*]; done), by repeat (first | exact Drawn0.refl _ | apply Drawn0.step)⟩
     ·rw [if_neg c6] at H
      have c6b0 : decide (t417 < 0) = false := decide_eq_false c6
      clear c6
      have H' := Aside0.mk H
      clear H
      have p416 : 0 ≤ (x5_1 : Int) := of_decide_eq_true (by first | (with_reducible assumption) | assumption)
      have q416 : x5_1 < (l0.length : Int) := of_decide_eq_true (by first | (with_reducible assumption) | assumption)
      obtain ⟨ad416, A416_0, c416_0, e416, hx416_0, hl416_0, hi416_0⟩ := at_L3 HR0.out x5_1 p416 q416
      cases e416
      have HR416_0 := Aside0.mk hi416_0
      have HC416_0 := Aside0.mk hl416_0
      clear hi416_0 hl416_0
      replace p416 := eq_true p416
      replace q416 := eq_true q416
      go_wp2_with (first | ((with_reducible refine gate_callee (f := 17) rfl ?_); refine goesL_ (some 17) rfl rfl Try.func17 (by kernel_rfl) rfl #[.slice A416_0 (rd_L3 l0 x5_1).length c416_0, .int .i64 x1_1] rfl (by (try simp only [List.map_toArray, List.map_cons, List.map_nil]); first | done | rfl | (simp only [List.length_drop, List.length_take]; rfl)) ?_; (with_reducible refine (laws_heldFile.calls k1 _ _ (rd_L3 l0 x5_1) x1_1 t417 _ ?side1 ?side2 A5.out).mono ?_); (case side1 => repeat (first | exact HR416_0.out | (with_reducible refine Kd.C_alloc ?_ _) | (with_reducible refine Kd.C_drewN ?_ _) | (with_reducible refine Kd.C_drew ?_))); (case side2 => exact HC416_0.out); rintro e w' ⟨rfl, ⟨nd, rfl⟩⟩; refine ⟨_, rfl, ?_⟩))
      go_roundg k1
      case measure => have := HK1.out; omega
      case rel => exact ⟨(t417), (wrap64 (x5_1 + 1)), (by first | rfl | (simp; done) | (simp [*]; done)), (by first | rfl | (simp; done) | (simp [*]; done)), H', ⟨by have := HK1.out; omega⟩, by repeat (first | exact Drawn0.refl _ | apply Drawn0.step)⟩
    ·rw [if_neg c4] at H
     exact absurd H (by simp)
   ·rw [if_neg c3] at H
    have c3b0 : decide (x5_1 < (l0.length : Int)) = false := decide_eq_false c3
    clear c3
    obtain rfl := Option.some.inj H
    go_wp2
    go_ret
    exact ⟨by first | rfl | (simp; done) | (simp [*]; done), by repeat (first | exact Drawn0.refl _ | apply Drawn0.step)⟩
def laws_FnExactWalkFile.f (k : Nat) (a0 : Int) (a1 : Int) (a2 : LA 10) (l1 : List S52) (l2 : List Int) : Option Bool := if (l2.length : Int) > 1048576 then some true else (laws_szFile.f l1 1048576).bind fun n => if n < 0 then some true else (laws_toRoom.f k a0 a1 a2).bind fun z0 => (laws_toFile.f k l1).bind fun z1 => (laws_toInt64S.f k l2).bind fun z2 => (spec_WalkFile.f k z0.1 z0.2.1 z0.2.2 z1 z2).bind fun z3 => (impl_WalkFile.f k z0.1 z0.2.1 z0.2.2 z1 z2).bind fun z4 => (laws_eqFileS.f k z4.1 z3.1).bind fun z5 => (laws_eqFile.f k z1 z1).bind fun z6 => (laws_eqInt64S.f k z2 z2).bind fun z7 => (laws_markFile.f k z1 1).bind fun z8 => (laws_markInt64S.f k z2 z8.1).bind fun z9 => (laws_markFileS.f k z4.1 1).bind fun z10 => (laws_heldFileS.f k z10.2 1).bind fun z11 => if z5 = true ∧ z6 = true ∧ z7 = true ∧ z4.2 = z3.2 ∧ 0 ≤ z9.1 ∧ 0 ≤ z11 ∧ z11 = z10.1 then some true else none
theorem laws_FnExactWalkFile.held (k : Nat) (A0 : Option Addr) (c0 n : Nat) (l0 : List (List S55)) (a1 : Int) (r : Int) (w : World) (hn : n = l0.length) (hr0 : Kd.C (Kd.slice 55 k55) w A0 l0.length l0) (hc0 : l0.length ≤ c0) (h : laws_heldFileS.f k l0 a1 = some r) :
    Calls Try.prog 27 #[.slice A0 n c0, .int .i64 a1] w fun e w' => e = .returned (.int .i64 r) ∧ Drawn0 w w' := by
  subst hn
  exact laws_heldFileS.calls k A0 c0 l0 a1 r w hr0 hc0 h
set_option maxHeartbeats 16000000 in
set_option maxRecDepth 100000 in
theorem laws_FnExactWalkFile.calls (k : Nat) (a0 : Int) (a1 : Int) (a2 : LA 10) (A1 : Option Addr) (c1 : Nat) (l1 : List S52) (A2 : Option Addr) (c2 : Nat) (l2 : List Int) (r : Bool) (w : World) (hr1 : Kd.C k52 w A1 l1.length l1) (hc1 : l1.length ≤ c1) (hr2 : Kd.C (Kd.int .i64) w A2 l2.length l2) (hc2 : l2.length ≤ c2) (h : laws_FnExactWalkFile.f k a0 a1 a2 l1 l2 = some r) :
    Calls Try.prog 5 #[.agg (mixA (Value.int .u16) [.int .i8 a0, .int .i8 a1] a2), .slice A1 l1.length c1, .slice A2 l2.length c2] w fun e w' => e = .returned (.bool r) ∧ Below w.heap.size w w' := by
  have hu26 := Try.underlying26
  have HR1 := Aside0.mk hr1
  have HC1 := Aside0.mk hc1
  have HR2 := Aside0.mk hr2
  have HC2 := Aside0.mk hc2
  clear hr1 hc1 hr2 hc2
  have HB := Aside0.mk (Below.refl w.heap.size w)
  unfold laws_FnExactWalkFile.f at h
  by_cases c4 : (l2.length : Int) > 1048576
  · rw [if_pos c4] at h
    have c4b0 : decide (1048576 < (l2.length : Int)) = true := decide_eq_true c4
    have c4b1 : decide (1048576 < l2.length) = true := decide_eq_true (by omega)
    clear c4
    obtain rfl := Option.some.inj h
    go_enter Try.func5, Try.ntmps5
    go_wp2_with (first | ((with_reducible refine gate_dst (N := 3) rfl ?_); refine box_event ?hg (N := 3) ?hd (cs := (mixA (Value.int .u16) [.int .i8 a0, .int .i8 a1] a2)) (t := 26) ?hr ?_; (case hd => rfl); (case hg => rfl); (case hr => first | (go_simp; done) | (go_simp; rfl)); intro gb hg wb hbox hb; have n0_ := bst HB hb; have n1_ := Aside0.mk (hbox); have n2_ := gwl HB hg; clear HB; have HB := n0_; have BK := n1_; have GE := n2_; clear n0_ n1_ n2_; clear hb hbox hg; have HL := Aside0.mk (Below.refl wb.heap.size wb); have GL := Aside0.mk (blk_lt BK.out)))
    go_ret
    exact ⟨by first | rfl | (simp; done), pbs HB⟩
  rw [if_neg c4] at h
  have c4b0 : decide (1048576 < (l2.length : Int)) = false := decide_eq_false c4
  have c4b1 : decide (1048576 < l2.length) = false := decide_eq_false (by omega)
  clear c4
  obtain ⟨n, hn, h⟩ := Option.bind_eq_some_iff.mp h
  have AN := Aside0.mk hn
  clear hn
  by_cases c7 : n < 0
  · rw [if_pos c7] at h
    have c7b0 : decide (n < 0) = true := decide_eq_true c7
    clear c7
    obtain rfl := Option.some.inj h
    go_enter Try.func5, Try.ntmps5
    go_wp2_with (first | ((with_reducible refine gate_dst (N := 3) rfl ?_); refine box_event ?hg (N := 3) ?hd (cs := (mixA (Value.int .u16) [.int .i8 a0, .int .i8 a1] a2)) (t := 26) ?hr ?_; (case hd => rfl); (case hg => rfl); (case hr => first | (go_simp; done) | (go_simp; rfl)); intro gb hg wb hbox hb; have n0_ := bst HB hb; have n1_ := Aside0.mk (hbox); have n2_ := gwl HB hg; clear HB; have HB := n0_; have BK := n1_; have GE := n2_; clear n0_ n1_ n2_; clear hb hbox hg; have HL := Aside0.mk (Below.refl wb.heap.size wb); have GL := Aside0.mk (blk_lt BK.out)) | ((with_reducible refine gate_callee (f := 10) rfl ?_); refine goesL_ (some 24) rfl rfl Try.func10 (by kernel_rfl) rfl #[.slice A1 l1.length c1, .int .i64 1048576] rfl (by (try simp only [List.map_toArray, List.map_cons, List.map_nil]); first | done | rfl) ?_; (with_reducible refine (laws_szFile.calls A1 c1 l1 1048576 n _ ?s1 HC1.out AN.out).mono ?_); (case s1 => exact Kd.C_below HR1.out (pbs HB)); rintro e w' ⟨rfl, ⟨nd, rfl⟩⟩; refine ⟨_, rfl, ?_⟩))
    go_ret
    exact ⟨by first | rfl | (simp; done), pbs HB⟩
  rw [if_neg c7] at h
  have c7b0 : decide (n < 0) = false := decide_eq_false c7
  clear c7
  obtain ⟨⟨b0, b1, b2⟩, hz, h⟩ := Option.bind_eq_some_iff.mp h
  have Z0 := Aside0.mk (show laws_toRoom.f k a0 a1 a2 = some (b0, b1, b2) from hz)
  clear hz
  obtain ⟨x, hz, h⟩ := Option.bind_eq_some_iff.mp h
  have Z1 := Aside0.mk (show laws_toFile.f k l1 = some x from hz)
  clear hz
  obtain ⟨y, hz, h⟩ := Option.bind_eq_some_iff.mp h
  have Z2 := Aside0.mk (show laws_toInt64S.f k l2 = some y from hz)
  clear hz
  obtain ⟨⟨w1_, w2_⟩, hz, h⟩ := Option.bind_eq_some_iff.mp h
  have Z3 := Aside0.mk (show spec_WalkFile.f k b0 b1 b2 x y = some (w1_, w2_) from hz)
  clear hz
  obtain ⟨⟨g1_, g2_⟩, hz, h⟩ := Option.bind_eq_some_iff.mp h
  have Z4 := Aside0.mk (show impl_WalkFile.f k b0 b1 b2 x y = some (g1_, g2_) from hz)
  clear hz
  obtain ⟨q1, hz, h⟩ := Option.bind_eq_some_iff.mp h
  have Z5 := Aside0.mk (show laws_eqFileS.f k g1_ w1_ = some q1 from hz)
  clear hz
  obtain ⟨q2, hz, h⟩ := Option.bind_eq_some_iff.mp h
  have Z6 := Aside0.mk (show laws_eqFile.f k x x = some q2 from hz)
  clear hz
  obtain ⟨q3, hz, h⟩ := Option.bind_eq_some_iff.mp h
  have Z7 := Aside0.mk (show laws_eqInt64S.f k y y = some q3 from hz)
  clear hz
  obtain ⟨⟨m1, x9⟩, hz, h⟩ := Option.bind_eq_some_iff.mp h
  have Z8 := Aside0.mk (show laws_markFile.f k x 1 = some (m1, x9) from hz)
  clear hz
  obtain ⟨⟨m2, y9⟩, hz, h⟩ := Option.bind_eq_some_iff.mp h
  have Z9 := Aside0.mk (show laws_markInt64S.f k y m1 = some (m2, y9) from hz)
  clear hz
  obtain ⟨⟨m3, g9⟩, hz, h⟩ := Option.bind_eq_some_iff.mp h
  have Z10 := Aside0.mk (show laws_markFileS.f k g1_ 1 = some (m3, g9) from hz)
  clear hz
  obtain ⟨h1, hz, h⟩ := Option.bind_eq_some_iff.mp h
  have Z11 := Aside0.mk (show laws_heldFileS.f k g9 1 = some h1 from hz)
  clear hz
  replace h : (if q1 = true ∧ q2 = true ∧ q3 = true ∧ g2_ = w2_ ∧ 0 ≤ m2 ∧ 0 ≤ h1 ∧ h1 = m3 then some true else none) = some r := h
  by_cases hc : q1 = true ∧ q2 = true ∧ q3 = true ∧ g2_ = w2_ ∧ 0 ≤ m2 ∧ 0 ≤ h1 ∧ h1 = m3
  case neg => rw [if_neg hc] at h; cases h
  rw [if_pos hc] at h
  obtain rfl := Option.some.inj h
  obtain ⟨rfl, rfl, rfl, rfl, hm2, hh1, rfl⟩ := hc
  have cm2 : decide (m2 < 0) = false := decide_eq_false (by omega)
  have ch1 : decide (h1 < 0) = false := decide_eq_false (by omega)
  clear h hm2 hh1
  go_enter Try.func5, Try.ntmps5
  go_wp2_with (first | ((with_reducible refine gate_dst (N := 3) rfl ?_); refine box_event ?hg (N := 3) ?hd (cs := (mixA (Value.int .u16) [.int .i8 a0, .int .i8 a1] a2)) (t := 26) ?hr ?_; (case hd => rfl); (case hg => rfl); (case hr => first | (go_simp; done) | (go_simp; rfl)); intro gb hg wb hbox hb; have n0_ := bst HB hb; have n1_ := Aside0.mk (hbox); have n2_ := gwl HB hg; clear HB; have HB := n0_; have BK := n1_; have GE := n2_; clear n0_ n1_ n2_; clear hb hbox hg; have HL := Aside0.mk (Below.refl wb.heap.size wb); have GL := Aside0.mk (blk_lt BK.out)) | ((with_reducible refine gate_callee (f := 10) rfl ?_); refine goesL_ (some 24) rfl rfl Try.func10 (by kernel_rfl) rfl #[.slice A1 l1.length c1, .int .i64 1048576] rfl (by (try simp only [List.map_toArray, List.map_cons, List.map_nil]); first | done | rfl) ?_; (with_reducible refine (laws_szFile.calls A1 c1 l1 1048576 n _ ?s1 HC1.out AN.out).mono ?_); (case s1 => exact Kd.C_below HR1.out (pbs HB)); rintro e w' ⟨rfl, ⟨nd, rfl⟩⟩; refine ⟨_, rfl, ?_⟩) | ((with_reducible refine gate_dst (N := 28) rfl ?_); refine wpList_run0 (v := .agg (mixA (Value.int .u16) [.int .i8 a0, .int .i8 a1] a2)) rfl (load_mix_run (P := Try.prog) 26 (.tmp 3) rfl gb rfl (show World.rangeAt _ gb 0 ([.int .i8 a0, .int .i8 a1] ++ a2.l.map (Value.int .u16)) from mix_range (show (World.heap _)[gb]? = some (.cells (mixA (Value.int .u16) [.int .i8 a0, .int .i8 a1] a2) 26 (0, 0)) from pk BK)) Try.underlying26 rfl (by kernel_rfl) rfl) ?_) | ((with_reducible refine gate_callee (f := 12) rfl ?_); refine goesL_ (some 29) rfl rfl Try.func12 (by kernel_rfl) rfl #[.agg (mixA (Value.int .u16) [.int .i8 a0, .int .i8 a1] a2)] rfl (by (try simp only [List.map_toArray, List.map_cons, List.map_nil]); first | done | rfl) ?_; (with_reducible refine (laws_toRoom.calls k a0 a1 a2 b0 b1 b2 _ Z0.out).mono ?_); rintro e wq1 ⟨rfl, hb⟩; refine ⟨_, rfl, ?_⟩; have hbl := (bst HL hb).out; have n_BK := bkb BK hb; have n_HB := bst HB hb; have SZwq1 := Aside0.mk (show wb.heap.size ≤ wq1.heap.size from hbl.size); clear hbl hb  BK HB HL; have BK := n_BK; clear n_BK; have HB := n_HB; clear n_HB; have HL := Aside0.mk (Below.refl wq1.heap.size wq1)) | ((with_reducible refine gate_callee (f := 13) rfl ?_); refine goesL_ (some 31) rfl rfl Try.func13 (by kernel_rfl) rfl #[.slice A1 l1.length c1] rfl (by (try simp only [List.map_toArray, List.map_cons, List.map_nil]); first | done | rfl) ?_; (with_reducible refine (laws_toFile.calls k A1 c1 l1 x _ ?s1 HC1.out Z1.out).mono ?_); (case s1 => exact Kd.C_below HR1.out (pbs HB)); rintro e wq2 ⟨vwq2, rfl, ho, hb⟩; refine ⟨_, rfl, ?_⟩; have hbl := (bst HL hb).out; have n_BK := bkb BK hb; have n_HB := bst HB hb; have n_HA := Aside0.mk (Kd.R_mono (ok' := fun k_ => wq1.heap.size ≤ k_ ∧ k_ < wq2.heap.size) (Kd.R_bound (Kd.R_lower (Kd.R_mono (ok' := fun k_ => wq1.heap.size ≤ k_ ∧ k_ < wq2.heap.size) (Kd.R_bound ho) (fun k_ hk => ⟨Nat.le_trans (below_size (pbs HL)) hk.2.1, hk.2.2.1⟩)) (below_size (pbs HB)))) (fun k_ hk => hk.1)); have SZwq2 := Aside0.mk (show wq1.heap.size ≤ wq2.heap.size from hbl.size); clear hbl hb  BK HB HL ho; have HA := n_HA; clear n_HA; have BK := n_BK; clear n_BK; have HB := n_HB; clear n_HB; have HL := Aside0.mk (Below.refl wq2.heap.size wq2); obtain ⟨AHA, cHA, eHA⟩ := Kd.R_slice HA.out; subst eHA) | ((with_reducible refine gate_callee (f := 19) rfl ?_); refine goesL_ (some 33) rfl rfl Try.func19 (by kernel_rfl) rfl #[.slice A2 l2.length c2] rfl (by (try simp only [List.map_toArray, List.map_cons, List.map_nil]); first | done | rfl) ?_; (with_reducible refine (laws_toInt64S.calls k A2 c2 l2 y _ ?s1 HC2.out Z2.out).mono ?_); (case s1 => exact Kd.C_below HR2.out (pbs HB)); rintro e wq3 ⟨vwq3, rfl, ho, hb⟩; refine ⟨_, rfl, ?_⟩; have hbl := (bst HL hb).out; have n_HA := Aside0.mk (Kd.R_below HA.out hbl); have n_BK := bkb BK hb; have n_HB := bst HB hb; have n_HAI := Aside0.mk (Kd.R_mono (ok' := fun k_ => wq2.heap.size ≤ k_ ∧ k_ < wq3.heap.size) (Kd.R_bound (Kd.R_lower (Kd.R_mono (ok' := fun k_ => wq2.heap.size ≤ k_ ∧ k_ < wq3.heap.size) (Kd.R_bound ho) (fun k_ hk => ⟨Nat.le_trans (below_size (pbs HL)) hk.2.1, hk.2.2.1⟩)) (below_size (pbs HB)))) (fun k_ hk => hk.1)); have SZwq3 := Aside0.mk (show wq2.heap.size ≤ wq3.heap.size from hbl.size); clear hbl hb HA BK HB HL ho; have HA := n_HA; clear n_HA; have HAI := n_HAI; clear n_HAI; have BK := n_BK; clear n_BK; have HB := n_HB; clear n_HB; have HL := Aside0.mk (Below.refl wq3.heap.size wq3); obtain ⟨AHAI, cHAI, eHAI⟩ := Kd.R_slice HAI.out; subst eHAI) | ((with_reducible refine gate_callee (f := 22) rfl ?_); refine goesL_ (some 34) rfl rfl Try.func22 (by kernel_rfl) rfl #[.agg (mixA (Value.int .u16) [.int .i8 b0, .int .i8 b1] b2), .slice AHA x.length cHA, .slice AHAI y.length cHAI] rfl (by (try simp only [List.map_toArray, List.map_cons, List.map_nil]); first | done | rfl) ?_; (with_reducible refine (spec_WalkFile.calls k b0 b1 b2 AHA cHA x AHAI cHAI y w1_ g2_ _ ?s1 ?s2 ?s3 ?s4 Z3.out).mono ?_); (case s1 => exact (Kd.R_reads' (Kd.R_below HA.out (pbs HL))).2.2); (case s2 => exact (Kd.R_reads' HA.out).2.1); (case s3 => exact (Kd.R_reads' (Kd.R_below HAI.out (pbs HL))).2.2); (case s4 => exact (Kd.R_reads' HAI.out).2.1); rintro e wq4 ⟨vwq4, rfl, ho, hb⟩; refine ⟨_, rfl, ?_⟩; have hbl := (bst HL hb).out; have n_HA := Aside0.mk (Kd.R_below HA.out hbl); have n_HAI := Aside0.mk (Kd.R_below HAI.out hbl); have n_BK := bkb BK hb; have n_HB := bst HB hb; have n_HW := Aside0.mk (Kd.S_mono (ok' := fun k_ => wq3.heap.size ≤ k_ ∧ k_ < wq4.heap.size) (Kd.S_bound (Kd.S_lower (Kd.S_mono (ok' := fun k_ => wq3.heap.size ≤ k_ ∧ k_ < wq4.heap.size) (Kd.S_bound ho) (fun k_ hk => ⟨Nat.le_trans (below_size (pbs HL)) hk.2.1, hk.2.2.1⟩)) (below_size (pbs HB)))) (fun k_ hk => hk.1)); have SZwq4 := Aside0.mk (show wq3.heap.size ≤ wq4.heap.size from hbl.size); clear hbl hb HA HAI BK HB HL ho; have HA := n_HA; clear n_HA; have HAI := n_HAI; clear n_HAI; have HW := n_HW; clear n_HW; have BK := n_BK; clear n_BK; have HB := n_HB; clear n_HB; have HL := Aside0.mk (Below.refl wq4.heap.size wq4); obtain ⟨AHW, cHW, eHW⟩ := Kd.S_slice HW.out; subst eHW; clear HA HAI) | ((with_reducible refine gate_callee (f := 13) rfl ?_); refine goesL_ (some 38) rfl rfl Try.func13 (by kernel_rfl) rfl #[.slice A1 l1.length c1] rfl (by (try simp only [List.map_toArray, List.map_cons, List.map_nil]); first | done | rfl) ?_; (with_reducible refine (laws_toFile.calls k A1 c1 l1 x _ ?s1 HC1.out Z1.out).mono ?_); (case s1 => exact Kd.C_below HR1.out (pbs HB)); rintro e wq5 ⟨vwq5, rfl, ho, hb⟩; refine ⟨_, rfl, ?_⟩; have hbl := (bst HL hb).out; have n_HW := Aside0.mk (Kd.S_below HW.out hbl); have n_BK := bkb BK hb; have n_HB := bst HB hb; have n_HX := Aside0.mk (Kd.R_mono (ok' := fun k_ => wq4.heap.size ≤ k_ ∧ k_ < wq5.heap.size) (Kd.R_bound (Kd.R_lower (Kd.R_mono (ok' := fun k_ => wq4.heap.size ≤ k_ ∧ k_ < wq5.heap.size) (Kd.R_bound ho) (fun k_ hk => ⟨Nat.le_trans (below_size (pbs HL)) hk.2.1, hk.2.2.1⟩)) (below_size (pbs HB)))) (fun k_ hk => hk.1)); have SZwq5 := Aside0.mk (show wq4.heap.size ≤ wq5.heap.size from hbl.size); clear hbl hb HW BK HB HL ho; have HW := n_HW; clear n_HW; have HX := n_HX; clear n_HX; have BK := n_BK; clear n_BK; have HB := n_HB; clear n_HB; have HL := Aside0.mk (Below.refl wq5.heap.size wq5); obtain ⟨AHX, cHX, eHX⟩ := Kd.R_slice HX.out; subst eHX) | ((with_reducible refine gate_callee (f := 19) rfl ?_); refine goesL_ (some 40) rfl rfl Try.func19 (by kernel_rfl) rfl #[.slice A2 l2.length c2] rfl (by (try simp only [List.map_toArray, List.map_cons, List.map_nil]); first | done | rfl) ?_; (with_reducible refine (laws_toInt64S.calls k A2 c2 l2 y _ ?s1 HC2.out Z2.out).mono ?_); (case s1 => exact Kd.C_below HR2.out (pbs HB)); rintro e wq6 ⟨vwq6, rfl, ho, hb⟩; refine ⟨_, rfl, ?_⟩; have hbl := (bst HL hb).out; have n_HW := Aside0.mk (Kd.S_below HW.out hbl); have n_HX := Aside0.mk (Kd.R_below HX.out hbl); have n_BK := bkb BK hb; have n_HB := bst HB hb; have n_HY := Aside0.mk (Kd.R_mono (ok' := fun k_ => wq5.heap.size ≤ k_ ∧ k_ < wq6.heap.size) (Kd.R_bound (Kd.R_lower (Kd.R_mono (ok' := fun k_ => wq5.heap.size ≤ k_ ∧ k_ < wq6.heap.size) (Kd.R_bound ho) (fun k_ hk => ⟨Nat.le_trans (below_size (pbs HL)) hk.2.1, hk.2.2.1⟩)) (below_size (pbs HB)))) (fun k_ hk => hk.1)); have SZwq6 := Aside0.mk (show wq5.heap.size ≤ wq6.heap.size from hbl.size); clear hbl hb HW HX BK HB HL ho; have HW := n_HW; clear n_HW; have HX := n_HX; clear n_HX; have HY := n_HY; clear n_HY; have BK := n_BK; clear n_BK; have HB := n_HB; clear n_HB; have HL := Aside0.mk (Below.refl wq6.heap.size wq6); obtain ⟨AHY, cHY, eHY⟩ := Kd.R_slice HY.out; subst eHY) | ((with_reducible refine gate_dst (N := 42) rfl ?_); refine wpList_run0 (v := .agg (mixA (Value.int .u16) [.int .i8 a0, .int .i8 a1] a2)) rfl (load_mix_run (P := Try.prog) 26 (.tmp 3) rfl gb rfl (show World.rangeAt _ gb 0 ([.int .i8 a0, .int .i8 a1] ++ a2.l.map (Value.int .u16)) from mix_range (show (World.heap _)[gb]? = some (.cells (mixA (Value.int .u16) [.int .i8 a0, .int .i8 a1] a2) 26 (0, 0)) from pk BK)) Try.underlying26 rfl (by kernel_rfl) rfl) ?_) | ((with_reducible refine gate_callee (f := 12) rfl ?_); refine goesL_ (some 43) rfl rfl Try.func12 (by kernel_rfl) rfl #[.agg (mixA (Value.int .u16) [.int .i8 a0, .int .i8 a1] a2)] rfl (by (try simp only [List.map_toArray, List.map_cons, List.map_nil]); first | done | rfl) ?_; (with_reducible refine (laws_toRoom.calls k a0 a1 a2 b0 b1 b2 _ Z0.out).mono ?_); rintro e wq7 ⟨rfl, hb⟩; refine ⟨_, rfl, ?_⟩; have hbl := (bst HL hb).out; have n_HW := Aside0.mk (Kd.S_below HW.out hbl); have n_HX := Aside0.mk (Kd.R_below HX.out hbl); have n_HY := Aside0.mk (Kd.R_below HY.out hbl); have n_BK := bkb BK hb; have n_HB := bst HB hb; have SZwq7 := Aside0.mk (show wq6.heap.size ≤ wq7.heap.size from hbl.size); clear hbl hb HW HX HY BK HB HL; have HW := n_HW; clear n_HW; have HX := n_HX; clear n_HX; have HY := n_HY; clear n_HY; have BK := n_BK; clear n_BK; have HB := n_HB; clear n_HB; have HL := Aside0.mk (Below.refl wq7.heap.size wq7)) | ((with_reducible refine gate_callee (f := 23) rfl ?_); refine goesL_ (some 46) rfl rfl Try.func23 (by kernel_rfl) rfl #[.agg (mixA (Value.int .u16) [.int .i8 b0, .int .i8 b1] b2), .slice AHX x.length cHX, .slice AHY y.length cHY] rfl (by (try simp only [List.map_toArray, List.map_cons, List.map_nil]); first | done | rfl) ?_; (with_reducible refine (impl_WalkFile.calls k b0 b1 b2 AHX cHX x AHY cHY y g1_ g2_ _ ?s1 ?s2 ?s3 ?s4 Z4.out).mono ?_); (case s1 => exact (Kd.R_reads' (Kd.R_below HX.out (pbs HL))).2.2); (case s2 => exact (Kd.R_reads' HX.out).2.1); (case s3 => exact (Kd.R_reads' (Kd.R_below HY.out (pbs HL))).2.2); (case s4 => exact (Kd.R_reads' HY.out).2.1); rintro e wq8 ⟨vwq8, rfl, ho, hb⟩; refine ⟨_, rfl, ?_⟩; have hbl := (bst HL hb).out; have n_HW := Aside0.mk (Kd.S_below HW.out hbl); have n_HX := Aside0.mk (Kd.R_below HX.out hbl); have n_HY := Aside0.mk (Kd.R_below HY.out hbl); have n_BK := bkb BK hb; have n_HB := bst HB hb; have n_HG := Aside0.mk (Kd.S_mono (ok' := fun k_ => wq7.heap.size ≤ k_ ∧ k_ < wq8.heap.size) (Kd.S_bound (Kd.S_lower (Kd.S_mono (ok' := fun k_ => wq7.heap.size ≤ k_ ∧ k_ < wq8.heap.size) (Kd.S_bound ho) (fun k_ hk => ⟨Nat.le_trans (below_size (pbs HL)) hk.2.1, hk.2.2.1⟩)) (below_size (pbs HB)))) (fun k_ hk => hk.1)); have SZwq8 := Aside0.mk (show wq7.heap.size ≤ wq8.heap.size from hbl.size); clear hbl hb HW HX HY BK HB HL ho; have HW := n_HW; clear n_HW; have HX := n_HX; clear n_HX; have HY := n_HY; clear n_HY; have HG := n_HG; clear n_HG; have BK := n_BK; clear n_BK; have HB := n_HB; clear n_HB; have HL := Aside0.mk (Below.refl wq8.heap.size wq8); obtain ⟨AHG, cHG, eHG⟩ := Kd.S_slice HG.out; subst eHG) | ((with_reducible refine gate_callee (f := 24) rfl ?_); refine goesL_ (some 51) rfl rfl Try.func24 (by kernel_rfl) rfl #[.slice AHG g1_.length cHG, .slice AHW w1_.length cHW] rfl (by (try simp only [List.map_toArray, List.map_cons, List.map_nil]); first | done | rfl) ?_; (with_reducible refine (laws_eqFileS.calls k AHG cHG g1_ AHW cHW w1_ true _ ?s1 ?s2 ?s3 ?s4 Z5.out).mono ?_); (case s1 => exact (Kd.S_reads' (Kd.S_below HG.out (pbs HL))).2.2); (case s2 => exact (Kd.S_reads' HG.out).2.1); (case s3 => exact (Kd.S_reads' (Kd.S_below HW.out (pbs HL))).2.2); (case s4 => exact (Kd.S_reads' HW.out).2.1); rintro e wq9 ⟨rfl, hb⟩; refine ⟨_, rfl, ?_⟩; have hbl := (bst HL hb).out; have n_HW := Aside0.mk (Kd.S_below HW.out hbl); have n_HX := Aside0.mk (Kd.R_below HX.out hbl); have n_HY := Aside0.mk (Kd.R_below HY.out hbl); have n_HG := Aside0.mk (Kd.S_below HG.out hbl); have n_BK := bkb BK hb; have n_HB := bst HB hb; have SZwq9 := Aside0.mk (show wq8.heap.size ≤ wq9.heap.size from hbl.size); clear hbl hb HW HX HY HG BK HB HL; have HW := n_HW; clear n_HW; have HX := n_HX; clear n_HX; have HY := n_HY; clear n_HY; have HG := n_HG; clear n_HG; have BK := n_BK; clear n_BK; have HB := n_HB; clear n_HB; have HL := Aside0.mk (Below.refl wq9.heap.size wq9)) | ((with_reducible refine gate_callee (f := 13) rfl ?_); refine goesL_ (some 60) rfl rfl Try.func13 (by kernel_rfl) rfl #[.slice A1 l1.length c1] rfl (by (try simp only [List.map_toArray, List.map_cons, List.map_nil]); first | done | rfl) ?_; (with_reducible refine (laws_toFile.calls k A1 c1 l1 x _ ?s1 HC1.out Z1.out).mono ?_); (case s1 => exact Kd.C_below HR1.out (pbs HB)); rintro e wq10 ⟨vwq10, rfl, ho, hb⟩; refine ⟨_, rfl, ?_⟩; have hbl := (bst HL hb).out; have n_HW := Aside0.mk (Kd.S_below HW.out hbl); have n_HX := Aside0.mk (Kd.R_below HX.out hbl); have n_HY := Aside0.mk (Kd.R_below HY.out hbl); have n_HG := Aside0.mk (Kd.S_below HG.out hbl); have n_BK := bkb BK hb; have n_HB := bst HB hb; have n_HZ := Aside0.mk (Kd.R_mono (ok' := fun k_ => wq9.heap.size ≤ k_ ∧ k_ < wq10.heap.size) (Kd.R_bound (Kd.R_lower (Kd.R_mono (ok' := fun k_ => wq9.heap.size ≤ k_ ∧ k_ < wq10.heap.size) (Kd.R_bound ho) (fun k_ hk => ⟨Nat.le_trans (below_size (pbs HL)) hk.2.1, hk.2.2.1⟩)) (below_size (pbs HB)))) (fun k_ hk => hk.1)); have SZwq10 := Aside0.mk (show wq9.heap.size ≤ wq10.heap.size from hbl.size); clear hbl hb HW HX HY HG BK HB HL ho; have HW := n_HW; clear n_HW; have HX := n_HX; clear n_HX; have HY := n_HY; clear n_HY; have HG := n_HG; clear n_HG; have HZ := n_HZ; clear n_HZ; have BK := n_BK; clear n_BK; have HB := n_HB; clear n_HB; have HL := Aside0.mk (Below.refl wq10.heap.size wq10); obtain ⟨AHZ, cHZ, eHZ⟩ := Kd.R_slice HZ.out; subst eHZ) | ((with_reducible refine gate_callee (f := 15) rfl ?_); refine goesL_ (some 61) rfl rfl Try.func15 (by kernel_rfl) rfl #[.slice AHX x.length cHX, .slice AHZ x.length cHZ] rfl (by (try simp only [List.map_toArray, List.map_cons, List.map_nil]); first | done | rfl) ?_; (with_reducible refine (laws_eqFile.calls k AHX cHX x AHZ cHZ x true _ ?s1 ?s2 ?s3 ?s4 Z6.out).mono ?_); (case s1 => exact (Kd.R_reads' (Kd.R_below HX.out (pbs HL))).2.2); (case s2 => exact (Kd.R_reads' HX.out).2.1); (case s3 => exact (Kd.R_reads' (Kd.R_below HZ.out (pbs HL))).2.2); (case s4 => exact (Kd.R_reads' HZ.out).2.1); rintro e wq11 ⟨rfl, hb⟩; refine ⟨_, rfl, ?_⟩; have hbl := (bst HL hb).out; have n_HW := Aside0.mk (Kd.S_below HW.out hbl); have n_HX := Aside0.mk (Kd.R_below HX.out hbl); have n_HY := Aside0.mk (Kd.R_below HY.out hbl); have n_HG := Aside0.mk (Kd.S_below HG.out hbl); have n_HZ := Aside0.mk (Kd.R_below HZ.out hbl); have n_BK := bkb BK hb; have n_HB := bst HB hb; have SZwq11 := Aside0.mk (show wq10.heap.size ≤ wq11.heap.size from hbl.size); clear hbl hb HW HX HY HG HZ BK HB HL; have HW := n_HW; clear n_HW; have HX := n_HX; clear n_HX; have HY := n_HY; clear n_HY; have HG := n_HG; clear n_HG; have HZ := n_HZ; clear n_HZ; have BK := n_BK; clear n_BK; have HB := n_HB; clear n_HB; have HL := Aside0.mk (Below.refl wq11.heap.size wq11); clear HZ) | ((with_reducible refine gate_callee (f := 19) rfl ?_); refine goesL_ (some 65) rfl rfl Try.func19 (by kernel_rfl) rfl #[.slice A2 l2.length c2] rfl (by (try simp only [List.map_toArray, List.map_cons, List.map_nil]); first | done | rfl) ?_; (with_reducible refine (laws_toInt64S.calls k A2 c2 l2 y _ ?s1 HC2.out Z2.out).mono ?_); (case s1 => exact Kd.C_below HR2.out (pbs HB)); rintro e wq12 ⟨vwq12, rfl, ho, hb⟩; refine ⟨_, rfl, ?_⟩; have hbl := (bst HL hb).out; have n_HW := Aside0.mk (Kd.S_below HW.out hbl); have n_HX := Aside0.mk (Kd.R_below HX.out hbl); have n_HY := Aside0.mk (Kd.R_below HY.out hbl); have n_HG := Aside0.mk (Kd.S_below HG.out hbl); have n_BK := bkb BK hb; have n_HB := bst HB hb; have n_HZ := Aside0.mk (Kd.R_mono (ok' := fun k_ => wq11.heap.size ≤ k_ ∧ k_ < wq12.heap.size) (Kd.R_bound (Kd.R_lower (Kd.R_mono (ok' := fun k_ => wq11.heap.size ≤ k_ ∧ k_ < wq12.heap.size) (Kd.R_bound ho) (fun k_ hk => ⟨Nat.le_trans (below_size (pbs HL)) hk.2.1, hk.2.2.1⟩)) (below_size (pbs HB)))) (fun k_ hk => hk.1)); have SZwq12 := Aside0.mk (show wq11.heap.size ≤ wq12.heap.size from hbl.size); clear hbl hb HW HX HY HG BK HB HL ho; have HW := n_HW; clear n_HW; have HX := n_HX; clear n_HX; have HY := n_HY; clear n_HY; have HG := n_HG; clear n_HG; have HZ := n_HZ; clear n_HZ; have BK := n_BK; clear n_BK; have HB := n_HB; clear n_HB; have HL := Aside0.mk (Below.refl wq12.heap.size wq12); obtain ⟨AHZ, cHZ, eHZ⟩ := Kd.R_slice HZ.out; subst eHZ) | ((with_reducible refine gate_callee (f := 21) rfl ?_); refine goesL_ (some 66) rfl rfl Try.func21 (by kernel_rfl) rfl #[.slice AHY y.length cHY, .slice AHZ y.length cHZ] rfl (by (try simp only [List.map_toArray, List.map_cons, List.map_nil]); first | done | rfl) ?_; (with_reducible refine (laws_eqInt64S.calls k AHY cHY y AHZ cHZ y true _ ?s1 ?s2 ?s3 ?s4 Z7.out).mono ?_); (case s1 => exact (Kd.R_reads' (Kd.R_below HY.out (pbs HL))).2.2); (case s2 => exact (Kd.R_reads' HY.out).2.1); (case s3 => exact (Kd.R_reads' (Kd.R_below HZ.out (pbs HL))).2.2); (case s4 => exact (Kd.R_reads' HZ.out).2.1); rintro e w' ⟨rfl, ⟨nd, rfl⟩⟩; refine ⟨_, rfl, ?_⟩; clear HZ) | ((with_reducible refine gate_callee (f := 16) rfl ?_); refine goesL_ (some 70) rfl rfl Try.func16 (by kernel_rfl) rfl #[.slice AHX x.length cHX, .int .i64 1] rfl (by (try simp only [List.map_toArray, List.map_cons, List.map_nil]); first | done | rfl) ?_; (with_reducible refine (laws_markFile.calls k (fun k_ => some k_ = (.slice AHX x.length cHX : Value).ownBlock) (.slice AHX x.length cHX) x 1 m1 x9 w _ ?s1 ?s2 Z8.out).mono ?_); (case s1 => exact pbs HB); (case s2 => exact Kd.R_tight rfl (Kd.R_below HX.out (pbs HL))); rintro e wq13 ⟨rfl, hy, hb, hkp⟩; refine ⟨_, rfl, ?_⟩; have n_HW := Aside0.mk (Kd.S_kept (Kd.S_below HW.out (pbs HL)) hkp (fun k_ hk_ hs_ => by have h1_ := HX.out.1 k_ hs_.symm; have := SZwq1.out; have := SZwq2.out; have := SZwq3.out; have := SZwq4.out; have := SZwq5.out; have := SZwq6.out; have := SZwq7.out; have := SZwq8.out; have := SZwq9.out; have := SZwq10.out; have := SZwq11.out; have := SZwq12.out; have h2_ := hk_; (try simp only at h1_); (try simp only at h2_); omega)); have n_HY := Aside0.mk (Kd.R_kept (Kd.R_below HY.out (pbs HL)) hkp (fun k_ hk_ hs_ => by have h1_ := HX.out.1 k_ hs_.symm; have := SZwq1.out; have := SZwq2.out; have := SZwq3.out; have := SZwq4.out; have := SZwq5.out; have := SZwq6.out; have := SZwq7.out; have := SZwq8.out; have := SZwq9.out; have := SZwq10.out; have := SZwq11.out; have := SZwq12.out; have h2_ := hk_; (try simp only at h1_); (try simp only at h2_); omega)); have n_HG := Aside0.mk (Kd.S_kept (Kd.S_below HG.out (pbs HL)) hkp (fun k_ hk_ hs_ => by have h1_ := HX.out.1 k_ hs_.symm; have := SZwq1.out; have := SZwq2.out; have := SZwq3.out; have := SZwq4.out; have := SZwq5.out; have := SZwq6.out; have := SZwq7.out; have := SZwq8.out; have := SZwq9.out; have := SZwq10.out; have := SZwq11.out; have := SZwq12.out; have h2_ := hk_; (try simp only at h1_); (try simp only at h2_); omega)); have n_BK := Aside0.mk (blk_kept (pk BK) hkp (fun hs_ => by have h1_ := HX.out.1 _ hs_.symm; have := SZwq1.out; have := SZwq2.out; have := SZwq3.out; have := SZwq4.out; have := SZwq5.out; have := SZwq6.out; have := SZwq7.out; have := SZwq8.out; have := SZwq9.out; have := SZwq10.out; have := SZwq11.out; have := SZwq12.out; have h2_ := GL.out; (try simp only at h1_); omega)); have n_HB := Aside0.mk hb; have SZwq13 := Aside0.mk (show wq12.heap.size ≤ wq13.heap.size from Nat.le_trans (below_size (pbs HL)) hkp.1); clear hb hkp hy HW HX HY HG BK HB HL; have HW := n_HW; clear n_HW; have HY := n_HY; clear n_HY; have HG := n_HG; clear n_HG; have BK := n_BK; clear n_BK; have HB := n_HB; clear n_HB; have HL := Aside0.mk (Below.refl wq13.heap.size wq13)) | ((with_reducible refine gate_callee (f := 25) rfl ?_); refine goesL_ (some 73) rfl rfl Try.func25 (by kernel_rfl) rfl #[.slice AHY y.length cHY, .int .i64 m1] rfl (by (try simp only [List.map_toArray, List.map_cons, List.map_nil]); first | done | rfl) ?_; (with_reducible refine (laws_markInt64S.calls k (fun k_ => some k_ = (.slice AHY y.length cHY : Value).ownBlock) (.slice AHY y.length cHY) y m1 m2 y9 w _ ?s1 ?s2 Z9.out).mono ?_); (case s1 => exact pbs HB); (case s2 => exact Kd.R_tight rfl (Kd.R_below HY.out (pbs HL))); rintro e wq14 ⟨rfl, hy, hb, hkp⟩; refine ⟨_, rfl, ?_⟩; have n_HW := Aside0.mk (Kd.S_kept (Kd.S_below HW.out (pbs HL)) hkp (fun k_ hk_ hs_ => by have h1_ := HY.out.1 k_ hs_.symm; have := SZwq1.out; have := SZwq2.out; have := SZwq3.out; have := SZwq4.out; have := SZwq5.out; have := SZwq6.out; have := SZwq7.out; have := SZwq8.out; have := SZwq9.out; have := SZwq10.out; have := SZwq11.out; have := SZwq12.out; have := SZwq13.out; have h2_ := hk_; (try simp only at h1_); (try simp only at h2_); omega)); have n_HG := Aside0.mk (Kd.S_kept (Kd.S_below HG.out (pbs HL)) hkp (fun k_ hk_ hs_ => by have h1_ := HY.out.1 k_ hs_.symm; have := SZwq1.out; have := SZwq2.out; have := SZwq3.out; have := SZwq4.out; have := SZwq5.out; have := SZwq6.out; have := SZwq7.out; have := SZwq8.out; have := SZwq9.out; have := SZwq10.out; have := SZwq11.out; have := SZwq12.out; have := SZwq13.out; have h2_ := hk_; (try simp only at h1_); (try simp only at h2_); omega)); have n_BK := Aside0.mk (blk_kept (pk BK) hkp (fun hs_ => by have h1_ := HY.out.1 _ hs_.symm; have := SZwq1.out; have := SZwq2.out; have := SZwq3.out; have := SZwq4.out; have := SZwq5.out; have := SZwq6.out; have := SZwq7.out; have := SZwq8.out; have := SZwq9.out; have := SZwq10.out; have := SZwq11.out; have := SZwq12.out; have := SZwq13.out; have h2_ := GL.out; (try simp only at h1_); omega)); have n_HB := Aside0.mk hb; have SZwq14 := Aside0.mk (show wq13.heap.size ≤ wq14.heap.size from Nat.le_trans (below_size (pbs HL)) hkp.1); clear hb hkp hy HW HY HG BK HB HL; have HW := n_HW; clear n_HW; have HG := n_HG; clear n_HG; have BK := n_BK; clear n_BK; have HB := n_HB; clear n_HB; have HL := Aside0.mk (Below.refl wq14.heap.size wq14)) | ((with_reducible refine gate_callee (f := 24) rfl ?_); refine gate_guard (by first | rfl | kernel_rfl) ?_; refine goesL_ (some 79) rfl rfl Try.func24 (by kernel_rfl) rfl #[.slice AHG g1_.length cHG, .slice AHW w1_.length cHW] rfl (by (try simp only [List.map_toArray, List.map_cons, List.map_nil]); first | done | rfl) ?_; (with_reducible refine (laws_eqFileS.calls k AHG cHG g1_ AHW cHW w1_ true _ ?s1 ?s2 ?s3 ?s4 Z5.out).mono ?_); (case s1 => exact (Kd.S_reads' (Kd.S_below HG.out (pbs HL))).2.2); (case s2 => exact (Kd.S_reads' HG.out).2.1); (case s3 => exact (Kd.S_reads' (Kd.S_below HW.out (pbs HL))).2.2); (case s4 => exact (Kd.S_reads' HW.out).2.1); rintro e wq15 ⟨rfl, hb⟩; refine ⟨_, rfl, ?_⟩; have hbl := (bst HL hb).out; have n_HW := Aside0.mk (Kd.S_below HW.out hbl); have n_HG := Aside0.mk (Kd.S_below HG.out hbl); have n_BK := bkb BK hb; have n_HB := bst HB hb; have SZwq15 := Aside0.mk (show wq14.heap.size ≤ wq15.heap.size from hbl.size); clear hbl hb HW HG BK HB HL; have HW := n_HW; clear n_HW; have HG := n_HG; clear n_HG; have BK := n_BK; clear n_BK; have HB := n_HB; clear n_HB; have HL := Aside0.mk (Below.refl wq15.heap.size wq15)) | ((with_reducible refine gate_callee (f := 26) rfl ?_); refine goesL_ (some 89) rfl rfl Try.func26 (by kernel_rfl) rfl #[.slice AHG g1_.length cHG, .int .i64 1] rfl (by (try simp only [List.map_toArray, List.map_cons, List.map_nil]); first | done | rfl) ?_; (with_reducible refine (laws_markFileS.calls k (fun k_ => wq7.heap.size ≤ k_ ∧ k_ < wq8.heap.size) (.slice AHG g1_.length cHG) g1_ 1 h1 g9 w _ ?s1 ?s2 Z10.out).mono ?_); (case s1 => exact pbs HB); (case s2 => exact Kd.S_below HG.out (pbs HL)); rintro e wq16 ⟨rfl, hy, hb, hkp⟩; refine ⟨_, rfl, ?_⟩; have n_HW := Aside0.mk (Kd.S_kept (Kd.S_below HW.out (pbs HL)) hkp (fun k_ hk_ hs_ => by have h1_ := hs_; have := SZwq1.out; have := SZwq2.out; have := SZwq3.out; have := SZwq4.out; have := SZwq5.out; have := SZwq6.out; have := SZwq7.out; have := SZwq8.out; have := SZwq9.out; have := SZwq10.out; have := SZwq11.out; have := SZwq12.out; have := SZwq13.out; have := SZwq14.out; have := SZwq15.out; have h2_ := hk_; (try simp only at h1_); (try simp only at h2_); omega)); have n_BK := Aside0.mk (blk_kept (pk BK) hkp (fun hs_ => by have h1_ := hs_; have := SZwq1.out; have := SZwq2.out; have := SZwq3.out; have := SZwq4.out; have := SZwq5.out; have := SZwq6.out; have := SZwq7.out; have := SZwq8.out; have := SZwq9.out; have := SZwq10.out; have := SZwq11.out; have := SZwq12.out; have := SZwq13.out; have := SZwq14.out; have := SZwq15.out; have h2_ := GL.out; (try simp only at h1_); omega)); have n_HB := Aside0.mk hb; have n_HG := Aside0.mk (Kd.S_mono (ok' := fun _ => True) hy (fun _ _ => trivial)); have hlen := (Kd.S_reads' hy).1; have HN := Aside0.mk hlen; clear hlen; have SZwq16 := Aside0.mk (show wq15.heap.size ≤ wq16.heap.size from Nat.le_trans (below_size (pbs HL)) hkp.1); clear hb hkp hy HW HG BK HB HL; have HW := n_HW; clear n_HW; have BK := n_BK; clear n_BK; have HB := n_HB; clear n_HB; have HG := n_HG; clear n_HG; have HL := Aside0.mk (Below.refl wq16.heap.size wq16)) | ((with_reducible refine gate_callee (f := 27) rfl ?_); refine goesL_ (some 92) rfl rfl Try.func27 (by kernel_rfl) rfl #[.slice AHG g1_.length cHG, .int .i64 1] rfl (by (try simp only [List.map_toArray, List.map_cons, List.map_nil]); first | done | rfl) ?_; (with_reducible refine (laws_FnExactWalkFile.held k AHG cHG g1_.length g9 1 h1 _ ?s0 ?s1 ?s2 Z11.out).mono ?_); (case s0 => exact HN.out); (case s1 => exact (by have h_ := (Kd.S_reads' (Kd.S_below HG.out (pbs HL))).2.2; exact h_)); (case s2 => exact (by have h_ := (Kd.S_reads' HG.out).2.1; have h2_ := HN.out; omega)); rintro e w' ⟨rfl, ⟨nd, rfl⟩⟩; refine ⟨_, rfl, ?_⟩) | ((with_reducible refine gate_dst (N := 99) rfl ?_); refine wpList_run0 (v := .agg (mixA (Value.int .u16) [.int .i8 a0, .int .i8 a1] a2)) rfl (load_mix_run (P := Try.prog) 26 (.tmp 3) rfl gb rfl (show World.rangeAt _ gb 0 ([.int .i8 a0, .int .i8 a1] ++ a2.l.map (Value.int .u16)) from mix_range (show (World.heap _)[gb]? = some (.cells (mixA (Value.int .u16) [.int .i8 a0, .int .i8 a1] a2) 26 (0, 0)) from pk BK)) Try.underlying26 rfl (by kernel_rfl) rfl) ?_) | ((with_reducible refine gate_callee (f := 12) rfl ?_); refine goesL_ (some 100) rfl rfl Try.func12 (by kernel_rfl) rfl #[.agg (mixA (Value.int .u16) [.int .i8 a0, .int .i8 a1] a2)] rfl (by (try simp only [List.map_toArray, List.map_cons, List.map_nil]); first | done | rfl) ?_; (with_reducible refine (laws_toRoom.calls k a0 a1 a2 b0 b1 b2 _ Z0.out).mono ?_); rintro e wq17 ⟨rfl, hb⟩; refine ⟨_, rfl, ?_⟩; have hbl := (bst HL hb).out; have n_HW := Aside0.mk (Kd.S_below HW.out hbl); have n_HG := Aside0.mk (Kd.S_below HG.out hbl); have n_BK := bkb BK hb; have n_HB := bst HB hb; have SZwq17 := Aside0.mk (show wq16.heap.size ≤ wq17.heap.size from hbl.size); clear hbl hb HW HG BK HB HL; have HW := n_HW; clear n_HW; have HG := n_HG; clear n_HG; have BK := n_BK; clear n_BK; have HB := n_HB; clear n_HB; have HL := Aside0.mk (Below.refl wq17.heap.size wq17)) | ((with_reducible refine gate_callee (f := 13) rfl ?_); refine goesL_ (some 102) rfl rfl Try.func13 (by kernel_rfl) rfl #[.slice A1 l1.length c1] rfl (by (try simp only [List.map_toArray, List.map_cons, List.map_nil]); first | done | rfl) ?_; (with_reducible refine (laws_toFile.calls k A1 c1 l1 x _ ?s1 HC1.out Z1.out).mono ?_); (case s1 => exact Kd.C_below HR1.out (pbs HB)); rintro e wq18 ⟨vwq18, rfl, ho, hb⟩; refine ⟨_, rfl, ?_⟩; have hbl := (bst HL hb).out; have n_HW := Aside0.mk (Kd.S_below HW.out hbl); have n_HG := Aside0.mk (Kd.S_below HG.out hbl); have n_BK := bkb BK hb; have n_HB := bst HB hb; have n_HU := Aside0.mk (Kd.R_mono (ok' := fun k_ => wq17.heap.size ≤ k_ ∧ k_ < wq18.heap.size) (Kd.R_bound (Kd.R_lower (Kd.R_mono (ok' := fun k_ => wq17.heap.size ≤ k_ ∧ k_ < wq18.heap.size) (Kd.R_bound ho) (fun k_ hk => ⟨Nat.le_trans (below_size (pbs HL)) hk.2.1, hk.2.2.1⟩)) (below_size (pbs HB)))) (fun k_ hk => hk.1)); have SZwq18 := Aside0.mk (show wq17.heap.size ≤ wq18.heap.size from hbl.size); clear hbl hb HW HG BK HB HL ho; have HW := n_HW; clear n_HW; have HG := n_HG; clear n_HG; have HU := n_HU; clear n_HU; have BK := n_BK; clear n_BK; have HB := n_HB; clear n_HB; have HL := Aside0.mk (Below.refl wq18.heap.size wq18); obtain ⟨AHU, cHU, eHU⟩ := Kd.R_slice HU.out; subst eHU) | ((with_reducible refine gate_callee (f := 19) rfl ?_); refine goesL_ (some 104) rfl rfl Try.func19 (by kernel_rfl) rfl #[.slice A2 l2.length c2] rfl (by (try simp only [List.map_toArray, List.map_cons, List.map_nil]); first | done | rfl) ?_; (with_reducible refine (laws_toInt64S.calls k A2 c2 l2 y _ ?s1 HC2.out Z2.out).mono ?_); (case s1 => exact Kd.C_below HR2.out (pbs HB)); rintro e wq19 ⟨vwq19, rfl, ho, hb⟩; refine ⟨_, rfl, ?_⟩; have hbl := (bst HL hb).out; have n_HW := Aside0.mk (Kd.S_below HW.out hbl); have n_HG := Aside0.mk (Kd.S_below HG.out hbl); have n_HU := Aside0.mk (Kd.R_below HU.out hbl); have n_BK := bkb BK hb; have n_HB := bst HB hb; have n_HV := Aside0.mk (Kd.R_mono (ok' := fun k_ => wq18.heap.size ≤ k_ ∧ k_ < wq19.heap.size) (Kd.R_bound (Kd.R_lower (Kd.R_mono (ok' := fun k_ => wq18.heap.size ≤ k_ ∧ k_ < wq19.heap.size) (Kd.R_bound ho) (fun k_ hk => ⟨Nat.le_trans (below_size (pbs HL)) hk.2.1, hk.2.2.1⟩)) (below_size (pbs HB)))) (fun k_ hk => hk.1)); have SZwq19 := Aside0.mk (show wq18.heap.size ≤ wq19.heap.size from hbl.size); clear hbl hb HW HG HU BK HB HL ho; have HW := n_HW; clear n_HW; have HG := n_HG; clear n_HG; have HU := n_HU; clear n_HU; have HV := n_HV; clear n_HV; have BK := n_BK; clear n_BK; have HB := n_HB; clear n_HB; have HL := Aside0.mk (Below.refl wq19.heap.size wq19); obtain ⟨AHV, cHV, eHV⟩ := Kd.R_slice HV.out; subst eHV) | ((with_reducible refine gate_callee (f := 23) rfl ?_); refine goesL_ (some 105) rfl rfl Try.func23 (by kernel_rfl) rfl #[.agg (mixA (Value.int .u16) [.int .i8 b0, .int .i8 b1] b2), .slice AHU x.length cHU, .slice AHV y.length cHV] rfl (by (try simp only [List.map_toArray, List.map_cons, List.map_nil]); first | done | rfl) ?_; (with_reducible refine (impl_WalkFile.calls k b0 b1 b2 AHU cHU x AHV cHV y g1_ g2_ _ ?s1 ?s2 ?s3 ?s4 Z4.out).mono ?_); (case s1 => exact (Kd.R_reads' (Kd.R_below HU.out (pbs HL))).2.2); (case s2 => exact (Kd.R_reads' HU.out).2.1); (case s3 => exact (Kd.R_reads' (Kd.R_below HV.out (pbs HL))).2.2); (case s4 => exact (Kd.R_reads' HV.out).2.1); rintro e wq20 ⟨vwq20, rfl, ho, hb⟩; refine ⟨_, rfl, ?_⟩; have hbl := (bst HL hb).out; have n_HW := Aside0.mk (Kd.S_below HW.out hbl); have n_HG := Aside0.mk (Kd.S_below HG.out hbl); have n_HU := Aside0.mk (Kd.R_below HU.out hbl); have n_HV := Aside0.mk (Kd.R_below HV.out hbl); have n_BK := bkb BK hb; have n_HB := bst HB hb; have n_HH := Aside0.mk (Kd.S_mono (ok' := fun k_ => wq19.heap.size ≤ k_ ∧ k_ < wq20.heap.size) (Kd.S_bound (Kd.S_lower (Kd.S_mono (ok' := fun k_ => wq19.heap.size ≤ k_ ∧ k_ < wq20.heap.size) (Kd.S_bound ho) (fun k_ hk => ⟨Nat.le_trans (below_size (pbs HL)) hk.2.1, hk.2.2.1⟩)) (below_size (pbs HB)))) (fun k_ hk => hk.1)); have SZwq20 := Aside0.mk (show wq19.heap.size ≤ wq20.heap.size from hbl.size); clear hbl hb HW HG HU HV BK HB HL ho; have HW := n_HW; clear n_HW; have HG := n_HG; clear n_HG; have HU := n_HU; clear n_HU; have HV := n_HV; clear n_HV; have HH := n_HH; clear n_HH; have BK := n_BK; clear n_BK; have HB := n_HB; clear n_HB; have HL := Aside0.mk (Below.refl wq20.heap.size wq20); obtain ⟨AHH, cHH, eHH⟩ := Kd.S_slice HH.out; subst eHH) | ((with_reducible refine gate_callee (f := 24) rfl ?_); refine goesL_ (some 110) rfl rfl Try.func24 (by kernel_rfl) rfl #[.slice AHH g1_.length cHH, .slice AHW w1_.length cHW] rfl (by (try simp only [List.map_toArray, List.map_cons, List.map_nil]); first | done | rfl) ?_; (with_reducible refine (laws_eqFileS.calls k AHH cHH g1_ AHW cHW w1_ true _ ?s1 ?s2 ?s3 ?s4 Z5.out).mono ?_); (case s1 => exact (Kd.S_reads' (Kd.S_below HH.out (pbs HL))).2.2); (case s2 => exact (Kd.S_reads' HH.out).2.1); (case s3 => exact (Kd.S_reads' (Kd.S_below HW.out (pbs HL))).2.2); (case s4 => exact (Kd.S_reads' HW.out).2.1); rintro e wq21 ⟨rfl, hb⟩; refine ⟨_, rfl, ?_⟩; have hbl := (bst HL hb).out; have n_HW := Aside0.mk (Kd.S_below HW.out hbl); have n_HG := Aside0.mk (Kd.S_below HG.out hbl); have n_HU := Aside0.mk (Kd.R_below HU.out hbl); have n_HV := Aside0.mk (Kd.R_below HV.out hbl); have n_HH := Aside0.mk (Kd.S_below HH.out hbl); have n_BK := bkb BK hb; have n_HB := bst HB hb; have SZwq21 := Aside0.mk (show wq20.heap.size ≤ wq21.heap.size from hbl.size); clear hbl hb HW HG HU HV HH BK HB HL; have HW := n_HW; clear n_HW; have HG := n_HG; clear n_HG; have HU := n_HU; clear n_HU; have HV := n_HV; clear n_HV; have HH := n_HH; clear n_HH; have BK := n_BK; clear n_BK; have HB := n_HB; clear n_HB; have HL := Aside0.mk (Below.refl wq21.heap.size wq21)) | ((with_reducible refine gate_callee (f := 27) rfl ?_); refine goesL_ (some 119) rfl rfl Try.func27 (by kernel_rfl) rfl #[.slice AHG g1_.length cHG, .int .i64 1] rfl (by (try simp only [List.map_toArray, List.map_cons, List.map_nil]); first | done | rfl) ?_; (with_reducible refine (laws_FnExactWalkFile.held k AHG cHG g1_.length g9 1 h1 _ ?s0 ?s1 ?s2 Z11.out).mono ?_); (case s0 => exact HN.out); (case s1 => exact (by have h_ := (Kd.S_reads' (Kd.S_below HG.out (pbs HL))).2.2; exact h_)); (case s2 => exact (by have h_ := (Kd.S_reads' HG.out).2.1; have h2_ := HN.out; omega)); rintro e w' ⟨rfl, ⟨nd, rfl⟩⟩; refine ⟨_, rfl, ?_⟩))
  go_ret
  exact ⟨by first | rfl | (simp; done), pbs HB⟩
end Go.Proofs.Ytjogemppgdeomaa.PB
end
section
namespace Go.Proofs.Ytjogemppgdeomaa.PB
open Go.RowKit Go.Proofs.YtjogemppgdeomaaW.PrintWords Go.Proofs.YtjogemppgdeomaaW.PrintLast Go.Proofs.YtjogemppgdeomaaW.PrintMore Go.Proofs.Ytjogemppgdeomaa.La
attribute [local go_sem] max2_int min2_int max_two min_two max_three min_three max_four min_four   -- for this text's walks alone
set_option linter.unusedVariables false
set_option linter.unusedSimpArgs false
def spec_FirstBadMove.f (k : Nat) (a0_0 : Int) (a0_1 : Int) (a0_2 : LA 10) (l1 : List (S55)) (l2 : List Int) : Option (Int × Int) := (spec_l02Walked.f k a0_0 a0_1 a0_2 l1 l2).bind fun t337 => (if t337 = 0 then ((spec_l02Walk.f k a0_0 a0_1 a0_2 l1 l2).bind fun t338 => (if (t338.length : Int) = (l2.length : Int) then (some (0, 6)) else (some ((t338.length : Int), 0)))) else (some (0, t337)))
theorem spec_FirstBadMove.mono : ∀ a0 a1 a2 a3 a4 k, LeO (spec_FirstBadMove.f k a0 a1 a2 a3 a4) (spec_FirstBadMove.f (k + 1) a0 a1 a2 a3 a4) := by
 intro a0 a1 a2 a3 a4 k
 unfold spec_FirstBadMove.f
 repeat' first
   | (with_reducible exact spec_l02Walk.mono _ _ _ _ _ _)
   | (with_reducible exact spec_l02Walked.mono _ _ _ _ _ _)
   | (with_reducible exact LeO.refl _)
   | (with_reducible exact LeO.none _)
   | (with_reducible refine LeO.ite ?_ ?_)
   | (with_reducible refine LeO.bind ?_ (fun _ => ?_))
   | exact spec_l02Walk.mono _ _ _ _ _ _
   | exact spec_l02Walked.mono _ _ _ _ _ _
   | exact LeO.none _
   | refine LeO.ite ?_ ?_
   | refine LeO.bind ?_ (fun _ => ?_)
def impl_File.f (l0 : List (List (S55))) : Option (Int) := some (l0.length : Int)
def impl_FirstBadMove.f (k : Nat) (a0_0 : Int) (a0_1 : Int) (a0_2 : LA 10) (l1 : List (S55)) (l2 : List Int) : Option (Int × Int) := (impl_walkCode.f k a0_0 a0_1 a0_2 l1 l2).bind fun t357 => (if t357 = 0 then ((impl_File_walk.f k l1 a0_0 a0_1 a0_2 l2).bind fun t358 => (if (t358.length : Int) = (l2.length : Int) then (some (0, 6)) else ((impl_File.f t358).bind fun t361 => (some (t361, 0))))) else (some (0, t357)))
theorem impl_FirstBadMove.mono : ∀ a0 a1 a2 a3 a4 k, LeO (impl_FirstBadMove.f k a0 a1 a2 a3 a4) (impl_FirstBadMove.f (k + 1) a0 a1 a2 a3 a4) := by
 intro a0 a1 a2 a3 a4 k
 unfold impl_FirstBadMove.f
 repeat' first
   | (with_reducible exact impl_File_walk.mono _ _ _ _ _ _)
   | (with_reducible exact impl_walkCode.mono _ _ _ _ _ _)
   | (with_reducible exact LeO.refl _)
   | (with_reducible exact LeO.none _)
   | (with_reducible refine LeO.ite ?_ ?_)
   | (with_reducible refine LeO.bind ?_ (fun _ => ?_))
   | exact impl_File_walk.mono _ _ _ _ _ _
   | exact impl_walkCode.mono _ _ _ _ _ _
   | exact LeO.none _
   | refine LeO.ite ?_ ?_
   | refine LeO.bind ?_ (fun _ => ?_)
def laws_FnExactFirstBadMove.j0 : Nat → List (S52) → List Int → List (S55) → List Int → Bool → Option (Bool)
 | 0, _, _, _, _, _ => none
 | k + 1, x1, x2, x10, x11, x51 => if x51 = true then (some false) else ((laws_toFile.f k x1).bind fun t388 => ((laws_eqFile.f k x10 t388).bind fun t391 => (if t391 = true then ((laws_toInt64S.f k x2).bind fun t392 => ((laws_eqInt64S.f k x11 t392).bind fun t395 => (if t395 = true then (some true) else (some false)))) else (some false))))
def laws_FnExactFirstBadMove.f (k : Nat) (a0_0 : Int) (a0_1 : Int) (a0_2 : LA 10) (l1 : List (S52)) (l2 : List Int) : Option (Bool) := if (l2.length : Int) > 1048576 then (some true) else ((laws_szFile.f l1 1048576).bind fun t365 => (if t365 < 0 then (some true) else ((laws_toRoom.f k a0_0 a0_1 a0_2).bind fun bt366 => ((laws_toFile.f k l1).bind fun t369 => ((laws_toInt64S.f k l2).bind fun t372 => ((spec_FirstBadMove.f k bt366.1 bt366.2.1 bt366.2.2 t369 t372).bind fun bt375 => ((laws_toFile.f k l1).bind fun t377 => ((laws_toInt64S.f k l2).bind fun t380 => ((laws_toRoom.f k a0_0 a0_1 a0_2).bind fun bt383 => ((impl_FirstBadMove.f k bt383.1 bt383.2.1 bt383.2.2 t377 t380).bind fun bt386 => (if bt386.1 = bt375.1 then (laws_FnExactFirstBadMove.j0 k l1 l2 t377 t380 (bt386.2 != bt375.2)) else (laws_FnExactFirstBadMove.j0 k l1 l2 t377 t380 true))))))))))))
theorem laws_FnExactFirstBadMove.mono_l : ∀ k, (∀ y0 y1 y2 y3 y4, LeO (laws_FnExactFirstBadMove.j0 k y0 y1 y2 y3 y4) (laws_FnExactFirstBadMove.j0 (k + 1) y0 y1 y2 y3 y4))
 | 0 => fun _ _ _ _ _ r h => by simp [laws_FnExactFirstBadMove.j0] at h
 | k + 1 => by
  have ih0 := laws_FnExactFirstBadMove.mono_l k
  ·intro y0 y1 y2 y3 y4
   unfold laws_FnExactFirstBadMove.j0
   repeat' first
   | (with_reducible exact ih0 _ _ _ _ _)
   | (with_reducible exact impl_FirstBadMove.mono _ _ _ _ _ _)
   | (with_reducible exact laws_eqFile.mono _ _ _)
   | (with_reducible exact laws_eqInt64S.mono _ _ _)
   | (with_reducible exact laws_toFile.mono _ _)
   | (with_reducible exact laws_toInt64S.mono _ _)
   | (with_reducible exact laws_toRoom.mono _ _ _ _)
   | (with_reducible exact spec_FirstBadMove.mono _ _ _ _ _ _)
   | (with_reducible exact LeO.refl _)
   | (with_reducible exact LeO.none _)
   | (with_reducible refine LeO.ite ?_ ?_)
   | (with_reducible refine LeO.bind ?_ (fun _ => ?_))
   | exact ih0 _ _ _ _ _
   | exact impl_FirstBadMove.mono _ _ _ _ _ _
   | exact laws_eqFile.mono _ _ _
   | exact laws_eqInt64S.mono _ _ _
   | exact laws_toFile.mono _ _
   | exact laws_toInt64S.mono _ _
   | exact laws_toRoom.mono _ _ _ _
   | exact spec_FirstBadMove.mono _ _ _ _ _ _
   | exact LeO.none _
   | refine LeO.ite ?_ ?_
   | refine LeO.bind ?_ (fun _ => ?_)
theorem laws_FnExactFirstBadMove.mono : ∀ a0 a1 a2 a3 a4 k, LeO (laws_FnExactFirstBadMove.f k a0 a1 a2 a3 a4) (laws_FnExactFirstBadMove.f (k + 1) a0 a1 a2 a3 a4) := by
 intro a0 a1 a2 a3 a4 k
 have ih0 := laws_FnExactFirstBadMove.mono_l k
 unfold laws_FnExactFirstBadMove.f
 repeat' first
   | (with_reducible exact ih0 _ _ _ _ _)
   | (with_reducible exact impl_FirstBadMove.mono _ _ _ _ _ _)
   | (with_reducible exact laws_eqFile.mono _ _ _)
   | (with_reducible exact laws_eqInt64S.mono _ _ _)
   | (with_reducible exact laws_toFile.mono _ _)
   | (with_reducible exact laws_toInt64S.mono _ _)
   | (with_reducible exact laws_toRoom.mono _ _ _ _)
   | (with_reducible exact spec_FirstBadMove.mono _ _ _ _ _ _)
   | (with_reducible exact LeO.refl _)
   | (with_reducible exact LeO.none _)
   | (with_reducible refine LeO.ite ?_ ?_)
   | (with_reducible refine LeO.bind ?_ (fun _ => ?_))
   | exact ih0 _ _ _ _ _
   | exact impl_FirstBadMove.mono _ _ _ _ _ _
   | exact laws_eqFile.mono _ _ _
   | exact laws_eqInt64S.mono _ _ _
   | exact laws_toFile.mono _ _
   | exact laws_toInt64S.mono _ _
   | exact laws_toRoom.mono _ _ _ _
   | exact spec_FirstBadMove.mono _ _ _ _ _ _
   | exact LeO.none _
   | refine LeO.ite ?_ ?_
   | refine LeO.bind ?_ (fun _ => ?_)
end Go.Proofs.Ytjogemppgdeomaa.PB
end
section
namespace Go.Proofs.Ytjogemppgdeomaa.PB
open Go.RowKit Go.Proofs.YtjogemppgdeomaaW.PrintWords Go.Proofs.YtjogemppgdeomaaW.PrintLast Go.Proofs.YtjogemppgdeomaaW.PrintMore Go.Proofs.Ytjogemppgdeomaa.La
attribute [local go_sem] max2_int min2_int max_two min_two max_three min_three max_four min_four   -- for this text's walks alone
set_option linter.unusedVariables false
set_option linter.unusedSimpArgs false
def spec_l02Asked.f (k : Nat) (s0_0 : Int) (s0_1 : Int) (s0_2 : LA 10) (l1 : List (S55)) (a2 : Int) : Option (Int) := (spec_l02Ok.f k s0_0 s0_1 s0_2 l1).bind fun t138 => (if t138 = true then ((spec_l02Move.f a2).bind fun t139 => (if t139 = true then (some 0) else (some 2))) else (some 1))
theorem spec_l02Asked.mono : ∀ a0 a1 a2 a3 a4 k, LeO (spec_l02Asked.f k a0 a1 a2 a3 a4) (spec_l02Asked.f (k + 1) a0 a1 a2 a3 a4) := by
 intro a0 a1 a2 a3 a4 k
 unfold spec_l02Asked.f
 repeat' first
   | (with_reducible exact spec_l02Ok.mono _ _ _ _ _)
   | (with_reducible exact LeO.refl _)
   | (with_reducible exact LeO.none _)
   | (with_reducible refine LeO.ite ?_ ?_)
   | (with_reducible refine LeO.bind ?_ (fun _ => ?_))
   | exact spec_l02Ok.mono _ _ _ _ _
   | exact LeO.none _
   | refine LeO.ite ?_ ?_
   | refine LeO.bind ?_ (fun _ => ?_)
def spec_MoveFile.j0 : Nat → List (S55) → Int → Int → Bool → Option ((List (S55)) × Int)
 | 0, _, _, _, _ => none
 | k + 1, x1, x2, x8, x19 => if x19 = true then (if 4 = 0 then ((spec_l02Made.f k x1 x2).bind fun t177 => (some (t177, 0))) else (some ((([] : List (S55))), 4))) else (if x8 = 0 then ((spec_l02Made.f k x1 x2).bind fun t183 => (some (t183, 0))) else (some ((([] : List (S55))), x8)))
def spec_MoveFile.f (k : Nat) (a0_0 : Int) (a0_1 : Int) (a0_2 : LA 10) (l1 : List (S55)) (a2 : Int) : Option ((List (S55)) × Int) := (spec_l02Asked.f k a0_0 a0_1 a0_2 l1 a2).bind fun t175 => (if t175 = 0 then ((spec_l02Can.f k a0_0 a0_1 a0_2 l1 a2).bind fun t176 => (spec_MoveFile.j0 k l1 a2 t175 (!t176))) else (spec_MoveFile.j0 k l1 a2 t175 false))
theorem spec_MoveFile.mono_l : ∀ k, (∀ y0 y1 y2 y3, LeO (spec_MoveFile.j0 k y0 y1 y2 y3) (spec_MoveFile.j0 (k + 1) y0 y1 y2 y3))
 | 0 => fun _ _ _ _ r h => by simp [spec_MoveFile.j0] at h
 | k + 1 => by
  have ih0 := spec_MoveFile.mono_l k
  ·intro y0 y1 y2 y3
   unfold spec_MoveFile.j0
   repeat' first
   | (with_reducible exact ih0 _ _ _ _)
   | (with_reducible exact spec_l02Asked.mono _ _ _ _ _ _)
   | (with_reducible exact spec_l02Can.mono _ _ _ _ _ _)
   | (with_reducible exact spec_l02Made.mono _ _ _)
   | (with_reducible exact LeO.refl _)
   | (with_reducible exact LeO.none _)
   | (with_reducible refine LeO.ite ?_ ?_)
   | (with_reducible refine LeO.bind ?_ (fun _ => ?_))
   | exact ih0 _ _ _ _
   | exact spec_l02Asked.mono _ _ _ _ _ _
   | exact spec_l02Can.mono _ _ _ _ _ _
   | exact spec_l02Made.mono _ _ _
   | exact LeO.none _
   | refine LeO.ite ?_ ?_
   | refine LeO.bind ?_ (fun _ => ?_)
theorem spec_MoveFile.mono : ∀ a0 a1 a2 a3 a4 k, LeO (spec_MoveFile.f k a0 a1 a2 a3 a4) (spec_MoveFile.f (k + 1) a0 a1 a2 a3 a4) := by
 intro a0 a1 a2 a3 a4 k
 have ih0 := spec_MoveFile.mono_l k
 unfold spec_MoveFile.f
 repeat' first
   | (with_reducible exact ih0 _ _ _ _)
   | (with_reducible exact spec_l02Asked.mono _ _ _ _ _ _)
   | (with_reducible exact spec_l02Can.mono _ _ _ _ _ _)
   | (with_reducible exact spec_l02Made.mono _ _ _)
   | (with_reducible exact LeO.refl _)
   | (with_reducible exact LeO.none _)
   | (with_reducible refine LeO.ite ?_ ?_)
   | (with_reducible refine LeO.bind ?_ (fun _ => ?_))
   | exact ih0 _ _ _ _
   | exact spec_l02Asked.mono _ _ _ _ _ _
   | exact spec_l02Can.mono _ _ _ _ _ _
   | exact spec_l02Made.mono _ _ _
   | exact LeO.none _
   | refine LeO.ite ?_ ?_
   | refine LeO.bind ?_ (fun _ => ?_)
def impl_moveCode.f (k : Nat) (a0_0 : Int) (a0_1 : Int) (a0_2 : LA 10) (l1 : List (S55)) (a2 : Int) : Option (Int) := (impl_ValidFile.f k a0_0 a0_1 a0_2 l1).bind fun t250 => (if t250 = true then ((impl_isMove.f a2).bind fun t251 => ((impl_unless.f t251 2).bind fun t252 => (some t252))) else (some 1))
theorem impl_moveCode.mono : ∀ a0 a1 a2 a3 a4 k, LeO (impl_moveCode.f k a0 a1 a2 a3 a4) (impl_moveCode.f (k + 1) a0 a1 a2 a3 a4) := by
 intro a0 a1 a2 a3 a4 k
 unfold impl_moveCode.f
 repeat' first
   | (with_reducible exact impl_ValidFile.mono _ _ _ _ _)
   | (with_reducible exact LeO.refl _)
   | (with_reducible exact LeO.none _)
   | (with_reducible refine LeO.ite ?_ ?_)
   | (with_reducible refine LeO.bind ?_ (fun _ => ?_))
   | exact impl_ValidFile.mono _ _ _ _ _
   | exact LeO.none _
   | refine LeO.ite ?_ ?_
   | refine LeO.bind ?_ (fun _ => ?_)
def impl_MoveFile.j0 : Nat → List (S55) → Int → Int → Bool → Option ((List (S55)) × Int)
 | 0, _, _, _, _ => none
 | k + 1, x1, x2, x8, x21 => if x21 = true then (if 4 = 0 then ((impl_File_moved.f k x1 x2).bind fun t272 => (some (t272, 0))) else (some (([] : List (S55)), 4))) else (if x8 = 0 then ((impl_File_moved.f k x1 x2).bind fun t275 => (some (t275, 0))) else (some (([] : List (S55)), x8)))
def impl_MoveFile.f (k : Nat) (a0_0 : Int) (a0_1 : Int) (a0_2 : LA 10) (l1 : List (S55)) (a2 : Int) : Option ((List (S55)) × Int) := (impl_moveCode.f k a0_0 a0_1 a0_2 l1 a2).bind fun t270 => (if t270 = 0 then ((impl_File_can.f k l1 a0_0 a0_1 a0_2 a2).bind fun t271 => (impl_MoveFile.j0 k l1 a2 t270 (!t271))) else (impl_MoveFile.j0 k l1 a2 t270 false))
theorem impl_MoveFile.mono_l : ∀ k, (∀ y0 y1 y2 y3, LeO (impl_MoveFile.j0 k y0 y1 y2 y3) (impl_MoveFile.j0 (k + 1) y0 y1 y2 y3))
 | 0 => fun _ _ _ _ r h => by simp [impl_MoveFile.j0] at h
 | k + 1 => by
  have ih0 := impl_MoveFile.mono_l k
  ·intro y0 y1 y2 y3
   unfold impl_MoveFile.j0
   repeat' first
   | (with_reducible exact ih0 _ _ _ _)
   | (with_reducible exact impl_File_can.mono _ _ _ _ _ _)
   | (with_reducible exact impl_File_moved.mono _ _ _)
   | (with_reducible exact impl_moveCode.mono _ _ _ _ _ _)
   | (with_reducible exact LeO.refl _)
   | (with_reducible exact LeO.none _)
   | (with_reducible refine LeO.ite ?_ ?_)
   | (with_reducible refine LeO.bind ?_ (fun _ => ?_))
   | exact ih0 _ _ _ _
   | exact impl_File_can.mono _ _ _ _ _ _
   | exact impl_File_moved.mono _ _ _
   | exact impl_moveCode.mono _ _ _ _ _ _
   | exact LeO.none _
   | refine LeO.ite ?_ ?_
   | refine LeO.bind ?_ (fun _ => ?_)
theorem impl_MoveFile.mono : ∀ a0 a1 a2 a3 a4 k, LeO (impl_MoveFile.f k a0 a1 a2 a3 a4) (impl_MoveFile.f (k + 1) a0 a1 a2 a3 a4) := by
 intro a0 a1 a2 a3 a4 k
 have ih0 := impl_MoveFile.mono_l k
 unfold impl_MoveFile.f
 repeat' first
   | (with_reducible exact ih0 _ _ _ _)
   | (with_reducible exact impl_File_can.mono _ _ _ _ _ _)
   | (with_reducible exact impl_File_moved.mono _ _ _)
   | (with_reducible exact impl_moveCode.mono _ _ _ _ _ _)
   | (with_reducible exact LeO.refl _)
   | (with_reducible exact LeO.none _)
   | (with_reducible refine LeO.ite ?_ ?_)
   | (with_reducible refine LeO.bind ?_ (fun _ => ?_))
   | exact ih0 _ _ _ _
   | exact impl_File_can.mono _ _ _ _ _ _
   | exact impl_File_moved.mono _ _ _
   | exact impl_moveCode.mono _ _ _ _ _ _
   | exact LeO.none _
   | refine LeO.ite ?_ ?_
   | refine LeO.bind ?_ (fun _ => ?_)
end Go.Proofs.Ytjogemppgdeomaa.PB
end
