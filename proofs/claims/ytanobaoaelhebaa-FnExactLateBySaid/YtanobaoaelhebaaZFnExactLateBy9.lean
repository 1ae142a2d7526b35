/- The statement FnExactLateBy of this program: what its proof uses, part 10 of 12. The call returns true for all arguments. No condition of its own. -/
import Derived.Test.YtanobaoaelhebaaZFnExactLateBy8
section
namespace Go.Proofs.Ytanobaoaelhebaa.PB
open Go.RowKit Go.Proofs.YtanobaoaelhebaaW.PrintWords Go.Proofs.YtanobaoaelhebaaW.PrintLast Go.Proofs.YtanobaoaelhebaaW.PrintMore Go.Proofs.Ytanobaoaelhebaa.La Go.Proofs.Ytanobaoaelhebaa.Mp
attribute [local go_sem] max2_int min2_int max_two min_two max_three min_three max_four min_four   -- for this text's walks alone
set_option linter.unusedVariables false
set_option linter.unusedSimpArgs false
def impl_Spot_99__92.l0 : Nat → List (S36) → Int → Int → Int → Int → LA 10 → Option (Int)
 | 0, _, _, _, _, _, _ => none
 | k + 1, x0, x7, x8, x2000, x2001, x2002 => if x8 < x7 then (if 0 ≤ x8 then (if x8 < (x0.length : Int) then ((impl_stateCode_1.f ((rd_T36 x0 x8).f0) ((rd_T36 x0 x8).f1) x2000 x2001 x2002).bind fun t258 => (if t258 = true then (some x8) else (impl_Spot_99__92.l0 k x0 x7 (wrap64 (x8 + 1)) x2000 x2001 x2002))) else (none)) else (none)) else (some (-1))
def impl_Spot_99__92.f (k : Nat) (l0 : List (S36)) (s1_0 : Int) (s1_1 : Int) (s1_2 : LA 10) : Option (Int) := impl_Spot_99__92.l0 k l0 (l0.length : Int) 0 s1_0 s1_1 s1_2
theorem impl_Spot_99__92.mono_l : ∀ k, (∀ y0 y1 y2 y3 y4 y5, LeO (impl_Spot_99__92.l0 k y0 y1 y2 y3 y4 y5) (impl_Spot_99__92.l0 (k + 1) y0 y1 y2 y3 y4 y5))
 | 0 => fun _ _ _ _ _ _ r h => by simp [impl_Spot_99__92.l0] at h
 | k + 1 => by
  have ih0 := impl_Spot_99__92.mono_l k
  ·intro y0 y1 y2 y3 y4 y5
   unfold impl_Spot_99__92.l0
   repeat' first
   | (with_reducible exact ih0 _ _ _ _ _ _)
   | (with_reducible exact LeO.refl _)
   | (with_reducible exact LeO.none _)
   | (with_reducible refine LeO.ite ?_ ?_)
   | (with_reducible refine LeO.bind ?_ (fun _ => ?_))
   | exact ih0 _ _ _ _ _ _
   | exact LeO.none _
   | refine LeO.ite ?_ ?_
   | refine LeO.bind ?_ (fun _ => ?_)
theorem impl_Spot_99__92.mono : ∀ a0 a1 a2 a3 k, LeO (impl_Spot_99__92.f k a0 a1 a2 a3) (impl_Spot_99__92.f (k + 1) a0 a1 a2 a3) := by
 intro a0 a1 a2 a3 k
 have ih0 := impl_Spot_99__92.mono_l k
 unfold impl_Spot_99__92.f
 repeat' first
   | (with_reducible exact ih0 _ _ _ _ _ _)
   | (with_reducible exact LeO.refl _)
   | (with_reducible exact LeO.none _)
   | (with_reducible refine LeO.ite ?_ ?_)
   | (with_reducible refine LeO.bind ?_ (fun _ => ?_))
   | exact ih0 _ _ _ _ _ _
   | exact LeO.none _
   | refine LeO.ite ?_ ?_
   | refine LeO.bind ?_ (fun _ => ?_)
set_option maxHeartbeats 8000000 in
set_option maxRecDepth 100000 in
theorem impl_Spot_99__92.calls (k : Nat) (A0 : Option Addr) (c0 : Nat) (l0 : List (S36)) (g1 : Nat) (s1_0 : Int) (s1_1 : Int) (s1_2 : LA 10) (r : Int) (w : World) (hb1 : w.heap[g1]? = some (.cells (mixA (Value.int .u16) [.int .i8 s1_0, .int .i8 s1_1] s1_2) 34 (0, 0))) (hr0 : Kd.C k36 w A0 l0.length l0) (hc0 : l0.length ≤ c0) (h : impl_Spot_99__92.f k l0 s1_0 s1_1 s1_2 = some r) :
  Calls Try.prog 99 #[.slice A0 l0.length c0, .func (.func 92) #[] #[.pointer (some ⟨g1, 0, none⟩)]] w fun e w' => e = .returned (.int .i64 r) ∧ Below w.heap.size w w' := by
 have hu36 := Try.underlying36
 have HR0 := Aside0.mk hr0
 have HC0 := Aside0.mk hc0
 clear hr0 hc0
 have BK1 := Aside0.mk hb1
 clear hb1
 have HB := Aside0.mk (Below.refl w.heap.size w)
 have H : (impl_Spot_99__92.l0 k l0 (l0.length : Int) 0 s1_0 s1_1 s1_2) = some r := h
 clear h
 have H' := Aside0.mk H
 clear H
 go_enter Try.func99, Try.ntmps99
 go_wp2
 go_loopg [8] k (fun kq v8 w' => ∃ (x8_1 : Int), v8 = .int .i64 x8_1 ∧ Aside0 (impl_Spot_99__92.l0 kq l0 (l0.length : Int) x8_1 s1_0 s1_1 s1_2 = some r) ∧ Aside0 (kq ≤ k) ∧ Aside0 (w'.heap[g1]? = some (.cells (mixA (Value.int .u16) [.int .i8 s1_0, .int .i8 s1_1] s1_2) 34 (0, 0))) ∧ Aside0 (Below w.heap.size w w'))
 case atStart => exact ⟨(0), (by first | rfl | (simp; done) | (simp [*]; done)), H', ⟨Nat.le_refl _⟩, ⟨pk BK1⟩, ⟨pbs HB⟩⟩
 case round =>
  clear H'
  try clear p2
  obtain ⟨x8_1, rfl, HA, HK1, BK1, HB⟩ := hrel
  cases gk with
  | zero => exact absurd HA.out (by simp [impl_Spot_99__92.l0])
  | succ k1 =>
   have H := HA.out; clear HA; simp only [impl_Spot_99__92.l0] at H
   by_cases c3 : x8_1 < (l0.length : Int)
   ·rw [if_pos c3] at H
    have c3b0 : decide (x8_1 < (l0.length : Int)) = true := decide_eq_true c3; clear c3
    by_cases c4 : 0 ≤ x8_1
    ·rw [if_pos c4] at H
     have c4b0 : decide (0 ≤ x8_1) = true := decide_eq_true c4; clear c4
     by_cases c5 : x8_1 < (l0.length : Int)
     ·rw [if_pos c5] at H
      have c5b0 : decide (x8_1 < (l0.length : Int)) = true := decide_eq_true c5; clear c5; obtain ⟨t258, A6, H⟩ := obn H
      by_cases c7 : t258 = true
      ·subst c7
       have H1 : (some x8_1) = some r := by rw [if_pos rfl] at H; exact H
       clear H; have H := H1; clear H1; obtain rfl := Option.some.inj H; have p257 : 0 ≤ (x8_1 : Int) := oda; have q257 : x8_1 < (l0.length : Int) := oda; obtain ⟨ad257, e257, hx257_0, hx257_1⟩ := at_T36 HR0.out x8_1 p257 q257; cases e257
       try replace hx257_0 := cb HB hx257_0
       try replace hx257_1 := cb HB hx257_1
       replace p257 := eq_true p257; replace q257 := eq_true q257
       go_wp2_with (first | (go_at_call 92; (with_reducible refine (impl_stateCode_1.calls ((rd_T36 l0 x8_1).f0) ((rd_T36 l0 x8_1).f1) g1 s1_0 s1_1 s1_2 true _ ?side1 A6.out).mono ?_); (case side1 => exact (pk BK1)); rintro e w8 ⟨rfl, hb⟩; replace BK1 := bkb BK1 hb; replace HB := bst HB hb; (try clear hb); (try clear hb2); (try clear hk); (try clear hi)))
       go_ret
       exact ⟨by first | rfl | (simp [errW_none, errW_some] <;> rfl) | (simp [*, errW_none, errW_some] <;> rfl), pbs HB⟩
      ·replace c7 := Bool.eq_false_iff.mpr c7
       subst c7
       have H1 : (impl_Spot_99__92.l0 k1 l0 (l0.length : Int) (wrap64 (x8_1 + 1)) s1_0 s1_1 s1_2) = some r := by rw [if_neg (show ¬ (false = true) by decide)] at H; exact H
       clear H; have H := H1; clear H1; have H' := Aside0.mk H; clear H; have p257 : 0 ≤ (x8_1 : Int) := oda; have q257 : x8_1 < (l0.length : Int) := oda; obtain ⟨ad257, e257, hx257_0, hx257_1⟩ := at_T36 HR0.out x8_1 p257 q257; cases e257
       try replace hx257_0 := cb HB hx257_0
       try replace hx257_1 := cb HB hx257_1
       replace p257 := eq_true p257; replace q257 := eq_true q257
       go_wp2_with (first | (go_at_call 92; (with_reducible refine (impl_stateCode_1.calls ((rd_T36 l0 x8_1).f0) ((rd_T36 l0 x8_1).f1) g1 s1_0 s1_1 s1_2 false _ ?side1 A6.out).mono ?_); (case side1 => exact (pk BK1)); rintro e w9 ⟨rfl, hb⟩; replace BK1 := bkb BK1 hb; replace HB := bst HB hb; (try clear hb); (try clear hb2); (try clear hk); (try clear hi)))
       go_roundg k1
       case measure => have := HK1.out; omega
       case rel => exact ⟨(wrap64 (x8_1 + 1)), (by first | rfl | (simp; done) | (simp [*]; done)), H', ⟨by have := HK1.out; omega⟩, ⟨pk BK1⟩, ⟨pbs HB⟩⟩
     ·rw [if_neg c5] at H
      exact absurd H (by simp)
    ·rw [if_neg c4] at H
     exact absurd H (by simp)
   ·rw [if_neg c3] at H
    have c3b0 : decide (x8_1 < (l0.length : Int)) = false := decide_eq_false c3; clear c3; obtain rfl := Option.some.inj H
    go_wp2
    go_ret
    exact ⟨by first | rfl | (simp [errW_none, errW_some] <;> rfl) | (simp [*, errW_none, errW_some] <;> rfl), pbs HB⟩
def impl_Spot_89__92.f (k : Nat) (l0 : List (S36)) (s1_0 : Int) (s1_1 : Int) (s1_2 : LA 10) : Option (Bool) := (impl_Spot_99__92.f k l0 s1_0 s1_1 s1_2).bind fun t259 => (some (decide (t259 ≥ 0)))
theorem impl_Spot_89__92.mono : ∀ a0 a1 a2 a3 k, LeO (impl_Spot_89__92.f k a0 a1 a2 a3) (impl_Spot_89__92.f (k + 1) a0 a1 a2 a3) := by
 intro a0 a1 a2 a3 k
 unfold impl_Spot_89__92.f
 repeat' first
   | (with_reducible exact impl_Spot_99__92.mono _ _ _ _ _)
   | (with_reducible exact LeO.refl _)
   | (with_reducible exact LeO.none _)
   | (with_reducible refine LeO.ite ?_ ?_)
   | (with_reducible refine LeO.bind ?_ (fun _ => ?_))
   | exact impl_Spot_99__92.mono _ _ _ _ _
   | exact LeO.none _
   | refine LeO.ite ?_ ?_
   | refine LeO.bind ?_ (fun _ => ?_)
set_option maxHeartbeats 8000000 in
set_option maxRecDepth 100000 in
theorem impl_Spot_89__92.calls (k : Nat) (A0 : Option Addr) (c0 : Nat) (l0 : List (S36)) (g1 : Nat) (s1_0 : Int) (s1_1 : Int) (s1_2 : LA 10) (r : Bool) (w : World) (hb1 : w.heap[g1]? = some (.cells (mixA (Value.int .u16) [.int .i8 s1_0, .int .i8 s1_1] s1_2) 34 (0, 0))) (hr0 : Kd.C k36 w A0 l0.length l0) (hc0 : l0.length ≤ c0) (h : impl_Spot_89__92.f k l0 s1_0 s1_1 s1_2 = some r) :
  Calls Try.prog 89 #[.slice A0 l0.length c0, .func (.func 92) #[] #[.pointer (some ⟨g1, 0, none⟩)]] w fun e w' => e = .returned (.bool r) ∧ Below w.heap.size w w' := by
 have HR0 := Aside0.mk hr0
 have HC0 := Aside0.mk hc0
 clear hr0 hc0
 have BK1 := Aside0.mk hb1
 clear hb1
 have HB := Aside0.mk (Below.refl w.heap.size w)
 have H : ((impl_Spot_99__92.f k l0 s1_0 s1_1 s1_2).bind fun t259 => (some (decide (t259 ≥ 0)))) = some r := h
 clear h
 obtain ⟨t259, A3, H⟩ := obn H
 obtain rfl := Option.some.inj H
 go_enter Try.func89, Try.ntmps89
 go_wp2_with (first | ((with_reducible refine gate_callee (f := 99) rfl ?_); refine gl (some 7) Try.func99 #[.slice A0 l0.length c0, .func (.func 92) #[] #[.pointer (some ⟨g1, 0, none⟩)]] ?_; (with_reducible refine (impl_Spot_99__92.calls k _ _ l0 g1 s1_0 s1_1 s1_2 t259 _ ?side1 ?side2 ?side3 A3.out).mono ?_); (case side1 => exact (pk BK1)); (case side2 => repeat (first | exact HR0.out | (with_reducible refine Kd.C_alloc ?_ _) | (with_reducible refine Kd.C_drewN ?_ _) | (with_reducible refine Kd.C_drew ?_))); (case side3 => exact HC0.out); rintro e w4 ⟨rfl, hb⟩; refine ⟨_, rfl, ?_⟩; replace BK1 := bkb BK1 hb; replace HB := bst HB hb; (try clear hb); (try clear hb2); (try clear hk); (try clear hi)))
 go_ret
 exact ⟨by first | rfl | (simp [errW_none, errW_some] <;> rfl) | (simp [*, errW_none, errW_some] <;> rfl), pbs HB⟩
def impl_stateCode.f (k : Nat) (a0_0 : Int) (a0_1 : Int) (a0_2 : LA 10) (l1 : List (S36)) : Option (Int) := (impl_Spot_89__92.f k l1 a0_0 a0_1 a0_2).bind fun t261 => ((impl_unless.f (!t261) 4).bind fun t262 => (some t262))
theorem impl_stateCode.mono : ∀ a0 a1 a2 a3 k, LeO (impl_stateCode.f k a0 a1 a2 a3) (impl_stateCode.f (k + 1) a0 a1 a2 a3) := by
 intro a0 a1 a2 a3 k
 unfold impl_stateCode.f
 repeat' first
   | (with_reducible exact impl_Spot_89__92.mono _ _ _ _ _)
   | (with_reducible exact LeO.refl _)
   | (with_reducible exact LeO.none _)
   | (with_reducible refine LeO.ite ?_ ?_)
   | (with_reducible refine LeO.bind ?_ (fun _ => ?_))
   | exact impl_Spot_89__92.mono _ _ _ _ _
   | exact LeO.none _
   | refine LeO.ite ?_ ?_
   | refine LeO.bind ?_ (fun _ => ?_)
set_option maxHeartbeats 8000000 in
set_option maxRecDepth 100000 in
theorem impl_stateCode.calls (k : Nat) (a0_0 : Int) (a0_1 : Int) (a0_2 : LA 10) (A1 : Option Addr) (c1 : Nat) (l1 : List (S36)) (r : Int) (w : World) (hr1 : Kd.C k36 w A1 l1.length l1) (hc1 : l1.length ≤ c1) (h : impl_stateCode.f k a0_0 a0_1 a0_2 l1 = some r) :
  Calls Try.prog 72 #[.agg (mixA (Value.int .u16) [.int .i8 a0_0, .int .i8 a0_1] a0_2), .slice A1 l1.length c1] w fun e w' => e = .returned (.int .i64 r) ∧ Below w.heap.size w w' := by
 have hu34 := Try.underlying34
 have HR1 := Aside0.mk hr1
 have HC1 := Aside0.mk hc1
 clear hr1 hc1
 have HB := Aside0.mk (Below.refl w.heap.size w)
 have H : ((impl_Spot_89__92.f k l1 a0_0 a0_1 a0_2).bind fun t261 => ((impl_unless.f (!t261) 4).bind fun t262 => (some t262))) = some r := h
 clear h
 obtain ⟨t261, A3, H⟩ := obn H
 obtain ⟨t262, A4, H⟩ := obn H
 obtain rfl := Option.some.inj H
 go_enter Try.func72, Try.ntmps72
 go_wp2_with (first | ((with_reducible refine gate_dst (N := 2) rfl ?_); refine box_event ?hg (N := 2) ?hd (cs := (mixA (Value.int .u16) [.int .i8 a0_0, .int .i8 a0_1] a0_2)) (t := 34) ?hr ?_; (case hd => rfl); (case hg => rfl); (case hr => first | (go_simp; done) | (go_simp; rfl)); intro gb260 hg w5 hbox hb; have n0_ := bst HB hb; have n1_ := Aside0.mk (hbox); have n2_ := gwl HB hg; have n3_ := gwl HB hg; clear HB; have HB := n0_; have BK260 := n1_; have GW260 := n2_; have GE260 := n3_; clear n0_ n1_ n2_ n3_; clear hb hbox hg) | ((with_reducible refine gate_callee (f := 89) rfl ?_); refine gl (some 7) Try.func89 #[.slice A1 l1.length c1, .func (.func 92) #[] #[.pointer (some ⟨gb260, 0, none⟩)]] ?_; (with_reducible refine (impl_Spot_89__92.calls k _ _ l1 gb260 a0_0 a0_1 a0_2 t261 _ ?side1 ?side2 ?side3 A3.out).mono ?_); (case side1 => exact (pk BK260)); (case side2 => repeat (first | exact (Kd.C_below HR1.out HB.out) | (with_reducible refine Kd.C_alloc ?_ _) | (with_reducible refine Kd.C_drewN ?_ _) | (with_reducible refine Kd.C_drew ?_))); (case side3 => exact HC1.out); rintro e w6 ⟨rfl, hb⟩; refine ⟨_, rfl, ?_⟩; replace BK260 := bkb BK260 hb; replace HB := bst HB hb; (try clear hb); (try clear hb2); (try clear hk); (try clear hi)) | ((with_reducible refine gate_callee (f := 53) rfl ?_); refine gl (some 9) Try.func53 #[.bool (!t261), .int .i64 4] ?_; (with_reducible refine (impl_unless.calls (!t261) 4 t262 _ A4.out).mono ?_); rintro e w' ⟨rfl, ⟨nd, rfl⟩⟩; refine ⟨_, rfl, ?_⟩))
 go_ret
 exact ⟨by first | rfl | (simp [errW_none, errW_some] <;> rfl) | (simp [*, errW_none, errW_some] <;> rfl), pbs HB⟩
def impl_searchCode.f (k : Nat) (a0_0 : Int) (a0_1 : Int) (a0_2 : LA 10) (a1_0 : Int) (a1_1 : Int) (l2 : List (S36)) : Option (Int) := (some (([(⟨a1_0, a1_1⟩ : S36)] : List (S36)) : List (S36))).bind fun y265 => (if y265.length + l2.length < 70368744177664 then ((some (y265 ++ l2 : List (S36))).bind fun y268 => ((impl_cellCode.f k a0_0 a0_1 a0_2 y268).bind fun t271 => ((impl_stateCode.f k a0_0 a0_1 a0_2 y268).bind fun t272 => ((impl_unless.f (decide ((l2.length : Int) ≤ 7)) 3).bind fun t273 => ((impl_firstOf.f k (([t271, t272, t273] : List Int))).bind fun t277 => (some t277)))))) else (none))
theorem impl_searchCode.mono : ∀ a0 a1 a2 a3 a4 a5 k, LeO (impl_searchCode.f k a0 a1 a2 a3 a4 a5) (impl_searchCode.f (k + 1) a0 a1 a2 a3 a4 a5) := by
 intro a0 a1 a2 a3 a4 a5 k
 unfold impl_searchCode.f
 repeat' first
   | (with_reducible exact impl_cellCode.mono _ _ _ _ _)
   | (with_reducible exact impl_firstOf.mono _ _)
   | (with_reducible exact impl_stateCode.mono _ _ _ _ _)
   | (with_reducible exact LeO.refl _)
   | (with_reducible exact LeO.none _)
   | (with_reducible refine LeO.ite ?_ ?_)
   | (with_reducible refine LeO.bind ?_ (fun _ => ?_))
   | exact impl_cellCode.mono _ _ _ _ _
   | exact impl_firstOf.mono _ _
   | exact impl_stateCode.mono _ _ _ _ _
   | exact LeO.none _
   | refine LeO.ite ?_ ?_
   | refine LeO.bind ?_ (fun _ => ?_)
def impl_searchCode.T2 : Bool × List (List Nat × List Nat) := (true, [([], []), ([], []), ([0, 1], [0, 1]), ([], []), ([], []), ([3, 4, 2], [3, 4]), ([], []), ([6], [6]), ([7], [7]), ([8, 5], [8]), ([2, 5, 9], [2, 5, 9]), ([10, 9], [10]), ([11, 11, 0, 1, 2, 3, 4, 5, 6, 7, 8, 9, 10, 11], [11])])
def impl_searchCode.B2 : List Nat := [0, 0, 3, 0, 0, 31, 0, 64, 192, 511, 1023, 2047, 4095]
theorem impl_searchCode.tab2 : rtab .any (opsOf Try.f41 2) = impl_searchCode.T2 := by kernel_rfl
theorem impl_searchCode.bits2 : waitsOk impl_searchCode.T2.2 impl_searchCode.B2 = true := by kernel_rfl
set_option maxHeartbeats 8000000 in
set_option maxRecDepth 100000 in
theorem impl_searchCode.calls (k : Nat) (a0_0 : Int) (a0_1 : Int) (a0_2 : LA 10) (a1_0 : Int) (a1_1 : Int) (A2 : Option Addr) (c2 : Nat) (l2 : List (S36)) (r : Int) (w : World) (hr2 : Kd.C k36 w A2 l2.length l2) (hc2 : l2.length ≤ c2) (h : impl_searchCode.f k a0_0 a0_1 a0_2 a1_0 a1_1 l2 = some r) :
  Calls Try.prog 41 #[.agg (mixA (Value.int .u16) [.int .i8 a0_0, .int .i8 a0_1] a0_2), .agg #[.int .i8 a1_0, .int .i8 a1_1], .slice A2 l2.length c2] w fun e w' => e = .returned (.int .i64 r) ∧ Below w.heap.size w w' := by
 have hu34 := Try.underlying34
 have hu36 := Try.underlying36
 have HR2 := Aside0.mk hr2
 have HC2 := Aside0.mk hc2
 clear hr2 hc2
 have HB := Aside0.mk (Below.refl w.heap.size w)
 have H : ((some (([(⟨a1_0, a1_1⟩ : S36)] : List (S36)) : List (S36))).bind fun y265 => (if y265.length + l2.length < 70368744177664 then ((some (y265 ++ l2 : List (S36))).bind fun y268 => ((impl_cellCode.f k a0_0 a0_1 a0_2 y268).bind fun t271 => ((impl_stateCode.f k a0_0 a0_1 a0_2 y268).bind fun t272 => ((impl_unless.f (decide ((l2.length : Int) ≤ 7)) 3).bind fun t273 => ((impl_firstOf.f k (([t271, t272, t273] : List Int))).bind fun t277 => (some t277)))))) else (none))) = some r := h
 clear h
 obtain ⟨y265, hy265⟩ : ∃ y_ : List (S36), y_ = (([(⟨a1_0, a1_1⟩ : S36)] : List (S36))) := ⟨_, rfl⟩
 replace H : (if y265.length + l2.length < 70368744177664 then ((some (y265 ++ l2 : List (S36))).bind fun y268 => ((impl_cellCode.f k a0_0 a0_1 a0_2 y268).bind fun t271 => ((impl_stateCode.f k a0_0 a0_1 a0_2 y268).bind fun t272 => ((impl_unless.f (decide ((l2.length : Int) ≤ 7)) 3).bind fun t273 => ((impl_firstOf.f k (([t271, t272, t273] : List Int))).bind fun t277 => (some t277)))))) else (none)) = some r := by first | (rw [hy265]; with_reducible exact H) | (have H2_ := (Option.bind_some _ _).symm.trans H; rw [hy265]; with_reducible exact H2_) | (have H2_ := (Option.bind_some _ _).symm.trans H; with_reducible exact H2_) | with_reducible exact H | (rw [hy265]; exact H) | exact H
 have Ny265 := Aside0.mk hy265
 clear hy265
 by_cases c4 : y265.length + l2.length < 70368744177664
 ·rw [if_pos c4] at H
  have LMc4 := Aside0.mk c4; clear c4; obtain ⟨y268, hy268⟩ : ∃ y_ : List (S36), y_ = (y265 ++ l2) := ⟨_, rfl⟩
  replace H : ((impl_cellCode.f k a0_0 a0_1 a0_2 y268).bind fun t271 => ((impl_stateCode.f k a0_0 a0_1 a0_2 y268).bind fun t272 => ((impl_unless.f (decide ((l2.length : Int) ≤ 7)) 3).bind fun t273 => ((impl_firstOf.f k (([t271, t272, t273] : List Int))).bind fun t277 => (some t277))))) = some r := by first | (rw [hy268]; with_reducible exact H) | (have H2_ := (Option.bind_some _ _).symm.trans H; rw [hy268]; with_reducible exact H2_) | (have H2_ := (Option.bind_some _ _).symm.trans H; with_reducible exact H2_) | with_reducible exact H | (rw [hy268]; exact H) | exact H
  have Ny268 := Aside0.mk hy268; clear hy268; obtain ⟨t271, A5, H⟩ := obn H; obtain ⟨t272, A6, H⟩ := obn H; obtain ⟨t273, A7, H⟩ := obn H; obtain ⟨y274, hy274⟩ : ∃ y_ : List Int, y_ = (([t271, t272, t273] : List Int)) := ⟨_, rfl⟩
  replace H : ((impl_firstOf.f k y274).bind fun t277 => (some t277)) = some r := by first | (rw [hy274]; with_reducible exact H) | (have H2_ := (Option.bind_some _ _).symm.trans H; rw [hy274]; with_reducible exact H2_) | (have H2_ := (Option.bind_some _ _).symm.trans H; with_reducible exact H2_) | with_reducible exact H | (rw [hy274]; exact H) | exact H
  have Ny274 := Aside0.mk hy274; clear hy274; obtain ⟨t277, A8, H⟩ := obn H; obtain rfl := Option.some.inj H
  go_enter Try.func41, Try.ntmps41
  try go_wp2_with (first | ((with_reducible refine gate_dst (N := 3) rfl ?_); refine box_event ?hg (N := 3) ?hd (cs := (mixA (Value.int .u16) [.int .i8 a0_0, .int .i8 a0_1] a0_2)) (t := 34) ?hr ?_; (case hd => rfl); (case hg => rfl); (case hr => first | (go_simp; done) | (go_simp; rfl)); intro gb263 hg w9 hbox hb; have n0_ := bst HB hb; have n1_ := Aside0.mk (hbox); have n2_ := gwl HB hg; have n3_ := gwl HB hg; clear HB; have HB := n0_; have BK263 := n1_; have GW263 := n2_; have GE263 := n3_; clear n0_ n1_ n2_ n3_; clear hb hbox hg) | ((with_reducible refine gate_dst (N := 4) rfl ?_); refine box_event ?hg (N := 4) ?hd (cs := #[.int .i8 a1_0, .int .i8 a1_1]) (t := 36) ?hr ?_; (case hd => rfl); (case hg => rfl); (case hr => first | (go_simp; done) | (go_simp; rfl)); intro gb264 hg w10 hbox hb; have n0_ := bkb BK263 hb; have n1_ := bst HB hb; have n2_ := Aside0.mk (hbox); have n3_ := gwl HB hg; have n4_ := gwl HB hg; have n5_ := nbl BK263 hg; have n6_ := nbg BK263 hg; clear BK263; clear HB; have BK263 := n0_; have HB := n1_; have BK264 := n2_; have GW264 := n3_; have GE264 := n4_; have NB263_264 := n5_; have NB264_263 := n6_; clear n0_ n1_ n2_ n3_ n4_ n5_ n6_; clear hb hbox hg; have hnb11 := NB264_263.out; have hnc11 := NB263_264.out; have hcz12_0 : w10.cell? ⟨gb264, 0, none⟩ = some (.int .i8 a1_0) := (blk_cell BK264.out 0).trans rfl; have hcz12_1 : w10.cell? ⟨gb264, 1, none⟩ = some (.int .i8 a1_1) := (blk_cell BK264.out 1).trans rfl; have hfz12_0 := blk_frozen BK264.out 0; have hfz12_1 := blk_frozen BK264.out 1) | ((with_reducible refine gate_dst (N := 9) rfl ?_); refine Kd.R_lit k36 _ 36 ?hg (N := 9) ?hd (xs := ([(⟨a1_0, a1_1⟩ : S36)] : List (S36))) (inner := [.int .i8 a1_0, .int .i8 a1_1]) (ok := fun _ => True) (okp := fun _ => True) ?hr ?hp (fun _ hk => hk) trivial (Below.refl _ _) (Nat.le_refl _) (by simp) ?_; (case hd => rfl); (case hg => rfl); (case hr => first | (go_simp; done) | (go_simp; rfl)); (case hp => exact (Reps.c2 (show Kd.M k36 _ _ _ (⟨a1_0, a1_1⟩ : S36) [.int .i8 a1_0, .int .i8 a1_1] from (k36_mkM _ _ _ (⟨a1_0, a1_1⟩ : S36) )) (Reps.none _ _))); intro v266 w13 ho14 hb hg_ hnew_; clear hg_ hnew_; (first | rw [← Ny265.out] at ho14 | (simp only [Int.reduceToNat] at ho14; rw [← Ny265.out] at ho14)); have HO267 := Aside0.mk (Kd.R_lower (Kd.R_newB ho14 (g := gb264) (o := .cells #[.int .i8 a1_0, .int .i8 a1_1] 36 (0, 0)) (pk BK264)) (below_size (by repeat (first | (with_reducible first | exact HB.out | apply below_alloc | apply pw_below_drewN | apply below_drew1 | refine below_set ?_ GE263.out | refine below_set ?_ GE264.out) | exact HB.out)))); replace BK263 := bkb BK263 hb; replace BK264 := bkb BK264 hb; replace HB := bst HB hb; clear hb ho14) | ((with_reducible refine gate_builtin (b := .append) (xs := #[.tmp 9, .tmp 10]) rfl ?_); at_builtin; refine Kd.R_append_rows k36 (w0 := w) w.heap.size rfl (.tmp 9) (.tmp 10) 38 36 (.agg #[(.int .i8 0), (.int .i8 0)]) 2 rfl Try.underlying38 info36 rfl (by decide) (by omega) v266 y265 l2 _ _ _ (fun k_ => k_ ≠ gb264) (fun _ => False) rfl rfl ?aO ?aR (fun _ _ h => h) (fun _ h => h.elim) ?aF ?aB ?aS ?aL ?_; (case aR => repeat (first | exact (Kd.C_below HR2.out HB.out) | (with_reducible refine Kd.C_alloc ?_ _) | (with_reducible refine Kd.C_drewN ?_ _) | (with_reducible refine Kd.C_drew ?_))); (case aB => exact (pbs HB)); (case aF => exact (fun k_ hk => Kd.freshB (g := gb264) (o := .cells #[.int .i8 a1_0, .int .i8 a1_1] 36 (0, 0)) (pk BK264) k_ hk)); (case aO => exact (by (with_reducible repeat (first | apply Kd.R_alloc | apply Kd.R_drewN | apply Kd.R_drew)); exact Kd.R_mono HO267.out (fun _ hk => hk.2))); (case aS => exact (below_size (by repeat (first | (with_reducible first | exact HB.out | apply below_alloc | apply pw_below_drewN | apply below_drew1 | refine below_set ?_ GE263.out | refine below_set ?_ GE264.out) | exact HB.out)))); (case aL => have := LMc4.out; omega); intro v269 w15 ho hb hg hat; rw [← Ny268.out] at ho; have n0_ := Aside0.mk (blk_grown (g := gb263) (o := .cells (mixA (Value.int .u16) [.int .i8 a0_0, .int .i8 a0_1] a0_2) 34 (0, 0)) (pk BK263) hg (Kd.R_ne HO267.out BK263.out (by decide))); have n1_ := Aside0.mk (blk_grown (g := gb264) (o := .cells #[.int .i8 a1_0, .int .i8 a1_1] 36 (0, 0)) (pk BK264) hg (Kd.R_away HO267.out (fun _ hk => hk.2))); have n2_ := Aside0.mk (hb); have n3_ := Aside0.mk (ho); clear BK263; clear BK264; clear HB; clear HO267; have BK263 := n0_; have BK264 := n1_; have HB := n2_; have HO270 := n3_; clear n0_ n1_ n2_ n3_; clear ho hb hg hat))
  replace HO270 := Aside0.mk (Kd.R_drew HO270.out); replace BK263 := Aside0.mk (blk_drew BK263.out); replace BK264 := Aside0.mk (blk_drew BK264.out); replace HB := Aside0.mk (below_drew1 HB.out); obtain ⟨Ao17, co17, eo17⟩ := Kd.R_slice HO270.out; (first | subst eo17 | (injection eo17 with f1_ f2_ f3_; have f4_ := f1_.symm; have f5_ := f3_.symm; clear f1_ f2_ f3_; subst f4_; subst f5_))
  refine start_ (n := 13) (S := fun w' => World.rangeAt w' gb263 0 ([.int .i8 a0_0, .int .i8 a0_1] ++ a0_2.l.map (Value.int .u16)) ∧ World.rangeAt w' gb263 0 ([.int .i8 a0_0, .int .i8 a0_1] ++ a0_2.l.map (Value.int .u16))) (ds := []) (bA 13 0) (by kernel_rfl) rfl rfl ⟨mix_range BK263.out, mix_range BK263.out⟩ (fun hHeld => ?_); refine with_tabW impl_searchCode.tab2 impl_searchCode.bits2 (fun HT_ HW_ => ?_)
  generalize w15.drew = w16 at HO270 BK263 BK264 HB hHeld ⊢; refine pu 1 13 13 2 HT_ ?_; refine pu 4 16 13 18 HT_ ?_; refine pu 6 18 13 82 HT_ ?_; refine pu 7 19 13 210 HT_ ?_; refine pu 8 20 13 466 HT_ ?_; refine take_ (i := 0) (N := some 12) (v := ?_) (a' := ?_) (bA 13 467) rfl rfl (take_ofW HT_.out HW_.out (by kernel_rfl)) (fun _ _ _ h => h) (Or.inl ⟨by rfl, ?_⟩) hHeld ?_ ?_; rotate_left
  ·rintro w' ⟨s0, s1⟩
   refine load_mix_run (P := Try.prog) 34 (.tmp 3) ?_ gb263 ?_ s0 Try.underlying34 rfl (by kernel_rfl) rfl
   all_goals rfl
  rotate_left
  ·simp only [Act.put, List.setIfInBounds_toArray, List.set_cons_zero, List.set_cons_succ, i64_w, i32_w]
   rfl
  refine take_ (i := 3) (N := some 15) (v := ?_) (a' := ?_) (bA 13 475) rfl rfl (take_ofW HT_.out HW_.out (by kernel_rfl)) (fun _ _ _ h => h) (Or.inl ⟨by rfl, ?_⟩) hHeld ?_ ?_; rotate_left
  ·rintro w' ⟨s0, s1⟩
   refine load_mix_run (P := Try.prog) 34 (.tmp 3) ?_ gb263 ?_ s1 Try.underlying34 rfl (by kernel_rfl) rfl
   all_goals rfl
  rotate_left
  ·simp only [Act.put, List.setIfInBounds_toArray, List.set_cons_zero, List.set_cons_succ, i64_w, i32_w]
   rfl
  refine one_ (i := 2) (N := some 14) (bA 13 479) rfl rfl (one_of HT_.out (by kernel_rfl)) (by decide) (fun K hK => ?_); refine gs Try.func70 #[.agg (mixA (Value.int .u16) [.int .i8 a0_0, .int .i8 a0_1] a0_2), .slice Ao17 y268.length co17] ?_; with_reducible refine (impl_cellCode.calls k a0_0 a0_1 a0_2 _ _ y268 t271 _ ?side1 ?side2 A5.out).mono ?_; (case side1 => repeat (first | exact (Kd.R_reads' HO270.out).2.2 | (with_reducible refine Kd.C_alloc ?_ _) | (with_reducible refine Kd.C_drewN ?_ _) | (with_reducible refine Kd.C_drew ?_))); (case side2 => exact (Kd.R_reads' HO270.out).2.1)
  rintro e w18 ⟨rfl, hb⟩
  refine ⟨_, rfl, ?_⟩; replace HO270 := krb HO270 hb; replace BK263 := bkb BK263 hb; replace BK264 := bkb BK264 hb; replace HB := bst HB hb; (try clear hb); (try clear hb2); (try clear hk); (try clear hi); refine hK.out _ _ ⟨mix_range BK263.out, mix_range BK263.out⟩ (fun hHeld => ?_); clear hK K; refine nm 14 ?_; refine one_ (i := 5) (N := some 17) (bA 13 511) rfl rfl (one_of HT_.out (by kernel_rfl)) (by decide) (fun K hK => ?_); refine gs Try.func72 #[.agg (mixA (Value.int .u16) [.int .i8 a0_0, .int .i8 a0_1] a0_2), .slice Ao17 y268.length co17] ?_; with_reducible refine (impl_stateCode.calls k a0_0 a0_1 a0_2 _ _ y268 t272 _ ?side1 ?side2 A6.out).mono ?_; (case side1 => repeat (first | exact (Kd.R_reads' HO270.out).2.2 | (with_reducible refine Kd.C_alloc ?_ _) | (with_reducible refine Kd.C_drewN ?_ _) | (with_reducible refine Kd.C_drew ?_))); (case side2 => exact (Kd.R_reads' HO270.out).2.1)
  rintro e w19 ⟨rfl, hb⟩
  refine ⟨_, rfl, ?_⟩; replace HO270 := krb HO270 hb; replace BK263 := bkb BK263 hb; replace BK264 := bkb BK264 hb; replace HB := bst HB hb; (try clear hb); (try clear hb2); (try clear hk); (try clear hi); refine hK.out _ _ ⟨mix_range BK263.out, mix_range BK263.out⟩ (fun hHeld => ?_); clear hK K; refine nm 17 ?_; refine one_ (i := 9) (N := some 21) (bA 13 1023) rfl rfl (one_of HT_.out (by kernel_rfl)) (by decide) (fun K hK => ?_); refine gs Try.func53 #[.bool (decide ((l2.length : Int) ≤ 7)), .int .i64 3] ?_; with_reducible refine (impl_unless.calls (decide ((l2.length : Int) ≤ 7)) 3 t273 _ A7.out).mono ?_
  rintro e w' ⟨rfl, ⟨nd, rfl⟩⟩
  refine ⟨_, rfl, ?_⟩; refine hK.out _ _ ⟨mix_range BK263.out, mix_range BK263.out⟩ (fun hHeld => ?_); clear hK K; refine nm 21 ?_; refine one_ (i := 10) (N := some 22) (bA 13 2047) rfl rfl (one_of HT_.out (by kernel_rfl)) (by decide) (fun K hK => ?_)
  refine Kd.R_lit_step (Kd.int .i64) _ 2 ?hg (N := 22) ?hd (xs := ([t271, t272, t273] : List Int)) (inner := [.int .i64 t271, .int .i64 t272, .int .i64 t273]) (ok := fun _ => True) (okp := fun _ => True) ?hr ?hp (fun _ hk => hk) trivial (Below.refl _ _) (Nat.le_refl _) (by simp) ?_; (case hd => rfl); (case hg => rfl); (case hr => first | (go_simp; done) | (go_simp; rfl)); (case hp => exact (Reps.one (show Kd.M (Kd.int .i64) _ _ _ t271 [.int .i64 t271] from rfl) (Reps.one (show Kd.M (Kd.int .i64) _ _ _ t272 [.int .i64 t272] from rfl) (Reps.one (show Kd.M (Kd.int .i64) _ _ _ t273 [.int .i64 t273] from rfl) (Reps.none _ _)))))
  intro v275 w20 ho21 hb hg_ hnew_; clear hg_ hnew_; (first | rw [← Ny274.out] at ho21 | (simp only [Int.reduceToNat] at ho21; rw [← Ny274.out] at ho21)); replace HO270 := krb HO270 hb; have HO276 := Aside0.mk (Kd.R_lower ho21 (below_size (by repeat (first | (with_reducible first | exact HB.out | apply below_alloc | apply pw_below_drewN | apply below_drew1 | refine below_set ?_ GE263.out | refine below_set ?_ GE264.out) | exact HB.out)))); replace BK263 := bkb BK263 hb; replace BK264 := bkb BK264 hb; replace HB := bst HB hb; clear hb ho21; obtain ⟨Ao22, co22, eo22⟩ := Kd.R_slice HO276.out; (first | subst eo22 | (injection eo22 with f1_ f2_ f3_; have f4_ := f1_.symm; have f5_ := f3_.symm; clear f1_ f2_ f3_; subst f4_; subst f5_)); refine hK.out _ _ ⟨mix_range BK263.out, mix_range BK263.out⟩ (fun hHeld => ?_); clear hK K; refine nm 22 ?_; refine one_ (i := 11) (N := some 23) (bA 13 4095) rfl rfl (one_of HT_.out (by kernel_rfl)) (by decide) (fun K hK => ?_); refine gs Try.func52 #[.slice Ao22 y274.length co22] ?_; with_reducible refine (impl_firstOf.calls k _ _ y274 t277 _ ?side1 ?side2 A8.out).mono ?_; (case side1 => repeat (first | exact (Kd.R_reads' HO276.out).2.2 | (with_reducible refine Kd.C_alloc ?_ _) | (with_reducible refine Kd.C_drewN ?_ _) | (with_reducible refine Kd.C_drew ?_))); (case side2 => exact (Kd.R_reads' HO276.out).2.1)
  rintro e w' ⟨rfl, ⟨nd, rfl⟩⟩
  refine ⟨_, rfl, ?_⟩; refine hK.out _ _ ⟨mix_range BK263.out, mix_range BK263.out⟩ (fun hHeld => ?_); clear hK K; refine nm 23 ?_; refine pu 12 6 13 8191 HT_ ?_; refine done_ (done_of HT_.out (by kernel_rfl)) ?_
  try go_wp2
  go_ret
  exact ⟨by first | rfl | (simp [errW_none, errW_some] <;> rfl) | (simp [*, errW_none, errW_some] <;> rfl), pbs HB⟩
 ·rw [if_neg c4] at H
  exact absurd H (by simp)
def impl_NextSpot.f (a0_0 : Int) (a0_1 : Int) (a1 : Int) : Option (Int × Int) := if a1 = 0 then (some (a0_0, IntKind.i8.wrap (a0_1 - 1))) else (if a1 = 1 then (some (IntKind.i8.wrap (a0_0 + 1), a0_1)) else (if a1 = 2 then (some (a0_0, IntKind.i8.wrap (a0_1 + 1))) else (if a1 = 3 then (some (IntKind.i8.wrap (a0_0 - 1), a0_1)) else (some (a0_0, a0_1)))))
set_option maxHeartbeats 8000000 in
set_option maxRecDepth 100000 in
theorem impl_NextSpot.calls (a0_0 : Int) (a0_1 : Int) (a1 : Int) (r1 : Int) (r2 : Int) (w : World) (h : impl_NextSpot.f a0_0 a0_1 a1 = some (r1, r2)) :
  Calls Try.prog 100 #[.agg #[.int .i8 a0_0, .int .i8 a0_1], .int .i64 a1] w fun e w' => e = .returned (.agg #[.int .i8 r1, .int .i8 r2]) ∧ Below w.heap.size w w' := by
 have hu36 := Try.underlying36
 have HB := Aside0.mk (Below.refl w.heap.size w)
 have H : (if a1 = 0 then (some (a0_0, IntKind.i8.wrap (a0_1 - 1))) else (if a1 = 1 then (some (IntKind.i8.wrap (a0_0 + 1), a0_1)) else (if a1 = 2 then (some (a0_0, IntKind.i8.wrap (a0_1 + 1))) else (if a1 = 3 then (some (IntKind.i8.wrap (a0_0 - 1), a0_1)) else (some (a0_0, a0_1)))))) = some (r1, r2) := h
 clear h
 by_cases c3 : a1 = 0
 ·rw [if_pos c3] at H
  have c3b0 : (a1 == 0) = true := beq_iff_eq.mpr c3; have c3b1 : (a1 != 0) = false := bne_eq_false_iff_eq.mpr c3; clear c3; simp only [Option.some.injEq, Prod.mk.injEq] at H; obtain ⟨rfl, rfl⟩ := H
  go_enter Try.func100, Try.ntmps100
  go_wp2_with (first | ((with_reducible refine gate_dst (N := 2) rfl ?_); refine box_event ?hg (N := 2) ?hd (cs := #[.int .i8 a0_0, .int .i8 a0_1]) (t := 36) ?hr ?_; (case hd => rfl); (case hg => rfl); (case hr => first | (go_simp; done) | (go_simp; rfl)); intro gb278 hg w4 hbox hb; have n0_ := bst HB hb; have n1_ := Aside0.mk (hbox); have n2_ := gwl HB hg; have n3_ := gwl HB hg; clear HB; have HB := n0_; have BK278 := n1_; have GW278 := n2_; have GE278 := n3_; clear n0_ n1_ n2_ n3_; clear hb hbox hg) | ((with_reducible refine gate_dst (N := 4) rfl ?_); refine box_event ?hg (N := 4) ?hd (cs := #[.int .i8 0, .int .i8 0]) (t := 36) ?hr ?_; (case hd => rfl); (case hg => rfl); (case hr => first | (go_simp; done) | (go_simp; rfl)); intro gb279 hg w5 hbox hb; have n0_ := bkb BK278 hb; have n1_ := bst HB hb; have n2_ := Aside0.mk (hbox); have n3_ := gwl HB hg; have n4_ := gwl HB hg; have n5_ := nbl BK278 hg; have n6_ := nbg BK278 hg; clear BK278; clear HB; have BK278 := n0_; have HB := n1_; have BK279 := n2_; have GW279 := n3_; have GE279 := n4_; have NB278_279 := n5_; have NB279_278 := n6_; clear n0_ n1_ n2_ n3_ n4_ n5_ n6_; clear hb hbox hg; have hnb6 := NB278_279.out; have hnc6 := NB279_278.out; have hcz7_0 : w5.cell? ⟨gb278, 0, none⟩ = some (.int .i8 a0_0) := (blk_cell BK278.out 0).trans rfl; have hcz7_1 : w5.cell? ⟨gb278, 1, none⟩ = some (.int .i8 a0_1) := (blk_cell BK278.out 1).trans rfl; have hfz7_0 := blk_frozen BK278.out 0; have hfz7_1 := blk_frozen BK278.out 1; have hcz8_0 : w5.cell? ⟨gb279, 0, none⟩ = some (.int .i8 0) := (blk_cell BK279.out 0).trans rfl; have hcz8_1 : w5.cell? ⟨gb279, 1, none⟩ = some (.int .i8 0) := (blk_cell BK279.out 1).trans rfl; have hfz8_0 := blk_frozen BK279.out 0; have hfz8_1 := blk_frozen BK279.out 1))
  refine bodyPost_ret (results_cell_row rfl _ _ gb279 36 #[.int .i8 a0_0, .int .i8 (IntKind.i8.wrap (a0_1 - 1))] (0, 0) _ rfl (by (with_reducible repeat (first | refine blk_drewN ?_ _ | refine blk_drew ?_ | refine blk_alloc ?_ _)); refine blk_put (cs := #[.int .i8 a0_0, .int .i8 0]) ?_ 1 _ rfl; (with_reducible repeat (first | refine blk_drewN ?_ _ | refine blk_drew ?_ | refine blk_alloc ?_ _)); refine blk_put (cs := #[.int .i8 0, .int .i8 0]) ?_ 0 _ rfl; (with_reducible repeat (first | refine blk_drewN ?_ _ | refine blk_drew ?_ | refine blk_alloc ?_ _)); refine blk_far ?_ NB279_278.out _; (with_reducible repeat (first | refine blk_drewN ?_ _ | refine blk_drew ?_ | refine blk_alloc ?_ _)); exact BK279.out) Try.underlying36 rfl (by kernel_rfl)) rfl ?_; exact ⟨by first | rfl | (simp [errW_none, errW_some] <;> rfl) | (simp [*, errW_none, errW_some] <;> rfl), pbs HB⟩
 ·rw [if_neg c3] at H
  have c3b0 : (a1 == 0) = false := beq_eq_false_iff_ne.mpr c3; have c3b1 : (a1 != 0) = true := bne_iff_ne.mpr c3
  by_cases c9 : a1 = 1
  ·rw [if_pos c9] at H
   have c9b0 : (a1 == 1) = true := beq_iff_eq.mpr c9; have c9b1 : (a1 != 1) = false := bne_eq_false_iff_eq.mpr c9; clear c9; simp only [Option.some.injEq, Prod.mk.injEq] at H; obtain ⟨rfl, rfl⟩ := H
   go_enter Try.func100, Try.ntmps100
   go_wp2_with (first | ((with_reducible refine gate_dst (N := 2) rfl ?_); refine box_event ?hg (N := 2) ?hd (cs := #[.int .i8 a0_0, .int .i8 a0_1]) (t := 36) ?hr ?_; (case hd => rfl); (case hg => rfl); (case hr => first | (go_simp; done) | (go_simp; rfl)); intro gb278 hg w10 hbox hb; have n0_ := bst HB hb; have n1_ := Aside0.mk (hbox); have n2_ := gwl HB hg; have n3_ := gwl HB hg; clear HB; have HB := n0_; have BK278 := n1_; have GW278 := n2_; have GE278 := n3_; clear n0_ n1_ n2_ n3_; clear hb hbox hg) | ((with_reducible refine gate_dst (N := 4) rfl ?_); refine box_event ?hg (N := 4) ?hd (cs := #[.int .i8 0, .int .i8 0]) (t := 36) ?hr ?_; (case hd => rfl); (case hg => rfl); (case hr => first | (go_simp; done) | (go_simp; rfl)); intro gb279 hg w11 hbox hb; have n0_ := bkb BK278 hb; have n1_ := bst HB hb; have n2_ := Aside0.mk (hbox); have n3_ := gwl HB hg; have n4_ := gwl HB hg; have n5_ := nbl BK278 hg; have n6_ := nbg BK278 hg; clear BK278; clear HB; have BK278 := n0_; have HB := n1_; have BK279 := n2_; have GW279 := n3_; have GE279 := n4_; have NB278_279 := n5_; have NB279_278 := n6_; clear n0_ n1_ n2_ n3_ n4_ n5_ n6_; clear hb hbox hg; have hnb12 := NB278_279.out; have hnc12 := NB279_278.out; have hcz13_0 : w11.cell? ⟨gb278, 0, none⟩ = some (.int .i8 a0_0) := (blk_cell BK278.out 0).trans rfl; have hcz13_1 : w11.cell? ⟨gb278, 1, none⟩ = some (.int .i8 a0_1) := (blk_cell BK278.out 1).trans rfl; have hfz13_0 := blk_frozen BK278.out 0; have hfz13_1 := blk_frozen BK278.out 1; have hcz14_0 : w11.cell? ⟨gb279, 0, none⟩ = some (.int .i8 0) := (blk_cell BK279.out 0).trans rfl; have hcz14_1 : w11.cell? ⟨gb279, 1, none⟩ = some (.int .i8 0) := (blk_cell BK279.out 1).trans rfl; have hfz14_0 := blk_frozen BK279.out 0; have hfz14_1 := blk_frozen BK279.out 1))
   refine bodyPost_ret (results_cell_row rfl _ _ gb279 36 #[.int .i8 (IntKind.i8.wrap (a0_0 + 1)), .int .i8 a0_1] (0, 0) _ rfl (by (with_reducible repeat (first | refine blk_drewN ?_ _ | refine blk_drew ?_ | refine blk_alloc ?_ _)); refine blk_put (cs := #[.int .i8 (IntKind.i8.wrap (a0_0 + 1)), .int .i8 0]) ?_ 1 _ rfl; (with_reducible repeat (first | refine blk_drewN ?_ _ | refine blk_drew ?_ | refine blk_alloc ?_ _)); refine blk_put (cs := #[.int .i8 0, .int .i8 0]) ?_ 0 _ rfl; (with_reducible repeat (first | refine blk_drewN ?_ _ | refine blk_drew ?_ | refine blk_alloc ?_ _)); refine blk_far ?_ NB279_278.out _; (with_reducible repeat (first | refine blk_drewN ?_ _ | refine blk_drew ?_ | refine blk_alloc ?_ _)); exact BK279.out) Try.underlying36 rfl (by kernel_rfl)) rfl ?_; exact ⟨by first | rfl | (simp [errW_none, errW_some] <;> rfl) | (simp [*, errW_none, errW_some] <;> rfl), pbs HB⟩
  ·rw [if_neg c9] at H
   have c9b0 : (a1 == 1) = false := beq_eq_false_iff_ne.mpr c9; have c9b1 : (a1 != 1) = true := bne_iff_ne.mpr c9
   by_cases c15 : a1 = 2
   ·rw [if_pos c15] at H
    have c15b0 : (a1 == 2) = true := beq_iff_eq.mpr c15; have c15b1 : (a1 != 2) = false := bne_eq_false_iff_eq.mpr c15; clear c15; simp only [Option.some.injEq, Prod.mk.injEq] at H; obtain ⟨rfl, rfl⟩ := H
    go_enter Try.func100, Try.ntmps100
    go_wp2_with (first | ((with_reducible refine gate_dst (N := 2) rfl ?_); refine box_event ?hg (N := 2) ?hd (cs := #[.int .i8 a0_0, .int .i8 a0_1]) (t := 36) ?hr ?_; (case hd => rfl); (case hg => rfl); (case hr => first | (go_simp; done) | (go_simp; rfl)); intro gb278 hg w16 hbox hb; have n0_ := bst HB hb; have n1_ := Aside0.mk (hbox); have n2_ := gwl HB hg; have n3_ := gwl HB hg; clear HB; have HB := n0_; have BK278 := n1_; have GW278 := n2_; have GE278 := n3_; clear n0_ n1_ n2_ n3_; clear hb hbox hg) | ((with_reducible refine gate_dst (N := 4) rfl ?_); refine box_event ?hg (N := 4) ?hd (cs := #[.int .i8 0, .int .i8 0]) (t := 36) ?hr ?_; (case hd => rfl); (case hg => rfl); (case hr => first | (go_simp; done) | (go_simp; rfl)); intro gb279 hg w17 hbox hb; have n0_ := bkb BK278 hb; have n1_ := bst HB hb; have n2_ := Aside0.mk (hbox); have n3_ := gwl HB hg; have n4_ := gwl HB hg; have n5_ := nbl BK278 hg; have n6_ := nbg BK278 hg; clear BK278; clear HB; have BK278 := n0_; have HB := n1_; have BK279 := n2_; have GW279 := n3_; have GE279 := n4_; have NB278_279 := n5_; have NB279_278 := n6_; clear n0_ n1_ n2_ n3_ n4_ n5_ n6_; clear hb hbox hg; have hnb18 := NB278_279.out; have hnc18 := NB279_278.out; have hcz19_0 : w17.cell? ⟨gb278, 0, none⟩ = some (.int .i8 a0_0) := (blk_cell BK278.out 0).trans rfl; have hcz19_1 : w17.cell? ⟨gb278, 1, none⟩ = some (.int .i8 a0_1) := (blk_cell BK278.out 1).trans rfl; have hfz19_0 := blk_frozen BK278.out 0; have hfz19_1 := blk_frozen BK278.out 1; have hcz20_0 : w17.cell? ⟨gb279, 0, none⟩ = some (.int .i8 0) := (blk_cell BK279.out 0).trans rfl; have hcz20_1 : w17.cell? ⟨gb279, 1, none⟩ = some (.int .i8 0) := (blk_cell BK279.out 1).trans rfl; have hfz20_0 := blk_frozen BK279.out 0; have hfz20_1 := blk_frozen BK279.out 1))
    refine bodyPost_ret (results_cell_row rfl _ _ gb279 36 #[.int .i8 a0_0, .int .i8 (IntKind.i8.wrap (a0_1 + 1))] (0, 0) _ rfl (by (with_reducible repeat (first | refine blk_drewN ?_ _ | refine blk_drew ?_ | refine blk_alloc ?_ _)); refine blk_put (cs := #[.int .i8 a0_0, .int .i8 0]) ?_ 1 _ rfl; (with_reducible repeat (first | refine blk_drewN ?_ _ | refine blk_drew ?_ | refine blk_alloc ?_ _)); refine blk_put (cs := #[.int .i8 0, .int .i8 0]) ?_ 0 _ rfl; (with_reducible repeat (first | refine blk_drewN ?_ _ | refine blk_drew ?_ | refine blk_alloc ?_ _)); refine blk_far ?_ NB279_278.out _; (with_reducible repeat (first | refine blk_drewN ?_ _ | refine blk_drew ?_ | refine blk_alloc ?_ _)); exact BK279.out) Try.underlying36 rfl (by kernel_rfl)) rfl ?_; exact ⟨by first | rfl | (simp [errW_none, errW_some] <;> rfl) | (simp [*, errW_none, errW_some] <;> rfl), pbs HB⟩
   ·rw [if_neg c15] at H
    have c15b0 : (a1 == 2) = false := beq_eq_false_iff_ne.mpr c15; have c15b1 : (a1 != 2) = true := bne_iff_ne.mpr c15
    by_cases c21 : a1 = 3
    ·rw [if_pos c21] at H
     have c21b0 : (a1 == 3) = true := beq_iff_eq.mpr c21; have c21b1 : (a1 != 3) = false := bne_eq_false_iff_eq.mpr c21; clear c21; simp only [Option.some.injEq, Prod.mk.injEq] at H; obtain ⟨rfl, rfl⟩ := H
     go_enter Try.func100, Try.ntmps100
     go_wp2_with (first | ((with_reducible refine gate_dst (N := 2) rfl ?_); refine box_event ?hg (N := 2) ?hd (cs := #[.int .i8 a0_0, .int .i8 a0_1]) (t := 36) ?hr ?_; (case hd => rfl); (case hg => rfl); (case hr => first | (go_simp; done) | (go_simp; rfl)); intro gb278 hg w22 hbox hb; have n0_ := bst HB hb; have n1_ := Aside0.mk (hbox); have n2_ := gwl HB hg; have n3_ := gwl HB hg; clear HB; have HB := n0_; have BK278 := n1_; have GW278 := n2_; have GE278 := n3_; clear n0_ n1_ n2_ n3_; clear hb hbox hg) | ((with_reducible refine gate_dst (N := 4) rfl ?_); refine box_event ?hg (N := 4) ?hd (cs := #[.int .i8 0, .int .i8 0]) (t := 36) ?hr ?_; (case hd => rfl); (case hg => rfl); (case hr => first | (go_simp; done) | (go_simp; rfl)); intro gb279 hg w23 hbox hb; have n0_ := bkb BK278 hb; have n1_ := bst HB hb; have n2_ := Aside0.mk (hbox); have n3_ := gwl HB hg; have n4_ := gwl HB hg; have n5_ := nbl BK278 hg; have n6_ := nbg BK278 hg; clear BK278; clear HB; have BK278 := n0_; have HB := n1_; have BK279 := n2_; have GW279 := n3_; have GE279 := n4_; have NB278_279 := n5_; have NB279_278 := n6_; clear n0_ n1_ n2_ n3_ n4_ n5_ n6_; clear hb hbox hg; have hnb24 := NB278_279.out; have hnc24 := NB279_278.out; have hcz25_0 : w23.cell? ⟨gb278, 0, none⟩ = some (.int .i8 a0_0) := (blk_cell BK278.out 0).trans rfl; have hcz25_1 : w23.cell? ⟨gb278, 1, none⟩ = some (.int .i8 a0_1) := (blk_cell BK278.out 1).trans rfl; have hfz25_0 := blk_frozen BK278.out 0; have hfz25_1 := blk_frozen BK278.out 1; have hcz26_0 : w23.cell? ⟨gb279, 0, none⟩ = some (.int .i8 0) := (blk_cell BK279.out 0).trans rfl; have hcz26_1 : w23.cell? ⟨gb279, 1, none⟩ = some (.int .i8 0) := (blk_cell BK279.out 1).trans rfl; have hfz26_0 := blk_frozen BK279.out 0; have hfz26_1 := blk_frozen BK279.out 1))
     refine bodyPost_ret (results_cell_row rfl _ _ gb279 36 #[.int .i8 (IntKind.i8.wrap (a0_0 - 1)), .int .i8 a0_1] (0, 0) _ rfl (by (with_reducible repeat (first | refine blk_drewN ?_ _ | refine blk_drew ?_ | refine blk_alloc ?_ _)); refine blk_put (cs := #[.int .i8 (IntKind.i8.wrap (a0_0 - 1)), .int .i8 0]) ?_ 1 _ rfl; (with_reducible repeat (first | refine blk_drewN ?_ _ | refine blk_drew ?_ | refine blk_alloc ?_ _)); refine blk_put (cs := #[.int .i8 0, .int .i8 0]) ?_ 0 _ rfl; (with_reducible repeat (first | refine blk_drewN ?_ _ | refine blk_drew ?_ | refine blk_alloc ?_ _)); refine blk_far ?_ NB279_278.out _; (with_reducible repeat (first | refine blk_drewN ?_ _ | refine blk_drew ?_ | refine blk_alloc ?_ _)); exact BK279.out) Try.underlying36 rfl (by kernel_rfl)) rfl ?_; exact ⟨by first | rfl | (simp [errW_none, errW_some] <;> rfl) | (simp [*, errW_none, errW_some] <;> rfl), pbs HB⟩
    ·rw [if_neg c21] at H
     have c21b0 : (a1 == 3) = false := beq_eq_false_iff_ne.mpr c21; have c21b1 : (a1 != 3) = true := bne_iff_ne.mpr c21; simp only [Option.some.injEq, Prod.mk.injEq] at H; obtain ⟨rfl, rfl⟩ := H
     go_enter Try.func100, Try.ntmps100
     go_wp2_with (first | ((with_reducible refine gate_dst (N := 2) rfl ?_); refine box_event ?hg (N := 2) ?hd (cs := #[.int .i8 a0_0, .int .i8 a0_1]) (t := 36) ?hr ?_; (case hd => rfl); (case hg => rfl); (case hr => first | (go_simp; done) | (go_simp; rfl)); intro gb278 hg w27 hbox hb; have n0_ := bst HB hb; have n1_ := Aside0.mk (hbox); have n2_ := gwl HB hg; have n3_ := gwl HB hg; clear HB; have HB := n0_; have BK278 := n1_; have GW278 := n2_; have GE278 := n3_; clear n0_ n1_ n2_ n3_; clear hb hbox hg) | ((with_reducible refine gate_dst (N := 4) rfl ?_); refine box_event ?hg (N := 4) ?hd (cs := #[.int .i8 0, .int .i8 0]) (t := 36) ?hr ?_; (case hd => rfl); (case hg => rfl); (case hr => first | (go_simp; done) | (go_simp; rfl)); intro gb279 hg w28 hbox hb; have n0_ := bkb BK278 hb; have n1_ := bst HB hb; have n2_ := Aside0.mk (hbox); have n3_ := gwl HB hg; have n4_ := gwl HB hg; have n5_ := nbl BK278 hg; have n6_ := nbg BK278 hg; clear BK278; clear HB; have BK278 := n0_; have HB := n1_; have BK279 := n2_; have GW279 := n3_; have GE279 := n4_; have NB278_279 := n5_; have NB279_278 := n6_; clear n0_ n1_ n2_ n3_ n4_ n5_ n6_; clear hb hbox hg; have hnb29 := NB278_279.out; have hnc29 := NB279_278.out; have hcz30_0 : w28.cell? ⟨gb278, 0, none⟩ = some (.int .i8 a0_0) := (blk_cell BK278.out 0).trans rfl; have hcz30_1 : w28.cell? ⟨gb278, 1, none⟩ = some (.int .i8 a0_1) := (blk_cell BK278.out 1).trans rfl; have hfz30_0 := blk_frozen BK278.out 0; have hfz30_1 := blk_frozen BK278.out 1; have hcz31_0 : w28.cell? ⟨gb279, 0, none⟩ = some (.int .i8 0) := (blk_cell BK279.out 0).trans rfl; have hcz31_1 : w28.cell? ⟨gb279, 1, none⟩ = some (.int .i8 0) := (blk_cell BK279.out 1).trans rfl; have hfz31_0 := blk_frozen BK279.out 0; have hfz31_1 := blk_frozen BK279.out 1))
     refine bodyPost_ret (results_cell_row rfl _ _ gb279 36 #[.int .i8 a0_0, .int .i8 a0_1] (0, 0) _ rfl (by (with_reducible repeat (first | refine blk_drewN ?_ _ | refine blk_drew ?_ | refine blk_alloc ?_ _)); refine blk_put (cs := #[.int .i8 a0_0, .int .i8 0]) ?_ 1 _ rfl; (with_reducible repeat (first | refine blk_drewN ?_ _ | refine blk_drew ?_ | refine blk_alloc ?_ _)); refine blk_put (cs := #[.int .i8 0, .int .i8 0]) ?_ 0 _ rfl; (with_reducible repeat (first | refine blk_drewN ?_ _ | refine blk_drew ?_ | refine blk_alloc ?_ _)); exact BK279.out) Try.underlying36 rfl (by kernel_rfl)) rfl ?_; exact ⟨by first | rfl | (simp [errW_none, errW_some] <;> rfl) | (simp [*, errW_none, errW_some] <;> rfl), pbs HB⟩
def impl_Room_beside.l0 : Nat → List (S36) → Int → Int → Int → LA 10 → Int → Int → Option ((List (S36)))
 | 0, _, _, _, _, _, _, _ => none
 | k + 1, x5, x9, x281000, x281001, x281002, x282000, x282001 => if x9 < 4 then ((impl_NextSpot.f x282000 x282001 x9).bind fun bt285 => ((impl_Room_isFree.f x281000 x281001 x281002 bt285.1 bt285.2).bind fun t288 => (if t288 = true then (if x5.length < 70368744177664 then (impl_Room_beside.l0 k (x5 ++ [(⟨bt285.1, bt285.2⟩ : S36)]) (wrap64 (x9 + 1)) x281000 x281001 x281002 x282000 x282001) else (none)) else (impl_Room_beside.l0 k x5 (wrap64 (x9 + 1)) x281000 x281001 x281002 x282000 x282001)))) else (some x5)
def impl_Room_beside.f (k : Nat) (a0_0 : Int) (a0_1 : Int) (a0_2 : LA 10) (a1_0 : Int) (a1_1 : Int) : Option ((List (S36))) := impl_Room_beside.l0 k (([] : List (S36))) 0 a0_0 a0_1 a0_2 a1_0 a1_1
theorem impl_Room_beside.mono_l : ∀ k, (∀ y0 y1 y2 y3 y4 y5 y6, LeO (impl_Room_beside.l0 k y0 y1 y2 y3 y4 y5 y6) (impl_Room_beside.l0 (k + 1) y0 y1 y2 y3 y4 y5 y6))
 | 0 => fun _ _ _ _ _ _ _ r h => by simp [impl_Room_beside.l0] at h
 | k + 1 => by
  have ih0 := impl_Room_beside.mono_l k
  ·intro y0 y1 y2 y3 y4 y5 y6
   unfold impl_Room_beside.l0
   repeat' first
   | (with_reducible exact ih0 _ _ _ _ _ _ _)
   | (with_reducible exact LeO.refl _)
   | (with_reducible exact LeO.none _)
   | (with_reducible refine LeO.ite ?_ ?_)
   | (with_reducible refine LeO.bind ?_ (fun _ => ?_))
   | exact ih0 _ _ _ _ _ _ _
   | exact LeO.none _
   | refine LeO.ite ?_ ?_
   | refine LeO.bind ?_ (fun _ => ?_)
theorem impl_Room_beside.mono : ∀ a0 a1 a2 a3 a4 k, LeO (impl_Room_beside.f k a0 a1 a2 a3 a4) (impl_Room_beside.f (k + 1) a0 a1 a2 a3 a4) := by
 intro a0 a1 a2 a3 a4 k
 have ih0 := impl_Room_beside.mono_l k
 unfold impl_Room_beside.f
 repeat' first
   | (with_reducible exact ih0 _ _ _ _ _ _ _)
   | (with_reducible exact LeO.refl _)
   | (with_reducible exact LeO.none _)
   | (with_reducible refine LeO.ite ?_ ?_)
   | (with_reducible refine LeO.bind ?_ (fun _ => ?_))
   | exact ih0 _ _ _ _ _ _ _
   | exact LeO.none _
   | refine LeO.ite ?_ ?_
   | refine LeO.bind ?_ (fun _ => ?_)
set_option maxHeartbeats 8000000 in
set_option maxRecDepth 100000 in
theorem impl_Room_beside.calls (k : Nat) (a0_0 : Int) (a0_1 : Int) (a0_2 : LA 10) (a1_0 : Int) (a1_1 : Int) (r : List (S36)) (w : World) (h : impl_Room_beside.f k a0_0 a0_1 a0_2 a1_0 a1_1 = some r) :
  Calls Try.prog 96 #[.agg (mixA (Value.int .u16) [.int .i8 a0_0, .int .i8 a0_1] a0_2), .agg #[.int .i8 a1_0, .int .i8 a1_1]] w fun e w' => ∃ v0_ : Value, e = .returned (v0_) ∧ Kd.R k36 36 w' w.heap.size (fun _ => True) v0_ r ∧ Below w.heap.size w w' := by
 have hu34 := Try.underlying34
 have hu36 := Try.underlying36
 have HB := Aside0.mk (Below.refl w.heap.size w)
 have H : (impl_Room_beside.l0 k (([] : List (S36))) 0 a0_0 a0_1 a0_2 a1_0 a1_1) = some r := h
 clear h
 obtain ⟨y282, hy282⟩ : ∃ y_ : List (S36), y_ = (([] : List (S36))) := ⟨_, rfl⟩
 replace H : (impl_Room_beside.l0 k y282 0 a0_0 a0_1 a0_2 a1_0 a1_1) = some r := by first | (rw [hy282]; with_reducible exact H) | (have H2_ := (Option.bind_some _ _).symm.trans H; rw [hy282]; with_reducible exact H2_) | (have H2_ := (Option.bind_some _ _).symm.trans H; with_reducible exact H2_) | with_reducible exact H | (rw [hy282]; exact H) | exact H
 have Ny282 := Aside0.mk hy282
 clear hy282
 have H' := Aside0.mk H
 clear H
 go_enter Try.func96, Try.ntmps96
 go_wp2_with (first | ((with_reducible refine gate_dst (N := 2) rfl ?_); refine box_event ?hg (N := 2) ?hd (cs := (mixA (Value.int .u16) [.int .i8 a0_0, .int .i8 a0_1] a0_2)) (t := 34) ?hr ?_; (case hd => rfl); (case hg => rfl); (case hr => first | (go_simp; done) | (go_simp; rfl)); intro gb280 hg w3 hbox hb; have n0_ := bst HB hb; have n1_ := Aside0.mk (hbox); have n2_ := gwl HB hg; have n3_ := gwl HB hg; clear HB; have HB := n0_; have BK280 := n1_; have GW280 := n2_; have GE280 := n3_; clear n0_ n1_ n2_ n3_; clear hb hbox hg) | ((with_reducible refine gate_dst (N := 3) rfl ?_); refine box_event ?hg (N := 3) ?hd (cs := #[.int .i8 a1_0, .int .i8 a1_1]) (t := 36) ?hr ?_; (case hd => rfl); (case hg => rfl); (case hr => first | (go_simp; done) | (go_simp; rfl)); intro gb281 hg w4 hbox hb; have n0_ := bkb BK280 hb; have n1_ := bst HB hb; have n2_ := Aside0.mk (hbox); have n3_ := gwl HB hg; have n4_ := gwl HB hg; have n5_ := nbl BK280 hg; have n6_ := nbg BK280 hg; clear BK280; clear HB; have BK280 := n0_; have HB := n1_; have BK281 := n2_; have GW281 := n3_; have GE281 := n4_; have NB280_281 := n5_; have NB281_280 := n6_; clear n0_ n1_ n2_ n3_ n4_ n5_ n6_; clear hb hbox hg) | ((with_reducible refine gate_dst (N := 8) rfl ?_); refine Kd.R_lit k36 _ 36 ?hg (N := 8) ?hd (xs := ([] : List (S36))) (inner := []) (ok := fun _ => True) (okp := fun _ => True) ?hr ?hp (fun _ hk => hk) trivial (Below.refl _ _) (Nat.le_refl _) (by simp) ?_; (case hd => rfl); (case hg => rfl); (case hr => first | (go_simp; done) | (go_simp; rfl)); (case hp => exact (Reps.none _ _)); intro v283 w5 ho6 hb hg_ hnew_; clear hg_ hnew_; (first | rw [← Ny282.out] at ho6 | (simp only [Int.reduceToNat] at ho6; rw [← Ny282.out] at ho6)); have HO284 := Aside0.mk (Kd.R_lower (Kd.R_newB ho6 (g := gb281) (o := .cells #[.int .i8 a1_0, .int .i8 a1_1] 36 (0, 0)) (pk BK281)) (below_size (by repeat (first | (with_reducible first | exact HB.out | apply below_alloc | apply pw_below_drewN | apply below_drew1 | refine below_set ?_ GE280.out | refine below_set ?_ GE281.out) | exact HB.out)))); replace BK280 := bkb BK280 hb; replace BK281 := bkb BK281 hb; replace HB := bst HB hb; clear hb ho6))
 go_loopg [5, 9] k (fun kq v5 v9 w' => ∃ (x5_1 : List (S36)) (x9_1 : Int), v9 = .int .i64 x9_1 ∧ Aside0 (impl_Room_beside.l0 kq x5_1 x9_1 a0_0 a0_1 a0_2 a1_0 a1_1 = some r) ∧ Aside0 (kq ≤ k) ∧ Aside0 (Kd.R k36 36 w' w.heap.size (fun k_ => k_ ≠ gb281) v5 x5_1) ∧ Aside0 (w'.heap[gb280]? = some (.cells (mixA (Value.int .u16) [.int .i8 a0_0, .int .i8 a0_1] a0_2) 34 (0, 0))) ∧ Aside0 (w'.heap[gb281]? = some (.cells #[.int .i8 a1_0, .int .i8 a1_1] 36 (0, 0))) ∧ Aside0 (Below w.heap.size w w'))
 case atStart => exact ⟨(y282), (0), (by first | rfl | (simp; done) | (simp [*]; done)), H', ⟨Nat.le_refl _⟩, ⟨by (with_reducible repeat (first | apply Kd.R_alloc | apply Kd.R_drewN | apply Kd.R_drew)); exact Kd.R_mono HO284.out (fun _ hk => hk.2)⟩, ⟨pk BK280⟩, ⟨pk BK281⟩, ⟨pbs HB⟩⟩
 case round =>
  clear H'
  try clear p2
  obtain ⟨x5_1, x9_1, rfl, HA, HK1, HO_5, BK280, BK281, HB⟩ := hrel
  cases gk with
  | zero => exact absurd HA.out (by simp [impl_Room_beside.l0])
  | succ k1 =>
   have H := HA.out; clear HA; simp only [impl_Room_beside.l0] at H
   by_cases c7 : x9_1 < 4
   ·rw [if_pos c7] at H
    have c7b0 : decide (x9_1 < 4) = true := decide_eq_true c7; clear c7; replace H := Option.bind_eq_some_iff.mp H; obtain ⟨⟨t285, t286⟩, A80, H⟩ := H; replace H : ((impl_Room_isFree.f a0_0 a0_1 a0_2 t285 t286).bind fun t288 => (if t288 = true then (if x5_1.length < 70368744177664 then (impl_Room_beside.l0 k1 (x5_1 ++ [(⟨t285, t286⟩ : S36)]) (wrap64 (x9_1 + 1)) a0_0 a0_1 a0_2 a1_0 a1_1) else (none)) else (impl_Room_beside.l0 k1 x5_1 (wrap64 (x9_1 + 1)) a0_0 a0_1 a0_2 a1_0 a1_1))) = some r := H; have A8 := Aside0.mk A80; clear A80; obtain ⟨t288, A9, H⟩ := obn H
    by_cases c10 : t288 = true
    ·subst c10
     have H1 : (if x5_1.length < 70368744177664 then (impl_Room_beside.l0 k1 (x5_1 ++ [(⟨t285, t286⟩ : S36)]) (wrap64 (x9_1 + 1)) a0_0 a0_1 a0_2 a1_0 a1_1) else (none)) = some r := by rw [if_pos rfl] at H; exact H
     clear H; have H := H1; clear H1
     by_cases c11 : x5_1.length < 70368744177664
     ·rw [if_pos c11] at H
      have LMc11 := Aside0.mk c11; clear c11; obtain ⟨y289, hy289⟩ : ∃ y_ : List (S36), y_ = (x5_1 ++ [(⟨t285, t286⟩ : S36)]) := ⟨_, rfl⟩
      replace H : (impl_Room_beside.l0 k1 y289 (wrap64 (x9_1 + 1)) a0_0 a0_1 a0_2 a1_0 a1_1) = some r := by first | (rw [hy289]; with_reducible exact H) | (have H2_ := (Option.bind_some _ _).symm.trans H; rw [hy289]; with_reducible exact H2_) | (have H2_ := (Option.bind_some _ _).symm.trans H; with_reducible exact H2_) | with_reducible exact H | (rw [hy289]; exact H) | exact H
      have Ny289 := Aside0.mk hy289; clear hy289; have H' := Aside0.mk H; clear H; have hnb12 := NB281_280.out; have hnc12 := NB280_281.out; have hcz13_0 : wr.cell? ⟨gb281, 0, none⟩ = some (.int .i8 a1_0) := bc_ BK281.out 0; have hcz13_1 : wr.cell? ⟨gb281, 1, none⟩ = some (.int .i8 a1_1) := bc_ BK281.out 1; have hfz13_0 := blk_frozen BK281.out 0; have hfz13_1 := blk_frozen BK281.out 1
      go_wp2_with (first | ((with_reducible refine gate_callee (f := 100) rfl ?_); refine gl (some 14) Try.func100 #[.agg #[.int .i8 a1_0, .int .i8 a1_1], .int .i64 x9_1] ?_; (with_reducible refine (impl_NextSpot.calls a1_0 a1_1 x9_1 t285 t286 _ A8.out).mono ?_); rintro e w14 ⟨rfl, hb⟩; refine ⟨_, rfl, ?_⟩; replace HO_5 := krb HO_5 hb; replace BK280 := bkb BK280 hb; replace BK281 := bkb BK281 hb; replace HB := bst HB hb; (try clear hb); (try clear hb2); (try clear hk); (try clear hi)) | ((with_reducible refine gate_dst (N := 7) rfl ?_); refine box_event ?hg (N := 7) ?hd (cs := #[.int .i8 0, .int .i8 0]) (t := 36) ?hr ?_; (case hd => rfl); (case hg => rfl); (case hr => first | (go_simp; done) | (go_simp; rfl)); intro gb287 hg w15 hbox hb; have n0_ := Aside0.mk (Kd.R_below (Kd.R_elderB (by (with_reducible repeat (first | apply Kd.R_alloc | apply Kd.R_drewN | apply Kd.R_drew)); exact HO_5.out) gb287 (Nat.le_of_eq hg.symm)) hb); have n1_ := bkb BK280 hb; have n2_ := bkb BK281 hb; have n3_ := bst HB hb; have n4_ := Aside0.mk (hbox); have n5_ := gwl HB hg; have n6_ := gwl HB hg; have n7_ := nbl BK280 hg; have n8_ := nbg BK280 hg; have n9_ := nbl BK281 hg; have n10_ := nbg BK281 hg; clear HO_5; clear BK280; clear BK281; clear HB; have HO_5 := n0_; have BK280 := n1_; have BK281 := n2_; have HB := n3_; have BK287 := n4_; have GW287 := n5_; have GE287 := n6_; have NB280_287 := n7_; have NB287_280 := n8_; have NB281_287 := n9_; have NB287_281 := n10_; clear n0_ n1_ n2_ n3_ n4_ n5_ n6_ n7_ n8_ n9_ n10_; clear hb hbox hg; have hnb16 := NB287_280.out; have hnc16 := NB280_287.out; have hnb17 := NB287_281.out; have hnc17 := NB281_287.out; have hcz18_0 : w15.cell? ⟨gb287, 0, none⟩ = some (.int .i8 0) := (blk_cell BK287.out 0).trans rfl; have hcz18_1 : w15.cell? ⟨gb287, 1, none⟩ = some (.int .i8 0) := (blk_cell BK287.out 1).trans rfl; have hfz18_0 := blk_frozen BK287.out 0; have hfz18_1 := blk_frozen BK287.out 1) | ((with_reducible refine gate_dst (N := 15) rfl ?_); refine wpList_run0 (v := .agg (mixA (Value.int .u16) [.int .i8 a0_0, .int .i8 a0_1] a0_2)) rfl (load_mix_run (P := Try.prog) 34 (.tmp 2) rfl gb280 rfl (show World.rangeAt _ gb280 0 ([.int .i8 a0_0, .int .i8 a0_1] ++ a0_2.l.map (Value.int .u16)) from mix_range (show (World.heap _)[gb280]? = some (.cells (mixA (Value.int .u16) [.int .i8 a0_0, .int .i8 a0_1] a0_2) 34 (0, 0)) from by (with_reducible repeat (first | refine blk_drewN ?_ _ | refine blk_drew ?_ | refine blk_alloc ?_ _)); refine blk_far ?_ NB280_287.out _; (with_reducible repeat (first | refine blk_drewN ?_ _ | refine blk_drew ?_ | refine blk_alloc ?_ _)); refine blk_far ?_ NB280_287.out _; (with_reducible repeat (first | refine blk_drewN ?_ _ | refine blk_drew ?_ | refine blk_alloc ?_ _)); exact BK280.out)) Try.underlying34 rfl (by kernel_rfl) rfl) ?_) | ((with_reducible refine gate_callee (f := 86) rfl ?_); refine gl (some 17) Try.func86 #[.agg (mixA (Value.int .u16) [.int .i8 a0_0, .int .i8 a0_1] a0_2), .agg #[.int .i8 t285, .int .i8 t286]] ?_; (with_reducible refine (impl_Room_isFree.calls a0_0 a0_1 a0_2 t285 t286 true _ A9.out).mono ?_); rintro e w20 ⟨rfl, hb⟩; refine ⟨_, rfl, ?_⟩; replace HO_5 := Aside0.mk (Kd.R_below (by (with_reducible repeat (first | apply Kd.R_alloc | apply Kd.R_drewN | apply Kd.R_drew)); exact (Kd.R_mono (Kd.R_far (p := ⟨gb287, 1, none⟩) (Kd.R_far (p := ⟨gb287, 0, none⟩) (Kd.R_mono HO_5.out (fun k_ hk => (⟨hk, hk.2⟩ : _ ∧ k_ ≠ gb287))) (fun _ hk => hk.2) (.int .i8 t285)) (fun _ hk => hk.2) (.int .i8 t286)) (fun _ h_ => h_.1))) hb); replace BK280 := Aside0.mk (blk_below (g := gb280) (o := .cells (mixA (Value.int .u16) [.int .i8 a0_0, .int .i8 a0_1] a0_2) 34 (0, 0)) (by (with_reducible repeat (first | refine blk_drewN ?_ _ | refine blk_drew ?_ | refine blk_alloc ?_ _)); refine blk_far ?_ NB280_287.out _; (with_reducible repeat (first | refine blk_drewN ?_ _ | refine blk_drew ?_ | refine blk_alloc ?_ _)); refine blk_far ?_ NB280_287.out _; (with_reducible repeat (first | refine blk_drewN ?_ _ | refine blk_drew ?_ | refine blk_alloc ?_ _)); exact BK280.out) hb); replace BK281 := Aside0.mk (blk_below (g := gb281) (o := .cells #[.int .i8 a1_0, .int .i8 a1_1] 36 (0, 0)) (by (with_reducible repeat (first | refine blk_drewN ?_ _ | refine blk_drew ?_ | refine blk_alloc ?_ _)); refine blk_far ?_ NB281_287.out _; (with_reducible repeat (first | refine blk_drewN ?_ _ | refine blk_drew ?_ | refine blk_alloc ?_ _)); refine blk_far ?_ NB281_287.out _; (with_reducible repeat (first | refine blk_drewN ?_ _ | refine blk_drew ?_ | refine blk_alloc ?_ _)); exact BK281.out) hb); replace BK287 := Aside0.mk (blk_below (g := gb287) (o := .cells #[.int .i8 t285, .int .i8 t286] 36 (0, 0)) (by (with_reducible repeat (first | refine blk_drewN ?_ _ | refine blk_drew ?_ | refine blk_alloc ?_ _)); refine blk_put (cs := #[.int .i8 t285, .int .i8 0]) ?_ 1 _ rfl; (with_reducible repeat (first | refine blk_drewN ?_ _ | refine blk_drew ?_ | refine blk_alloc ?_ _)); refine blk_put (cs := #[.int .i8 0, .int .i8 0]) ?_ 0 _ rfl; (with_reducible repeat (first | refine blk_drewN ?_ _ | refine blk_drew ?_ | refine blk_alloc ?_ _)); exact BK287.out) hb); replace HB := bst HB hb; (try clear hb); (try clear hb2); (try clear hk); (try clear hi); have hcz21_0 : w20.cell? ⟨gb287, 0, none⟩ = some (.int .i8 t285) := (blk_cell BK287.out 0).trans rfl; have hcz21_1 : w20.cell? ⟨gb287, 1, none⟩ = some (.int .i8 t286) := (blk_cell BK287.out 1).trans rfl; have hfz21_0 := blk_frozen BK287.out 0; have hfz21_1 := blk_frozen BK287.out 1) | ((with_reducible refine gate_builtin (b := .append) (xs := #[.tmp 18, .tmp 20]) rfl ?_); at_builtin; refine Kd.R_append k36 (w0 := w) w.heap.size rfl (.tmp 18) (.tmp 20) 38 36 (.agg #[(.int .i8 0), (.int .i8 0)]) 2 rfl Try.underlying38 info36 rfl (by decide) (by omega) u5 x5_1 (⟨t285, t286⟩ : S36) [.int .i8 t285, .int .i8 t286] (fun k_ => k_ ≠ gb281 ∧ k_ ≠ gb287) (fun _ => False) rfl rfl ?aP (fun _ hk => hk.elim) ?aF ?aO ?aB ?aS ?aL ?_; (case aP => exact k36_mkM _ _ _ (⟨t285, t286⟩ : S36)); (case aB => exact (pbs HB)); (case aF => exact (fun k_ hk => ⟨Kd.freshB (g := gb281) (o := .cells #[.int .i8 a1_0, .int .i8 a1_1] 36 (0, 0)) (pk BK281) k_ hk, Kd.freshB (g := gb287) (o := .cells #[.int .i8 t285, .int .i8 t286] 36 (0, 0)) (pk BK287) k_ hk⟩)); (case aO => exact (by (with_reducible repeat (first | apply Kd.R_alloc | apply Kd.R_drewN | apply Kd.R_drew)); exact HO_5.out)); (case aS => exact (below_size (by repeat (first | (with_reducible first | exact HB.out | apply below_alloc | apply pw_below_drewN | apply below_drew1 | refine below_set ?_ GE280.out | refine below_set ?_ GE281.out | refine below_set ?_ GE287.out) | exact HB.out)))); (case aL => have := LMc11.out; omega); intro v290 w22 ho hb hg hat; rw [← Ny289.out] at ho; have n0_ := Aside0.mk (blk_grown (g := gb280) (o := .cells (mixA (Value.int .u16) [.int .i8 a0_0, .int .i8 a0_1] a0_2) 34 (0, 0)) (pk BK280) hg (Kd.R_ne HO_5.out BK280.out (by decide))); have n1_ := Aside0.mk (blk_grown (g := gb281) (o := .cells #[.int .i8 a1_0, .int .i8 a1_1] 36 (0, 0)) (pk BK281) hg (Kd.R_away HO_5.out (fun _ hk => hk.1))); have n2_ := Aside0.mk (blk_grown (g := gb287) (o := .cells #[.int .i8 t285, .int .i8 t286] 36 (0, 0)) (pk BK287) hg (Kd.R_away HO_5.out (fun _ hk => hk.2))); have n3_ := Aside0.mk (hb); have n4_ := Aside0.mk (ho); clear BK280; clear BK281; clear BK287; clear HB; clear HO_5; have BK280 := n0_; have BK281 := n1_; have BK287 := n2_; have HB := n3_; have HO291 := n4_; clear n0_ n1_ n2_ n3_ n4_; clear ho hb hg hat))
      go_roundg k1
      case measure => have := HK1.out; omega
      case rel => exact ⟨(y289), (wrap64 (x9_1 + 1)), (by first | rfl | (simp; done) | (simp [*]; done)), H', ⟨by have := HK1.out; omega⟩, ⟨by (with_reducible repeat (first | apply Kd.R_alloc | apply Kd.R_drewN | apply Kd.R_drew)); exact Kd.R_mono HO291.out (fun _ hk => hk.1)⟩, ⟨pk BK280⟩, ⟨pk BK281⟩, ⟨pbs HB⟩⟩
     ·rw [if_neg c11] at H
      exact absurd H (by simp)
    ·replace c10 := Bool.eq_false_iff.mpr c10
     subst c10
     have H1 : (impl_Room_beside.l0 k1 x5_1 (wrap64 (x9_1 + 1)) a0_0 a0_1 a0_2 a1_0 a1_1) = some r := by rw [if_neg (show ¬ (false = true) by decide)] at H; exact H
     clear H; have H := H1; clear H1; have H' := Aside0.mk H; clear H; have hnb23 := NB281_280.out; have hnc23 := NB280_281.out; have hcz24_0 : wr.cell? ⟨gb281, 0, none⟩ = some (.int .i8 a1_0) := bc_ BK281.out 0; have hcz24_1 : wr.cell? ⟨gb281, 1, none⟩ = some (.int .i8 a1_1) := bc_ BK281.out 1; have hfz24_0 := blk_frozen BK281.out 0; have hfz24_1 := blk_frozen BK281.out 1
     go_wp2_with (first | ((with_reducible refine gate_callee (f := 100) rfl ?_); refine gl (some 14) Try.func100 #[.agg #[.int .i8 a1_0, .int .i8 a1_1], .int .i64 x9_1] ?_; (with_reducible refine (impl_NextSpot.calls a1_0 a1_1 x9_1 t285 t286 _ A8.out).mono ?_); rintro e w25 ⟨rfl, hb⟩; refine ⟨_, rfl, ?_⟩; replace HO_5 := krb HO_5 hb; replace BK280 := bkb BK280 hb; replace BK281 := bkb BK281 hb; replace HB := bst HB hb; (try clear hb); (try clear hb2); (try clear hk); (try clear hi)) | ((with_reducible refine gate_dst (N := 7) rfl ?_); refine box_event ?hg (N := 7) ?hd (cs := #[.int .i8 0, .int .i8 0]) (t := 36) ?hr ?_; (case hd => rfl); (case hg => rfl); (case hr => first | (go_simp; done) | (go_simp; rfl)); intro gb287 hg w26 hbox hb; have n0_ := Aside0.mk (Kd.R_below (Kd.R_elderB (by (with_reducible repeat (first | apply Kd.R_alloc | apply Kd.R_drewN | apply Kd.R_drew)); exact HO_5.out) gb287 (Nat.le_of_eq hg.symm)) hb); have n1_ := bkb BK280 hb; have n2_ := bkb BK281 hb; have n3_ := bst HB hb; have n4_ := Aside0.mk (hbox); have n5_ := gwl HB hg; have n6_ := gwl HB hg; have n7_ := nbl BK280 hg; have n8_ := nbg BK280 hg; have n9_ := nbl BK281 hg; have n10_ := nbg BK281 hg; clear HO_5; clear BK280; clear BK281; clear HB; have HO_5 := n0_; have BK280 := n1_; have BK281 := n2_; have HB := n3_; have BK287 := n4_; have GW287 := n5_; have GE287 := n6_; have NB280_287 := n7_; have NB287_280 := n8_; have NB281_287 := n9_; have NB287_281 := n10_; clear n0_ n1_ n2_ n3_ n4_ n5_ n6_ n7_ n8_ n9_ n10_; clear hb hbox hg; have hnb27 := NB287_280.out; have hnc27 := NB280_287.out; have hnb28 := NB287_281.out; have hnc28 := NB281_287.out; have hcz29_0 : w26.cell? ⟨gb287, 0, none⟩ = some (.int .i8 0) := (blk_cell BK287.out 0).trans rfl; have hcz29_1 : w26.cell? ⟨gb287, 1, none⟩ = some (.int .i8 0) := (blk_cell BK287.out 1).trans rfl; have hfz29_0 := blk_frozen BK287.out 0; have hfz29_1 := blk_frozen BK287.out 1) | ((with_reducible refine gate_dst (N := 15) rfl ?_); refine wpList_run0 (v := .agg (mixA (Value.int .u16) [.int .i8 a0_0, .int .i8 a0_1] a0_2)) rfl (load_mix_run (P := Try.prog) 34 (.tmp 2) rfl gb280 rfl (show World.rangeAt _ gb280 0 ([.int .i8 a0_0, .int .i8 a0_1] ++ a0_2.l.map (Value.int .u16)) from mix_range (show (World.heap _)[gb280]? = some (.cells (mixA (Value.int .u16) [.int .i8 a0_0, .int .i8 a0_1] a0_2) 34 (0, 0)) from by (with_reducible repeat (first | refine blk_drewN ?_ _ | refine blk_drew ?_ | refine blk_alloc ?_ _)); refine blk_far ?_ NB280_287.out _; (with_reducible repeat (first | refine blk_drewN ?_ _ | refine blk_drew ?_ | refine blk_alloc ?_ _)); refine blk_far ?_ NB280_287.out _; (with_reducible repeat (first | refine blk_drewN ?_ _ | refine blk_drew ?_ | refine blk_alloc ?_ _)); exact BK280.out)) Try.underlying34 rfl (by kernel_rfl) rfl) ?_) | ((with_reducible refine gate_callee (f := 86) rfl ?_); refine gl (some 17) Try.func86 #[.agg (mixA (Value.int .u16) [.int .i8 a0_0, .int .i8 a0_1] a0_2), .agg #[.int .i8 t285, .int .i8 t286]] ?_; (with_reducible refine (impl_Room_isFree.calls a0_0 a0_1 a0_2 t285 t286 false _ A9.out).mono ?_); rintro e w31 ⟨rfl, hb⟩; refine ⟨_, rfl, ?_⟩; replace HO_5 := Aside0.mk (Kd.R_below (by (with_reducible repeat (first | apply Kd.R_alloc | apply Kd.R_drewN | apply Kd.R_drew)); exact (Kd.R_mono (Kd.R_far (p := ⟨gb287, 1, none⟩) (Kd.R_far (p := ⟨gb287, 0, none⟩) (Kd.R_mono HO_5.out (fun k_ hk => (⟨hk, hk.2⟩ : _ ∧ k_ ≠ gb287))) (fun _ hk => hk.2) (.int .i8 t285)) (fun _ hk => hk.2) (.int .i8 t286)) (fun _ h_ => h_.1))) hb); replace BK280 := Aside0.mk (blk_below (g := gb280) (o := .cells (mixA (Value.int .u16) [.int .i8 a0_0, .int .i8 a0_1] a0_2) 34 (0, 0)) (by (with_reducible repeat (first | refine blk_drewN ?_ _ | refine blk_drew ?_ | refine blk_alloc ?_ _)); refine blk_far ?_ NB280_287.out _; (with_reducible repeat (first | refine blk_drewN ?_ _ | refine blk_drew ?_ | refine blk_alloc ?_ _)); refine blk_far ?_ NB280_287.out _; (with_reducible repeat (first | refine blk_drewN ?_ _ | refine blk_drew ?_ | refine blk_alloc ?_ _)); exact BK280.out) hb); replace BK281 := Aside0.mk (blk_below (g := gb281) (o := .cells #[.int .i8 a1_0, .int .i8 a1_1] 36 (0, 0)) (by (with_reducible repeat (first | refine blk_drewN ?_ _ | refine blk_drew ?_ | refine blk_alloc ?_ _)); refine blk_far ?_ NB281_287.out _; (with_reducible repeat (first | refine blk_drewN ?_ _ | refine blk_drew ?_ | refine blk_alloc ?_ _)); refine blk_far ?_ NB281_287.out _; (with_reducible repeat (first | refine blk_drewN ?_ _ | refine blk_drew ?_ | refine blk_alloc ?_ _)); exact BK281.out) hb); replace BK287 := Aside0.mk (blk_below (g := gb287) (o := .cells #[.int .i8 t285, .int .i8 t286] 36 (0, 0)) (by (with_reducible repeat (first | refine blk_drewN ?_ _ | refine blk_drew ?_ | refine blk_alloc ?_ _)); refine blk_put (cs := #[.int .i8 t285, .int .i8 0]) ?_ 1 _ rfl; (with_reducible repeat (first | refine blk_drewN ?_ _ | refine blk_drew ?_ | refine blk_alloc ?_ _)); refine blk_put (cs := #[.int .i8 0, .int .i8 0]) ?_ 0 _ rfl; (with_reducible repeat (first | refine blk_drewN ?_ _ | refine blk_drew ?_ | refine blk_alloc ?_ _)); exact BK287.out) hb); replace HB := bst HB hb; (try clear hb); (try clear hb2); (try clear hk); (try clear hi)))
     go_roundg k1
     case measure => have := HK1.out; omega
     case rel => exact ⟨(x5_1), (wrap64 (x9_1 + 1)), (by first | rfl | (simp; done) | (simp [*]; done)), H', ⟨by have := HK1.out; omega⟩, ⟨by (with_reducible repeat (first | apply Kd.R_alloc | apply Kd.R_drewN | apply Kd.R_drew)); exact Kd.R_mono HO_5.out (fun _ hk => hk.1)⟩, ⟨pk BK280⟩, ⟨pk BK281⟩, ⟨pbs HB⟩⟩
   ·rw [if_neg c7] at H
    have c7b0 : decide (x9_1 < 4) = false := decide_eq_false c7; clear c7; obtain rfl := Option.some.inj H
    go_wp2
    go_ret
    exact ⟨_, by first | rfl | (simp [errW_none, errW_some] <;> rfl) | (simp [*, errW_none, errW_some] <;> rfl), by (with_reducible repeat (first | apply Kd.R_alloc | apply Kd.R_drewN | apply Kd.R_drew)); exact Kd.R_mono HO_5.out (fun _ hk => trivial), pbs HB⟩
end Go.Proofs.Ytanobaoaelhebaa.PB
end
section
namespace Go.Proofs.Ytanobaoaelhebaa.PB
open Go.RowKit Go.Proofs.YtanobaoaelhebaaW.PrintWords Go.Proofs.YtanobaoaelhebaaW.PrintLast Go.Proofs.YtanobaoaelhebaaW.PrintMore Go.Proofs.Ytanobaoaelhebaa.La Go.Proofs.Ytanobaoaelhebaa.Mp
attribute [local go_sem] max2_int min2_int max_two min_two max_three min_three max_four min_four   -- for this text's walks alone
set_option linter.unusedVariables false
set_option linter.unusedSimpArgs false
mutual
def impl_Room_steps.l0 : Nat → List (S36) → Int → Int → Int → LA 10 → MP → Option (MP)
 | 0, _, _, _, _, _, _ => none
 | k + 1, x6, x7, x293000, x293001, x293002, x295000 => if x7 < (x6.length : Int) then (if 0 ≤ x7 then ((impl_Room_beside.f k x293000 x293001 x293002 ((rd_T36 x6 x7).f0) ((rd_T36 x6 x7).f1)).bind fun t299 => (impl_Room_steps.l1 k x6 x7 t299 (t299.length : Int) 0 x293000 x293001 x293002 x295000)) else (none)) else (some x295000)
def impl_Room_steps.l1 : Nat → List (S36) → Int → List (S36) → Int → Int → Int → Int → LA 10 → MP → Option (MP)
 | 0, _, _, _, _, _, _, _, _, _ => none
 | k + 1, x6, x7, x28, x29, x30, x293000, x293001, x293002, x295000 => if x30 < x29 then (if 0 ≤ x30 then (if x30 < (x28.length : Int) then (if mhas x295000 ((rd_T36 x28 x30).f0) ((rd_T36 x28 x30).f1) = true then (impl_Room_steps.l1 k x6 x7 x28 x29 (wrap64 (x30 + 1)) x293000 x293001 x293002 x295000) else (if 0 ≤ x7 then (if x7 < (x6.length : Int) then (if x6.length < 70368744177664 then (impl_Room_steps.l1 k (x6 ++ [(⟨(rd_T36 x28 x30).f0, (rd_T36 x28 x30).f1⟩ : S36)]) x7 x28 x29 (wrap64 (x30 + 1)) x293000 x293001 x293002 (x295000 ++ [(((rd_T36 x28 x30).f0), ((rd_T36 x28 x30).f1), (wrap64 ((mval x295000 ((rd_T36 x6 x7).f0) ((rd_T36 x6 x7).f1)) + 1)))])) else (none)) else (none)) else (none))) else (none)) else (none)) else (impl_Room_steps.l0 k x6 (wrap64 (x7 + 1)) x293000 x293001 x293002 x295000)
end
def impl_Room_steps.f (k : Nat) (a0_0 : Int) (a0_1 : Int) (a0_2 : LA 10) (a1_0 : Int) (a1_1 : Int) : Option (MP) := impl_Room_steps.l0 k (([(⟨a1_0, a1_1⟩ : S36)] : List (S36))) 0 a0_0 a0_1 a0_2 ([(a1_0, a1_1, 0)] : MP)
theorem impl_Room_steps.mono_l : ∀ k, (∀ y0 y1 y2 y3 y4 y5, LeO (impl_Room_steps.l0 k y0 y1 y2 y3 y4 y5) (impl_Room_steps.l0 (k + 1) y0 y1 y2 y3 y4 y5)) ∧ (∀ y0 y1 y2 y3 y4 y5 y6 y7 y8, LeO (impl_Room_steps.l1 k y0 y1 y2 y3 y4 y5 y6 y7 y8) (impl_Room_steps.l1 (k + 1) y0 y1 y2 y3 y4 y5 y6 y7 y8))
 | 0 => ⟨fun _ _ _ _ _ _ r h => by simp [impl_Room_steps.l0] at h, fun _ _ _ _ _ _ _ _ _ r h => by simp [impl_Room_steps.l1] at h⟩
 | k + 1 => by
  obtain ⟨ih0, ih1⟩ := impl_Room_steps.mono_l k; refine ⟨?_, ?_⟩
  ·intro y0 y1 y2 y3 y4 y5
   unfold impl_Room_steps.l0
   repeat' first
   | (with_reducible exact ih0 _ _ _ _ _ _)
   | (with_reducible exact ih1 _ _ _ _ _ _ _ _ _)
   | (with_reducible exact impl_Room_beside.mono _ _ _ _ _ _)
   | (with_reducible exact LeO.refl _)
   | (with_reducible exact LeO.none _)
   | (with_reducible refine LeO.ite ?_ ?_)
   | (with_reducible refine LeO.bind ?_ (fun _ => ?_))
   | exact ih0 _ _ _ _ _ _
   | exact ih1 _ _ _ _ _ _ _ _ _
   | exact impl_Room_beside.mono _ _ _ _ _ _
   | exact LeO.none _
   | refine LeO.ite ?_ ?_
   | refine LeO.bind ?_ (fun _ => ?_)
  ·intro y0 y1 y2 y3 y4 y5 y6 y7 y8
   unfold impl_Room_steps.l1
   repeat' first
   | (with_reducible exact ih0 _ _ _ _ _ _)
   | (with_reducible exact ih1 _ _ _ _ _ _ _ _ _)
   | (with_reducible exact impl_Room_beside.mono _ _ _ _ _ _)
   | (with_reducible exact LeO.refl _)
   | (with_reducible exact LeO.none _)
   | (with_reducible refine LeO.ite ?_ ?_)
   | (with_reducible refine LeO.bind ?_ (fun _ => ?_))
   | exact ih0 _ _ _ _ _ _
   | exact ih1 _ _ _ _ _ _ _ _ _
   | exact impl_Room_beside.mono _ _ _ _ _ _
   | exact LeO.none _
   | refine LeO.ite ?_ ?_
   | refine LeO.bind ?_ (fun _ => ?_)
theorem impl_Room_steps.mono : ∀ a0 a1 a2 a3 a4 k, LeO (impl_Room_steps.f k a0 a1 a2 a3 a4) (impl_Room_steps.f (k + 1) a0 a1 a2 a3 a4) := by
 intro a0 a1 a2 a3 a4 k
 obtain ⟨ih0, ih1⟩ := impl_Room_steps.mono_l k
 unfold impl_Room_steps.f
 repeat' first
   | (with_reducible exact ih0 _ _ _ _ _ _)
   | (with_reducible exact ih1 _ _ _ _ _ _ _ _ _)
   | (with_reducible exact impl_Room_beside.mono _ _ _ _ _ _)
   | (with_reducible exact LeO.refl _)
   | (with_reducible exact LeO.none _)
   | (with_reducible refine LeO.ite ?_ ?_)
   | (with_reducible refine LeO.bind ?_ (fun _ => ?_))
   | exact ih0 _ _ _ _ _ _
   | exact ih1 _ _ _ _ _ _ _ _ _
   | exact impl_Room_beside.mono _ _ _ _ _ _
   | exact LeO.none _
   | refine LeO.ite ?_ ?_
   | refine LeO.bind ?_ (fun _ => ?_)
def impl_Room_steps.T1 : Bool × List (List Nat × List Nat) := (true, [([], []), ([], []), ([0, 1], [0, 1]), ([0, 1, 2], [0]), ([], []), ([4], [4]), ([3, 0, 1, 2, 3], [3]), ([5, 6, 0, 1, 2, 3, 4, 5, 6], [5])])
def impl_Room_steps.B1 : List Nat := [0, 0, 3, 7, 0, 16, 15, 127]
theorem impl_Room_steps.tab1 : rtab .any (opsOf Try.f76 1) = impl_Room_steps.T1 := by kernel_rfl
theorem impl_Room_steps.bits1 : waitsOk impl_Room_steps.T1.2 impl_Room_steps.B1 = true := by kernel_rfl
def impl_Room_steps.T5 : Bool × List (List Nat × List Nat) := (true, [([], []), ([], []), ([], []), ([1, 2], [1, 2]), ([3], [3]), ([0, 4], [0, 4]), ([5], [5]), ([], [])])
def impl_Room_steps.B5 : List Nat := [0, 0, 0, 6, 14, 31, 63, 0]
theorem impl_Room_steps.tab5 : rtab .any (opsOf Try.f76 5) = impl_Room_steps.T5 := by kernel_rfl
theorem impl_Room_steps.bits5 : waitsOk impl_Room_steps.T5.2 impl_Room_steps.B5 = true := by kernel_rfl
def impl_Room_steps.T10 : Bool × List (List Nat × List Nat) := (true, [([], []), ([], []), ([], []), ([], []), ([], []), ([3, 4], [3, 4]), ([5], [5]), ([2, 6], [2, 6]), ([7], [7]), ([0, 1, 8, 0, 1, 2, 3, 4, 5, 6, 7, 8], [0, 1, 8])])
def impl_Room_steps.B10 : List Nat := [0, 0, 0, 0, 0, 24, 56, 124, 252, 511]
theorem impl_Room_steps.tab10 : rtab .any (opsOf Try.f76 10) = impl_Room_steps.T10 := by kernel_rfl
theorem impl_Room_steps.bits10 : waitsOk impl_Room_steps.T10.2 impl_Room_steps.B10 = true := by kernel_rfl
set_option maxHeartbeats 8000000 in
set_option maxRecDepth 100000 in
theorem impl_Room_steps.calls (k : Nat) (a0_0 : Int) (a0_1 : Int) (a0_2 : LA 10) (a1_0 : Int) (a1_1 : Int) (r : MP) (w : World) (h : impl_Room_steps.f k a0_0 a0_1 a0_2 a1_0 a1_1 = some r) :
  Calls Try.prog 76 #[.agg (mixA (Value.int .u16) [.int .i8 a0_0, .int .i8 a0_1] a0_2), .agg #[.int .i8 a1_0, .int .i8 a1_1]] w fun e w' => ∃ g_ : Nat, e = .returned (.map (some g_)) ∧ w'.heap[g_]? = some (obM r) ∧ w.heap.size ≤ g_ ∧ Below w.heap.size w w' := by
 have hu34 := Try.underlying34
 have hu36 := Try.underlying36
 have HB := Aside0.mk (Below.refl w.heap.size w)
 have H : (impl_Room_steps.l0 k (([(⟨a1_0, a1_1⟩ : S36)] : List (S36))) 0 a0_0 a0_1 a0_2 ([(a1_0, a1_1, 0)] : MP)) = some r := h
 clear h
 obtain ⟨y295, hy295⟩ : ∃ y_ : List (S36), y_ = (([(⟨a1_0, a1_1⟩ : S36)] : List (S36))) := ⟨_, rfl⟩
 replace H : (impl_Room_steps.l0 k y295 0 a0_0 a0_1 a0_2 ([(a1_0, a1_1, 0)] : MP)) = some r := by first | (rw [hy295]; with_reducible exact H) | (have H2_ := (Option.bind_some _ _).symm.trans H; rw [hy295]; with_reducible exact H2_) | (have H2_ := (Option.bind_some _ _).symm.trans H; with_reducible exact H2_) | with_reducible exact H | (rw [hy295]; exact H) | exact H
 have Ny295 := Aside0.mk hy295
 clear hy295
 have H' := Aside0.mk H
 clear H
 go_enter Try.func76, Try.ntmps76
 try go_wp2_with (first | ((with_reducible refine gate_dst (N := 2) rfl ?_); refine box_event ?hg (N := 2) ?hd (cs := (mixA (Value.int .u16) [.int .i8 a0_0, .int .i8 a0_1] a0_2)) (t := 34) ?hr ?_; (case hd => rfl); (case hg => rfl); (case hr => first | (go_simp; done) | (go_simp; rfl)); intro gb292 hg w3 hbox hb; have n0_ := bst HB hb; have n1_ := Aside0.mk (hbox); have n2_ := gwl HB hg; have n3_ := gwl HB hg; clear HB; have HB := n0_; have BK292 := n1_; have GW292 := n2_; have GE292 := n3_; clear n0_ n1_ n2_ n3_; clear hb hbox hg) | ((with_reducible refine gate_dst (N := 3) rfl ?_); refine box_event ?hg (N := 3) ?hd (cs := #[.int .i8 a1_0, .int .i8 a1_1]) (t := 36) ?hr ?_; (case hd => rfl); (case hg => rfl); (case hr => first | (go_simp; done) | (go_simp; rfl)); intro gb293 hg w4 hbox hb; have n0_ := bkb BK292 hb; have n1_ := bst HB hb; have n2_ := Aside0.mk (hbox); have n3_ := gwl HB hg; have n4_ := gwl HB hg; have n5_ := nbl BK292 hg; have n6_ := nbg BK292 hg; clear BK292; clear HB; have BK292 := n0_; have HB := n1_; have BK293 := n2_; have GW293 := n3_; have GE293 := n4_; have NB292_293 := n5_; have NB293_292 := n6_; clear n0_ n1_ n2_ n3_ n4_ n5_ n6_; clear hb hbox hg))
 have n0_ := Aside0.mk (blk_drew BK292.out)
 have n1_ := Aside0.mk (blk_drew BK293.out)
 have n2_ := Aside0.mk (below_drew1 HB.out)
 clear BK292
 clear BK293
 clear HB
 have BK292 := n0_
 have BK293 := n1_
 have HB := n2_
 clear n0_ n1_ n2_
 refine start_ (n := 8) (S := fun w' => True) (ds := []) (bA 8 0) (by kernel_rfl) rfl rfl trivial (fun hHeld => ?_); refine with_tabW impl_Room_steps.tab1 impl_Room_steps.bits1 (fun HT_ HW_ => ?_)
 generalize w4.drew = w5 at BK292 BK293 HB hHeld ⊢
 refine inv_at [0, 1, 2, 3, 4, 5, 6, 7] (fun a0_ b a w' => ∃ (gb294 : Nat) (v296 : Value) (m0_ : Value) (m3_ : Value) (m6_ : Value) (m7_ : Value), a = putSel a0_ b [(0, 12, m0_), (1, 13, .agg #[.int .i8 a1_0, .int .i8 a1_1]), (3, 14, m3_), (4, 15, .agg #[.int .i8 a1_0, .int .i8 a1_1]), (5, 16, v296), (6, 5, m6_), (7, 6, m7_)] ∧ (w'.heap[gb292]? = some (.cells (mixA (Value.int .u16) [.int .i8 a0_0, .int .i8 a0_1] a0_2) 34 (0, 0))) ∧ (w'.heap[gb293]? = some (.cells #[.int .i8 a1_0, .int .i8 a1_1] 36 (0, 0))) ∧ (Below w.heap.size w w') ∧ (b 0 = true → b 2 = false → w'.heap[gb294]? = some (obM ([] : MP))) ∧ (b 0 = true → w.heap.size ≤ gb294) ∧ (b 0 = true → w.heap.size ≤ gb294) ∧ (b 0 = true → gb292 ≠ gb294) ∧ (b 0 = true → gb294 ≠ gb292) ∧ (b 0 = true → gb293 ≠ gb294) ∧ (b 0 = true → gb294 ≠ gb293) ∧ (b 2 = true → w'.heap[gb294]? = some (obM ([(a1_0, a1_1, 0)] : MP))) ∧ (b 5 = true → Kd.R k36 36 w' w.heap.size (fun k_ => k_ ≠ gb293) v296 y295) ∧ (b 0 = true → (m0_ : Value) = .map (some gb294)) ∧ (b 3 = true → (m3_ : Value) = .map (some gb294)) ∧ (b 6 = true → (m6_ : Value) = .map (some gb294)) ∧ (b 7 = true → (m7_ : Value) = v296)) HT_.out HW_.out (by kernel_rfl) (by kernel_rfl) ?_ ?_ ?_
 ·exact ⟨0, .bool false, .bool false, .bool false, .bool false, .bool false, by simp only [putSel, Bool.false_eq_true, if_false], BK292.out, BK293.out, HB.out, fun h_ => absurd h_ (by decide), fun h_ => absurd h_ (by decide), fun h_ => absurd h_ (by decide), fun h_ => absurd h_ (by decide), fun h_ => absurd h_ (by decide), fun h_ => absurd h_ (by decide), fun h_ => absurd h_ (by decide), fun h_ => absurd h_ (by decide), fun h_ => absurd h_ (by decide), fun h_ => absurd h_ (by decide), fun h_ => absurd h_ (by decide), fun h_ => absurd h_ (by decide), fun h_ => absurd h_ (by decide)⟩
 ·skip
  clear BK292 BK293 HB; refine steps_cons ?_ ?_
  ·rintro b a w' ⟨gb294, v296, m0_, m3_, m6_, m7_, ha, Q_BK292, Q_BK293, Q_HB, Q_BK294, Q_GW294, Q_GE294, Q_NB292_294, Q_NB294_292, Q_NB293_294, Q_NB294_293, Q_BK294_e2, Q_HO297, Q_X0_, Q_X3_, Q_X6_, Q_X7_⟩ hb_ hon hoff
   refine ⟨_, rfl, fun K hK => ?_⟩; replace ha := Aside0.mk ha; have BK292 := Aside0.mk Q_BK292; have BK293 := Aside0.mk Q_BK293; have HB := Aside0.mk Q_HB
   refine map_step ?hg (N := 12) ?hd ?hr ?_; (case hd => rfl); (case hg => rfl); (case hr => exact make_run rfl)
   intro gb294 hg w6 hbox hb; have n0_ := bkb BK292 hb; have n1_ := bkb BK293 hb; have n2_ := bst HB hb; have n3_ := Aside0.mk (hbox); have n4_ := gwl HB hg; have n5_ := gwl HB hg; have n6_ := nbl BK292 hg; have n7_ := nbg BK292 hg; have n8_ := nbl BK293 hg; have n9_ := nbg BK293 hg; have z_HO297 := fun (h0_ : b 5 = true) => (show Kd.R k36 36 w6 w.heap.size (fun k_ => k_ ≠ gb293) v296 y295 from by first | exact (Kd.R_below (by (with_reducible repeat (first | apply Kd.R_alloc | apply Kd.R_drewN | apply Kd.R_drew)); exact (Q_HO297 h0_)) hb) | exact Kd.R_mono (Kd.R_below (by (with_reducible repeat (first | apply Kd.R_alloc | apply Kd.R_drewN | apply Kd.R_drew)); exact (Q_HO297 h0_)) hb) (fun _ h_ => by first | trivial | exact h_ | exact h_.1)); clear BK292; clear BK293; clear HB; have BK292 := n0_; have BK293 := n1_; have HB := n2_; have BK294 := n3_; have GW294 := n4_; have GE294 := n5_; have NB292_294 := n6_; have NB294_292 := n7_; have NB293_294 := n8_; have NB294_293 := n9_; clear n0_ n1_ n2_ n3_ n4_ n5_ n6_ n7_ n8_ n9_; clear hb hbox hg; refine hK.out _ _ ⟨gb294, v296, (.map (some gb294)), m3_, m6_, m7_, (by rw [ha.out]; exact putSel_upk 0 hb_ rfl rfl rfl), (pk BK292), (pk BK293), (pbs HB), fun _ _ => (pk BK294), fun _ => GW294.out, fun _ => GE294.out, fun _ => NB292_294.out, fun _ => NB294_292.out, fun _ => NB293_294.out, fun _ => NB294_293.out, fun h0_ => absurd ((hoff 2 (by kernel_rfl)).symm.trans h0_) (by decide), z_HO297, fun _ => rfl, fun h0_ => absurd ((hoff 3 (by kernel_rfl)).symm.trans h0_) (by decide), fun h0_ => absurd ((hoff 6 (by kernel_rfl)).symm.trans h0_) (by decide), fun h0_ => absurd ((hoff 7 (by kernel_rfl)).symm.trans h0_) (by decide)⟩
  refine steps_cons ?_ ?_
  ·rintro b a w' ⟨gb294, v296, m0_, m3_, m6_, m7_, ha, Q_BK292, Q_BK293, Q_HB, Q_BK294, Q_GW294, Q_GE294, Q_NB292_294, Q_NB294_292, Q_NB293_294, Q_NB294_293, Q_BK294_e2, Q_HO297, Q_X0_, Q_X3_, Q_X6_, Q_X7_⟩ hb_ hon hoff
   refine ⟨_, rfl, fun K hK => ?_⟩
   have e3 : a.tmps[3]? = some (.pointer (some ⟨gb293, 0, none⟩)) := by rw [ha]; exact (putSel_off rfl).trans rfl
   replace ha := Aside0.mk ha; have BK292 := Aside0.mk Q_BK292; have BK293 := Aside0.mk Q_BK293; have HB := Aside0.mk Q_HB; have hc0_ : w'.cell? ⟨gb293, 0, none⟩ = some (.int .i8 a1_0) := bc_ BK293.out 0; have hc1_ : w'.cell? ⟨gb293, 1, none⟩ = some (.int .i8 a1_1) := bc_ BK293.out 1; refine value_ (w1 := w') (v := .agg #[.int .i8 a1_0, .int .i8 a1_1]) (by rfl) rfl ?_ ?_
   ·go_simp
    (try simp only [i64_w])
    try rfl
   refine hK.out _ _ ⟨gb294, v296, m0_, m3_, m6_, m7_, (by rw [ha.out]; exact putSel_upk 1 hb_ rfl rfl rfl), Q_BK292, Q_BK293, Q_HB, Q_BK294, Q_GW294, Q_GE294, Q_NB292_294, Q_NB294_292, Q_NB293_294, Q_NB294_293, fun h0_ => absurd ((hoff 2 (by kernel_rfl)).symm.trans h0_) (by decide), Q_HO297, Q_X0_, fun h0_ => absurd ((hoff 3 (by kernel_rfl)).symm.trans h0_) (by decide), fun h0_ => absurd ((hoff 6 (by kernel_rfl)).symm.trans h0_) (by decide), fun h0_ => absurd ((hoff 7 (by kernel_rfl)).symm.trans h0_) (by decide)⟩
  refine steps_cons ?_ ?_
  ·rintro b a w' ⟨gb294, v296, m0_, m3_, m6_, m7_, ha, Q_BK292, Q_BK293, Q_HB, Q_BK294, Q_GW294, Q_GE294, Q_NB292_294, Q_NB294_292, Q_NB293_294, Q_NB294_293, Q_BK294_e2, Q_HO297, Q_X0_, Q_X3_, Q_X6_, Q_X7_⟩ hb_ hon hoff
   refine ⟨_, rfl, fun K hK => ?_⟩
   have e12 : a.tmps[12]? = some (m0_) := by rw [ha]; exact putSel_on (e := (0, 12, m0_)) 0 rfl rfl (hon 0 (by kernel_rfl)) rfl
   rw [Q_X0_ (hon 0 (by kernel_rfl))] at e12
   have e13 : a.tmps[13]? = some (.agg #[.int .i8 a1_0, .int .i8 a1_1]) := by rw [ha]; exact putSel_on (e := (1, 13, .agg #[.int .i8 a1_0, .int .i8 a1_1])) 1 rfl rfl (hon 1 (by kernel_rfl)) rfl
   replace ha := Aside0.mk ha; have BK292 := Aside0.mk Q_BK292; have BK293 := Aside0.mk Q_BK293; have HB := Aside0.mk Q_HB; have BK294 := Aside0.mk (Q_BK294 (hon 0 (by kernel_rfl)) hb_); have GW294 := Aside0.mk (Q_GW294 (hon 0 (by kernel_rfl))); have GE294 := Aside0.mk (Q_GE294 (hon 0 (by kernel_rfl))); have NB292_294 := Aside0.mk (Q_NB292_294 (hon 0 (by kernel_rfl))); have NB294_292 := Aside0.mk (Q_NB294_292 (hon 0 (by kernel_rfl))); have NB293_294 := Aside0.mk (Q_NB293_294 (hon 0 (by kernel_rfl))); have NB294_293 := Aside0.mk (Q_NB294_293 (hon 0 (by kernel_rfl))); refine step_putM (by rfl) rfl (.tmp 12) (.tmp 13) (.const (.int .i64 0)) (.inr rfl) gb294 a1_0 a1_1 0 ([] : MP) (by first | (simp only [List.map_toArray, List.map_cons, List.map_nil, Act.eval, Array.getD_eq_getD_getElem?, Option.getD_some, e12, e13]; done) | (simp only [List.map_toArray, List.map_cons, List.map_nil, Act.eval, Array.getD_eq_getD_getElem?, Option.getD_some, e12, e13]; rfl)) (by first | (simp only [List.map_toArray, List.map_cons, List.map_nil, Act.eval, Array.getD_eq_getD_getElem?, Option.getD_some, e12, e13]; done) | (simp only [List.map_toArray, List.map_cons, List.map_nil, Act.eval, Array.getD_eq_getD_getElem?, Option.getD_some, e12, e13]; rfl)) (by first | (simp only [List.map_toArray, List.map_cons, List.map_nil, Act.eval, Array.getD_eq_getD_getElem?, Option.getD_some, e12, e13]; done) | (simp only [List.map_toArray, List.map_cons, List.map_nil, Act.eval, Array.getD_eq_getD_getElem?, Option.getD_some, e12, e13]; rfl)) (pk BK294) rfl ?_; intro w8 hi hk hbl; have n0_ := Aside0.mk (KeepBut.blk hk (g' := gb292) (o := .cells (mixA (Value.int .u16) [.int .i8 a0_0, .int .i8 a0_1] a0_2) 34 (0, 0)) (pk BK292) NB292_294.out (by simp)); have n1_ := Aside0.mk (KeepBut.blk hk (g' := gb293) (o := .cells #[.int .i8 a1_0, .int .i8 a1_1] 36 (0, 0)) (pk BK293) NB293_294.out (by simp)); have n2_ := Aside0.mk (hbl _ _ (pbs HB) GE294.out); have n3_ := Aside0.mk (hi); have z_HO297 := fun (h0_ : b 5 = true) => (show Kd.R k36 36 w8 w.heap.size (fun k_ => k_ ≠ gb293) v296 y295 from by first | exact (Kd.R_mono (Kd.R_keep (Kd.R_typesM (by (with_reducible repeat (first | apply Kd.R_alloc | apply Kd.R_drewN | apply Kd.R_drew)); exact (Q_HO297 h0_)) (pk BK294)) hk (fun _ h => h.2)) (fun _ h => h.1)) | exact Kd.R_mono (Kd.R_mono (Kd.R_keep (Kd.R_typesM (by (with_reducible repeat (first | apply Kd.R_alloc | apply Kd.R_drewN | apply Kd.R_drew)); exact (Q_HO297 h0_)) (pk BK294)) hk (fun _ h => h.2)) (fun _ h => h.1)) (fun _ h_ => by first | trivial | exact h_ | exact h_.1)); clear BK292; clear BK293; clear HB; clear BK294; have BK292 := n0_; have BK293 := n1_; have HB := n2_; have BK294 := n3_; clear n0_ n1_ n2_ n3_; clear hi hk hbl; refine hK.out _ _ ⟨gb294, v296, m0_, m3_, m6_, m7_, (by rw [ha.out]; exact putSel_none (v := undef) rfl), (pk BK292), (pk BK293), (pbs HB), fun _ h1_ => absurd ((up_self b 2).symm.trans h1_) (by decide), fun _ => GW294.out, fun _ => GE294.out, fun _ => NB292_294.out, fun _ => NB294_292.out, fun _ => NB293_294.out, fun _ => NB294_293.out, fun _ => (pk BK294), z_HO297, Q_X0_, fun h0_ => absurd ((hoff 3 (by kernel_rfl)).symm.trans h0_) (by decide), fun h0_ => absurd ((hoff 6 (by kernel_rfl)).symm.trans h0_) (by decide), fun h0_ => absurd ((hoff 7 (by kernel_rfl)).symm.trans h0_) (by decide)⟩
  refine steps_cons ?_ ?_
  ·rintro b a w' ⟨gb294, v296, m0_, m3_, m6_, m7_, ha, Q_BK292, Q_BK293, Q_HB, Q_BK294, Q_GW294, Q_GE294, Q_NB292_294, Q_NB294_292, Q_NB293_294, Q_NB294_293, Q_BK294_e2, Q_HO297, Q_X0_, Q_X3_, Q_X6_, Q_X7_⟩ hb_ hon hoff
   refine ⟨_, rfl, fun K hK => ?_⟩
   have e12 : a.tmps[12]? = some (m0_) := by rw [ha]; exact putSel_on (e := (0, 12, m0_)) 0 rfl rfl (hon 0 (by kernel_rfl)) rfl
   rw [Q_X0_ (hon 0 (by kernel_rfl))] at e12; replace ha := Aside0.mk ha; have BK292 := Aside0.mk Q_BK292; have BK293 := Aside0.mk Q_BK293; have HB := Aside0.mk Q_HB; have GW294 := Aside0.mk (Q_GW294 (hon 0 (by kernel_rfl))); have GE294 := Aside0.mk (Q_GE294 (hon 0 (by kernel_rfl))); have NB292_294 := Aside0.mk (Q_NB292_294 (hon 0 (by kernel_rfl))); have NB294_292 := Aside0.mk (Q_NB294_292 (hon 0 (by kernel_rfl))); have NB293_294 := Aside0.mk (Q_NB293_294 (hon 0 (by kernel_rfl))); have NB294_293 := Aside0.mk (Q_NB294_293 (hon 0 (by kernel_rfl))); have BK294 := Aside0.mk (Q_BK294_e2 (hon 2 (by kernel_rfl))); refine value_ (w1 := w') (v := .map (some gb294)) (by rfl) rfl ?_ ?_
   ·go_simp
    (try simp only [i64_w])
    try rfl
   refine hK.out _ _ ⟨gb294, v296, m0_, (.map (some gb294)), m6_, m7_, (by rw [ha.out]; exact putSel_upk 2 hb_ rfl rfl rfl), Q_BK292, Q_BK293, Q_HB, fun _ h1_ => absurd ((hon 2 (by kernel_rfl)).symm.trans h1_) (by decide), Q_GW294, Q_GE294, Q_NB292_294, Q_NB294_292, Q_NB293_294, Q_NB294_293, Q_BK294_e2, Q_HO297, Q_X0_, fun _ => rfl, fun h0_ => absurd ((hoff 6 (by kernel_rfl)).symm.trans h0_) (by decide), fun h0_ => absurd ((hoff 7 (by kernel_rfl)).symm.trans h0_) (by decide)⟩
  refine steps_cons ?_ ?_
  ·rintro b a w' ⟨gb294, v296, m0_, m3_, m6_, m7_, ha, Q_BK292, Q_BK293, Q_HB, Q_BK294, Q_GW294, Q_GE294, Q_NB292_294, Q_NB294_292, Q_NB293_294, Q_NB294_293, Q_BK294_e2, Q_HO297, Q_X0_, Q_X3_, Q_X6_, Q_X7_⟩ hb_ hon hoff
   refine ⟨_, rfl, fun K hK => ?_⟩
   have e3 : a.tmps[3]? = some (.pointer (some ⟨gb293, 0, none⟩)) := by rw [ha]; exact (putSel_off rfl).trans rfl
   replace ha := Aside0.mk ha; have BK292 := Aside0.mk Q_BK292; have BK293 := Aside0.mk Q_BK293; have HB := Aside0.mk Q_HB; have hc0_ : w'.cell? ⟨gb293, 0, none⟩ = some (.int .i8 a1_0) := bc_ BK293.out 0; have hc1_ : w'.cell? ⟨gb293, 1, none⟩ = some (.int .i8 a1_1) := bc_ BK293.out 1; refine value_ (w1 := w') (v := .agg #[.int .i8 a1_0, .int .i8 a1_1]) (by rfl) rfl ?_ ?_
   ·go_simp
    (try simp only [i64_w])
    try rfl
   refine hK.out _ _ ⟨gb294, v296, m0_, m3_, m6_, m7_, (by rw [ha.out]; exact putSel_upk 3 hb_ rfl rfl rfl), Q_BK292, Q_BK293, Q_HB, Q_BK294, Q_GW294, Q_GE294, Q_NB292_294, Q_NB294_292, Q_NB293_294, Q_NB294_293, Q_BK294_e2, fun h0_ => absurd ((hoff 5 (by kernel_rfl)).symm.trans h0_) (by decide), Q_X0_, Q_X3_, Q_X6_, fun h0_ => absurd ((hoff 7 (by kernel_rfl)).symm.trans h0_) (by decide)⟩
  refine steps_cons ?_ ?_
  ·rintro b a w' ⟨gb294, v296, m0_, m3_, m6_, m7_, ha, Q_BK292, Q_BK293, Q_HB, Q_BK294, Q_GW294, Q_GE294, Q_NB292_294, Q_NB294_292, Q_NB293_294, Q_NB294_293, Q_BK294_e2, Q_HO297, Q_X0_, Q_X3_, Q_X6_, Q_X7_⟩ hb_ hon hoff
   refine ⟨_, rfl, fun K hK => ?_⟩
   have e15 : a.tmps[15]? = some (.agg #[.int .i8 a1_0, .int .i8 a1_1]) := by rw [ha]; exact putSel_on (e := (4, 15, .agg #[.int .i8 a1_0, .int .i8 a1_1])) 3 rfl rfl (hon 4 (by kernel_rfl)) rfl
   replace ha := Aside0.mk ha; have BK292 := Aside0.mk Q_BK292; have BK293 := Aside0.mk Q_BK293; have HB := Aside0.mk Q_HB
   refine Kd.R_lit_step k36 _ 36 ?hg (N := 16) ?hd (xs := ([(⟨a1_0, a1_1⟩ : S36)] : List (S36))) (inner := [.int .i8 a1_0, .int .i8 a1_1]) (ok := fun _ => True) (okp := fun _ => True) ?hr ?hp (fun _ hk => hk) trivial (Below.refl _ _) (Nat.le_refl _) (by simp) ?_; (case hd => rfl); (case hg => rfl); (case hr => first | (go_simp; done) | (go_simp; rfl)); (case hp => exact (Reps.c2 (show Kd.M k36 _ _ _ (⟨a1_0, a1_1⟩ : S36) [.int .i8 a1_0, .int .i8 a1_1] from (k36_mkM _ _ _ (⟨a1_0, a1_1⟩ : S36) )) (Reps.none _ _)))
   intro v296 w6 ho7 hb hg_ hnew_; clear hg_ hnew_; (first | rw [← Ny295.out] at ho7 | (simp only [Int.reduceToNat] at ho7; rw [← Ny295.out] at ho7)); have n0_ := Aside0.mk (Kd.R_lower (Kd.R_newB ho7 (g := gb293) (o := .cells #[.int .i8 a1_0, .int .i8 a1_1] 36 (0, 0)) (pk BK293)) (below_size (by repeat (first | (with_reducible first | exact HB.out | apply below_alloc | apply pw_below_drewN | apply below_drew1 | refine below_set ?_ GE292.out | refine below_set ?_ GE293.out) | exact HB.out)))); have n1_ := bkb BK292 hb; have n2_ := bkb BK293 hb; have n3_ := bst HB hb; have z_BK294 := fun (h0_ : b 0 = true) (h1_ : b 2 = false) => (show w6.heap[gb294]? = some (obM ([] : MP)) from by first | exact (blk_below (g := gb294) (o := obM ([] : MP)) (by (with_reducible repeat (first | refine blk_drewN ?_ _ | refine blk_drew ?_ | refine blk_alloc ?_ _)); exact (Q_BK294 h0_ h1_)) hb)); have z_BK294_e2 := fun (h0_ : b 2 = true) => (show w6.heap[gb294]? = some (obM ([(a1_0, a1_1, 0)] : MP)) from by first | exact (blk_below (g := gb294) (o := obM ([(a1_0, a1_1, 0)] : MP)) (by (with_reducible repeat (first | refine blk_drewN ?_ _ | refine blk_drew ?_ | refine blk_alloc ?_ _)); exact (Q_BK294_e2 h0_)) hb)); clear BK292; clear BK293; clear HB; have HO297 := n0_; have BK292 := n1_; have BK293 := n2_; have HB := n3_; clear n0_ n1_ n2_ n3_; clear hb ho7; refine hK.out _ _ ⟨gb294, v296, m0_, m3_, m6_, m7_, (by rw [ha.out]; exact putSel_upk 4 hb_ rfl rfl rfl), (pk BK292), (pk BK293), (pbs HB), z_BK294, Q_GW294, Q_GE294, Q_NB292_294, Q_NB294_292, Q_NB293_294, Q_NB294_293, z_BK294_e2, fun _ => (by (with_reducible repeat (first | apply Kd.R_alloc | apply Kd.R_drewN | apply Kd.R_drew)); exact Kd.R_mono HO297.out (fun _ hk => by first | exact hk.2 | trivial)), Q_X0_, Q_X3_, Q_X6_, fun h0_ => absurd ((hoff 7 (by kernel_rfl)).symm.trans h0_) (by decide)⟩
  refine steps_cons ?_ ?_
  ·rintro b a w' ⟨gb294, v296, m0_, m3_, m6_, m7_, ha, Q_BK292, Q_BK293, Q_HB, Q_BK294, Q_GW294, Q_GE294, Q_NB292_294, Q_NB294_292, Q_NB293_294, Q_NB294_293, Q_BK294_e2, Q_HO297, Q_X0_, Q_X3_, Q_X6_, Q_X7_⟩ hb_ hon hoff
   refine ⟨_, rfl, fun K hK => ?_⟩
   have e14 : a.tmps[14]? = some (m3_) := by rw [ha]; exact putSel_on (e := (3, 14, m3_)) 2 rfl rfl (hon 3 (by kernel_rfl)) rfl
   rw [Q_X3_ (hon 3 (by kernel_rfl))] at e14; replace ha := Aside0.mk ha; have BK292 := Aside0.mk Q_BK292; have BK293 := Aside0.mk Q_BK293; have HB := Aside0.mk Q_HB; have GW294 := Aside0.mk (Q_GW294 (hon 0 (by kernel_rfl))); have GE294 := Aside0.mk (Q_GE294 (hon 0 (by kernel_rfl))); have NB292_294 := Aside0.mk (Q_NB292_294 (hon 0 (by kernel_rfl))); have NB294_292 := Aside0.mk (Q_NB294_292 (hon 0 (by kernel_rfl))); have NB293_294 := Aside0.mk (Q_NB293_294 (hon 0 (by kernel_rfl))); have NB294_293 := Aside0.mk (Q_NB294_293 (hon 0 (by kernel_rfl))); have BK294 := Aside0.mk (Q_BK294_e2 (hon 2 (by kernel_rfl))); refine value_ (w1 := w') (v := .map (some gb294)) (by rfl) rfl ?_ ?_
   ·go_simp
    (try simp only [i64_w])
    try rfl
   refine hK.out _ _ ⟨gb294, v296, m0_, m3_, (.map (some gb294)), m7_, (by rw [ha.out]; exact putSel_upk 5 hb_ rfl rfl rfl), Q_BK292, Q_BK293, Q_HB, fun _ h1_ => absurd ((hon 2 (by kernel_rfl)).symm.trans h1_) (by decide), Q_GW294, Q_GE294, Q_NB292_294, Q_NB294_292, Q_NB293_294, Q_NB294_293, Q_BK294_e2, Q_HO297, Q_X0_, Q_X3_, fun _ => rfl, fun h0_ => absurd ((hoff 7 (by kernel_rfl)).symm.trans h0_) (by decide)⟩
  refine steps_cons ?_ ?_
  ·rintro b a w' ⟨gb294, v296, m0_, m3_, m6_, m7_, ha, Q_BK292, Q_BK293, Q_HB, Q_BK294, Q_GW294, Q_GE294, Q_NB292_294, Q_NB294_292, Q_NB293_294, Q_NB294_293, Q_BK294_e2, Q_HO297, Q_X0_, Q_X3_, Q_X6_, Q_X7_⟩ hb_ hon hoff
   refine ⟨_, rfl, fun K hK => ?_⟩
   have e16 : a.tmps[16]? = some (v296) := by rw [ha]; exact putSel_on (e := (5, 16, v296)) 4 rfl rfl (hon 5 (by kernel_rfl)) rfl
   replace ha := Aside0.mk ha; have BK292 := Aside0.mk Q_BK292; have BK293 := Aside0.mk Q_BK293; have HB := Aside0.mk Q_HB; have GW294 := Aside0.mk (Q_GW294 (hon 0 (by kernel_rfl))); have GE294 := Aside0.mk (Q_GE294 (hon 0 (by kernel_rfl))); have NB292_294 := Aside0.mk (Q_NB292_294 (hon 0 (by kernel_rfl))); have NB294_292 := Aside0.mk (Q_NB294_292 (hon 0 (by kernel_rfl))); have NB293_294 := Aside0.mk (Q_NB293_294 (hon 0 (by kernel_rfl))); have NB294_293 := Aside0.mk (Q_NB294_293 (hon 0 (by kernel_rfl))); have BK294 := Aside0.mk (Q_BK294_e2 (hon 2 (by kernel_rfl))); have HO297 := Aside0.mk (Q_HO297 (hon 5 (by kernel_rfl))); refine value_ (w1 := w') (v := v296) (by rfl) rfl ?_ ?_
   ·go_simp
    (try simp only [i64_w])
    try rfl
   refine hK.out _ _ ⟨gb294, v296, m0_, m3_, m6_, (v296), (by rw [ha.out]; exact putSel_upk 6 hb_ rfl rfl rfl), Q_BK292, Q_BK293, Q_HB, fun _ h1_ => absurd ((hon 2 (by kernel_rfl)).symm.trans h1_) (by decide), Q_GW294, Q_GE294, Q_NB292_294, Q_NB294_292, Q_NB293_294, Q_NB294_293, Q_BK294_e2, Q_HO297, Q_X0_, Q_X3_, Q_X6_, fun _ => rfl⟩
  exact steps_nil
 rintro b a w10 hall ⟨gb294, v296, m0_, m3_, m6_, m7_, ha, Q_BK292, Q_BK293, Q_HB, Q_BK294, Q_GW294, Q_GE294, Q_NB292_294, Q_NB294_292, Q_NB293_294, Q_NB294_293, Q_BK294_e2, Q_HO297, Q_X0_, Q_X3_, Q_X6_, Q_X7_⟩
 clear BK292 BK293 HB
 have hb0_ := hall 0 (by kernel_rfl)
 have hb1_ := hall 1 (by kernel_rfl)
 have hb2_ := hall 2 (by kernel_rfl)
 have hb3_ := hall 3 (by kernel_rfl)
 have hb4_ := hall 4 (by kernel_rfl)
 have hb5_ := hall 5 (by kernel_rfl)
 have hb6_ := hall 6 (by kernel_rfl)
 have hb7_ := hall 7 (by kernel_rfl)
 subst ha
 obtain rfl := (Q_X0_ hb0_).symm
 obtain rfl := (Q_X3_ hb3_).symm
 obtain rfl := (Q_X6_ hb6_).symm
 obtain rfl := (Q_X7_ hb7_).symm
 simp only [putSel, hb0_, hb1_, hb2_, hb3_, hb4_, hb5_, hb6_, hb7_, if_true, Act.put, List.setIfInBounds_toArray, List.set_cons_zero, List.set_cons_succ]
 have BK292 := Aside0.mk Q_BK292
 clear Q_BK292
 have BK293 := Aside0.mk Q_BK293
 clear Q_BK293
 have HB := Aside0.mk Q_HB
 clear Q_HB
 clear Q_BK294
 have GW294 := Aside0.mk (Q_GW294 hb0_)
 clear Q_GW294
 have GE294 := Aside0.mk (Q_GE294 hb0_)
 clear Q_GE294
 have NB292_294 := Aside0.mk (Q_NB292_294 hb0_)
 clear Q_NB292_294
 have NB294_292 := Aside0.mk (Q_NB294_292 hb0_)
 clear Q_NB294_292
 have NB293_294 := Aside0.mk (Q_NB293_294 hb0_)
 clear Q_NB293_294
 have NB294_293 := Aside0.mk (Q_NB294_293 hb0_)
 clear Q_NB294_293
 have BK294 := Aside0.mk (Q_BK294_e2 hb2_)
 clear Q_BK294_e2
 have HO297 := Aside0.mk (Q_HO297 hb5_)
 clear Q_HO297
 clear hall hb0_ hb1_ hb2_ hb3_ hb4_ hb5_ hb6_ hb7_
 try go_wp2
 go_loopg [6, 7] k (fun kq v6 v7 w' => ∃ (x6_1 : List (S36)) (x7_1 : Int) (x295000_1 : MP), v7 = .int .i64 x7_1 ∧ Aside0 (impl_Room_steps.l0 kq x6_1 x7_1 a0_0 a0_1 a0_2 x295000_1 = some r) ∧ Aside0 (kq ≤ k) ∧ Aside0 (Kd.R k36 36 w' w.heap.size (fun k_ => k_ ≠ gb293) v6 x6_1) ∧ Aside0 (w'.heap[gb292]? = some (.cells (mixA (Value.int .u16) [.int .i8 a0_0, .int .i8 a0_1] a0_2) 34 (0, 0))) ∧ Aside0 (w'.heap[gb293]? = some (.cells #[.int .i8 a1_0, .int .i8 a1_1] 36 (0, 0))) ∧ Aside0 (w'.heap[gb294]? = some (obM x295000_1)) ∧ Aside0 (Below w.heap.size w w'))
 case atStart => exact ⟨(y295), (0), (([(a1_0, a1_1, 0)] : MP)), (by first | rfl | (simp; done) | (simp [*]; done)), H', ⟨Nat.le_refl _⟩, ⟨by (with_reducible repeat (first | apply Kd.R_alloc | apply Kd.R_drewN | apply Kd.R_drew)); exact HO297.out⟩, ⟨pk BK292⟩, ⟨pk BK293⟩, ⟨pk BK294⟩, ⟨pbs HB⟩⟩
 case round =>
  clear H'
  try clear c1
  try clear c2
  try clear p2
  try clear c7
  obtain ⟨x6_1, x7_1, x295000_1, rfl, HA, HK1, HO_6, BK292, BK293, BK294, HB⟩ := hrel
  cases gk with
  | zero => exact absurd HA.out (by simp [impl_Room_steps.l0])
  | succ k1 =>
   have H := HA.out; clear HA; simp only [impl_Room_steps.l0] at H
   by_cases c11 : x7_1 < (x6_1.length : Int)
   ·rw [if_pos c11] at H
    have c11b0 : decide (x7_1 < (x6_1.length : Int)) = true := decide_eq_true c11; clear c11
    by_cases c12 : 0 ≤ x7_1
    ·rw [if_pos c12] at H
     have c12b0 : decide (0 ≤ x7_1) = true := decide_eq_true c12; clear c12; obtain ⟨t299, A13, H⟩ := obn H; have H' := Aside0.mk H; clear H; obtain ⟨Ao14, co14, eo14⟩ := Kd.R_slice HO_6.out; subst eo14
     try go_wp2
     replace HO_6 := Aside0.mk (Kd.R_drew HO_6.out); replace BK292 := Aside0.mk (blk_drew BK292.out); replace BK293 := Aside0.mk (blk_drew BK293.out); replace BK294 := Aside0.mk (blk_drew BK294.out); replace HB := Aside0.mk (below_drew1 HB.out); have p298 : 0 ≤ (x7_1 : Int) := oda; have q298 : x7_1 < (x6_1.length : Int) := oda; obtain ⟨ad298, e298, hx298_0, hx298_1⟩ := at_T36 (Kd.R_reads' HO_6.out).2.2 x7_1 p298 q298; cases e298; replace p298 := eq_true p298; replace q298 := eq_true q298
     refine start_ (n := 8) (S := fun w' => World.rangeAt w' gb292 0 ([.int .i8 a0_0, .int .i8 a0_1] ++ a0_2.l.map (Value.int .u16)) ∧ w'.cell? (ad298.add ((x7_1).toNat * 2)) = some (.int .i8 ((rd_T36 x6_1 x7_1).f0)) ∧ w'.cell? ⟨(ad298.add ((x7_1).toNat * 2)).block, (ad298.add ((x7_1).toNat * 2)).off + 1, none⟩ = some (.int .i8 ((rd_T36 x6_1 x7_1).f1))) (ds := []) (bA 8 0) (by kernel_rfl) rfl rfl ⟨mix_range BK292.out, hx298_0, hx298_1⟩ (fun hHeld => ?_); refine with_tabW impl_Room_steps.tab5 impl_Room_steps.bits5 (fun HT_ HW_ => ?_)
     generalize wr.drew = w15 at HO_6 BK292 BK293 BK294 HB hx298_0 hx298_1 hHeld ⊢; refine pu 1 24 8 2 HT_ ?_; refine pu 2 25 8 6 HT_ ?_; refine pu 3 26 8 14 HT_ ?_; refine pu 7 30 8 142 HT_ ?_; refine take_ (i := 0) (N := some 23) (v := ?_) (a' := ?_) (bA 8 143) rfl rfl (take_ofW HT_.out HW_.out (by kernel_rfl)) (fun _ _ _ h => h) (Or.inl ⟨by rfl, ?_⟩) hHeld ?_ ?_; rotate_left
     ·rintro w' ⟨s0, s1, s2⟩
      refine load_mix_run (P := Try.prog) 34 (.tmp 2) ?_ gb292 ?_ s0 Try.underlying34 rfl (by kernel_rfl) rfl
      all_goals rfl
     rotate_left
     ·simp only [Act.put, List.setIfInBounds_toArray, List.set_cons_zero, List.set_cons_succ, i64_w, i32_w]
      rfl
     refine tk 4 27 8 159 HT_ HW_ hHeld ?_; refine one_ (i := 5) (N := some 28) (bA 8 191) rfl rfl (one_of HT_.out (by kernel_rfl)) (by decide) (fun K hK => ?_); refine gs Try.func96 #[.agg (mixA (Value.int .u16) [.int .i8 a0_0, .int .i8 a0_1] a0_2), .agg #[.int .i8 ((rd_T36 x6_1 x7_1).f0), .int .i8 ((rd_T36 x6_1 x7_1).f1)]] ?_; with_reducible refine (impl_Room_beside.calls k1 a0_0 a0_1 a0_2 ((rd_T36 x6_1 x7_1).f0) ((rd_T36 x6_1 x7_1).f1) t299 _ A13.out).mono ?_
     rintro e w16 ⟨v300, rfl, ho0, hb⟩
     have HS1_ := (hb.cell (World.block_lt_of_cell? _ _ (hHeld.2.1))).trans (hHeld.2.1); have HS2_ := (hb.cell (World.block_lt_of_cell? _ _ (hHeld.2.2))).trans (hHeld.2.2); refine ⟨_, rfl, ?_⟩; have n0_ := Aside0.mk (Kd.R_elder' (by (with_reducible repeat (first | apply Kd.R_alloc | apply Kd.R_drewN | apply Kd.R_drew)); exact HO_6.out) (Kd.R_base ho0) hb); have n1_ := Aside0.mk (Kd.R_lower (Kd.R_newB (Kd.R_new' ho0 (Kd.R_lt (by (with_reducible repeat (first | apply Kd.R_alloc | apply Kd.R_drewN | apply Kd.R_drew)); exact HO_6.out))) (g := gb293) (o := .cells #[.int .i8 a1_0, .int .i8 a1_1] 36 (0, 0)) (pk BK293)) (below_size (by repeat (first | (with_reducible first | exact HB.out | apply below_alloc | apply pw_below_drewN | apply below_drew1 | refine below_set ?_ GE292.out | refine below_set ?_ GE293.out | refine below_set ?_ GE294.out) | exact HB.out)))); have n2_ := bkb BK292 hb; have n3_ := bkb BK293 hb; have n4_ := bkb BK294 hb; have n5_ := bst HB hb; clear HO_6; clear BK292; clear BK293; clear BK294; clear HB; have HO_6 := n0_; have HO301 := n1_; have BK292 := n2_; have BK293 := n3_; have BK294 := n4_; have HB := n5_; clear n0_ n1_ n2_ n3_ n4_ n5_; (try clear hb); (try clear hb2); (try clear hk); (try clear hi); (try clear ho0); obtain ⟨Ao17, co17, eo17⟩ := Kd.R_slice HO301.out; (first | subst eo17 | (injection eo17 with f1_ f2_ f3_; have f4_ := f1_.symm; have f5_ := f3_.symm; clear f1_ f2_ f3_; subst f4_; subst f5_)); refine hK.out _ _ ⟨mix_range BK292.out, HS1_, HS2_⟩ (fun hHeld => ?_); clear hK K; refine nm 28 ?_; refine pu 6 29 8 255 HT_ ?_; refine done_ (done_of HT_.out (by kernel_rfl)) ?_
     try go_wp2
     go_loopg [6, 30] k1 (fun kq v6 v30 w' => ∃ (x6_2 : List (S36)) (x30_2 : Int) (x295000_2 : MP), v30 = .int .i64 x30_2 ∧ Aside0 (impl_Room_steps.l1 kq x6_2 x7_1 t299 (t299.length : Int) x30_2 a0_0 a0_1 a0_2 x295000_2 = some r) ∧ Aside0 (kq ≤ k1) ∧ Aside0 (Kd.R k36 36 w' w.heap.size (fun k_ => some k_ ≠ ((.slice Ao17 t299.length co17) : Value).ownBlock ∧ k_ ≠ gb293) v6 x6_2) ∧ Aside0 (Kd.R k36 36 w' w.heap.size (fun k_ => some k_ ≠ (v6 : Value).ownBlock ∧ k_ ≠ gb293) (.slice Ao17 t299.length co17) t299) ∧ Aside0 (w'.heap[gb292]? = some (.cells (mixA (Value.int .u16) [.int .i8 a0_0, .int .i8 a0_1] a0_2) 34 (0, 0))) ∧ Aside0 (w'.heap[gb293]? = some (.cells #[.int .i8 a1_0, .int .i8 a1_1] 36 (0, 0))) ∧ Aside0 (w'.heap[gb294]? = some (obM x295000_2)) ∧ Aside0 (Below w.heap.size w w'))
     case atStart => exact ⟨(x6_1), (0), (x295000_1), (by first | rfl | (simp; done) | (simp [*]; done)), H', ⟨Nat.le_refl _⟩, ⟨by (with_reducible repeat (first | apply Kd.R_alloc | apply Kd.R_drewN | apply Kd.R_drew)); exact Kd.R_mono HO_6.out (fun _ hk => ⟨hk.2, hk.1⟩)⟩, ⟨by (with_reducible repeat (first | apply Kd.R_alloc | apply Kd.R_drewN | apply Kd.R_drew)); exact Kd.R_mono HO301.out (fun _ hk => ⟨hk.1.2, hk.2⟩)⟩, ⟨pk BK292⟩, ⟨pk BK293⟩, ⟨pk BK294⟩, ⟨pbs HB⟩⟩
     case round =>
      clear H'
      try clear c1
      try clear c2
      try clear p2
      try clear q2
      try clear hx2
      try clear c7
      try clear c9
      try clear c11
      try clear c11b0
      try clear c12
      try clear c12b0
      try clear hx298_0
      try clear hx298_1
      try clear p2
      try clear p298
      try clear q298
      obtain ⟨x6_2, x30_2, x295000_2, rfl, HA, HK2, HO_6, HO_28, BK292, BK293, BK294, HB⟩ := hrel
      cases gk with
      | zero => exact absurd HA.out (by simp [impl_Room_steps.l1])
      | succ k2 =>
       have H := HA.out; clear HA; simp only [impl_Room_steps.l1] at H
       by_cases c19 : x30_2 < (t299.length : Int)
       ·rw [if_pos c19] at H
        have c19b0 : decide (x30_2 < (t299.length : Int)) = true := decide_eq_true c19; clear c19
        by_cases c20 : 0 ≤ x30_2
        ·rw [if_pos c20] at H
         have c20b0 : decide (0 ≤ x30_2) = true := decide_eq_true c20; clear c20
         by_cases c21 : x30_2 < (t299.length : Int)
         ·rw [if_pos c21] at H
          have c21b0 : decide (x30_2 < (t299.length : Int)) = true := decide_eq_true c21; clear c21
          by_cases c22 : mhas x295000_2 ((rd_T36 t299 x30_2).f0) ((rd_T36 t299 x30_2).f1) = true
          ·rw [if_pos c22] at H
           have c22b0 : mhas x295000_2 ((rd_T36 t299 x30_2).f0) ((rd_T36 t299 x30_2).f1) = true := c22; clear c22; have H' := Aside0.mk H; clear H; have p302 : 0 ≤ (x30_2 : Int) := oda; have q302 : x30_2 < (t299.length : Int) := oda; obtain ⟨ad302, e302, hx302_0, hx302_1⟩ := at_T36 (Kd.R_reads' HO_28.out).2.2 x30_2 p302 q302; cases e302; replace p302 := eq_true p302; replace q302 := eq_true q302
           go_wp2_with (first | ((with_reducible refine gate_dst (N := 9) rfl ?_); refine box_event ?hg (N := 9) ?hd (cs := #[.int .i8 0, .int .i8 0]) (t := 36) ?hr ?_; (case hd => rfl); (case hg => rfl); (case hr => first | (go_simp; done) | (go_simp; rfl)); intro gb303 hg w23 hbox hb; have n0_ := Aside0.mk (Kd.R_below (Kd.R_elderB (by (with_reducible repeat (first | apply Kd.R_alloc | apply Kd.R_drewN | apply Kd.R_drew)); exact HO_6.out) gb303 (Nat.le_of_eq hg.symm)) hb); have n1_ := Aside0.mk (Kd.R_below (Kd.R_elderB (by (with_reducible repeat (first | apply Kd.R_alloc | apply Kd.R_drewN | apply Kd.R_drew)); exact HO_28.out) gb303 (Nat.le_of_eq hg.symm)) hb); have n2_ := bkb BK292 hb; have n3_ := bkb BK293 hb; have n4_ := bkb BK294 hb; have n5_ := bst HB hb; have n6_ := Aside0.mk (hbox); have n7_ := gwl HB hg; have n8_ := gwl HB hg; have n9_ := nbl BK292 hg; have n10_ := nbg BK292 hg; have n11_ := nbl BK293 hg; have n12_ := nbg BK293 hg; have n13_ := nbl BK294 hg; have n14_ := nbg BK294 hg; clear HO_6; clear HO_28; clear BK292; clear BK293; clear BK294; clear HB; have HO_6 := n0_; have HO_28 := n1_; have BK292 := n2_; have BK293 := n3_; have BK294 := n4_; have HB := n5_; have BK303 := n6_; have GW303 := n7_; have GE303 := n8_; have NB292_303 := n9_; have NB303_292 := n10_; have NB293_303 := n11_; have NB303_293 := n12_; have NB294_303 := n13_; have NB303_294 := n14_; clear n0_ n1_ n2_ n3_ n4_ n5_ n6_ n7_ n8_ n9_ n10_ n11_ n12_ n13_ n14_; clear hb hbox hg; have hnb24 := NB303_292.out; have hnc24 := NB292_303.out; have hnb25 := NB303_293.out; have hnc25 := NB293_303.out; have hnb26 := NB303_294.out; have hnc26 := NB294_303.out; have hcz27_0 : w23.cell? ⟨gb303, 0, none⟩ = some (.int .i8 0) := (blk_cell BK303.out 0).trans rfl; have hcz27_1 : w23.cell? ⟨gb303, 1, none⟩ = some (.int .i8 0) := (blk_cell BK303.out 1).trans rfl; have hfz27_0 := blk_frozen BK303.out 0; have hfz27_1 := blk_frozen BK303.out 1) | ((with_reducible refine gate_dst (N := 37) rfl ?_); refine wpList_run0 (v := .tuple #[.int .i64 (mval x295000_2 ((rd_T36 t299 x30_2).f0) ((rd_T36 t299 x30_2).f1)), .bool (mhas x295000_2 ((rd_T36 t299 x30_2).f0) ((rd_T36 t299 x30_2).f1))]) rfl (look_run1 (.tmp 35) (.tmp 36) rfl gb294 rfl ((rd_T36 t299 x30_2).f0) ((rd_T36 t299 x30_2).f1) rfl x295000_2 (show (World.heap _)[gb294]? = some (obM x295000_2) from (show (World.heap _)[gb294]? = some (obM x295000_2) from by (with_reducible repeat (first | refine blk_drewN ?_ _ | refine blk_drew ?_ | refine blk_alloc ?_ _)); refine blk_farO ?_ NB294_303.out _; (with_reducible repeat (first | refine blk_drewN ?_ _ | refine blk_drew ?_ | refine blk_alloc ?_ _)); refine blk_farO ?_ NB294_303.out _; (with_reducible repeat (first | refine blk_drewN ?_ _ | refine blk_drew ?_ | refine blk_alloc ?_ _)); exact BK294.out))) ?_))
           go_roundg k2
           case measure => have := HK1.out; have := HK2.out; omega
           case rel => exact ⟨(x6_2), (wrap64 (x30_2 + 1)), (x295000_2), (by first | rfl | (simp; done) | (simp [*]; done)), H', ⟨by have := HK1.out; have := HK2.out; omega⟩, ⟨by (with_reducible repeat (first | apply Kd.R_alloc | apply Kd.R_drewN | apply Kd.R_drew)); exact Kd.R_mono (Kd.R_far (p := ⟨gb303, 1, none⟩) (Kd.R_far (p := ⟨gb303, 0, none⟩) (Kd.R_mono HO_6.out (fun k_ hk => (⟨hk, hk.2⟩ : _ ∧ k_ ≠ gb303))) (fun _ hk => hk.2) (.int .i8 ((rd_T36 t299 x30_2).f0))) (fun _ hk => hk.2) (.int .i8 ((rd_T36 t299 x30_2).f1))) (fun _ hk => ⟨hk.1.1.1, hk.1.1.2⟩)⟩, ⟨by (with_reducible repeat (first | apply Kd.R_alloc | apply Kd.R_drewN | apply Kd.R_drew)); exact Kd.R_mono (Kd.R_far (p := ⟨gb303, 1, none⟩) (Kd.R_far (p := ⟨gb303, 0, none⟩) (Kd.R_mono HO_28.out (fun k_ hk => (⟨hk, hk.2⟩ : _ ∧ k_ ≠ gb303))) (fun _ hk => hk.2) (.int .i8 ((rd_T36 t299 x30_2).f0))) (fun _ hk => hk.2) (.int .i8 ((rd_T36 t299 x30_2).f1))) (fun _ hk => ⟨hk.1.1.1, hk.1.1.2⟩)⟩, ⟨by (with_reducible repeat (first | refine blk_drewN ?_ _ | refine blk_drew ?_ | refine blk_alloc ?_ _)); refine blk_far ?_ NB292_303.out _; (with_reducible repeat (first | refine blk_drewN ?_ _ | refine blk_drew ?_ | refine blk_alloc ?_ _)); refine blk_far ?_ NB292_303.out _; (with_reducible repeat (first | refine blk_drewN ?_ _ | refine blk_drew ?_ | refine blk_alloc ?_ _)); exact BK292.out⟩, ⟨by (with_reducible repeat (first | refine blk_drewN ?_ _ | refine blk_drew ?_ | refine blk_alloc ?_ _)); refine blk_far ?_ NB293_303.out _; (with_reducible repeat (first | refine blk_drewN ?_ _ | refine blk_drew ?_ | refine blk_alloc ?_ _)); refine blk_far ?_ NB293_303.out _; (with_reducible repeat (first | refine blk_drewN ?_ _ | refine blk_drew ?_ | refine blk_alloc ?_ _)); exact BK293.out⟩, ⟨by (with_reducible repeat (first | refine blk_drewN ?_ _ | refine blk_drew ?_ | refine blk_alloc ?_ _)); refine blk_farO ?_ NB294_303.out _; (with_reducible repeat (first | refine blk_drewN ?_ _ | refine blk_drew ?_ | refine blk_alloc ?_ _)); refine blk_farO ?_ NB294_303.out _; (with_reducible repeat (first | refine blk_drewN ?_ _ | refine blk_drew ?_ | refine blk_alloc ?_ _)); exact BK294.out⟩, ⟨pbs HB⟩⟩
          ·rw [if_neg c22] at H
           have c22b0 : mhas x295000_2 ((rd_T36 t299 x30_2).f0) ((rd_T36 t299 x30_2).f1) = false := by simpa using c22
           clear c22
           by_cases c29 : 0 ≤ x7_1
           ·rw [if_pos c29] at H
            have c29b0 : decide (0 ≤ x7_1) = true := decide_eq_true c29; clear c29
            by_cases c30 : x7_1 < (x6_2.length : Int)
            ·rw [if_pos c30] at H
             have c30b0 : decide (x7_1 < (x6_2.length : Int)) = true := decide_eq_true c30; clear c30
             by_cases c31 : x6_2.length < 70368744177664
             ·rw [if_pos c31] at H
              have LMc31 := Aside0.mk c31; clear c31; obtain ⟨y305, hy305⟩ : ∃ y_ : List (S36), y_ = (x6_2 ++ [(⟨(rd_T36 t299 x30_2).f0, (rd_T36 t299 x30_2).f1⟩ : S36)]) := ⟨_, rfl⟩
              replace H : (impl_Room_steps.l1 k2 y305 x7_1 t299 (t299.length : Int) (wrap64 (x30_2 + 1)) a0_0 a0_1 a0_2 (x295000_2 ++ [(((rd_T36 t299 x30_2).f0), ((rd_T36 t299 x30_2).f1), (wrap64 ((mval x295000_2 ((rd_T36 x6_2 x7_1).f0) ((rd_T36 x6_2 x7_1).f1)) + 1)))])) = some r := by first | (rw [hy305]; with_reducible exact H) | (have H2_ := (Option.bind_some _ _).symm.trans H; rw [hy305]; with_reducible exact H2_) | (have H2_ := (Option.bind_some _ _).symm.trans H; with_reducible exact H2_) | with_reducible exact H | (rw [hy305]; exact H) | exact H
              have Ny305 := Aside0.mk hy305; clear hy305; have H' := Aside0.mk H; clear H; have p302 : 0 ≤ (x30_2 : Int) := oda; have q302 : x30_2 < (t299.length : Int) := oda; obtain ⟨ad302, e302, hx302_0, hx302_1⟩ := at_T36 (Kd.R_reads' HO_28.out).2.2 x30_2 p302 q302; cases e302; replace p302 := eq_true p302; replace q302 := eq_true q302
              try go_wp2_with (first | ((with_reducible refine gate_dst (N := 9) rfl ?_); refine box_event ?hg (N := 9) ?hd (cs := #[.int .i8 0, .int .i8 0]) (t := 36) ?hr ?_; (case hd => rfl); (case hg => rfl); (case hr => first | (go_simp; done) | (go_simp; rfl)); intro gb303 hg w32 hbox hb; have n0_ := Aside0.mk (Kd.R_below (Kd.R_elderB (by (with_reducible repeat (first | apply Kd.R_alloc | apply Kd.R_drewN | apply Kd.R_drew)); exact HO_6.out) gb303 (Nat.le_of_eq hg.symm)) hb); have n1_ := Aside0.mk (Kd.R_below (Kd.R_elderB (by (with_reducible repeat (first | apply Kd.R_alloc | apply Kd.R_drewN | apply Kd.R_drew)); exact HO_28.out) gb303 (Nat.le_of_eq hg.symm)) hb); have n2_ := bkb BK292 hb; have n3_ := bkb BK293 hb; have n4_ := bkb BK294 hb; have n5_ := bst HB hb; have n6_ := Aside0.mk (hbox); have n7_ := gwl HB hg; have n8_ := gwl HB hg; have n9_ := nbl BK292 hg; have n10_ := nbg BK292 hg; have n11_ := nbl BK293 hg; have n12_ := nbg BK293 hg; have n13_ := nbl BK294 hg; have n14_ := nbg BK294 hg; clear HO_6; clear HO_28; clear BK292; clear BK293; clear BK294; clear HB; have HO_6 := n0_; have HO_28 := n1_; have BK292 := n2_; have BK293 := n3_; have BK294 := n4_; have HB := n5_; have BK303 := n6_; have GW303 := n7_; have GE303 := n8_; have NB292_303 := n9_; have NB303_292 := n10_; have NB293_303 := n11_; have NB303_293 := n12_; have NB294_303 := n13_; have NB303_294 := n14_; clear n0_ n1_ n2_ n3_ n4_ n5_ n6_ n7_ n8_ n9_ n10_ n11_ n12_ n13_ n14_; clear hb hbox hg; have hnb33 := NB303_292.out; have hnc33 := NB292_303.out; have hnb34 := NB303_293.out; have hnc34 := NB293_303.out; have hnb35 := NB303_294.out; have hnc35 := NB294_303.out; have hcz36_0 : w32.cell? ⟨gb303, 0, none⟩ = some (.int .i8 0) := (blk_cell BK303.out 0).trans rfl; have hcz36_1 : w32.cell? ⟨gb303, 1, none⟩ = some (.int .i8 0) := (blk_cell BK303.out 1).trans rfl; have hfz36_0 := blk_frozen BK303.out 0; have hfz36_1 := blk_frozen BK303.out 1) | ((with_reducible refine gate_dst (N := 37) rfl ?_); refine wpList_run0 (v := .tuple #[.int .i64 (mval x295000_2 ((rd_T36 t299 x30_2).f0) ((rd_T36 t299 x30_2).f1)), .bool (mhas x295000_2 ((rd_T36 t299 x30_2).f0) ((rd_T36 t299 x30_2).f1))]) rfl (look_run1 (.tmp 35) (.tmp 36) rfl gb294 rfl ((rd_T36 t299 x30_2).f0) ((rd_T36 t299 x30_2).f1) rfl x295000_2 (show (World.heap _)[gb294]? = some (obM x295000_2) from (show (World.heap _)[gb294]? = some (obM x295000_2) from by (with_reducible repeat (first | refine blk_drewN ?_ _ | refine blk_drew ?_ | refine blk_alloc ?_ _)); refine blk_farO ?_ NB294_303.out _; (with_reducible repeat (first | refine blk_drewN ?_ _ | refine blk_drew ?_ | refine blk_alloc ?_ _)); refine blk_farO ?_ NB294_303.out _; (with_reducible repeat (first | refine blk_drewN ?_ _ | refine blk_drew ?_ | refine blk_alloc ?_ _)); exact BK294.out))) ?_))
              have n0_ : Aside0 (Kd.R k36 36 ((w32.setCell ⟨gb303, 0, none⟩ (.int .i8 ((rd_T36 t299 x30_2).f0))).setCell ⟨gb303, 1, none⟩ (.int .i8 ((rd_T36 t299 x30_2).f1))) w.heap.size (fun k_ => some k_ ≠ (.slice (some ad302) t299.length co17 : Value).ownBlock ∧ k_ ≠ gb293 ∧ k_ ≠ gb303) u6 x6_2) := ⟨by (with_reducible repeat (first | apply Kd.R_alloc | apply Kd.R_drewN | apply Kd.R_drew)); exact Kd.R_mono (Kd.R_far (p := ⟨gb303, 1, none⟩) (Kd.R_far (p := ⟨gb303, 0, none⟩) (Kd.R_mono HO_6.out (fun k_ hk => (⟨hk, hk.2⟩ : _ ∧ k_ ≠ gb303))) (fun _ hk => hk.2) (.int .i8 ((rd_T36 t299 x30_2).f0))) (fun _ hk => hk.2) (.int .i8 ((rd_T36 t299 x30_2).f1))) (fun _ hk => ⟨hk.1.1.1, ⟨hk.1.1.2, hk.1.2⟩⟩)⟩; have n1_ : Aside0 (Kd.R k36 36 ((w32.setCell ⟨gb303, 0, none⟩ (.int .i8 ((rd_T36 t299 x30_2).f0))).setCell ⟨gb303, 1, none⟩ (.int .i8 ((rd_T36 t299 x30_2).f1))) w.heap.size (fun k_ => some k_ ≠ (u6 : Value).ownBlock ∧ k_ ≠ gb293 ∧ k_ ≠ gb303) (.slice (some ad302) t299.length co17) t299) := ⟨by (with_reducible repeat (first | apply Kd.R_alloc | apply Kd.R_drewN | apply Kd.R_drew)); exact Kd.R_mono (Kd.R_far (p := ⟨gb303, 1, none⟩) (Kd.R_far (p := ⟨gb303, 0, none⟩) (Kd.R_mono HO_28.out (fun k_ hk => (⟨hk, hk.2⟩ : _ ∧ k_ ≠ gb303))) (fun _ hk => hk.2) (.int .i8 ((rd_T36 t299 x30_2).f0))) (fun _ hk => hk.2) (.int .i8 ((rd_T36 t299 x30_2).f1))) (fun _ hk => ⟨hk.1.1.1, ⟨hk.1.1.2, hk.1.2⟩⟩)⟩; have n2_ : Aside0 (((w32.setCell ⟨gb303, 0, none⟩ (.int .i8 ((rd_T36 t299 x30_2).f0))).setCell ⟨gb303, 1, none⟩ (.int .i8 ((rd_T36 t299 x30_2).f1))).heap[gb292]? = some (.cells (mixA (Value.int .u16) [.int .i8 a0_0, .int .i8 a0_1] a0_2) 34 (0, 0))) := ⟨by (with_reducible repeat (first | refine blk_drewN ?_ _ | refine blk_drew ?_ | refine blk_alloc ?_ _)); refine blk_far ?_ NB292_303.out _; (with_reducible repeat (first | refine blk_drewN ?_ _ | refine blk_drew ?_ | refine blk_alloc ?_ _)); refine blk_far ?_ NB292_303.out _; (with_reducible repeat (first | refine blk_drewN ?_ _ | refine blk_drew ?_ | refine blk_alloc ?_ _)); exact BK292.out⟩; have n3_ : Aside0 (((w32.setCell ⟨gb303, 0, none⟩ (.int .i8 ((rd_T36 t299 x30_2).f0))).setCell ⟨gb303, 1, none⟩ (.int .i8 ((rd_T36 t299 x30_2).f1))).heap[gb293]? = some (.cells #[.int .i8 a1_0, .int .i8 a1_1] 36 (0, 0))) := ⟨by (with_reducible repeat (first | refine blk_drewN ?_ _ | refine blk_drew ?_ | refine blk_alloc ?_ _)); refine blk_far ?_ NB293_303.out _; (with_reducible repeat (first | refine blk_drewN ?_ _ | refine blk_drew ?_ | refine blk_alloc ?_ _)); refine blk_far ?_ NB293_303.out _; (with_reducible repeat (first | refine blk_drewN ?_ _ | refine blk_drew ?_ | refine blk_alloc ?_ _)); exact BK293.out⟩; have n4_ : Aside0 (((w32.setCell ⟨gb303, 0, none⟩ (.int .i8 ((rd_T36 t299 x30_2).f0))).setCell ⟨gb303, 1, none⟩ (.int .i8 ((rd_T36 t299 x30_2).f1))).heap[gb294]? = some (obM x295000_2)) := ⟨by (with_reducible repeat (first | refine blk_drewN ?_ _ | refine blk_drew ?_ | refine blk_alloc ?_ _)); refine blk_farO ?_ NB294_303.out _; (with_reducible repeat (first | refine blk_drewN ?_ _ | refine blk_drew ?_ | refine blk_alloc ?_ _)); refine blk_farO ?_ NB294_303.out _; (with_reducible repeat (first | refine blk_drewN ?_ _ | refine blk_drew ?_ | refine blk_alloc ?_ _)); exact BK294.out⟩; have n5_ : Aside0 (((w32.setCell ⟨gb303, 0, none⟩ (.int .i8 ((rd_T36 t299 x30_2).f0))).setCell ⟨gb303, 1, none⟩ (.int .i8 ((rd_T36 t299 x30_2).f1))).heap[gb303]? = some (.cells #[.int .i8 ((rd_T36 t299 x30_2).f0), .int .i8 ((rd_T36 t299 x30_2).f1)] 36 (0, 0))) := ⟨by (with_reducible repeat (first | refine blk_drewN ?_ _ | refine blk_drew ?_ | refine blk_alloc ?_ _)); refine blk_put (cs := #[.int .i8 ((rd_T36 t299 x30_2).f0), .int .i8 0]) ?_ 1 _ rfl; (with_reducible repeat (first | refine blk_drewN ?_ _ | refine blk_drew ?_ | refine blk_alloc ?_ _)); refine blk_put (cs := #[.int .i8 0, .int .i8 0]) ?_ 0 _ rfl; (with_reducible repeat (first | refine blk_drewN ?_ _ | refine blk_drew ?_ | refine blk_alloc ?_ _)); exact BK303.out⟩; have n6_ : Aside0 (Below w.heap.size w ((w32.setCell ⟨gb303, 0, none⟩ (.int .i8 ((rd_T36 t299 x30_2).f0))).setCell ⟨gb303, 1, none⟩ (.int .i8 ((rd_T36 t299 x30_2).f1)))) := ⟨pbs HB⟩
              (try clear HO_6); (try clear HO_28); (try clear BK292); (try clear BK293); (try clear BK294); (try clear BK303); (try clear HB); generalize ((w32.setCell ⟨gb303, 0, none⟩ (.int .i8 ((rd_T36 t299 x30_2).f0))).setCell ⟨gb303, 1, none⟩ (.int .i8 ((rd_T36 t299 x30_2).f1))) = w38 at n0_ n1_ n2_ n3_ n4_ n5_ n6_ ⊢; have HO_6 := n0_; have HO_28 := n1_; have BK292 := n2_; have BK293 := n3_; have BK294 := n4_; have BK303 := n5_; have HB := n6_; clear n0_ n1_ n2_ n3_ n4_ n5_ n6_; replace HO_6 := Aside0.mk (Kd.R_drew HO_6.out); replace HO_28 := Aside0.mk (Kd.R_drew HO_28.out); replace BK292 := Aside0.mk (blk_drew BK292.out); replace BK293 := Aside0.mk (blk_drew BK293.out); replace BK294 := Aside0.mk (blk_drew BK294.out); replace BK303 := Aside0.mk (blk_drew BK303.out); replace HB := Aside0.mk (below_drew1 HB.out); obtain ⟨Ao40, co40, eo40⟩ := Kd.R_slice HO_6.out; (first | subst eo40 | (injection eo40 with f1_ f2_ f3_; have f4_ := f1_.symm; have f5_ := f3_.symm; clear f1_ f2_ f3_; subst f4_; subst f5_)); have p304 : 0 ≤ (x7_1 : Int) := oda; have q304 : x7_1 < (x6_2.length : Int) := oda; obtain ⟨ad304, e304, hx304_0, hx304_1⟩ := at_T36 (Kd.R_reads' HO_6.out).2.2 x7_1 p304 q304; cases e304; replace p304 := eq_true p304; replace q304 := eq_true q304
              refine start_ (n := 10) (S := fun w' => w'.cell? ⟨gb303, 0, none⟩ = some (.int .i8 ((rd_T36 t299 x30_2).f0)) ∧ w'.cell? ⟨gb303, 1, none⟩ = some (.int .i8 ((rd_T36 t299 x30_2).f1)) ∧ (World.heap w')[gb294]? = some (obM x295000_2) ∧ w'.cell? (ad304.add ((x7_1).toNat * 2)) = some (.int .i8 ((rd_T36 x6_2 x7_1).f0)) ∧ w'.cell? ⟨(ad304.add ((x7_1).toNat * 2)).block, (ad304.add ((x7_1).toNat * 2)).off + 1, none⟩ = some (.int .i8 ((rd_T36 x6_2 x7_1).f1))) (ds := [9]) (bA 10 0) (by kernel_rfl) rfl rfl ⟨(blk_cell BK303.out 0).trans rfl, (blk_cell BK303.out 1).trans rfl, BK294.out, hx304_0, hx304_1⟩ (fun hHeld => ?_); refine with_tabW impl_Room_steps.tab10 impl_Room_steps.bits10 (fun HT_ HW_ => ?_)
              generalize w38.drew = w39 at HO_6 HO_28 BK292 BK293 BK294 BK303 HB hx304_0 hx304_1 hHeld ⊢; refine pu 0 42 10 1 HT_ ?_; refine pu 2 44 10 5 HT_ ?_; refine pu 3 45 10 13 HT_ ?_; refine pu 4 46 10 29 HT_ ?_; refine pu 5 47 10 61 HT_ ?_; refine tk 1 43 10 63 HT_ HW_ hHeld ?_; refine tk 6 48 10 127 HT_ HW_ hHeld ?_; refine take_ (i := 7) (N := some 49) (v := ?_) (a' := ?_) (bA 10 255) rfl rfl (take_ofW HT_.out HW_.out (by kernel_rfl)) (fun _ _ _ h => h) (Or.inl ⟨by rfl, ?_⟩) hHeld ?_ ?_; rotate_left
              ·rintro w' ⟨s0, s1, s2, s3, s4⟩
               refine look_run0 (.tmp 44) (.tmp 48) ?_ gb294 ?_ ((rd_T36 x6_2 x7_1).f0) ((rd_T36 x6_2 x7_1).f1) ?_ x295000_2 s2
               all_goals rfl
              rotate_left
              ·simp only [Act.put, List.setIfInBounds_toArray, List.set_cons_zero, List.set_cons_succ, i64_w, i32_w]
               rfl
              refine pu 8 50 10 511 HT_ ?_; refine last_ (i := 9) (N := none) (bA 10 1023) rfl rfl (one_of HT_.out (by kernel_rfl)) (by decide) (fun K hK => ?_); refine step_putM (by rfl) rfl (.tmp 42) (.tmp 43) (.tmp 50) (.inl rfl) gb294 ((rd_T36 t299 x30_2).f0) ((rd_T36 t299 x30_2).f1) (wrap64 ((mval x295000_2 ((rd_T36 x6_2 x7_1).f0) ((rd_T36 x6_2 x7_1).f1)) + 1)) x295000_2 (by (try simp only [List.map_toArray, List.map_cons, List.map_nil]); first | done | rfl | (simp only [List.length_drop, List.length_take]; rfl)) (by (try simp only [List.map_toArray, List.map_cons, List.map_nil]); first | done | rfl | (simp only [List.length_drop, List.length_take]; rfl)) (by (try simp only [List.map_toArray, List.map_cons, List.map_nil]); first | done | rfl | (simp only [List.length_drop, List.length_take]; rfl)) (pk BK294) (by first | assumption | (simp only [Bool.not_eq_true] at *; assumption)) ?_; intro w41 hi hk hbl; replace HO_6 := Aside0.mk (Kd.R_mono (Kd.R_keep (Kd.R_typesM (by (with_reducible repeat (first | apply Kd.R_alloc | apply Kd.R_drewN | apply Kd.R_drew)); exact HO_6.out) (pk BK294)) hk (fun _ h => h.2)) (fun _ h => h.1)); replace HO_28 := Aside0.mk (Kd.R_mono (Kd.R_keep (Kd.R_typesM (by (with_reducible repeat (first | apply Kd.R_alloc | apply Kd.R_drewN | apply Kd.R_drew)); exact HO_28.out) (pk BK294)) hk (fun _ h => h.2)) (fun _ h => h.1)); replace BK292 := Aside0.mk (KeepBut.blk hk (g' := gb292) (o := .cells (mixA (Value.int .u16) [.int .i8 a0_0, .int .i8 a0_1] a0_2) 34 (0, 0)) (pk BK292) NB292_294.out (by simp)); replace BK293 := Aside0.mk (KeepBut.blk hk (g' := gb293) (o := .cells #[.int .i8 a1_0, .int .i8 a1_1] 36 (0, 0)) (pk BK293) NB293_294.out (by simp)); replace BK303 := Aside0.mk (KeepBut.blk hk (g' := gb303) (o := .cells #[.int .i8 ((rd_T36 t299 x30_2).f0), .int .i8 ((rd_T36 t299 x30_2).f1)] 36 (0, 0)) (pk BK303) NB303_294.out (by simp)); replace HB := Aside0.mk (hbl _ _ (pbs HB) GE294.out); replace BK294 := Aside0.mk (hi); clear hi hk hbl; refine hK.out _ _ ?_; clear hK K; refine done_ (done_of HT_.out (by kernel_rfl)) ?_; have hcz43_0 : w41.cell? ⟨gb303, 0, none⟩ = some (.int .i8 ((rd_T36 t299 x30_2).f0)) := bc_ BK303.out 0; have hcz43_1 : w41.cell? ⟨gb303, 1, none⟩ = some (.int .i8 ((rd_T36 t299 x30_2).f1)) := bc_ BK303.out 1; have hfz43_0 := blk_frozen BK303.out 0; have hfz43_1 := blk_frozen BK303.out 1
              try go_wp2_with (first | ((with_reducible refine gate_builtin (b := .append) (xs := #[.tmp 51, .tmp 53]) rfl ?_); at_builtin; refine Kd.R_append k36 (w0 := w) w.heap.size rfl (.tmp 51) (.tmp 53) 38 36 (.agg #[(.int .i8 0), (.int .i8 0)]) 2 rfl Try.underlying38 info36 rfl (by decide) (by omega) (.slice (some ad304) x6_2.length co40) x6_2 (⟨(rd_T36 t299 x30_2).f0, (rd_T36 t299 x30_2).f1⟩ : S36) [.int .i8 ((rd_T36 t299 x30_2).f0), .int .i8 ((rd_T36 t299 x30_2).f1)] (fun k_ => some k_ ≠ (.slice (some ad302) t299.length co17 : Value).ownBlock ∧ k_ ≠ gb293 ∧ k_ ≠ gb303) (fun _ => False) rfl rfl ?aP (fun _ hk => hk.elim) ?aF ?aO ?aB ?aS ?aL ?_; (case aP => exact k36_mkM _ _ _ (⟨(rd_T36 t299 x30_2).f0, (rd_T36 t299 x30_2).f1⟩ : S36)); (case aB => exact (pbs HB)); (case aF => exact (fun k_ hk => ⟨Kd.fresh' (Kd.R_lt (by (with_reducible repeat (first | apply Kd.R_alloc | apply Kd.R_drewN | apply Kd.R_drew)); exact HO_28.out)) k_ hk, Kd.freshB (g := gb293) (o := .cells #[.int .i8 a1_0, .int .i8 a1_1] 36 (0, 0)) (pk BK293) k_ hk, Kd.freshB (g := gb303) (o := .cells #[.int .i8 ((rd_T36 t299 x30_2).f0), .int .i8 ((rd_T36 t299 x30_2).f1)] 36 (0, 0)) (pk BK303) k_ hk⟩)); (case aO => exact (by (with_reducible repeat (first | apply Kd.R_alloc | apply Kd.R_drewN | apply Kd.R_drew)); exact HO_6.out)); (case aS => exact (below_size (by repeat (first | (with_reducible first | exact HB.out | apply below_alloc | apply pw_below_drewN | apply below_drew1 | refine below_set ?_ GE292.out | refine below_set ?_ GE293.out | refine below_set ?_ GE294.out | refine below_set ?_ GE303.out) | exact HB.out)))); (case aL => have := LMc31.out; omega); intro v306 w44 ho hb hg hat; rw [← Ny305.out] at ho; have n0_ := Aside0.mk (Kd.R_after (ok := (fun k_ => k_ ≠ gb293 ∧ k_ ≠ gb303)) (by (with_reducible repeat (first | apply Kd.R_alloc | apply Kd.R_drewN | apply Kd.R_drew)); exact Kd.R_mono HO_28.out (fun _ hk => ⟨⟨hk.2.1, hk.2.2⟩, hk.1⟩)) hg hat); have n1_ := Aside0.mk (blk_grown (g := gb292) (o := .cells (mixA (Value.int .u16) [.int .i8 a0_0, .int .i8 a0_1] a0_2) 34 (0, 0)) (pk BK292) hg (Kd.R_ne HO_6.out BK292.out (by decide))); have n2_ := Aside0.mk (blk_grown (g := gb293) (o := .cells #[.int .i8 a1_0, .int .i8 a1_1] 36 (0, 0)) (pk BK293) hg (Kd.R_away HO_6.out (fun _ hk => hk.2.1))); have n3_ := Aside0.mk (blk_grown (g := gb294) (o := obM (x295000_2 ++ [(((rd_T36 t299 x30_2).f0), ((rd_T36 t299 x30_2).f1), (wrap64 ((mval x295000_2 ((rd_T36 x6_2 x7_1).f0) ((rd_T36 x6_2 x7_1).f1)) + 1)))])) (pk BK294) hg (Kd.R_neM HO_6.out BK294.out)); have n4_ := Aside0.mk (blk_grown (g := gb303) (o := .cells #[.int .i8 ((rd_T36 t299 x30_2).f0), .int .i8 ((rd_T36 t299 x30_2).f1)] 36 (0, 0)) (pk BK303) hg (Kd.R_away HO_6.out (fun _ hk => hk.2.2))); have n5_ := Aside0.mk (hb); have n6_ := Aside0.mk (ho); clear HO_28; clear BK292; clear BK293; clear BK294; clear BK303; clear HB; clear HO_6; have HO_28 := n0_; have BK292 := n1_; have BK293 := n2_; have BK294 := n3_; have BK303 := n4_; have HB := n5_; have HO307 := n6_; clear n0_ n1_ n2_ n3_ n4_ n5_ n6_; clear ho hb hg hat))
              go_roundg k2
              case measure => have := HK1.out; have := HK2.out; omega
              case rel => exact ⟨(y305), (wrap64 (x30_2 + 1)), ((x295000_2 ++ [(((rd_T36 t299 x30_2).f0), ((rd_T36 t299 x30_2).f1), (wrap64 ((mval x295000_2 ((rd_T36 x6_2 x7_1).f0) ((rd_T36 x6_2 x7_1).f1)) + 1)))])), (by first | rfl | (simp; done) | (simp [*]; done)), H', ⟨by have := HK1.out; have := HK2.out; omega⟩, ⟨by (with_reducible repeat (first | apply Kd.R_alloc | apply Kd.R_drewN | apply Kd.R_drew)); exact Kd.R_mono HO307.out (fun _ hk => ⟨hk.1, hk.2.1⟩)⟩, ⟨by (with_reducible repeat (first | apply Kd.R_alloc | apply Kd.R_drewN | apply Kd.R_drew)); exact Kd.R_mono HO_28.out (fun _ hk => ⟨hk.2, hk.1.1⟩)⟩, ⟨pk BK292⟩, ⟨pk BK293⟩, ⟨pk BK294⟩, ⟨pbs HB⟩⟩
             ·rw [if_neg c31] at H
              exact absurd H (by simp)
            ·rw [if_neg c30] at H
             exact absurd H (by simp)
           ·rw [if_neg c29] at H
            exact absurd H (by simp)
         ·rw [if_neg c21] at H
          exact absurd H (by simp)
        ·rw [if_neg c20] at H
         exact absurd H (by simp)
       ·rw [if_neg c19] at H
        have c19b0 : decide (x30_2 < (t299.length : Int)) = false := decide_eq_false c19; clear c19; have H' := Aside0.mk H; clear H
        go_wp2
        go_roundg k2
        case measure => have := HK1.out; have := HK2.out; omega
        case rel => exact ⟨(x6_2), (wrap64 (x7_1 + 1)), (x295000_2), (by first | rfl | (simp; done) | (simp [*]; done)), H', ⟨by have := HK1.out; have := HK2.out; omega⟩, ⟨by (with_reducible repeat (first | apply Kd.R_alloc | apply Kd.R_drewN | apply Kd.R_drew)); exact Kd.R_mono HO_6.out (fun _ hk => hk.2)⟩, ⟨pk BK292⟩, ⟨pk BK293⟩, ⟨pk BK294⟩, ⟨pbs HB⟩⟩
    ·rw [if_neg c12] at H
     exact absurd H (by simp)
   ·rw [if_neg c11] at H
    have c11b0 : decide (x7_1 < (x6_1.length : Int)) = false := decide_eq_false c11; clear c11; obtain rfl := Option.some.inj H; obtain ⟨Ao45, co45, eo45⟩ := Kd.R_slice HO_6.out; subst eo45
    go_wp2
    go_ret
    exact ⟨_, rfl, (pk BK294), GW294.out, pbs HB⟩
end Go.Proofs.Ytanobaoaelhebaa.PB
end
section
namespace Go.Proofs.Ytanobaoaelhebaa.PB
open Go.RowKit Go.Proofs.YtanobaoaelhebaaW.PrintWords Go.Proofs.YtanobaoaelhebaaW.PrintLast Go.Proofs.YtanobaoaelhebaaW.PrintMore Go.Proofs.Ytanobaoaelhebaa.La Go.Proofs.Ytanobaoaelhebaa.Mp
attribute [local go_sem] max2_int min2_int max_two min_two max_three min_three max_four min_four   -- for this text's walks alone
set_option linter.unusedVariables false
set_option linter.unusedSimpArgs false
def kMap : Kd Nat := Kd.scalar (fun g => Value.map (some g)) (fun _ => rfl)
theorem wpList_store_whole {P : Program} {ops : Array Oper} {rest : List Oper} {op : Oper} {a : Act} {w : World} {Q : Exit → Act → World → Prop} (hgd : op.guard = none) (ty : TypeId) (x y : Operand) (ho : op.op = .store ty x y)
    (b : Nat) (cells cs : Array Value) {T : TypeId} (hx : a.eval x = .pointer (some ⟨b, 0, none⟩)) (hy : a.eval y = .agg cells) (hb : w.heap[b]? = some (.cells cs T (0, 0))) (hs : cells.size = cs.size)
    (hi : (P.info? ty).map (·.size) = some cells.size) (h1 : cells.all (·.oneCell') = true)
    (h : ∀ w1, w1.heap[b]? = some (.cells cells T (0, 0)) → KeepBut w w1 b none → (∀ B a, Below B a w → B ≤ b → Below B a w1) → wpList P ops Q rest (a.put op.dst undef) w1) : wpList P ops Q (op :: rest) a w := by
  have hb' : w.heap[b]? = some (.cells cs.toList.toArray T (0, 0)) := by simpa using hb
  have hl : cells.toList.length = cs.toList.length := by simpa using hs
  refine wpList_store_mid hgd ty x y ho b 0 cells hx hy (there_blk hb' 0 _ (by simp; omega)) hi h1 (h _ ?_ ?_ (fun B a hB hle => below_setCells hle _ _ _ hB))
  · have := blk_whole hb' hl
    simpa using this
  · refine ⟨?_, fun i _ hne _ => ?_⟩
    · have := (below_setCells (B := 0) (b := b) (by omega) cells.toList 0 w (Below.refl 0 w)).size
      exact this
    · exact heap_setCells_far hne cells.toList 0 w
theorem results_row_tmp {P : Program} {fn : Func} {p u : Tmp} {ty : TypeId} (h : fn.results = #[.cell p ty, .tmp u]) (tmps : Array Value) (w : World) (g : Nat) (t : TypeId) (cs : Array Value) (fr : Nat × Nat) (d : TypeDesc)
    (hp : tmps.getD p undef = .pointer (some ⟨g, 0, none⟩)) (hg : w.heap[g]? = some (.cells cs t fr))
    (hu : P.underlying ty = some d) (hd : (match d with | .struct _ | .array _ _ => true | _ => false) = true) (hi : (P.info? ty).map (·.size) = some cs.size) :
    (results fn tmps).run P w = .ok (.tuple #[.agg cs, tmps.getD u undef]) w := by
  rw [results_cell_tmp h, hp]
  simp [asAddr, run_loadVar_row w g t ty cs fr d hg hu hd hi, Result.andThen]
theorem st_ {P : Program} {ops : Array Oper} {Q : Exit → Act → World → Prop} {S : World → Prop} {ds : List Nat} {id n : Nat} {a : Act} {w : World} (F : World → Prop) (l : Array Bool) (hm : P.follows .mixedOrders = true) (hn : ops.size = n) (hl : Array.replicate n false = l) (hF : F w) (hd : ∀ w', F w' → F w'.drew) (hS : ∀ w', F w' → S w')
    (h : ∀ w1, F w1 → S w1 → wpAnyLast P .any ops Q S ds n l a w1) : (Code.region id ops true).wp P Q a w := start_ l hm hn hl (hS _ (hd _ hF)) (fun hs => h _ (hd _ hF) hs)
structure Srch (W : World) (B : Nat) (g0 : Nat) (M0 : MP) (vf : Value) (gl : List Nat) (Ms : List MP) : Prop where
  m0 : W.heap[g0]? = some (obM M0)
  hf : kMap.R 72 W B (fun k => B ≤ k) vf gl
  ln : gl.length = Ms.length
  hm : ∀ i : Nat, i < gl.length → W.heap[gl.getD i 0]? = some (obM (Ms.getD i []))
theorem Srch.below {W W1 : World} {B g0 : Nat} {M0 : MP} {vf : Value} {gl : List Nat} {Ms : List MP} (h : Srch W B g0 M0 vf gl Ms) (hb : Below W.heap.size W W1) : Srch W1 B g0 M0 vf gl Ms :=
  ⟨(hb.block g0 (blk_lt h.m0)).trans h.m0, Kd.R_below h.hf hb, h.ln, fun i hi => (hb.block _ (blk_lt (h.hm i hi))).trans (h.hm i hi)⟩
theorem Srch.keep {W W1 : World} {B g0 g : Nat} {M0 : MP} {vf : Value} {gl : List Nat} {Ms : List MP} (h : Srch W B g0 M0 vf gl Ms) (hk : KeepBut W W1 g none) {cs : Array Value} {t : TypeId} (hg : W.heap[g]? = some (.cells cs t (0, 0))) (ht : t ≠ 72) : Srch W1 B g0 M0 vf gl Ms := by
  have ne : ∀ {k : Nat} {M : MP}, W.heap[k]? = some (obM M) → k ≠ g := fun hm e => by subst e; exact obM_cells (hm.symm.trans hg)
  refine ⟨(hk.2 g0 (blk_lt h.m0) (ne h.m0) (by simp)).trans h.m0, ?_, h.ln, fun i hi => (hk.2 _ (blk_lt (h.hm i hi)) (ne (h.hm i hi)) (by simp)).trans (h.hm i hi)⟩
  exact Kd.R_mono (Kd.R_keep (Kd.R_types h.hf hg (fun q hq => by
    have : q = 72 := by simpa [kMap, Kd.scalar] using hq
    rw [this]; exact fun e => ht e.symm)) hk (fun _ h => h.2)) (fun _ h => h.1)
theorem Srch.alloc {W : World} {B g0 : Nat} {M0 : MP} {vf : Value} {gl : List Nat} {Ms : List MP} (h : Srch W B g0 M0 vf gl Ms) (o : Obj) : Srch (W.alloc o) B g0 M0 vf gl Ms := h.below (below_alloc (Below.refl _ _) o)
theorem Srch.drew {W : World} {B g0 : Nat} {M0 : MP} {vf : Value} {gl : List Nat} {Ms : List MP} (h : Srch W B g0 M0 vf gl Ms) : Srch W.drew B g0 M0 vf gl Ms := h.below (below_drew (Below.refl _ _))
theorem Srch.drewN {W : World} {B g0 : Nat} {M0 : MP} {vf : Value} {gl : List Nat} {Ms : List MP} (h : Srch W B g0 M0 vf gl Ms) (n : Nat) : Srch (W.drewN n) B g0 M0 vf gl Ms := h.below (pw_below_drewN (Below.refl _ _) n)
theorem Srch.more {W W1 : World} {B g0 g : Nat} {M0 M : MP} {vf vf1 : Value} {gl : List Nat} {Ms : List MP} (h : Srch W B g0 M0 vf gl Ms) (hm : W.heap[g]? = some (obM M)) (hf : kMap.R 72 W1 B (fun k => B ≤ k) vf1 (gl ++ [g])) (hg : W.grownBy W1 vf.ownBlock) : Srch W1 B g0 M0 vf1 (gl ++ [g]) (Ms ++ [M]) := by
  have ne : ∀ {k : Nat} {M : MP}, W.heap[k]? = some (obM M) → W1.heap[k]? = some (obM M) := fun hm => (hg.block _ (blk_lt hm) (Kd.R_neM h.hf hm)).trans hm; have ln := h.ln; refine ⟨ne h.m0, hf, by simp [ln], fun i hi => ?_⟩; rw [List.length_append, List.length_singleton] at hi
  by_cases e : i < gl.length
  · rw [List.getD_eq_getElem?_getD, List.getD_eq_getElem?_getD, List.getElem?_append_left e, List.getElem?_append_left (by omega), ← List.getD_eq_getElem?_getD, ← List.getD_eq_getElem?_getD]
    exact ne (h.hm i e)
  · obtain rfl : i = gl.length := by omega
    have e1 : (gl ++ [g]).getD gl.length 0 = g := by simp [List.getD_eq_getElem?_getD]
    have e2 : (Ms ++ [M]).getD gl.length [] = M := by rw [ln]; simp [List.getD_eq_getElem?_getD]
    rw [e1, e2]; exact ne hm
def impl_Room_searchOf.l0 : Nat → MP → List S36 → Int → List MP → Int → Int → LA 10 → Option (Option (MP × List MP))
  | 0, _, _, _, _, _, _, _ => none
  | k + 1, M0, l, i, Ms, s0, s1, W => if i < (l.length : Int) then (if 0 ≤ i then (if (mhas M0 ((rd_T36 l i).f0) ((rd_T36 l i).f1)) = true then ((impl_Room_steps.f k s0 s1 W ((rd_T36 l i).f0) ((rd_T36 l i).f1)).bind fun M => (if Ms.length < 17592186044415 then impl_Room_searchOf.l0 k M0 l (wrap64 (i + 1)) (Ms ++ [M]) s0 s1 W else none)) else some none) else none) else some (some (M0, Ms))
def impl_Room_searchOf.f (k : Nat) (s0 : Int) (s1 : Int) (W : LA 10) (x : Int) (y : Int) (l : List S36) : Option (Option (MP × List MP)) := (impl_Room_steps.f k s0 s1 W x y).bind fun M0 => impl_Room_searchOf.l0 k M0 l 0 [] s0 s1 W
theorem impl_Room_searchOf.mono_l0 : ∀ k, ∀ y0 y1 y2 y3 y4 y5 y6, LeO (impl_Room_searchOf.l0 k y0 y1 y2 y3 y4 y5 y6) (impl_Room_searchOf.l0 (k + 1) y0 y1 y2 y3 y4 y5 y6)
  | 0 => fun _ _ _ _ _ _ _ r h => by simp [impl_Room_searchOf.l0] at h
  | k + 1 => by
    have ih := impl_Room_searchOf.mono_l0 k; intro y0 y1 y2 y3 y4 y5 y6; unfold impl_Room_searchOf.l0; exact LeO.ite (LeO.ite (LeO.ite (LeO.bind (impl_Room_steps.mono _ _ _ _ _ _) (fun _ => LeO.ite (ih _ _ _ _ _ _ _) (LeO.refl _))) (LeO.refl _)) (LeO.refl _)) (LeO.refl _)
theorem impl_Room_searchOf.mono : ∀ a0 a1 a2 a3 a4 a5 k, LeO (impl_Room_searchOf.f k a0 a1 a2 a3 a4 a5) (impl_Room_searchOf.f (k + 1) a0 a1 a2 a3 a4 a5) := by
  intro a0 a1 a2 a3 a4 a5 k; unfold impl_Room_searchOf.f; exact LeO.bind (impl_Room_steps.mono _ _ _ _ _ _) (fun _ => impl_Room_searchOf.mono_l0 k _ _ _ _ _ _ _)
structure impl_Room_searchOf.SI (w : World) (gr gs go g0 : Nat) (s0 s1 : Int) (W : LA 10) (M0 : MP) (vsp vf : Value) (gl : List Nat) (Ms : List MP) (w1 : World) : Prop where
  hb : Below w.heap.size w w1
  br : w1.heap[gr]? = some (.cells (mixA (Value.int .u16) [.int .i8 s0, .int .i8 s1] W) 34 (0, 0))
  bs : w1.heap[gs]? = some (.cells #[.map (some g0), vf, vsp] 75 (0, 0))
  bo : w1.heap[go]? = some (.cells #[.map none, .slice none 0 0, .slice none 0 0] 75 (0, 0))
  ne : go ≠ gs
  ls : w.heap.size ≤ gs
  lo : w.heap.size ≤ go
  sr : Srch w1 w.heap.size g0 M0 vf gl Ms
section
variable {w w1 w2 : World} {gr gs go g0 g : Nat} {s0 s1 : Int} {W : LA 10} {M0 : MP} {vsp vf vf1 : Value} {gl : List Nat} {Ms : List MP}
theorem impl_Room_searchOf.SI.below (h : impl_Room_searchOf.SI w gr gs go g0 s0 s1 W M0 vsp vf gl Ms w1) (hb : Below w1.heap.size w1 w2) : impl_Room_searchOf.SI w gr gs go g0 s0 s1 W M0 vsp vf gl Ms w2 :=
  ⟨below_step h.hb hb, (hb.block gr (blk_lt h.br)).trans h.br, (hb.block gs (blk_lt h.bs)).trans h.bs, (hb.block go (blk_lt h.bo)).trans h.bo, h.ne, h.ls, h.lo, h.sr.below hb⟩
theorem impl_Room_searchOf.SI.alloc (h : impl_Room_searchOf.SI w gr gs go g0 s0 s1 W M0 vsp vf gl Ms w1) (o : Obj) : impl_Room_searchOf.SI w gr gs go g0 s0 s1 W M0 vsp vf gl Ms (w1.alloc o) := h.below (below_alloc (Below.refl _ _) o)
theorem impl_Room_searchOf.SI.drew (h : impl_Room_searchOf.SI w gr gs go g0 s0 s1 W M0 vsp vf gl Ms w1) : impl_Room_searchOf.SI w gr gs go g0 s0 s1 W M0 vsp vf gl Ms w1.drew := h.below (below_drew (Below.refl _ _))
theorem impl_Room_searchOf.SI.drewN (h : impl_Room_searchOf.SI w gr gs go g0 s0 s1 W M0 vsp vf gl Ms w1) (n : Nat) : impl_Room_searchOf.SI w gr gs go g0 s0 s1 W M0 vsp vf gl Ms (w1.drewN n) := h.below (pw_below_drewN (Below.refl _ _) n)
theorem impl_Room_searchOf.SI.spot (h : impl_Room_searchOf.SI w gr gs go g0 s0 s1 W M0 vsp vf gl Ms w1) {cs : Array Value} (hg : w1.heap[g]? = some (.cells cs 36 (0, 0))) (hk : KeepBut w1 w2 g none) (hb : Below w.heap.size w w2) : impl_Room_searchOf.SI w gr gs go g0 s0 s1 W M0 vsp vf gl Ms w2 :=
  ⟨hb, hk.blk h.br (blk_ne h.br hg (by decide)) (by simp), hk.blk h.bs (blk_ne h.bs hg (by decide)) (by simp), hk.blk h.bo (blk_ne h.bo hg (by decide)) (by simp), h.ne, h.ls, h.lo, h.sr.keep hk hg (by decide)⟩
theorem impl_Room_searchOf.SI.more (h : impl_Room_searchOf.SI w gr gs go g0 s0 s1 W M0 vsp vf gl Ms w1) {M : MP} (hm : w1.heap[g]? = some (obM M)) (hb : Below w.heap.size w w2) (hf : kMap.R 72 w2 w.heap.size (fun k => w.heap.size ≤ k) vf1 (gl ++ [g])) (hg : w1.grownBy w2 vf.ownBlock) :
    impl_Room_searchOf.SI w gr gs go g0 s0 s1 W M0 vsp vf1 (gl ++ [g]) (Ms ++ [M]) (w2.setCell ⟨gs, 1, none⟩ vf1) := by
  have bs := blk_grown h.bs hg (Kd.R_ne h.sr.hf h.bs (by decide)); have hk := setcell_keep w2 gs 1 vf1; have hs := h.sr.more hm hf hg; exact ⟨setcell_below w2 gs 1 vf1 _ _ hb h.ls, hk.blk (blk_grown h.br hg (Kd.R_ne h.sr.hf h.br (by decide))) (blk_ne h.br h.bs (by decide)) (by simp), (blk_put bs 1 vf1 rfl), hk.blk (blk_grown h.bo hg (Kd.R_ne h.sr.hf h.bo (by decide))) h.ne (by simp), h.ne, h.ls, h.lo, hs.keep hk bs (by decide)⟩
end
def impl_Room_searchOf.T8 : Bool × List (List Nat × List Nat) := (true, [([], []), ([0], [0]), ([], []), ([], []), ([2, 3], [2, 3]), ([4], [4]), ([1, 5, 4], [1, 5]), ([0, 1, 2, 3, 4, 5, 6], []), ([7, 6, 6, 0, 1, 2, 3, 4, 5, 6], [6, 7])])
def impl_Room_searchOf.B8 : List Nat := [0, 1, 0, 0, 12, 28, 63, 0, 255]
theorem impl_Room_searchOf.tab8 : rtab .any (opsOf Try.f42 8) = impl_Room_searchOf.T8 := by kernel_rfl
theorem impl_Room_searchOf.bits8 : waitsOk impl_Room_searchOf.T8.2 impl_Room_searchOf.B8 = true := by kernel_rfl
def impl_Room_searchOf.Post (w : World) (A : Option Addr) (c n : Nat) (r : Option (MP × List MP)) (e : Ending) (w' : World) : Prop :=
  Below w.heap.size w w' ∧ match r with
    | none => e = .returned (.tuple #[.agg #[.map none, .slice none 0 0, .slice none 0 0], .bool false])
    | some p => ∃ (g0 : Nat) (vf : Value) (gl : List Nat), e = .returned (.tuple #[.agg #[.map (some g0), vf, .slice A n c], .bool true]) ∧ Srch w' w.heap.size g0 p.1 vf gl p.2
set_option maxHeartbeats 8000000 in
set_option maxRecDepth 100000 in
theorem impl_Room_searchOf.calls (k : Nat) (s0 s1 : Int) (W : LA 10) (x y : Int) (A : Option Addr) (c : Nat) (l : List S36) (r : Option (MP × List MP)) (w : World) (hr : Kd.C k36 w A l.length l) (hc : l.length ≤ c) (h : impl_Room_searchOf.f k s0 s1 W x y l = some r) :
  Calls Try.prog 42 #[.agg (mixA (Value.int .u16) [.int .i8 s0, .int .i8 s1] W), .agg #[.int .i8 x, .int .i8 y], .slice A l.length c] w (impl_Room_searchOf.Post w A c l.length r) := by
  have hu1 := Try.underlying34; have hu2 := Try.underlying36; have HR := Aside0.mk hr; have HC := Aside0.mk hc; clear hr hc; have HB := Aside0.mk (Below.refl w.heap.size w); unfold impl_Room_searchOf.f at h; obtain ⟨M0, A1, H⟩ := obn h; clear h; have H' := Aside0.mk H; clear H; unfold impl_Room_searchOf.Post
  go_enter Try.func42, Try.ntmps42
  go_wp2_with (first | ((with_reducible refine gate_dst (N := 3) rfl ?_); refine box_event ?hg (N := 3) ?hd (cs := (mixA (Value.int .u16) [.int .i8 s0, .int .i8 s1] W)) (t := 34) ?hr ?_; (case hd => rfl); (case hg => rfl); (case hr => first | (go_simp; done) | (go_simp; rfl)); intro gr hg wb hbox hb; have GEgr := gwl HB hg; replace HB := bst HB hb; have Bgr := Aside0.mk hbox; clear hb hbox hg) | ((with_reducible refine gate_dst (N := 4) rfl ?_); refine box_event ?hg (N := 4) ?hd (cs := #[.int .i8 x, .int .i8 y]) (t := 36) ?hr ?_; (case hd => rfl); (case hg => rfl); (case hr => first | (go_simp; done) | (go_simp; rfl)); intro gb hg wb hbox hb; have GEgb := gwl HB hg; replace Bgr := bkb Bgr hb; replace HB := bst HB hb; have Bgb := Aside0.mk hbox; clear hb hbox hg) | ((with_reducible refine gate_dst (N := 6) rfl ?_); refine box_event ?hg (N := 6) ?hd (cs := #[.map none, .slice none 0 0, .slice none 0 0]) (t := 75) ?hr ?_; (case hd => rfl); (case hg => rfl); (case hr => first | (go_simp; done) | (go_simp; rfl)); intro go hg wb hbox hb; have GEgo := gwl HB hg; replace Bgr := bkb Bgr hb; replace Bgb := bkb Bgb hb; replace HB := bst HB hb; have Bgo := Aside0.mk hbox; clear hb hbox hg; have hx0 := (blk_cell Bgb.out 0).trans rfl; have hx1 := (blk_cell Bgb.out 1).trans rfl) | ((with_reducible refine gate_dst (N := 13) rfl ?_); refine wpList_run0 (v := .agg (mixA (Value.int .u16) [.int .i8 s0, .int .i8 s1] W)) rfl (load_mix_run (P := Try.prog) 34 (.tmp 3) rfl gr rfl (show World.rangeAt _ gr 0 ([.int .i8 s0, .int .i8 s1] ++ W.l.map (Value.int .u16)) from mix_range (pk Bgr)) Try.underlying34 rfl (by kernel_rfl) rfl) ?_) | ((with_reducible refine gate_callee (f := 76) rfl ?_); refine La.gl (some 15) Try.func76 #[.agg (mixA (Value.int .u16) [.int .i8 s0, .int .i8 s1] W), .agg #[.int .i8 x, .int .i8 y]] ?_; (with_reducible refine (impl_Room_steps.calls k s0 s1 W x y M0 _ A1.out).mono ?_); rintro e w6 ⟨g0, rfl, hm0, hg0, hb⟩; refine ⟨_, rfl, ?_⟩; replace Bgr := bkb Bgr hb; replace Bgo := bkb Bgo hb; replace HB := bst HB hb; have SR := Aside0.mk (show Srch w6 w.heap.size g0 M0 (.slice none 0 0) [] [] from ⟨hm0, Kd.R_nil _ _ _ _ _, rfl, fun i hi => absurd hi (by simp)⟩); clear hb hm0 hg0 hx0 hx1) | ((with_reducible refine gate_dst (N := 8) rfl ?_); refine box_event ?hg (N := 8) ?hd (cs := #[.map none, .slice none 0 0, .slice none 0 0]) (t := 75) ?hr ?_; (case hd => rfl); (case hg => rfl); (case hr => first | (go_simp; done) | (go_simp; rfl)); intro gs hg wb hbox hb; have GEgs := gwl HB hg; have NE := nbl Bgo hg; replace Bgr := bkb Bgr hb; replace Bgo := bkb Bgo hb; replace SR := Aside0.mk (Srch.below (by (with_reducible repeat (first | apply Srch.alloc | apply Srch.drewN | apply Srch.drew)); exact SR.out) hb); replace HB := bst HB hb; have Bgs := Aside0.mk hbox; clear hb hbox hg) | ((with_reducible refine gate_store (p := 8) rfl ?_); refine wpList_store_whole rfl 75 _ _ rfl gs #[.map (some g0), .slice none 0 0, .slice A l.length c] #[.map none, .slice none 0 0, .slice none 0 0] rfl rfl (pk Bgs) rfl (by kernel_rfl) (by simp [Value.oneCell']) ?_; intro ws hi hk hbl; have HS := Aside0.mk (show impl_Room_searchOf.SI w gr gs go g0 s0 s1 W M0 (.slice A l.length c) (.slice none 0 0) [] [] ws from ⟨hbl _ _ (pbs HB) GEgs.out, hk.blk (pk Bgr) (blk_ne (pk Bgr) (pk Bgs) (by decide)) (by simp), hi, hk.blk (pk Bgo) NE.out (by simp), NE.out, GEgs.out, GEgo.out, Srch.keep (by (with_reducible repeat (first | apply Srch.alloc | apply Srch.drewN | apply Srch.drew)); exact SR.out) hk (pk Bgs) (by decide)⟩); clear hi hk hbl HB Bgr Bgb Bgo Bgs SR))
  go_loopg [20] k (fun kq v20 w' => ∃ (i : Int) (vf : Value) (gl : List Nat) (Ms : List MP), v20 = .int .i64 i ∧ Aside0 (impl_Room_searchOf.l0 kq M0 l i Ms s0 s1 W = some r) ∧ Aside0 (kq ≤ k) ∧ Aside0 (impl_Room_searchOf.SI w gr gs go g0 s0 s1 W M0 (.slice A l.length c) vf gl Ms w'))
  case atStart => exact ⟨0, _, [], [], (by first | rfl | (simp; done) | (simp [*]; done)), H', ⟨Nat.le_refl _⟩, ⟨by (with_reducible repeat (first | apply impl_Room_searchOf.SI.alloc | apply impl_Room_searchOf.SI.drewN | apply impl_Room_searchOf.SI.drew)); exact HS.out⟩⟩
  case round =>
    clear H'; obtain ⟨i, vf, gl, Ms, rfl, HA, HK1, HS⟩ := hrel
    cases gk with
    | zero => exact absurd HA.out (by simp [impl_Room_searchOf.l0])
    | succ k1 =>
      have H := HA.out; clear HA; simp only [impl_Room_searchOf.l0] at H
      by_cases c1_ : i < (l.length : Int)
      · rw [if_pos c1_] at H
        have c1b0 : decide (i < (l.length : Int)) = true := decide_eq_true c1_
        by_cases c2_ : 0 ≤ i
        case neg => rw [if_neg c2_] at H; exact absurd H (by simp)
        rw [if_pos c2_] at H; obtain ⟨ad, e_, hx0, hx1⟩ := at_T36 HR.out i c2_ c1_; cases e_; have HB := Aside0.mk HS.out.hb; replace hx0 := cb HB hx0; replace hx1 := cb HB hx1; obtain ⟨q, hq⟩ : ∃ q, q = rd_T36 l i := ⟨_, rfl⟩; rw [← hq] at H hx0 hx1; clear hq; have p_ := eq_true c2_; have q_ := eq_true c1_; clear c1_ c2_
        by_cases c3_ : mhas M0 q.f0 q.f1 = true
        · rw [if_pos c3_] at H
          have C3 := Aside0.mk c3_; clear c3_; obtain ⟨M, A2, H⟩ := obn H
          by_cases c4_ : Ms.length < 17592186044415
          case neg => rw [if_neg c4_] at H; exact absurd H (by simp)
          rw [if_pos c4_] at H; have L4 := Aside0.mk c4_; have H' := Aside0.mk H; clear H c4_
          go_wp2_with (first | ((with_reducible refine gate_dst (N := 10) rfl ?_); refine box_event ?hg (N := 10) ?hd (cs := #[.int .i8 0, .int .i8 0]) (t := 36) ?hr ?_; (case hd => rfl); (case hg => rfl); (case hr => first | (go_simp; done) | (go_simp; rfl)); intro gt hg wb hbox hb; have GEgt := gwl HB hg; replace HS := Aside0.mk (impl_Room_searchOf.SI.below (by (with_reducible repeat (first | apply impl_Room_searchOf.SI.alloc | apply impl_Room_searchOf.SI.drewN | apply impl_Room_searchOf.SI.drew)); exact HS.out) hb); replace HB := bst HB hb; have Bgt := Aside0.mk hbox; clear hb hbox hg) | ((with_reducible refine gate_store (p := 10) rfl ?_); refine wpList_store_whole rfl 36 _ _ rfl gt #[.int .i8 q.f0, .int .i8 q.f1] #[.int .i8 0, .int .i8 0] rfl rfl (pk Bgt) rfl (by kernel_rfl) (by simp [Value.oneCell']) ?_; intro ws hi hk hbl; have hb_ := hbl _ _ (pbs HB) GEgt.out; replace HS := Aside0.mk (impl_Room_searchOf.SI.spot (by (with_reducible repeat (first | apply impl_Room_searchOf.SI.alloc | apply impl_Room_searchOf.SI.drewN | apply impl_Room_searchOf.SI.drew)); exact HS.out) (pk Bgt) hk hb_); replace HB := Aside0.mk hb_; replace Bgt := Aside0.mk hi; clear hi hk hbl hb_; have hs0 := (blk_cell HS.out.bs 0).trans rfl; have hy0 := (blk_cell Bgt.out 0).trans rfl; have hy1 := (blk_cell Bgt.out 1).trans rfl) | ((with_reducible refine gate_dst (N := 28) rfl ?_); refine wpList_run0 (v := .tuple #[.int .i64 (mval M0 q.f0 q.f1), .bool (mhas M0 q.f0 q.f1)]) rfl (look_run1 (.tmp 26) (.tmp 27) rfl g0 rfl q.f0 q.f1 rfl M0 (impl_Room_searchOf.SI.sr (by (with_reducible repeat (first | apply impl_Room_searchOf.SI.alloc | apply impl_Room_searchOf.SI.drewN | apply impl_Room_searchOf.SI.drew)); exact HS.out)).m0) ?_; rw [C3.out]))
          refine st_ (n := 9) (fun w' => impl_Room_searchOf.SI w gr gs go g0 s0 s1 W M0 (.slice (some ad) l.length c) vf gl Ms w' ∧ w'.heap[gt]? = some (.cells #[.int .i8 q.f0, .int .i8 q.f1] 36 (0, 0))) (S := fun w' => w'.cell? ⟨gs, 1, none⟩ = some vf ∧ World.rangeAt w' gr 0 ([.int .i8 s0, .int .i8 s1] ++ W.l.map (Value.int .u16)) ∧ w'.cell? ⟨gt, 0, none⟩ = some (.int .i8 q.f0) ∧ w'.cell? ⟨gt, 1, none⟩ = some (.int .i8 q.f1)) (ds := [8]) (bA 9 0) (by kernel_rfl) rfl rfl ⟨(by (with_reducible repeat (first | apply impl_Room_searchOf.SI.alloc | apply impl_Room_searchOf.SI.drewN | apply impl_Room_searchOf.SI.drew)); exact HS.out), pk Bgt⟩ (fun w' h => ⟨h.1.drew, blk_drew h.2⟩) (fun w' h => ⟨(blk_cell h.1.bs 1).trans rfl, mix_range h.1.br, (blk_cell h.2 0).trans rfl, (blk_cell h.2 1).trans rfl⟩) (fun w20 h20 hHeld => ?_); clear HS HB Bgt; have HS := Aside0.mk h20.1; have Bgt := Aside0.mk h20.2; have HB := Aside0.mk HS.out.hb; clear h20; refine with_tabW impl_Room_searchOf.tab8 impl_Room_searchOf.bits8 (fun HT_ HW_ => ?_); refine pu 0 34 9 1 HT_ ?_; refine tk 1 35 9 3 HT_ HW_ hHeld ?_
          refine tk 2 36 9 7 HT_ HW_ hHeld ?_ (hy := by
            rintro w' ⟨z0_, z1_, z2_, z3_⟩
            refine load_mix_run (P := Try.prog) 34 (.tmp 3) ?_ gr ?_ z1_ Try.underlying34 rfl (by kernel_rfl) rfl
            all_goals rfl)
          refine tk 3 37 9 15 HT_ HW_ hHeld ?_; refine one_ (i := 4) (N := some 38) (bA 9 31) rfl rfl (one_of HT_.out (by kernel_rfl)) (by decide) (fun K hK => ?_); refine La.gs Try.func76 #[.agg (mixA (Value.int .u16) [.int .i8 s0, .int .i8 s1] W), .agg #[.int .i8 q.f0, .int .i8 q.f1]] ?_; with_reducible refine (impl_Room_steps.calls k1 s0 s1 W q.f0 q.f1 M _ A2.out).mono ?_
          rintro e w21 ⟨gm, rfl, hm, hgm, hb⟩
          refine ⟨_, rfl, ?_⟩; replace HS := Aside0.mk (impl_Room_searchOf.SI.below HS.out hb); replace Bgt := bkb Bgt hb; replace HB := Aside0.mk HS.out.hb; have HM := Aside0.mk hm; clear hb hm hgm; refine hK.out _ _ ⟨(blk_cell HS.out.bs 1).trans rfl, mix_range HS.out.br, (blk_cell Bgt.out 0).trans rfl, (blk_cell Bgt.out 1).trans rfl⟩ (fun hHeld => ?_); clear hK K; refine nm 38 ?_; refine one_ (i := 5) (N := some 39) (bA 9 63) rfl rfl (one_of HT_.out (by kernel_rfl)) (by decide) (fun K hK => ?_); refine Kd.R_lit_step kMap _ 72 ?hg (N := 39) ?hd (xs := ([gm] : List Nat)) (inner := [.map (some gm)]) (ok := fun _ => True) (okp := fun _ => True) ?hr ?hp (fun _ hk => hk) trivial (Below.refl _ _) (Nat.le_refl _) (by simp) ?_
          case hd => rfl
          case hg => rfl
          case hr => first | (go_simp; done) | (go_simp; rfl)
          case hp => exact (Reps.one (show Kd.M kMap _ _ _ gm [.map (some gm)] from rfl) (Reps.none _ _))
          intro v39 w22 ho hb hg_ hnew_; clear hg_ hnew_; replace HS := Aside0.mk (impl_Room_searchOf.SI.below HS.out hb); replace Bgt := bkb Bgt hb; replace HB := Aside0.mk HS.out.hb; replace HM := bkb HM hb; have HO := Aside0.mk ho; clear hb ho; obtain ⟨A39, c39, e39⟩ := Kd.R_slice HO.out; subst e39; refine hK.out _ _ ⟨(blk_cell HS.out.bs 1).trans rfl, mix_range HS.out.br, (blk_cell Bgt.out 0).trans rfl, (blk_cell Bgt.out 1).trans rfl⟩ (fun hHeld => ?_); clear hK K; refine nm 39 ?_; refine one_ (i := 6) (N := some 40) (bA 9 127) rfl rfl (one_of HT_.out (by kernel_rfl)) (by decide) (fun K hK => ?_); refine Kd.R_append_rows_step kMap (w0 := w) w.heap.size (by rfl) (.tmp 35) (.tmp 39) 73 72 (.map none) 8 rfl Try.underlying73 (by kernel_rfl) rfl (by decide) (by omega) vf gl [gm] _ _ _ (fun k_ => w.heap.size ≤ k_) (fun _ => False) rfl rfl ?aO ?aR (fun _ _ h => h) (fun _ h => h.elim) ?aF ?aB ?aS ?aL ?_
          case aO => exact HS.out.sr.hf
          case aR => exact (Kd.R_reads' HO.out).2.2
          case aF => exact fun k_ hk => Nat.le_trans (below_size HB.out) hk
          case aB => exact HB.out
          case aS => exact below_size HB.out
          case aL => have h1_ := L4.out; have h2_ := HS.out.sr.ln; rw [show ([gm] : List Nat).length = 1 from rfl]; omega
          intro v40 w23 ho hb hg hat; obtain ⟨A40, c40, e40⟩ := Kd.R_slice ho; subst e40; have hbs := blk_grown HS.out.bs hg (Kd.R_ne HS.out.sr.hf HS.out.bs (by decide)); have hbr := blk_grown HS.out.br hg (Kd.R_ne HS.out.sr.hf HS.out.br (by decide)); have hbt := blk_grown Bgt.out hg (Kd.R_ne HS.out.sr.hf Bgt.out (by decide)); replace HS := Aside0.mk (impl_Room_searchOf.SI.more HS.out HM.out hb ho hg); generalize gl ++ [gm] = gl2 at ho HS ⊢; clear ho hb hg hat HB HO HM; refine hK.out _ _ ⟨(blk_cell hbs 1).trans rfl, mix_range hbr, (blk_cell hbt 0).trans rfl, (blk_cell hbt 1).trans rfl⟩ (fun hHeld => ?_); clear hK K; refine nm 40 ?_; refine pu 7 41 9 255 HT_ ?_; refine last_ (i := 8) (N := none) (bA 9 511) rfl rfl (one_of HT_.out (by kernel_rfl)) (by decide) (fun K hK => ?_); have hz_ : w23.cell? ⟨gs, 1, none⟩ = some vf := (blk_cell hbs 1).trans rfl; have hf_ := blk_frozen hbs 1; refine storel_step (w1 := (w23.setCell ⟨gs, 1, none⟩ (.slice A40 gl2.length c40))) ?hg ?hn ?hr ?_
          case hg => rfl
          case hn => rfl
          case hr => first | (go_simp; done) | (go_simp; rfl)
          intro w24 hw; subst hw; clear hz_ hf_ hbs hbr hbt hHeld Bgt; refine hK.out _ _ ?_; clear hK K; refine done_ (done_of HT_.out (by kernel_rfl)) ?_
          go_wp2_with fail
          go_roundg k1
          case measure => have := HK1.out; omega
          case rel => exact ⟨wrap64 (i + 1), .slice A40 gl2.length c40, gl2, Ms ++ [M], (by first | rfl | (simp; done) | (simp [*]; done)), H', ⟨by have := HK1.out; omega⟩, ⟨by (with_reducible repeat (first | apply impl_Room_searchOf.SI.alloc | apply impl_Room_searchOf.SI.drewN | apply impl_Room_searchOf.SI.drew)); exact HS.out⟩⟩
        · rw [if_neg c3_] at H
          have C3 := Aside0.mk (Bool.eq_false_iff.mpr c3_); obtain rfl := Option.some.inj H; clear c3_ H
          go_wp2_with (first | ((with_reducible refine gate_dst (N := 10) rfl ?_); refine box_event ?hg (N := 10) ?hd (cs := #[.int .i8 0, .int .i8 0]) (t := 36) ?hr ?_; (case hd => rfl); (case hg => rfl); (case hr => first | (go_simp; done) | (go_simp; rfl)); intro gt hg wb hbox hb; have GEgt := gwl HB hg; replace HS := Aside0.mk (impl_Room_searchOf.SI.below (by (with_reducible repeat (first | apply impl_Room_searchOf.SI.alloc | apply impl_Room_searchOf.SI.drewN | apply impl_Room_searchOf.SI.drew)); exact HS.out) hb); replace HB := bst HB hb; have Bgt := Aside0.mk hbox; clear hb hbox hg) | ((with_reducible refine gate_store (p := 10) rfl ?_); refine wpList_store_whole rfl 36 _ _ rfl gt #[.int .i8 q.f0, .int .i8 q.f1] #[.int .i8 0, .int .i8 0] rfl rfl (pk Bgt) rfl (by kernel_rfl) (by simp [Value.oneCell']) ?_; intro ws hi hk hbl; have hb_ := hbl _ _ (pbs HB) GEgt.out; replace HS := Aside0.mk (impl_Room_searchOf.SI.spot (by (with_reducible repeat (first | apply impl_Room_searchOf.SI.alloc | apply impl_Room_searchOf.SI.drewN | apply impl_Room_searchOf.SI.drew)); exact HS.out) (pk Bgt) hk hb_); replace HB := Aside0.mk hb_; replace Bgt := Aside0.mk hi; clear hi hk hbl hb_; have hs0 := (blk_cell HS.out.bs 0).trans rfl; have hy0 := (blk_cell Bgt.out 0).trans rfl; have hy1 := (blk_cell Bgt.out 1).trans rfl) | ((with_reducible refine gate_dst (N := 28) rfl ?_); refine wpList_run0 (v := .tuple #[.int .i64 (mval M0 q.f0 q.f1), .bool (mhas M0 q.f0 q.f1)]) rfl (look_run1 (.tmp 26) (.tmp 27) rfl g0 rfl q.f0 q.f1 rfl M0 (impl_Room_searchOf.SI.sr (by (with_reducible repeat (first | apply impl_Room_searchOf.SI.alloc | apply impl_Room_searchOf.SI.drewN | apply impl_Room_searchOf.SI.drew)); exact HS.out)).m0) ?_; rw [C3.out]) | ((with_reducible refine gate_store (p := 6) rfl ?_); refine wpList_store_whole rfl 75 _ _ rfl go #[.map none, .slice none 0 0, .slice none 0 0] #[.map none, .slice none 0 0, .slice none 0 0] rfl rfl (impl_Room_searchOf.SI.bo (by (with_reducible repeat (first | apply impl_Room_searchOf.SI.alloc | apply impl_Room_searchOf.SI.drewN | apply impl_Room_searchOf.SI.drew)); exact HS.out)) rfl (by kernel_rfl) (by simp [Value.oneCell']) ?_; intro ws hi hk hbl; have HF := Aside0.mk (hbl _ _ (impl_Room_searchOf.SI.hb (by (with_reducible repeat (first | apply impl_Room_searchOf.SI.alloc | apply impl_Room_searchOf.SI.drewN | apply impl_Room_searchOf.SI.drew)); exact HS.out)) HS.out.lo); have BO := Aside0.mk hi; clear hi hk hbl))
          refine bodyPost_ret (results_row_tmp rfl _ _ go 75 #[.map none, .slice none 0 0, .slice none 0 0] (0, 0) _ rfl (pk BO) Try.underlying75 rfl (by kernel_rfl)) rfl ?_; exact ⟨pbs HF, rfl⟩
      · rw [if_neg c1_] at H
        have c1b0 : decide (i < (l.length : Int)) = false := decide_eq_false c1_; obtain rfl := Option.some.inj H; clear H c1_; have hs0 := (blk_cell HS.out.bs 0).trans rfl; have hs1 := (blk_cell HS.out.bs 1).trans rfl; have hs2 := (blk_cell HS.out.bs 2).trans rfl; obtain ⟨Af, cf, ef⟩ := Kd.R_slice HS.out.sr.hf; subst ef
        go_wp2_with (first | ((with_reducible refine gate_store (p := 6) rfl ?_); refine wpList_store_whole rfl 75 _ _ rfl go #[.map (some g0), .slice Af gl.length cf, .slice A l.length c] #[.map none, .slice none 0 0, .slice none 0 0] rfl rfl (impl_Room_searchOf.SI.bo (by (with_reducible repeat (first | apply impl_Room_searchOf.SI.alloc | apply impl_Room_searchOf.SI.drewN | apply impl_Room_searchOf.SI.drew)); exact HS.out)) rfl (by kernel_rfl) (by simp [Value.oneCell']) ?_; intro ws hi hk hbl; have HF := Aside0.mk (hbl _ _ (impl_Room_searchOf.SI.hb (by (with_reducible repeat (first | apply impl_Room_searchOf.SI.alloc | apply impl_Room_searchOf.SI.drewN | apply impl_Room_searchOf.SI.drew)); exact HS.out)) HS.out.lo); have HZ := Aside0.mk (Srch.keep (impl_Room_searchOf.SI.sr (by (with_reducible repeat (first | apply impl_Room_searchOf.SI.alloc | apply impl_Room_searchOf.SI.drewN | apply impl_Room_searchOf.SI.drew)); exact HS.out)) hk (impl_Room_searchOf.SI.bo (by (with_reducible repeat (first | apply impl_Room_searchOf.SI.alloc | apply impl_Room_searchOf.SI.drewN | apply impl_Room_searchOf.SI.drew)); exact HS.out)) (by decide)); have BO := Aside0.mk hi; clear hi hk hbl))
        refine bodyPost_ret (results_row_tmp rfl _ _ go 75 #[.map (some g0), .slice Af gl.length cf, .slice A l.length c] (0, 0) _ rfl (pk BO) Try.underlying75 rfl (by kernel_rfl)) rfl ?_; refine ⟨pbs HF, ?_⟩
        first | exact ⟨g0, .slice Af gl.length cf, gl, rfl, HZ.out⟩ | exact ⟨g0, .slice Af gl.length cf, rfl, gl, HZ.out⟩
theorem at_map {w : World} {A : Option Addr} {n : Nat} {gl : List Nat} (h : Kd.C kMap w A n gl) (i : Int) (h0 : 0 ≤ i) (h1 : i < n) : ∃ ad, A = some ad ∧ w.cell? (ad.add i.toNat) = some (.map (some (rdOf 0 gl i))) :=
  ReadsOf.at_ (Kd.reads_of_C (enc := fun g : Nat => Value.map (some g)) (d := (0 : Nat)) (h1 := fun _ => rfl) h) i h0 h1
theorem Srch.other {W W1 : World} {B g0 : Nat} {M0 : MP} {vf : Value} {gl : List Nat} {Ms : List MP} (h : Srch W B g0 M0 vf gl Ms) {u : Value} {us : List Int} {b_ : Nat} {ok_ : Nat → Prop} (hu : Kd.R (Kd.int .i64) 2 W b_ ok_ u us) (hg : W.grownBy W1 u.ownBlock) : Srch W1 B g0 M0 vf gl Ms :=
  ⟨(hg.block _ (blk_lt h.m0) (Kd.R_neM hu h.m0)).trans h.m0, Kd.R_over' h.hf (Kd.R_typed hu) (show ∀ q, q ∈ [72] → q ≠ 2 by decide) hg, h.ln, fun i hi => (hg.block _ (blk_lt (h.hm i hi)) (Kd.R_neM hu (h.hm i hi))).trans (h.hm i hi)⟩
def rdM (Ms : List MP) (i : Int) : MP := Ms.getD i.toNat []
theorem Srch.at {W : World} {B g0 : Nat} {M0 : MP} {vf : Value} {gl : List Nat} {Ms : List MP} (h : Srch W B g0 M0 vf gl Ms) (i : Int) (h0 : 0 ≤ i) (h1 : i < (Ms.length : Int)) : W.heap[rdOf 0 gl i]? = some (obM (rdM Ms i)) := by
  have := h.hm i.toNat (by have := h.ln; omega); exact this
def impl_search_legs.l0 : Nat → MP → List MP → List S36 → List Int → Int → List Int → Option (List Int)
  | 0, _, _, _, _, _, _ => none
  | k + 1, M0, Ms, l, o, i, out => if i < (o.length : Int) then (if 0 ≤ i then (if 0 ≤ rd o i then (if rd o i < (l.length : Int) then (if i = 0 then (if out.length < 17592186044415 then impl_search_legs.l0 k M0 Ms l o (wrap64 (i + 1)) (out ++ [mval M0 ((rd_T36 l (rd o i)).f0) ((rd_T36 l (rd o i)).f1)]) else none) else (if 0 ≤ wrap64 (i - 1) then (if wrap64 (i - 1) < (o.length : Int) then (if 0 ≤ rd o (wrap64 (i - 1)) then (if rd o (wrap64 (i - 1)) < (Ms.length : Int) then (if out.length < 17592186044415 then impl_search_legs.l0 k M0 Ms l o (wrap64 (i + 1)) (out ++ [mval (rdM Ms (rd o (wrap64 (i - 1)))) ((rd_T36 l (rd o i)).f0) ((rd_T36 l (rd o i)).f1)]) else none) else none) else none) else none) else none)) else none) else none) else none) else some out
def impl_search_legs.f (k : Nat) (M0 : MP) (Ms : List MP) (l : List S36) (o : List Int) : Option (List Int) := impl_search_legs.l0 k M0 Ms l o 0 []
theorem impl_search_legs.mono_l0 : ∀ k, ∀ y0 y1 y2 y3 y4 y5, LeO (impl_search_legs.l0 k y0 y1 y2 y3 y4 y5) (impl_search_legs.l0 (k + 1) y0 y1 y2 y3 y4 y5)
  | 0 => fun _ _ _ _ _ _ r h => by simp [impl_search_legs.l0] at h
  | k + 1 => by
    have ih := impl_search_legs.mono_l0 k; intro y0 y1 y2 y3 y4 y5; unfold impl_search_legs.l0; exact LeO.ite (LeO.ite (LeO.ite (LeO.ite (LeO.ite (LeO.ite (ih _ _ _ _ _ _) (LeO.refl _)) (LeO.ite (LeO.ite (LeO.ite (LeO.ite (LeO.ite (ih _ _ _ _ _ _) (LeO.refl _)) (LeO.refl _)) (LeO.refl _)) (LeO.refl _)) (LeO.refl _))) (LeO.refl _)) (LeO.refl _)) (LeO.refl _)) (LeO.refl _)
theorem impl_search_legs.mono : ∀ a0 a1 a2 a3 k, LeO (impl_search_legs.f k a0 a1 a2 a3) (impl_search_legs.f (k + 1) a0 a1 a2 a3) := fun _ _ _ _ k => impl_search_legs.mono_l0 k _ _ _ _ _ _
structure impl_search_legs.LG (w : World) (B gs g0 : Nat) (M0 : MP) (vsp vf : Value) (gl : List Nat) (Ms : List MP) (vo : Value) (out : List Int) (w1 : World) : Prop where
  hb : Below w.heap.size w w1
  bs : w1.heap[gs]? = some (.cells #[.map (some g0), vf, vsp] 75 (0, 0))
  sr : Srch w1 B g0 M0 vf gl Ms
  ho : Kd.R (Kd.int .i64) 2 w1 w.heap.size (fun k => w.heap.size ≤ k) vo out
section
variable {w w1 w2 : World} {B gs g0 : Nat} {M0 : MP} {vsp vf vo vo1 : Value} {gl : List Nat} {Ms : List MP} {out : List Int}
theorem impl_search_legs.LG.below (h : impl_search_legs.LG w B gs g0 M0 vsp vf gl Ms vo out w1) (hb : Below w1.heap.size w1 w2) : impl_search_legs.LG w B gs g0 M0 vsp vf gl Ms vo out w2 :=
  ⟨below_step h.hb hb, (hb.block gs (blk_lt h.bs)).trans h.bs, h.sr.below hb, Kd.R_below h.ho hb⟩
theorem impl_search_legs.LG.alloc (h : impl_search_legs.LG w B gs g0 M0 vsp vf gl Ms vo out w1) (o : Obj) : impl_search_legs.LG w B gs g0 M0 vsp vf gl Ms vo out (w1.alloc o) := h.below (below_alloc (Below.refl _ _) o)
theorem impl_search_legs.LG.drew (h : impl_search_legs.LG w B gs g0 M0 vsp vf gl Ms vo out w1) : impl_search_legs.LG w B gs g0 M0 vsp vf gl Ms vo out w1.drew := h.below (below_drew (Below.refl _ _))
theorem impl_search_legs.LG.drewN (h : impl_search_legs.LG w B gs g0 M0 vsp vf gl Ms vo out w1) (n : Nat) : impl_search_legs.LG w B gs g0 M0 vsp vf gl Ms vo out (w1.drewN n) := h.below (pw_below_drewN (Below.refl _ _) n)
theorem impl_search_legs.LG.more (h : impl_search_legs.LG w B gs g0 M0 vsp vf gl Ms vo out w1) {x : Int} (hb : Below w.heap.size w w2) (ho : Kd.R (Kd.int .i64) 2 w2 w.heap.size (fun k => w.heap.size ≤ k) vo1 (out ++ [x])) (hg : w1.grownBy w2 vo.ownBlock) : impl_search_legs.LG w B gs g0 M0 vsp vf gl Ms vo1 (out ++ [x]) w2 :=
  ⟨hb, blk_grown h.bs hg (Kd.R_ne h.ho h.bs (by decide)), h.sr.other h.ho hg, ho⟩
end
def impl_search_legs.T6 : Bool × List (List Nat × List Nat) := (true, [([], []), ([], []), ([1], [1]), ([], []), ([3], [3]), ([], []), ([4, 5], [4, 5]), ([6], [6]), ([2, 7], [2, 7]), ([8], [8]), ([0, 9], [0, 9]), ([10, 10, 0, 1, 2, 3, 4, 5, 6, 7, 8, 9, 10], [0, 10])])
def impl_search_legs.B6 : List Nat := [0, 0, 2, 0, 8, 0, 56, 120, 254, 510, 1023, 2047]
theorem impl_search_legs.tab6 : rtab .any (opsOf Try.f46 6) = impl_search_legs.T6 := by kernel_rfl
theorem impl_search_legs.bits6 : waitsOk impl_search_legs.T6.2 impl_search_legs.B6 = true := by kernel_rfl
def impl_search_legs.T7 : Bool × List (List Nat × List Nat) := (true, [([], []), ([], []), ([1], [1]), ([], []), ([], []), ([4], [4]), ([3, 5], [3, 5]), ([6], [6]), ([2, 7], [2, 7]), ([8], [8]), ([], []), ([10], [10]), ([], []), ([11, 12], [11, 12]), ([13], [13]), ([9, 14], [9, 14]), ([15], [15]), ([0, 16], [0, 16]), ([17, 17, 0, 1, 2, 3, 4, 5, 6, 7, 8, 9, 10, 11, 12, 13, 14, 15, 16, 17], [0, 17])])
def impl_search_legs.B7 : List Nat := [0, 0, 2, 0, 0, 16, 56, 120, 254, 510, 0, 1024, 0, 7168, 15360, 32766, 65534, 131071, 262143]
theorem impl_search_legs.tab7 : rtab .any (opsOf Try.f46 7) = impl_search_legs.T7 := by kernel_rfl
theorem impl_search_legs.bits7 : waitsOk impl_search_legs.T7.2 impl_search_legs.B7 = true := by kernel_rfl
theorem Srch.grown0 {W W1 : World} {B g0 : Nat} {M0 : MP} {vf : Value} {gl : List Nat} {Ms : List MP} (h : Srch W B g0 M0 vf gl Ms) (hg : W.grownBy W1 none) : Srch W1 B g0 M0 vf gl Ms :=
  ⟨(hg.block _ (blk_lt h.m0) (by simp)).trans h.m0, Kd.R_grown h.hf hg (by simp), h.ln, fun i hi => (hg.block _ (blk_lt (h.hm i hi)) (by simp)).trans (h.hm i hi)⟩
set_option maxHeartbeats 8000000 in
set_option maxRecDepth 100000 in
theorem impl_search_legs.calls (k B g0 : Nat) (M0 : MP) (vf : Value) (gl : List Nat) (Ms : List MP) (A : Option Addr) (c : Nat) (l : List S36) (Ao : Option Addr) (co : Nat) (o : List Int) (r : List Int) (w : World) (hs : Srch w B g0 M0 vf gl Ms) (hr : Kd.C k36 w A l.length l) (ho : Kd.C (Kd.int .i64) w Ao o.length o) (h : impl_search_legs.f k M0 Ms l o = some r) :
  Calls Try.prog 46 #[.agg #[.map (some g0), vf, .slice A l.length c], .slice Ao o.length co] w fun e w' => ∃ v, e = .returned v ∧ Kd.R (Kd.int .i64) 2 w' w.heap.size (fun k => w.heap.size ≤ k) v r ∧ Below w.heap.size w w' := by
  have hu2 := Try.underlying36; have HR := Aside0.mk hr; have HO0 := Aside0.mk ho; have HZ := Aside0.mk hs; clear hr ho hs; have HB := Aside0.mk (Below.refl w.heap.size w); obtain ⟨Af0, cf0, ef0⟩ := Kd.R_slice HZ.out.hf; subst ef0; unfold impl_search_legs.f at h; have H' := Aside0.mk h; clear h
  go_enter Try.func46, Try.ntmps46
  go_wp2_with (first | ((with_reducible refine gate_dst (N := 2) rfl ?_); refine box_event ?hg (N := 2) ?hd (cs := #[.map (some g0), (.slice Af0 gl.length cf0), .slice A l.length c]) (t := 75) ?hr ?_; (case hd => rfl); (case hg => rfl); (case hr => first | (go_simp; done) | (go_simp; rfl)); intro gs hg wb hbox hb; have GEgs := gwl HB hg; replace HZ := Aside0.mk (Srch.below (by (with_reducible repeat (first | apply Srch.alloc | apply Srch.drewN | apply Srch.drew)); exact HZ.out) hb); replace HB := bst HB hb; have Bgs := Aside0.mk hbox; clear hb hbox hg) | ((with_reducible refine gate_dst (N := 8) rfl ?_); refine Kd.R_lit (Kd.int .i64) (w0 := w) w.heap.size 2 ?hg (N := 8) ?hd (xs := ([] : List Int)) (inner := []) (ok := fun k => w.heap.size ≤ k) (okp := fun k => w.heap.size ≤ k) ?hr ?hp (fun _ hk => hk) ?hT ?hB ?hS (by simp) ?_; (case hd => rfl); (case hg => rfl); (case hr => first | (go_simp; done) | (go_simp; rfl)); (case hp => exact (Reps.none _ _)); (case hT => exact below_size (pbs HB)); (case hB => exact pbs HB); (case hS => exact below_size (pbs HB)); intro vl wl ho hb hg_ hnew_; have HS := Aside0.mk (show impl_search_legs.LG w B gs g0 M0 (.slice A l.length c) (.slice Af0 gl.length cf0) gl Ms vl [] wl from ⟨hb, (hg_.block gs (blk_lt (pk Bgs)) (by simp)).trans (pk Bgs), Srch.grown0 (by (with_reducible repeat (first | apply Srch.alloc | apply Srch.drewN | apply Srch.drew)); exact HZ.out) hg_, ho⟩); clear HB Bgs HZ ho hb hg_ hnew_))
  go_loopg [5, 11] k (fun kq v5 v11 w' => ∃ (i : Int) (out : List Int), v11 = .int .i64 i ∧ Aside0 (impl_search_legs.l0 kq M0 Ms l o i out = some r) ∧ Aside0 (kq ≤ k) ∧ Aside0 (impl_search_legs.LG w B gs g0 M0 (.slice A l.length c) (.slice Af0 gl.length cf0) gl Ms v5 out w'))
  case atStart => exact ⟨0, [], (by first | rfl | (simp; done) | (simp [*]; done)), H', ⟨Nat.le_refl _⟩, ⟨by (with_reducible repeat (first | apply impl_search_legs.LG.alloc | apply impl_search_legs.LG.drewN | apply impl_search_legs.LG.drew)); exact HS.out⟩⟩
  case round =>
    clear H'; obtain ⟨i, out, rfl, HA, HK1, HS⟩ := hrel
    cases gk with
    | zero => exact absurd HA.out (by simp [impl_search_legs.l0])
    | succ k1 =>
      have H := HA.out; clear HA; simp only [impl_search_legs.l0] at H; have HB := Aside0.mk HS.out.hb
      by_cases c1_ : i < (o.length : Int)
      · rw [if_pos c1_] at H
        have c1b0 : decide (i < (o.length : Int)) = true := decide_eq_true c1_
        by_cases c2_ : 0 ≤ i
        case neg => rw [if_neg c2_] at H; exact absurd H (by simp)
        rw [if_pos c2_] at H
        by_cases c3_ : 0 ≤ rd o i
        case neg => rw [if_neg c3_] at H; exact absurd H (by simp)
        rw [if_pos c3_] at H
        by_cases c4_ : rd o i < (l.length : Int)
        case neg => rw [if_neg c4_] at H; exact absurd H (by simp)
        rw [if_pos c4_] at H; obtain ⟨ad, e_, hx0, hx1⟩ := at_T36 HR.out (rd o i) c3_ c4_; cases e_; obtain ⟨ao, e_, ho0⟩ := Kd.at_int HO0.out i c2_ c1_; cases e_; obtain ⟨q, hq⟩ : ∃ q, q = rd_T36 l (rd o i) := ⟨_, rfl⟩; rw [← hq] at H hx0 hx1; clear hq; have hi0 := cb HB ho0; have p_ := eq_true c2_; have q_ := eq_true c1_; have p2_ := eq_true c3_; have q2_ := eq_true c4_; clear c1_ c2_ c3_ c4_
        by_cases c5_ : i = 0
        · rw [if_pos c5_] at H
          have c5b0 : (i == 0) = true := beq_iff_eq.mpr c5_
          by_cases c6_ : out.length < 17592186044415
          case neg => rw [if_neg c6_] at H; exact absurd H (by simp)
          rw [if_pos c6_] at H; have L4 := Aside0.mk c6_; have H' := Aside0.mk H; clear H c5_ c6_
          go_wp2_with fail
          refine st_ (n := 12) (fun w' => impl_search_legs.LG w B gs g0 M0 (.slice (some ad) l.length c) (.slice Af0 gl.length cf0) gl Ms u5 out w') (S := fun w' => w'.cell? ⟨gs, 0, none⟩ = some (.map (some g0)) ∧ w'.cell? ⟨gs, 2, none⟩ = some (.slice (some ad) l.length c) ∧ w'.cell? (ad.add ((rd o i).toNat * 2)) = some (.int .i8 q.f0) ∧ w'.cell? ⟨(ad.add ((rd o i).toNat * 2)).block, (ad.add ((rd o i).toNat * 2)).off + 1, none⟩ = some (.int .i8 q.f1) ∧ w'.heap[g0]? = some (obM M0)) (ds := []) (bA 12 0) (by kernel_rfl) rfl rfl (by (with_reducible repeat (first | apply impl_search_legs.LG.alloc | apply impl_search_legs.LG.drewN | apply impl_search_legs.LG.drew)); exact HS.out) (fun w' h => h.drew) (fun w' h => ⟨(blk_cell h.bs 0).trans rfl, (blk_cell h.bs 2).trans rfl, cb ⟨h.hb⟩ hx0, cb ⟨h.hb⟩ hx1, h.sr.m0⟩) (fun w20 h20 hHeld => ?_); clear HS HB; have HS := Aside0.mk h20; have HB := Aside0.mk HS.out.hb; clear h20; refine with_tabW impl_search_legs.tab6 impl_search_legs.bits6 (fun HT_ HW_ => ?_); refine pu 0 18 12 1 HT_ ?_; refine pu 1 19 12 3 HT_ ?_; refine pu 3 21 12 11 HT_ ?_; refine pu 5 23 12 43 HT_ ?_; refine tk 2 20 12 47 HT_ HW_ hHeld ?_; refine tk 4 22 12 63 HT_ HW_ hHeld ?_; refine pu 6 24 12 127 HT_ ?_; refine tk 7 25 12 255 HT_ HW_ hHeld ?_
          refine tk 8 26 12 511 HT_ HW_ hHeld ?_ (hy := by
            rintro w' ⟨z0_, z1_, z2_, z3_, z4_⟩
            exact look_run0 (.tmp 20) (.tmp 25) rfl g0 rfl q.f0 q.f1 rfl M0 z4_)
          refine one_ (i := 9) (N := some 27) (bA 12 1023) rfl rfl (one_of HT_.out (by kernel_rfl)) (by decide) (fun K hK => ?_); refine Kd.R_lit_step (Kd.int .i64) _ 2 ?hg (N := 27) ?hd (xs := ([mval M0 q.f0 q.f1] : List Int)) (inner := [.int .i64 (mval M0 q.f0 q.f1)]) (ok := fun _ => True) (okp := fun _ => True) ?hr ?hp (fun _ hk => hk) trivial (Below.refl _ _) (Nat.le_refl _) (by simp) ?_
          case hd => rfl
          case hg => rfl
          case hr => first | (go_simp; done) | (go_simp; rfl)
          case hp => exact (Reps.one (show Kd.M (Kd.int .i64) _ _ _ (mval M0 q.f0 q.f1) [.int .i64 (mval M0 q.f0 q.f1)] from rfl) (Reps.none _ _))
          intro vl w22 ho hb hg_ hnew_; clear hg_ hnew_; replace HS := Aside0.mk (impl_search_legs.LG.below HS.out hb); replace HB := Aside0.mk HS.out.hb
          skip
          have HO := Aside0.mk ho; clear hb ho; obtain ⟨Al, cl, el⟩ := Kd.R_slice HO.out; subst el; refine hK.out _ _ ⟨(blk_cell HS.out.bs 0).trans rfl, (blk_cell HS.out.bs 2).trans rfl, cb HB hx0, cb HB hx1, HS.out.sr.m0⟩ (fun hHeld => ?_); clear hK K; refine nm 27 ?_; refine one_ (i := 10) (N := some 28) (bA 12 2047) rfl rfl (one_of HT_.out (by kernel_rfl)) (by decide) (fun K hK => ?_); refine Kd.R_append_rows_step (Kd.int .i64) (w0 := w) w.heap.size (by rfl) (.tmp 18) (.tmp 27) 31 2 (.int .i64 0) 8 rfl Try.underlying31 (by kernel_rfl) rfl (by decide) (by omega) u5 out [mval M0 q.f0 q.f1] _ _ _ (fun k_ => w.heap.size ≤ k_) (fun _ => False) rfl rfl ?aO ?aR (fun _ _ h => h) (fun _ h => h.elim) ?aF ?aB ?aS ?aL ?_
          case aO => exact HS.out.ho
          case aR => exact (Kd.R_reads' HO.out).2.2
          case aF => exact fun k_ hk => Nat.le_trans (below_size HB.out) hk
          case aB => exact HB.out
          case aS => exact below_size HB.out
          case aL => have h1_ := L4.out; rw [show ([mval M0 q.f0 q.f1] : List Int).length = 1 from rfl]; omega
          intro vo1 w23 ho hb hg hat; replace HS := Aside0.mk (impl_search_legs.LG.more HS.out hb ho hg)
          skip
          clear ho hb hg hat HO; replace HB := Aside0.mk HS.out.hb; refine hK.out _ _ ⟨(blk_cell HS.out.bs 0).trans rfl, (blk_cell HS.out.bs 2).trans rfl, cb HB hx0, cb HB hx1, HS.out.sr.m0⟩ (fun hHeld => ?_); clear hK K; refine nm 28 ?_; refine pu 11 5 12 4095 HT_ ?_; refine done_ (done_of HT_.out (by kernel_rfl)) ?_; clear hHeld
          go_wp2_with fail
          go_roundg k1
          case measure => have := HK1.out; omega
          case rel => exact ⟨wrap64 (i + 1), _, (by first | rfl | (simp; done) | (simp [*]; done)), H', ⟨by have := HK1.out; omega⟩, ⟨by (with_reducible repeat (first | apply impl_search_legs.LG.alloc | apply impl_search_legs.LG.drewN | apply impl_search_legs.LG.drew)); exact HS.out⟩⟩
        · rw [if_neg c5_] at H
          have c5b0 : (i == 0) = false := by simpa using c5_
          obtain ⟨pi, hpi⟩ : ∃ pi, wrap64 (i - 1) = pi := ⟨_, rfl⟩; have hpiw : (IntKind.i64.wrap (i - 1)) = pi := (i64_w _).trans hpi; rw [hpi] at H
          by_cases c6_ : 0 ≤ pi
          case neg => rw [if_neg c6_] at H; exact absurd H (by simp)
          rw [if_pos c6_] at H
          by_cases c7_ : pi < (o.length : Int)
          case neg => rw [if_neg c7_] at H; exact absurd H (by simp)
          rw [if_pos c7_] at H; obtain ⟨pj, hpj⟩ : ∃ pj, pj = rd o pi := ⟨_, rfl⟩; obtain ⟨ao', e_, hp0⟩ := Kd.at_int HO0.out pi c6_ c7_; cases e_; rw [← hpj] at H hp0; clear hpj
          by_cases c8_ : 0 ≤ pj
          case neg => rw [if_neg c8_] at H; exact absurd H (by simp)
          rw [if_pos c8_] at H
          by_cases c9_ : pj < (Ms.length : Int)
          case neg => rw [if_neg c9_] at H; exact absurd H (by simp)
          rw [if_pos c9_] at H
          by_cases d6_ : out.length < 17592186044415
          case neg => rw [if_neg d6_] at H; exact absurd H (by simp)
          rw [if_pos d6_] at H; have L4 := Aside0.mk d6_; have H' := Aside0.mk H; clear H c5_ d6_; have j0_ := c8_; have j1_ := c9_; have p3_ := eq_true c6_; have q3_ := eq_true c7_; have p4_ := eq_true c8_; have hln := HS.out.sr.ln; have q4_ : (pj < (gl.length : Int)) = True := eq_true (by omega)
          have k4_ : pj < (gl.length : Int) := by omega
          clear hln c6_ c7_ c8_ c9_; obtain ⟨af, e_, hg0⟩ := at_map (Kd.R_reads' HS.out.sr.hf).2.2 pj j0_ k4_; cases e_
          have HG0 : ∀ {w' : World}, Srch w' B g0 M0 (.slice (some af) gl.length cf0) gl Ms → w'.cell? (af.add pj.toNat) = some (.map (some (rdOf 0 gl pj))) := by
            intro w' h_; obtain ⟨af', e_, h1_⟩ := at_map (Kd.R_reads' h_.hf).2.2 pj j0_ k4_; cases e_; exact h1_
          clear hg0
          go_wp2_with fail
          refine st_ (n := 19) (fun w' => impl_search_legs.LG w B gs g0 M0 (.slice (some ad) l.length c) (.slice (some af) gl.length cf0) gl Ms u5 out w') (S := fun w' => w'.cell? ⟨gs, 1, none⟩ = some (.slice (some af) gl.length cf0) ∧ w'.cell? ⟨gs, 2, none⟩ = some (.slice (some ad) l.length c) ∧ w'.cell? (ad.add ((rd o i).toNat * 2)) = some (.int .i8 q.f0) ∧ w'.cell? ⟨(ad.add ((rd o i).toNat * 2)).block, (ad.add ((rd o i).toNat * 2)).off + 1, none⟩ = some (.int .i8 q.f1) ∧ w'.cell? (ao.add pi.toNat) = some (.int .i64 pj) ∧ w'.cell? (af.add pj.toNat) = some (.map (some (rdOf 0 gl pj))) ∧ w'.heap[rdOf 0 gl pj]? = some (obM (rdM Ms pj))) (ds := []) (bA 19 0) (by kernel_rfl) rfl rfl (by (with_reducible repeat (first | apply impl_search_legs.LG.alloc | apply impl_search_legs.LG.drewN | apply impl_search_legs.LG.drew)); exact HS.out) (fun w' h => h.drew) (fun w' h => ⟨(blk_cell h.bs 1).trans rfl, (blk_cell h.bs 2).trans rfl, cb ⟨h.hb⟩ hx0, cb ⟨h.hb⟩ hx1, cb ⟨h.hb⟩ hp0, HG0 h.sr, h.sr.at pj j0_ j1_⟩) (fun w20 h20 hHeld => ?_); clear HS HB; have HS := Aside0.mk h20; have HB := Aside0.mk HS.out.hb; clear h20; refine with_tabW impl_search_legs.tab7 impl_search_legs.bits7 (fun HT_ HW_ => ?_); refine pu 0 29 19 1 HT_ ?_; refine pu 1 30 19 3 HT_ ?_; refine pu 3 32 19 11 HT_ ?_; refine pu 4 33 19 27 HT_ ?_; refine pu 5 34 19 59 HT_ ?_; refine pu 6 35 19 123 HT_ ?_; refine pu 10 39 19 1147 HT_ ?_; refine pu 12 41 19 5243 HT_ ?_; refine tk 2 31 19 5247 HT_ HW_ hHeld ?_; refine tk 7 36 19 5375 HT_ HW_ hHeld ?_; refine pu 8 37 19 5631 HT_ ?_; refine tk 9 38 19 6143 HT_ HW_ hHeld ?_; refine tk 11 40 19 8191 HT_ HW_ hHeld ?_; refine pu 13 42 19 16383 HT_ ?_; refine tk 14 43 19 32767 HT_ HW_ hHeld ?_
          refine tk 15 44 19 65535 HT_ HW_ hHeld ?_ (hy := by
            rintro w' ⟨z0_, z1_, z2_, z3_, z4_, z5_, z6_⟩
            exact look_run0 (.tmp 38) (.tmp 43) rfl (rdOf 0 gl pj) rfl q.f0 q.f1 rfl (rdM Ms pj) z6_)
          refine one_ (i := 16) (N := some 45) (bA 19 131071) rfl rfl (one_of HT_.out (by kernel_rfl)) (by decide) (fun K hK => ?_); refine Kd.R_lit_step (Kd.int .i64) _ 2 ?hg (N := 45) ?hd (xs := ([mval (rdM Ms pj) q.f0 q.f1] : List Int)) (inner := [.int .i64 (mval (rdM Ms pj) q.f0 q.f1)]) (ok := fun _ => True) (okp := fun _ => True) ?hr ?hp (fun _ hk => hk) trivial (Below.refl _ _) (Nat.le_refl _) (by simp) ?_
          case hd => rfl
          case hg => rfl
          case hr => first | (go_simp; done) | (go_simp; rfl)
          case hp => exact (Reps.one (show Kd.M (Kd.int .i64) _ _ _ (mval (rdM Ms pj) q.f0 q.f1) [.int .i64 (mval (rdM Ms pj) q.f0 q.f1)] from rfl) (Reps.none _ _))
          intro vl w22 ho hb hg_ hnew_; clear hg_ hnew_; replace HS := Aside0.mk (impl_search_legs.LG.below HS.out hb); replace HB := Aside0.mk HS.out.hb
          skip
          have HO := Aside0.mk ho; clear hb ho; obtain ⟨Al, cl, el⟩ := Kd.R_slice HO.out; subst el; refine hK.out _ _ ⟨(blk_cell HS.out.bs 1).trans rfl, (blk_cell HS.out.bs 2).trans rfl, cb HB hx0, cb HB hx1, cb HB hp0, HG0 HS.out.sr, HS.out.sr.at pj j0_ j1_⟩ (fun hHeld => ?_); clear hK K; refine nm 45 ?_; refine one_ (i := 17) (N := some 46) (bA 19 262143) rfl rfl (one_of HT_.out (by kernel_rfl)) (by decide) (fun K hK => ?_); refine Kd.R_append_rows_step (Kd.int .i64) (w0 := w) w.heap.size (by rfl) (.tmp 29) (.tmp 45) 31 2 (.int .i64 0) 8 rfl Try.underlying31 (by kernel_rfl) rfl (by decide) (by omega) u5 out [mval (rdM Ms pj) q.f0 q.f1] _ _ _ (fun k_ => w.heap.size ≤ k_) (fun _ => False) rfl rfl ?aO ?aR (fun _ _ h => h) (fun _ h => h.elim) ?aF ?aB ?aS ?aL ?_
          case aO => exact HS.out.ho
          case aR => exact (Kd.R_reads' HO.out).2.2
          case aF => exact fun k_ hk => Nat.le_trans (below_size HB.out) hk
          case aB => exact HB.out
          case aS => exact below_size HB.out
          case aL => have h1_ := L4.out; rw [show ([mval (rdM Ms pj) q.f0 q.f1] : List Int).length = 1 from rfl]; omega
          intro vo1 w23 ho hb hg hat; replace HS := Aside0.mk (impl_search_legs.LG.more HS.out hb ho hg)
          skip
          clear ho hb hg hat HO; replace HB := Aside0.mk HS.out.hb; refine hK.out _ _ ⟨(blk_cell HS.out.bs 1).trans rfl, (blk_cell HS.out.bs 2).trans rfl, cb HB hx0, cb HB hx1, cb HB hp0, HG0 HS.out.sr, HS.out.sr.at pj j0_ j1_⟩ (fun hHeld => ?_); clear hK K; refine nm 46 ?_; refine pu 18 5 19 524287 HT_ ?_; refine done_ (done_of HT_.out (by kernel_rfl)) ?_; clear hHeld
          go_wp2_with fail
          go_roundg k1
          case measure => have := HK1.out; omega
          case rel => exact ⟨wrap64 (i + 1), _, (by first | rfl | (simp; done) | (simp [*]; done)), H', ⟨by have := HK1.out; omega⟩, ⟨by (with_reducible repeat (first | apply impl_search_legs.LG.alloc | apply impl_search_legs.LG.drewN | apply impl_search_legs.LG.drew)); exact HS.out⟩⟩
      · rw [if_neg c1_] at H
        have c1b0 : decide (i < (o.length : Int)) = false := decide_eq_false c1_; obtain rfl := Option.some.inj H; clear H c1_
        go_wp2_with fail
        go_ret
        exact ⟨_, rfl, (by (with_reducible repeat (first | apply Kd.R_alloc | apply Kd.R_drewN | apply Kd.R_drew)); exact HS.out.ho), pbs HB⟩
def slices_Index_int64_int64.l0 : Nat → List Int → Int → Int → Int → Option (Int)
 | 0, _, _, _, _ => none
 | k + 1, x0, x1, x7, x8 => if x8 < x7 then (if 0 ≤ x8 then (if x8 < (x0.length : Int) then (if x1 = (rd x0 x8) then (some x8) else (slices_Index_int64_int64.l0 k x0 x1 x7 (wrap64 (x8 + 1)))) else (none)) else (none)) else (some (-1))
def slices_Index_int64_int64.f (k : Nat) (l0 : List Int) (a1 : Int) : Option (Int) := slices_Index_int64_int64.l0 k l0 a1 (l0.length : Int) 0
theorem slices_Index_int64_int64.mono_l : ∀ k, (∀ y0 y1 y2 y3, LeO (slices_Index_int64_int64.l0 k y0 y1 y2 y3) (slices_Index_int64_int64.l0 (k + 1) y0 y1 y2 y3))
 | 0 => fun _ _ _ _ r h => by simp [slices_Index_int64_int64.l0] at h
 | k + 1 => by
  have ih0 := slices_Index_int64_int64.mono_l k
  ·intro y0 y1 y2 y3
   unfold slices_Index_int64_int64.l0
   repeat' first
   | (with_reducible exact ih0 _ _ _ _)
   | (with_reducible exact LeO.refl _)
   | (with_reducible exact LeO.none _)
   | (with_reducible refine LeO.ite ?_ ?_)
   | (with_reducible refine LeO.bind ?_ (fun _ => ?_))
   | exact ih0 _ _ _ _
   | exact LeO.none _
   | refine LeO.ite ?_ ?_
   | refine LeO.bind ?_ (fun _ => ?_)
theorem slices_Index_int64_int64.mono : ∀ a0 a1 k, LeO (slices_Index_int64_int64.f k a0 a1) (slices_Index_int64_int64.f (k + 1) a0 a1) := by
 intro a0 a1 k
 have ih0 := slices_Index_int64_int64.mono_l k
 unfold slices_Index_int64_int64.f
 repeat' first
   | (with_reducible exact ih0 _ _ _ _)
   | (with_reducible exact LeO.refl _)
   | (with_reducible exact LeO.none _)
   | (with_reducible refine LeO.ite ?_ ?_)
   | (with_reducible refine LeO.bind ?_ (fun _ => ?_))
   | exact ih0 _ _ _ _
   | exact LeO.none _
   | refine LeO.ite ?_ ?_
   | refine LeO.bind ?_ (fun _ => ?_)
set_option maxHeartbeats 8000000 in
set_option maxRecDepth 100000 in
theorem slices_Index_int64_int64.calls (k : Nat) (A0 : Option Addr) (c0 : Nat) (l0 : List Int) (a1 : Int) (r : Int) (w : World) (hr0 : Kd.C (Kd.int .i64) w A0 l0.length l0) (hc0 : l0.length ≤ c0) (h : slices_Index_int64_int64.f k l0 a1 = some r) :
  Calls Try.prog 79 #[.slice A0 l0.length c0, .int .i64 a1] w fun e w' => e = .returned (.int .i64 r) ∧ Drawn0 w w' := by
 have HR0 := Aside0.mk hr0
 have HC0 := Aside0.mk hc0
 clear hr0 hc0
 have H : (slices_Index_int64_int64.l0 k l0 a1 (l0.length : Int) 0) = some r := h
 clear h
 have H' := Aside0.mk H
 clear H
 go_enter Try.func79, Try.ntmps79
 go_wp2
 go_loopg [8] k (fun kq v8 w' => ∃ (x8_1 : Int), v8 = .int .i64 x8_1 ∧ Aside0 (slices_Index_int64_int64.l0 kq l0 a1 (l0.length : Int) x8_1 = some r) ∧ Aside0 (kq ≤ k) ∧ Drawn0 w w')
 case atStart => exact ⟨(0), (by first | rfl | (simp; done) | (simp [*]; done)), H', ⟨Nat.le_refl _⟩, by repeat (first | exact Drawn0.refl _ | apply Drawn0.step)⟩
 case round =>
  clear H'
  try clear p2
  obtain ⟨x8_1, rfl, HA, HK1, ⟨m1, rfl⟩⟩ := hrel
  cases gk with
  | zero => exact absurd HA.out (by simp [slices_Index_int64_int64.l0])
  | succ k1 =>
   have H := HA.out; clear HA; simp only [slices_Index_int64_int64.l0] at H
   by_cases c3 : x8_1 < (l0.length : Int)
   ·rw [if_pos c3] at H
    have c3b0 : decide (x8_1 < (l0.length : Int)) = true := decide_eq_true c3; clear c3
    by_cases c4 : 0 ≤ x8_1
    ·rw [if_pos c4] at H
     have c4b0 : decide (0 ≤ x8_1) = true := decide_eq_true c4; clear c4
     by_cases c5 : x8_1 < (l0.length : Int)
     ·rw [if_pos c5] at H
      have c5b0 : decide (x8_1 < (l0.length : Int)) = true := decide_eq_true c5; clear c5
      by_cases c6 : a1 = (rd l0 x8_1)
      ·rw [if_pos c6] at H
       have c6b0 : (a1 == (rd l0 x8_1)) = true := beq_iff_eq.mpr c6; have c6b1 : (a1 != (rd l0 x8_1)) = false := bne_eq_false_iff_eq.mpr c6; clear c6; obtain rfl := Option.some.inj H; have p308 : 0 ≤ (x8_1 : Int) := oda; have q308 : x8_1 < (l0.length : Int) := oda; obtain ⟨ad308, e308, hx308_0⟩ := Kd.at_int HR0.out x8_1 p308 q308; cases e308; replace p308 := eq_true p308; replace q308 := eq_true q308
       go_wp2
       go_ret
       exact ⟨by first | rfl | (simp; done) | (simp [*]; done), by repeat (first | exact Drawn0.refl _ | apply Drawn0.step)⟩
      ·rw [if_neg c6] at H
       have c6b0 : (a1 == (rd l0 x8_1)) = false := beq_eq_false_iff_ne.mpr c6; have c6b1 : (a1 != (rd l0 x8_1)) = true := bne_iff_ne.mpr c6; have H' := Aside0.mk H; clear H; have p308 : 0 ≤ (x8_1 : Int) := oda; have q308 : x8_1 < (l0.length : Int) := oda; obtain ⟨ad308, e308, hx308_0⟩ := Kd.at_int HR0.out x8_1 p308 q308; cases e308; replace p308 := eq_true p308; replace q308 := eq_true q308
       go_wp2
       go_roundg k1
       case measure => have := HK1.out; omega
       case rel => exact ⟨(wrap64 (x8_1 + 1)), (by first | rfl | (simp; done) | (simp [*]; done)), H', ⟨by have := HK1.out; omega⟩, by repeat (first | exact Drawn0.refl _ | apply Drawn0.step)⟩
     ·rw [if_neg c5] at H
      exact absurd H (by simp)
    ·rw [if_neg c4] at H
     exact absurd H (by simp)
   ·rw [if_neg c3] at H
    have c3b0 : decide (x8_1 < (l0.length : Int)) = false := decide_eq_false c3; clear c3; obtain rfl := Option.some.inj H
    go_wp2
    go_ret
    exact ⟨by first | rfl | (simp; done) | (simp [*]; done), by repeat (first | exact Drawn0.refl _ | apply Drawn0.step)⟩
end Go.Proofs.Ytanobaoaelhebaa.PB
end
section
namespace Go.Proofs.Ytanobaoaelhebaa.PB
open Go.RowKit Go.Proofs.YtanobaoaelhebaaW.PrintWords Go.Proofs.YtanobaoaelhebaaW.PrintLast Go.Proofs.YtanobaoaelhebaaW.PrintMore Go.Proofs.Ytanobaoaelhebaa.La Go.Proofs.Ytanobaoaelhebaa.Mp
attribute [local go_sem] max2_int min2_int max_two min_two max_three min_three max_four min_four   -- for this text's walks alone
set_option linter.unusedVariables false
set_option linter.unusedSimpArgs false
def slices_Contains_int64_int64.f (k : Nat) (l0 : List Int) (a1 : Int) : Option (Bool) := (slices_Index_int64_int64.f k l0 a1).bind fun t309 => (some (decide (t309 ≥ 0)))
theorem slices_Contains_int64_int64.mono : ∀ a0 a1 k, LeO (slices_Contains_int64_int64.f k a0 a1) (slices_Contains_int64_int64.f (k + 1) a0 a1) := by
 intro a0 a1 k
 unfold slices_Contains_int64_int64.f
 repeat' first
   | (with_reducible exact slices_Index_int64_int64.mono _ _ _)
   | (with_reducible exact LeO.refl _)
   | (with_reducible exact LeO.none _)
   | (with_reducible refine LeO.ite ?_ ?_)
   | (with_reducible refine LeO.bind ?_ (fun _ => ?_))
   | exact slices_Index_int64_int64.mono _ _ _
   | exact LeO.none _
   | refine LeO.ite ?_ ?_
   | refine LeO.bind ?_ (fun _ => ?_)
set_option maxHeartbeats 8000000 in
set_option maxRecDepth 100000 in
theorem slices_Contains_int64_int64.calls (k : Nat) (A0 : Option Addr) (c0 : Nat) (l0 : List Int) (a1 : Int) (r : Bool) (w : World) (hr0 : Kd.C (Kd.int .i64) w A0 l0.length l0) (hc0 : l0.length ≤ c0) (h : slices_Contains_int64_int64.f k l0 a1 = some r) :
  Calls Try.prog 50 #[.slice A0 l0.length c0, .int .i64 a1] w fun e w' => e = .returned (.bool r) ∧ Drawn0 w w' := by
 have HR0 := Aside0.mk hr0
 have HC0 := Aside0.mk hc0
 clear hr0 hc0
 have H : ((slices_Index_int64_int64.f k l0 a1).bind fun t309 => (some (decide (t309 ≥ 0)))) = some r := h
 clear h
 obtain ⟨t309, A3, H⟩ := obn H
 obtain rfl := Option.some.inj H
 go_enter Try.func50, Try.ntmps50
 go_wp2_with (first | ((with_reducible refine gate_callee (f := 79) rfl ?_); refine gl (some 7) Try.func79 #[.slice A0 l0.length c0, .int .i64 a1] ?_; (with_reducible refine (slices_Index_int64_int64.calls k _ _ l0 a1 t309 _ ?side1 ?side2 A3.out).mono ?_); (case side1 => repeat (first | exact HR0.out | (with_reducible refine Kd.C_alloc ?_ _) | (with_reducible refine Kd.C_drewN ?_ _) | (with_reducible refine Kd.C_drew ?_))); (case side2 => exact HC0.out); rintro e w' ⟨rfl, ⟨nd, rfl⟩⟩; refine ⟨_, rfl, ?_⟩))
 go_ret
 exact ⟨by first | rfl | (simp; done) | (simp [*]; done), by repeat (first | exact Drawn0.refl _ | apply Drawn0.step)⟩
def impl_isOrder.l0 : Nat → List Int → Int → Int → Option (Bool)
 | 0, _, _, _ => none
 | k + 1, x0, x10, x11 => if x11 < x10 then ((slices_Contains_int64_int64.f k x0 x11).bind fun t310 => (if t310 = true then (impl_isOrder.l0 k x0 x10 (wrap64 (x11 + 1))) else (some false))) else (some true)
def impl_isOrder.f (k : Nat) (l0 : List Int) (a1 : Int) : Option (Bool) := if (l0.length : Int) = a1 then (impl_isOrder.l0 k l0 a1 0) else (some false)
theorem impl_isOrder.mono_l : ∀ k, (∀ y0 y1 y2, LeO (impl_isOrder.l0 k y0 y1 y2) (impl_isOrder.l0 (k + 1) y0 y1 y2))
 | 0 => fun _ _ _ r h => by simp [impl_isOrder.l0] at h
 | k + 1 => by
  have ih0 := impl_isOrder.mono_l k
  ·intro y0 y1 y2
   unfold impl_isOrder.l0
   repeat' first
   | (with_reducible exact ih0 _ _ _)
   | (with_reducible exact slices_Contains_int64_int64.mono _ _ _)
   | (with_reducible exact LeO.refl _)
   | (with_reducible exact LeO.none _)
   | (with_reducible refine LeO.ite ?_ ?_)
   | (with_reducible refine LeO.bind ?_ (fun _ => ?_))
   | exact ih0 _ _ _
   | exact slices_Contains_int64_int64.mono _ _ _
   | exact LeO.none _
   | refine LeO.ite ?_ ?_
   | refine LeO.bind ?_ (fun _ => ?_)
theorem impl_isOrder.mono : ∀ a0 a1 k, LeO (impl_isOrder.f k a0 a1) (impl_isOrder.f (k + 1) a0 a1) := by
 intro a0 a1 k
 have ih0 := impl_isOrder.mono_l k
 unfold impl_isOrder.f
 repeat' first
   | (with_reducible exact ih0 _ _ _)
   | (with_reducible exact slices_Contains_int64_int64.mono _ _ _)
   | (with_reducible exact LeO.refl _)
   | (with_reducible exact LeO.none _)
   | (with_reducible refine LeO.ite ?_ ?_)
   | (with_reducible refine LeO.bind ?_ (fun _ => ?_))
   | exact ih0 _ _ _
   | exact slices_Contains_int64_int64.mono _ _ _
   | exact LeO.none _
   | refine LeO.ite ?_ ?_
   | refine LeO.bind ?_ (fun _ => ?_)
set_option maxHeartbeats 8000000 in
set_option maxRecDepth 100000 in
theorem impl_isOrder.calls (k : Nat) (A0 : Option Addr) (c0 : Nat) (l0 : List Int) (a1 : Int) (r : Bool) (w : World) (hr0 : Kd.C (Kd.int .i64) w A0 l0.length l0) (hc0 : l0.length ≤ c0) (h : impl_isOrder.f k l0 a1 = some r) :
  Calls Try.prog 54 #[.slice A0 l0.length c0, .int .i64 a1] w fun e w' => e = .returned (.bool r) ∧ Drawn0 w w' := by
 have HR0 := Aside0.mk hr0
 have HC0 := Aside0.mk hc0
 clear hr0 hc0
 have H : (if (l0.length : Int) = a1 then (impl_isOrder.l0 k l0 a1 0) else (some false)) = some r := h
 clear h
 by_cases c3 : (l0.length : Int) = a1
 ·rw [if_pos c3] at H
  have c3b0 : ((l0.length : Int) == a1) = true := beq_iff_eq.mpr c3; have c3b1 : ((l0.length : Int) != a1) = false := bne_eq_false_iff_eq.mpr c3; clear c3; have H' := Aside0.mk H; clear H
  go_enter Try.func54, Try.ntmps54
  go_wp2
  go_loopg [11] k (fun kq v11 w' => ∃ (x11_1 : Int), v11 = .int .i64 x11_1 ∧ Aside0 (impl_isOrder.l0 kq l0 a1 x11_1 = some r) ∧ Aside0 (kq ≤ k) ∧ Drawn0 w w')
  case atStart => exact ⟨(0), (by first | rfl | (simp; done) | (simp [*]; done)), H', ⟨Nat.le_refl _⟩, by repeat (first | exact Drawn0.refl _ | apply Drawn0.step)⟩
  case round =>
   clear H'
   try clear p2
   try clear c3
   try clear c3b0
   try clear c3b1
   obtain ⟨x11_1, rfl, HA, HK1, ⟨m1, rfl⟩⟩ := hrel
   cases gk with
   | zero => exact absurd HA.out (by simp [impl_isOrder.l0])
   | succ k1 =>
    have H := HA.out; clear HA; simp only [impl_isOrder.l0] at H
    by_cases c4 : x11_1 < a1
    ·rw [if_pos c4] at H
     have c4b0 : decide (x11_1 < a1) = true := decide_eq_true c4; clear c4; obtain ⟨t310, A5, H⟩ := obn H
     by_cases c6 : t310 = true
     ·subst c6
      have H1 : (impl_isOrder.l0 k1 l0 a1 (wrap64 (x11_1 + 1))) = some r := by rw [if_pos rfl] at H; exact H
      clear H; have H := H1; clear H1; have H' := Aside0.mk H; clear H
      go_wp2_with (first | ((with_reducible refine gate_callee (f := 50) rfl ?_); refine gl (some 16) Try.func50 #[.slice A0 l0.length c0, .int .i64 x11_1] ?_; (with_reducible refine (slices_Contains_int64_int64.calls k1 _ _ l0 x11_1 true _ ?side1 ?side2 A5.out).mono ?_); (case side1 => repeat (first | exact HR0.out | (with_reducible refine Kd.C_alloc ?_ _) | (with_reducible refine Kd.C_drewN ?_ _) | (with_reducible refine Kd.C_drew ?_))); (case side2 => exact HC0.out); rintro e w' ⟨rfl, ⟨nd, rfl⟩⟩; refine ⟨_, rfl, ?_⟩))
      go_roundg k1
      case measure => have := HK1.out; omega
      case rel => exact ⟨(wrap64 (x11_1 + 1)), (by first | rfl | (simp; done) | (simp [*]; done)), H', ⟨by have := HK1.out; omega⟩, by repeat (first | exact Drawn0.refl _ | apply Drawn0.step)⟩
     ·replace c6 := Bool.eq_false_iff.mpr c6
      subst c6
      have H1 : (some false) = some r := by rw [if_neg (show ¬ (false = true) by decide)] at H; exact H
      clear H; have H := H1; clear H1; obtain rfl := Option.some.inj H
      go_wp2_with (first | ((with_reducible refine gate_callee (f := 50) rfl ?_); refine gl (some 16) Try.func50 #[.slice A0 l0.length c0, .int .i64 x11_1] ?_; (with_reducible refine (slices_Contains_int64_int64.calls k1 _ _ l0 x11_1 false _ ?side1 ?side2 A5.out).mono ?_); (case side1 => repeat (first | exact HR0.out | (with_reducible refine Kd.C_alloc ?_ _) | (with_reducible refine Kd.C_drewN ?_ _) | (with_reducible refine Kd.C_drew ?_))); (case side2 => exact HC0.out); rintro e w' ⟨rfl, ⟨nd, rfl⟩⟩; refine ⟨_, rfl, ?_⟩))
      go_ret
      exact ⟨by first | rfl | (simp; done) | (simp [*]; done), by repeat (first | exact Drawn0.refl _ | apply Drawn0.step)⟩
    ·rw [if_neg c4] at H
     have c4b0 : decide (x11_1 < a1) = false := decide_eq_false c4; clear c4; obtain rfl := Option.some.inj H
     go_wp2
     go_ret
     exact ⟨by first | rfl | (simp; done) | (simp [*]; done), by repeat (first | exact Drawn0.refl _ | apply Drawn0.step)⟩
 ·rw [if_neg c3] at H
  have c3b0 : ((l0.length : Int) == a1) = false := beq_eq_false_iff_ne.mpr c3; have c3b1 : ((l0.length : Int) != a1) = true := bne_iff_ne.mpr c3; obtain rfl := Option.some.inj H
  go_enter Try.func54, Try.ntmps54
  go_wp2
  go_ret
  exact ⟨by first | rfl | (simp; done) | (simp [*]; done), by repeat (first | exact Drawn0.refl _ | apply Drawn0.step)⟩
def impl_LateBy.l0 : Nat → List Int → Int → Int → Int → Option (Int × Int)
  | 0, _, _, _, _ => none
  | k + 1, L, i, all, now => if i < (L.length : Int) then (if 0 ≤ i then impl_LateBy.l0 k L (wrap64 (i + 1)) (wrap64 (all + wrap64 (now + rd L i))) (wrap64 (now + rd L i)) else none) else some (all, 0)
def impl_LateBy.go (k : Nat) (l : List S36) (o : List Int) : Option (MP × List MP) → Option (Int × Int)
  | none => some (0, 6)
  | some p => (impl_search_legs.f k p.1 p.2 l o).bind fun L => impl_LateBy.l0 k L 0 0 0
def impl_LateBy.f (k : Nat) (s0 s1 : Int) (W : LA 10) (x y : Int) (l : List S36) (o : List Int) : Option (Int × Int) := (impl_searchCode.f k s0 s1 W x y l).bind fun c1 => ((impl_isOrder.f k o (l.length : Int)).bind fun b => ((impl_unless.f b 4).bind fun c2 => ((impl_firstOf.f k [c1, c2]).bind fun c => (if c = 0 then ((impl_Room_searchOf.f k s0 s1 W x y l).bind fun s => impl_LateBy.go k l o s) else some (0, c)))))
theorem impl_LateBy.mono_l0 : ∀ k, ∀ y0 y1 y2 y3, LeO (impl_LateBy.l0 k y0 y1 y2 y3) (impl_LateBy.l0 (k + 1) y0 y1 y2 y3)
  | 0 => fun _ _ _ _ r h => by simp [impl_LateBy.l0] at h
  | k + 1 => by
    have ih := impl_LateBy.mono_l0 k; intro y0 y1 y2 y3; unfold impl_LateBy.l0; exact LeO.ite (LeO.ite (ih _ _ _ _) (LeO.refl _)) (LeO.refl _)
theorem impl_LateBy.mono : ∀ a0 a1 a2 a3 a4 a5 a6 k, LeO (impl_LateBy.f k a0 a1 a2 a3 a4 a5 a6) (impl_LateBy.f (k + 1) a0 a1 a2 a3 a4 a5 a6) := by
  intro a0 a1 a2 a3 a4 a5 a6 k; unfold impl_LateBy.f; refine LeO.bind (impl_searchCode.mono _ _ _ _ _ _ _) (fun _ => LeO.bind (impl_isOrder.mono _ _ _) (fun _ => LeO.bind (LeO.refl _) (fun _ => LeO.bind (impl_firstOf.mono _ _) (fun _ => LeO.ite (LeO.bind (impl_Room_searchOf.mono _ _ _ _ _ _ _) (fun s => ?_)) (LeO.refl _)))))
  cases s with
  | none => exact LeO.refl _
  | some p => exact LeO.bind (impl_search_legs.mono _ _ _ _ _) (fun _ => impl_LateBy.mono_l0 k _ _ _ _)
theorem Srch.lower {W : World} {B B' g0 : Nat} {M0 : MP} {vf : Value} {gl : List Nat} {Ms : List MP} (h : Srch W B g0 M0 vf gl Ms) (hb : B' ≤ B) : Srch W B' g0 M0 vf gl Ms :=
  ⟨h.m0, Kd.R_mono (Kd.R_lower h.hf hb) (fun _ hk => Nat.le_trans hb hk), h.ln, h.hm⟩
set_option maxHeartbeats 8000000 in
set_option maxRecDepth 100000 in
theorem impl_LateBy.calls (k : Nat) (s0 s1 : Int) (W : LA 10) (x y : Int) (A : Option Addr) (c : Nat) (l : List S36) (Ao : Option Addr) (co : Nat) (o : List Int) (r1 r2 : Int) (w : World) (hr : Kd.C k36 w A l.length l) (hc : l.length ≤ c) (ho : Kd.C (Kd.int .i64) w Ao o.length o) (hco : o.length ≤ co) (h : impl_LateBy.f k s0 s1 W x y l o = some (r1, r2)) :
  Calls Try.prog 22 #[.agg (mixA (Value.int .u16) [.int .i8 s0, .int .i8 s1] W), .agg #[.int .i8 x, .int .i8 y], .slice A l.length c, .slice Ao o.length co] w fun e w' => e = .returned (.tuple #[.int .i64 r1, .int .i64 r2]) ∧ Below w.heap.size w w' := by
  have hu1 := Try.underlying34; have hu2 := Try.underlying36; have HR := Aside0.mk hr; have HC := Aside0.mk hc; have HO0 := Aside0.mk ho; have HCo := Aside0.mk hco; clear hr hc ho hco; have HB := Aside0.mk (Below.refl w.heap.size w); unfold impl_LateBy.f at h; obtain ⟨c1, A1, h⟩ := obn h; obtain ⟨b, A2, h⟩ := obn h; obtain ⟨c2, A3, h⟩ := obn h; obtain ⟨c0, A4, H⟩ := obn h; clear h
  by_cases c0_ : c0 = 0
  · rw [if_pos c0_] at H
    have c0b : (c0 != 0) = false := bne_eq_false_iff_eq.mpr c0_; clear c0_; obtain ⟨s, A5, H⟩ := obn H
    cases s with
    | none =>
      simp only [impl_LateBy.go, Option.some.injEq, Prod.mk.injEq] at H; obtain ⟨rfl, rfl⟩ := H
      go_enter Try.func22, Try.ntmps22
      go_wp2_with (first | ((with_reducible refine gate_dst (N := 4) rfl ?_); refine box_event ?hg (N := 4) ?hd (cs := (mixA (Value.int .u16) [.int .i8 s0, .int .i8 s1] W)) (t := 34) ?hr ?_; (case hd => rfl); (case hg => rfl); (case hr => first | (go_simp; done) | (go_simp; rfl)); intro gr hg wb hbox hb; have GEgr := gwl HB hg; replace HB := bst HB hb; have Bgr := Aside0.mk hbox; clear hb hbox hg) | ((with_reducible refine gate_dst (N := 5) rfl ?_); refine box_event ?hg (N := 5) ?hd (cs := #[.int .i8 x, .int .i8 y]) (t := 36) ?hr ?_; (case hd => rfl); (case hg => rfl); (case hr => first | (go_simp; done) | (go_simp; rfl)); intro gb hg wb hbox hb; have GEgb := gwl HB hg; replace Bgr := bkb Bgr hb; replace HB := bst HB hb; have Bgb := Aside0.mk hbox; clear hb hbox hg; have hx0 := (blk_cell Bgb.out 0).trans rfl; have hx1 := (blk_cell Bgb.out 1).trans rfl) | ((with_reducible refine gate_dst (N := 17) rfl ?_); refine wpList_run0 (v := .agg (mixA (Value.int .u16) [.int .i8 s0, .int .i8 s1] W)) rfl (load_mix_run (P := Try.prog) 34 (.tmp 4) rfl gr rfl (show World.rangeAt _ gr 0 ([.int .i8 s0, .int .i8 s1] ++ W.l.map (Value.int .u16)) from mix_range (pk Bgr)) Try.underlying34 rfl (by kernel_rfl) rfl) ?_) | ((with_reducible refine gate_callee (f := 41) rfl ?_); refine La.gl (some 20) Try.func41 #[.agg (mixA (Value.int .u16) [.int .i8 s0, .int .i8 s1] W), .agg #[.int .i8 x, .int .i8 y], .slice A l.length c] ?_; (with_reducible refine (impl_searchCode.calls k s0 s1 W x y A c l c1 _ ?sC ?sL A1.out).mono ?_); (case sC => exact Kd.C_below HR.out (pbs HB)); (case sL => exact HC.out); rintro e w6 ⟨rfl, hb⟩; refine ⟨_, rfl, ?_⟩; replace Bgr := bkb Bgr hb; replace Bgb := bkb Bgb hb; replace HB := bst HB hb; clear hb; clear hx0 hx1) | ((with_reducible refine gate_callee (f := 54) rfl ?_); refine La.gl (some 24) Try.func54 #[.slice Ao o.length co, .int .i64 (l.length : Int)] ?_; (with_reducible refine (impl_isOrder.calls k Ao co o (l.length : Int) b _ ?sC ?sL A2.out).mono ?_); (case sC => exact Kd.C_below HO0.out (pbs HB)); (case sL => exact HCo.out); rintro e w7 ⟨rfl, ⟨nd, rfl⟩⟩; refine ⟨_, rfl, ?_⟩; skip) | ((with_reducible refine gate_callee (f := 53) rfl ?_); refine La.gl (some 25) Try.func53 #[.bool b, .int .i64 4] ?_; (with_reducible refine (impl_unless.calls b 4 c2 _ A3.out).mono ?_); rintro e w7 ⟨rfl, ⟨nd, rfl⟩⟩; refine ⟨_, rfl, ?_⟩; skip) | ((with_reducible refine gate_dst (N := 26) rfl ?_); refine Kd.R_lit (Kd.int .i64) (w0 := w) w.heap.size 2 ?hg (N := 26) ?hd (xs := [c1, c2]) (inner := [.int .i64 c1, .int .i64 c2]) (ok := fun _ => True) (okp := fun _ => True) ?hr ?hp (fun _ hk => hk) trivial ?hB ?hS (by simp) ?_; (case hd => rfl); (case hg => rfl); (case hr => first | (go_simp; done) | (go_simp; rfl)); (case hp => exact (Reps.one (show Kd.M (Kd.int .i64) _ _ _ c1 [.int .i64 c1] from rfl) (Reps.one (show Kd.M (Kd.int .i64) _ _ _ c2 [.int .i64 c2] from rfl) (Reps.none _ _)))); (case hB => exact pbs HB); (case hS => exact below_size (pbs HB)); intro vl wl ho hb hg_ hnew_; have HT := Aside0.mk ho; replace Bgr := Aside0.mk ((hg_.block gr (blk_lt (pk Bgr)) (by simp)).trans (pk Bgr)); replace Bgb := Aside0.mk ((hg_.block gb (blk_lt (pk Bgb)) (by simp)).trans (pk Bgb)); replace HB := Aside0.mk hb; clear ho hb hg_ hnew_; obtain ⟨At, ct, et⟩ := Kd.R_slice HT.out; subst et) | ((with_reducible refine gate_callee (f := 52) rfl ?_); refine La.gl (some 27) Try.func52 #[.slice At [c1, c2].length ct] ?_; (with_reducible refine (impl_firstOf.calls k At ct [c1, c2] c0 _ ?sC ?sL A4.out).mono ?_); (case sC => exact (Kd.R_reads' (by (with_reducible repeat (first | apply Kd.R_alloc | apply Kd.R_drewN | apply Kd.R_drew)); exact HT.out)).2.2); (case sL => exact (Kd.R_reads' HT.out).2.1); rintro e w7 ⟨rfl, ⟨nd, rfl⟩⟩; refine ⟨_, rfl, ?_⟩; have hx0 := (blk_cell (pk Bgb) 0).trans rfl; have hx1 := (blk_cell (pk Bgb) 1).trans rfl) | ((with_reducible refine gate_dst (N := 32) rfl ?_); refine wpList_run0 (v := .agg (mixA (Value.int .u16) [.int .i8 s0, .int .i8 s1] W)) rfl (load_mix_run (P := Try.prog) 34 (.tmp 4) rfl gr rfl (show World.rangeAt _ gr 0 ([.int .i8 s0, .int .i8 s1] ++ W.l.map (Value.int .u16)) from mix_range (pk Bgr)) Try.underlying34 rfl (by kernel_rfl) rfl) ?_) | ((with_reducible refine gate_callee (f := 42) rfl ?_); refine La.gl (some 35) Try.func42 #[.agg (mixA (Value.int .u16) [.int .i8 s0, .int .i8 s1] W), .agg #[.int .i8 x, .int .i8 y], .slice A l.length c] ?_; (with_reducible refine (impl_Room_searchOf.calls k s0 s1 W x y A c l none _ ?sC ?sL A5.out).mono ?_); (case sC => exact Kd.C_below HR.out (pbs HB)); (case sL => exact HC.out); rintro e w8 hp_; unfold impl_Room_searchOf.Post at hp_; obtain ⟨hb, rfl⟩ := hp_; refine ⟨_, rfl, ?_⟩; replace HB := bst HB hb; clear hb) | ((with_reducible refine gate_dst (N := 11) rfl ?_); refine box_event ?hg (N := 11) ?hd (cs := #[.map none, .slice none 0 0, .slice none 0 0]) (t := 75) ?hr ?_; (case hd => rfl); (case hg => rfl); (case hr => first | (go_simp; done) | (go_simp; rfl)); intro gs hg wb hbox hb; have GEgs := gwl HB hg; replace HB := bst HB hb; have Bgs := Aside0.mk hbox; clear hb hbox hg) | ((with_reducible refine gate_store (p := 11) rfl ?_); refine wpList_store_whole rfl 75 _ _ rfl gs #[.map none, .slice none 0 0, .slice none 0 0] #[.map none, .slice none 0 0, .slice none 0 0] rfl rfl (pk Bgs) rfl (by kernel_rfl) (by simp [Value.oneCell']) ?_; intro ws hi hk hbl; replace HB := Aside0.mk (hbl _ _ (pbs HB) GEgs.out); replace Bgs := Aside0.mk hi; clear hi hk hbl))
      go_ret2
      exact ⟨rfl, pbs HB⟩
    | some p =>
      obtain ⟨M0, Ms⟩ := p; simp only [impl_LateBy.go] at H; obtain ⟨L, A6, H⟩ := obn H; have H' := Aside0.mk H; clear H
      go_enter Try.func22, Try.ntmps22
      go_wp2_with (first | ((with_reducible refine gate_dst (N := 4) rfl ?_); refine box_event ?hg (N := 4) ?hd (cs := (mixA (Value.int .u16) [.int .i8 s0, .int .i8 s1] W)) (t := 34) ?hr ?_; (case hd => rfl); (case hg => rfl); (case hr => first | (go_simp; done) | (go_simp; rfl)); intro gr hg wb hbox hb; have GEgr := gwl HB hg; replace HB := bst HB hb; have Bgr := Aside0.mk hbox; clear hb hbox hg) | ((with_reducible refine gate_dst (N := 5) rfl ?_); refine box_event ?hg (N := 5) ?hd (cs := #[.int .i8 x, .int .i8 y]) (t := 36) ?hr ?_; (case hd => rfl); (case hg => rfl); (case hr => first | (go_simp; done) | (go_simp; rfl)); intro gb hg wb hbox hb; have GEgb := gwl HB hg; replace Bgr := bkb Bgr hb; replace HB := bst HB hb; have Bgb := Aside0.mk hbox; clear hb hbox hg; have hx0 := (blk_cell Bgb.out 0).trans rfl; have hx1 := (blk_cell Bgb.out 1).trans rfl) | ((with_reducible refine gate_dst (N := 17) rfl ?_); refine wpList_run0 (v := .agg (mixA (Value.int .u16) [.int .i8 s0, .int .i8 s1] W)) rfl (load_mix_run (P := Try.prog) 34 (.tmp 4) rfl gr rfl (show World.rangeAt _ gr 0 ([.int .i8 s0, .int .i8 s1] ++ W.l.map (Value.int .u16)) from mix_range (pk Bgr)) Try.underlying34 rfl (by kernel_rfl) rfl) ?_) | ((with_reducible refine gate_callee (f := 41) rfl ?_); refine La.gl (some 20) Try.func41 #[.agg (mixA (Value.int .u16) [.int .i8 s0, .int .i8 s1] W), .agg #[.int .i8 x, .int .i8 y], .slice A l.length c] ?_; (with_reducible refine (impl_searchCode.calls k s0 s1 W x y A c l c1 _ ?sC ?sL A1.out).mono ?_); (case sC => exact Kd.C_below HR.out (pbs HB)); (case sL => exact HC.out); rintro e w6 ⟨rfl, hb⟩; refine ⟨_, rfl, ?_⟩; replace Bgr := bkb Bgr hb; replace Bgb := bkb Bgb hb; replace HB := bst HB hb; clear hb; clear hx0 hx1) | ((with_reducible refine gate_callee (f := 54) rfl ?_); refine La.gl (some 24) Try.func54 #[.slice Ao o.length co, .int .i64 (l.length : Int)] ?_; (with_reducible refine (impl_isOrder.calls k Ao co o (l.length : Int) b _ ?sC ?sL A2.out).mono ?_); (case sC => exact Kd.C_below HO0.out (pbs HB)); (case sL => exact HCo.out); rintro e w7 ⟨rfl, ⟨nd, rfl⟩⟩; refine ⟨_, rfl, ?_⟩; skip) | ((with_reducible refine gate_callee (f := 53) rfl ?_); refine La.gl (some 25) Try.func53 #[.bool b, .int .i64 4] ?_; (with_reducible refine (impl_unless.calls b 4 c2 _ A3.out).mono ?_); rintro e w7 ⟨rfl, ⟨nd, rfl⟩⟩; refine ⟨_, rfl, ?_⟩; skip) | ((with_reducible refine gate_dst (N := 26) rfl ?_); refine Kd.R_lit (Kd.int .i64) (w0 := w) w.heap.size 2 ?hg (N := 26) ?hd (xs := [c1, c2]) (inner := [.int .i64 c1, .int .i64 c2]) (ok := fun _ => True) (okp := fun _ => True) ?hr ?hp (fun _ hk => hk) trivial ?hB ?hS (by simp) ?_; (case hd => rfl); (case hg => rfl); (case hr => first | (go_simp; done) | (go_simp; rfl)); (case hp => exact (Reps.one (show Kd.M (Kd.int .i64) _ _ _ c1 [.int .i64 c1] from rfl) (Reps.one (show Kd.M (Kd.int .i64) _ _ _ c2 [.int .i64 c2] from rfl) (Reps.none _ _)))); (case hB => exact pbs HB); (case hS => exact below_size (pbs HB)); intro vl wl ho hb hg_ hnew_; have HT := Aside0.mk ho; replace Bgr := Aside0.mk ((hg_.block gr (blk_lt (pk Bgr)) (by simp)).trans (pk Bgr)); replace Bgb := Aside0.mk ((hg_.block gb (blk_lt (pk Bgb)) (by simp)).trans (pk Bgb)); replace HB := Aside0.mk hb; clear ho hb hg_ hnew_; obtain ⟨At, ct, et⟩ := Kd.R_slice HT.out; subst et) | ((with_reducible refine gate_callee (f := 52) rfl ?_); refine La.gl (some 27) Try.func52 #[.slice At [c1, c2].length ct] ?_; (with_reducible refine (impl_firstOf.calls k At ct [c1, c2] c0 _ ?sC ?sL A4.out).mono ?_); (case sC => exact (Kd.R_reads' (by (with_reducible repeat (first | apply Kd.R_alloc | apply Kd.R_drewN | apply Kd.R_drew)); exact HT.out)).2.2); (case sL => exact (Kd.R_reads' HT.out).2.1); rintro e w7 ⟨rfl, ⟨nd, rfl⟩⟩; refine ⟨_, rfl, ?_⟩; have hx0 := (blk_cell (pk Bgb) 0).trans rfl; have hx1 := (blk_cell (pk Bgb) 1).trans rfl) | ((with_reducible refine gate_dst (N := 32) rfl ?_); refine wpList_run0 (v := .agg (mixA (Value.int .u16) [.int .i8 s0, .int .i8 s1] W)) rfl (load_mix_run (P := Try.prog) 34 (.tmp 4) rfl gr rfl (show World.rangeAt _ gr 0 ([.int .i8 s0, .int .i8 s1] ++ W.l.map (Value.int .u16)) from mix_range (pk Bgr)) Try.underlying34 rfl (by kernel_rfl) rfl) ?_) | ((with_reducible refine gate_callee (f := 42) rfl ?_); refine La.gl (some 35) Try.func42 #[.agg (mixA (Value.int .u16) [.int .i8 s0, .int .i8 s1] W), .agg #[.int .i8 x, .int .i8 y], .slice A l.length c] ?_; (with_reducible refine (impl_Room_searchOf.calls k s0 s1 W x y A c l (some (M0, Ms)) _ ?sC ?sL A5.out).mono ?_); (case sC => exact Kd.C_below HR.out (pbs HB)); (case sL => exact HC.out); rintro e w8 hp_; unfold impl_Room_searchOf.Post at hp_; obtain ⟨hb, g0, vf, gl, rfl, hsr⟩ := hp_; refine ⟨_, rfl, ?_⟩; have HZ := Aside0.mk (hsr.lower (below_size (pbs HB))); replace HB := bst HB hb; clear hb hsr; obtain ⟨Af, cf, ef⟩ := Kd.R_slice HZ.out.hf; subst ef) | ((with_reducible refine gate_dst (N := 11) rfl ?_); refine box_event ?hg (N := 11) ?hd (cs := #[.map none, .slice none 0 0, .slice none 0 0]) (t := 75) ?hr ?_; (case hd => rfl); (case hg => rfl); (case hr => first | (go_simp; done) | (go_simp; rfl)); intro gs hg wb hbox hb; have GEgs := gwl HB hg; replace HZ := Aside0.mk (Srch.below (by (with_reducible repeat (first | apply Srch.alloc | apply Srch.drewN | apply Srch.drew)); exact HZ.out) hb); replace HB := bst HB hb; have Bgs := Aside0.mk hbox; clear hb hbox hg) | ((with_reducible refine gate_store (p := 11) rfl ?_); refine wpList_store_whole rfl 75 _ _ rfl gs #[.map (some g0), .slice Af gl.length cf, .slice A l.length c] #[.map none, .slice none 0 0, .slice none 0 0] rfl rfl (pk Bgs) rfl (by kernel_rfl) (by simp [Value.oneCell']) ?_; intro ws hi hk hbl; replace HZ := Aside0.mk (Srch.keep (by (with_reducible repeat (first | apply Srch.alloc | apply Srch.drewN | apply Srch.drew)); exact HZ.out) hk (pk Bgs) (by decide)); replace HB := Aside0.mk (hbl _ _ (pbs HB) GEgs.out); replace Bgs := Aside0.mk hi; clear hi hk hbl; have hs0 := (blk_cell Bgs.out 0).trans rfl; have hs1 := (blk_cell Bgs.out 1).trans rfl; have hs2 := (blk_cell Bgs.out 2).trans rfl) | ((with_reducible refine gate_callee (f := 46) rfl ?_); refine La.gl (some 42) Try.func46 #[.agg #[.map (some g0), .slice Af gl.length cf, .slice A l.length c], .slice Ao o.length co] ?_; (with_reducible refine (impl_search_legs.calls k w.heap.size g0 M0 (.slice Af gl.length cf) gl Ms A c l Ao co o L _ ?sZ ?sC ?sO A6.out).mono ?_); (case sZ => exact (by (with_reducible repeat (first | apply Srch.alloc | apply Srch.drewN | apply Srch.drew)); exact HZ.out)); (case sC => exact Kd.C_below HR.out (pbs HB)); (case sO => exact Kd.C_below HO0.out (pbs HB)); rintro e w9 ⟨vL, rfl, hL, hb⟩; refine ⟨_, rfl, ?_⟩; have HL := Aside0.mk (Kd.R_mono (Kd.R_lower hL (below_size (pbs HB))) (fun _ hk => Nat.le_trans (below_size (pbs HB)) hk)); replace HB := bst HB hb; clear hb hL; obtain ⟨AL, cL, eL⟩ := Kd.R_slice HL.out; subst eL))
      go_loopg [13, 14, 44] k (fun kq v13 v14 v44 w' => ∃ (i all now : Int), v13 = .int .i64 all ∧ v14 = .int .i64 now ∧ v44 = .int .i64 i ∧ Aside0 (impl_LateBy.l0 kq L i all now = some (r1, r2)) ∧ Aside0 (kq ≤ k) ∧ Aside0 (Kd.R (Kd.int .i64) 2 w' w.heap.size (fun k => w.heap.size ≤ k) (.slice AL L.length cL) L) ∧ Aside0 (Below w.heap.size w w'))
      case atStart => exact ⟨0, 0, 0, (by first | rfl | (simp; done) | (simp [*]; done)), (by first | rfl | (simp; done) | (simp [*]; done)), (by first | rfl | (simp; done) | (simp [*]; done)), H', ⟨Nat.le_refl _⟩, ⟨by (with_reducible repeat (first | apply Kd.R_alloc | apply Kd.R_drewN | apply Kd.R_drew)); exact HL.out⟩, ⟨pbs HB⟩⟩
      case round =>
        clear H'; obtain ⟨i, all, now, rfl, rfl, rfl, HA, HK1, HL, HB⟩ := hrel
        cases gk with
        | zero => exact absurd HA.out (by simp [impl_LateBy.l0])
        | succ k1 =>
          have H := HA.out; clear HA; simp only [impl_LateBy.l0] at H
          by_cases d1_ : i < (L.length : Int)
          · rw [if_pos d1_] at H
            have d1b0 : decide (i < (L.length : Int)) = true := decide_eq_true d1_
            by_cases d2_ : 0 ≤ i
            case neg => rw [if_neg d2_] at H; exact absurd H (by simp)
            rw [if_pos d2_] at H; have H' := Aside0.mk H; clear H; obtain ⟨aL, e_, hi0⟩ := Kd.at_int (Kd.R_reads' HL.out).2.2 i d2_ d1_; cases e_; have p_ := eq_true d2_; have q_ := eq_true d1_; clear d1_ d2_
            go_wp2
            go_roundg k1
            case measure => have := HK1.out; omega
            case rel => exact ⟨wrap64 (i + 1), wrap64 (all + wrap64 (now + rd L i)), wrap64 (now + rd L i), (by first | rfl | (simp; done) | (simp [*]; done)), (by first | rfl | (simp; done) | (simp [*]; done)), (by first | rfl | (simp; done) | (simp [*]; done)), H', ⟨by have := HK1.out; omega⟩, ⟨by (with_reducible repeat (first | apply Kd.R_alloc | apply Kd.R_drewN | apply Kd.R_drew)); exact HL.out⟩, ⟨pbs HB⟩⟩
          · rw [if_neg d1_] at H
            have d1b0 : decide (i < (L.length : Int)) = false := decide_eq_false d1_; simp only [Option.some.injEq, Prod.mk.injEq] at H; obtain ⟨rfl, rfl⟩ := H; clear d1_
            go_wp2
            go_ret2
            exact ⟨rfl, pbs HB⟩
  · rw [if_neg c0_] at H
    have c0b : (c0 != 0) = true := bne_iff_ne.mpr c0_; simp only [Option.some.injEq, Prod.mk.injEq] at H; obtain ⟨rfl, rfl⟩ := H; clear c0_
    go_enter Try.func22, Try.ntmps22
    go_wp2_with (first | ((with_reducible refine gate_dst (N := 4) rfl ?_); refine box_event ?hg (N := 4) ?hd (cs := (mixA (Value.int .u16) [.int .i8 s0, .int .i8 s1] W)) (t := 34) ?hr ?_; (case hd => rfl); (case hg => rfl); (case hr => first | (go_simp; done) | (go_simp; rfl)); intro gr hg wb hbox hb; have GEgr := gwl HB hg; replace HB := bst HB hb; have Bgr := Aside0.mk hbox; clear hb hbox hg) | ((with_reducible refine gate_dst (N := 5) rfl ?_); refine box_event ?hg (N := 5) ?hd (cs := #[.int .i8 x, .int .i8 y]) (t := 36) ?hr ?_; (case hd => rfl); (case hg => rfl); (case hr => first | (go_simp; done) | (go_simp; rfl)); intro gb hg wb hbox hb; have GEgb := gwl HB hg; replace Bgr := bkb Bgr hb; replace HB := bst HB hb; have Bgb := Aside0.mk hbox; clear hb hbox hg; have hx0 := (blk_cell Bgb.out 0).trans rfl; have hx1 := (blk_cell Bgb.out 1).trans rfl) | ((with_reducible refine gate_dst (N := 17) rfl ?_); refine wpList_run0 (v := .agg (mixA (Value.int .u16) [.int .i8 s0, .int .i8 s1] W)) rfl (load_mix_run (P := Try.prog) 34 (.tmp 4) rfl gr rfl (show World.rangeAt _ gr 0 ([.int .i8 s0, .int .i8 s1] ++ W.l.map (Value.int .u16)) from mix_range (pk Bgr)) Try.underlying34 rfl (by kernel_rfl) rfl) ?_) | ((with_reducible refine gate_callee (f := 41) rfl ?_); refine La.gl (some 20) Try.func41 #[.agg (mixA (Value.int .u16) [.int .i8 s0, .int .i8 s1] W), .agg #[.int .i8 x, .int .i8 y], .slice A l.length c] ?_; (with_reducible refine (impl_searchCode.calls k s0 s1 W x y A c l c1 _ ?sC ?sL A1.out).mono ?_); (case sC => exact Kd.C_below HR.out (pbs HB)); (case sL => exact HC.out); rintro e w6 ⟨rfl, hb⟩; refine ⟨_, rfl, ?_⟩; replace Bgr := bkb Bgr hb; replace Bgb := bkb Bgb hb; replace HB := bst HB hb; clear hb; clear hx0 hx1) | ((with_reducible refine gate_callee (f := 54) rfl ?_); refine La.gl (some 24) Try.func54 #[.slice Ao o.length co, .int .i64 (l.length : Int)] ?_; (with_reducible refine (impl_isOrder.calls k Ao co o (l.length : Int) b _ ?sC ?sL A2.out).mono ?_); (case sC => exact Kd.C_below HO0.out (pbs HB)); (case sL => exact HCo.out); rintro e w7 ⟨rfl, ⟨nd, rfl⟩⟩; refine ⟨_, rfl, ?_⟩; skip) | ((with_reducible refine gate_callee (f := 53) rfl ?_); refine La.gl (some 25) Try.func53 #[.bool b, .int .i64 4] ?_; (with_reducible refine (impl_unless.calls b 4 c2 _ A3.out).mono ?_); rintro e w7 ⟨rfl, ⟨nd, rfl⟩⟩; refine ⟨_, rfl, ?_⟩; skip) | ((with_reducible refine gate_dst (N := 26) rfl ?_); refine Kd.R_lit (Kd.int .i64) (w0 := w) w.heap.size 2 ?hg (N := 26) ?hd (xs := [c1, c2]) (inner := [.int .i64 c1, .int .i64 c2]) (ok := fun _ => True) (okp := fun _ => True) ?hr ?hp (fun _ hk => hk) trivial ?hB ?hS (by simp) ?_; (case hd => rfl); (case hg => rfl); (case hr => first | (go_simp; done) | (go_simp; rfl)); (case hp => exact (Reps.one (show Kd.M (Kd.int .i64) _ _ _ c1 [.int .i64 c1] from rfl) (Reps.one (show Kd.M (Kd.int .i64) _ _ _ c2 [.int .i64 c2] from rfl) (Reps.none _ _)))); (case hB => exact pbs HB); (case hS => exact below_size (pbs HB)); intro vl wl ho hb hg_ hnew_; have HT := Aside0.mk ho; replace Bgr := Aside0.mk ((hg_.block gr (blk_lt (pk Bgr)) (by simp)).trans (pk Bgr)); replace Bgb := Aside0.mk ((hg_.block gb (blk_lt (pk Bgb)) (by simp)).trans (pk Bgb)); replace HB := Aside0.mk hb; clear ho hb hg_ hnew_; obtain ⟨At, ct, et⟩ := Kd.R_slice HT.out; subst et) | ((with_reducible refine gate_callee (f := 52) rfl ?_); refine La.gl (some 27) Try.func52 #[.slice At [c1, c2].length ct] ?_; (with_reducible refine (impl_firstOf.calls k At ct [c1, c2] c0 _ ?sC ?sL A4.out).mono ?_); (case sC => exact (Kd.R_reads' (by (with_reducible repeat (first | apply Kd.R_alloc | apply Kd.R_drewN | apply Kd.R_drew)); exact HT.out)).2.2); (case sL => exact (Kd.R_reads' HT.out).2.1); rintro e w7 ⟨rfl, ⟨nd, rfl⟩⟩; refine ⟨_, rfl, ?_⟩; have hx0 := (blk_cell (pk Bgb) 0).trans rfl; have hx1 := (blk_cell (pk Bgb) 1).trans rfl))
    go_ret2
    exact ⟨rfl, pbs HB⟩
end Go.Proofs.Ytanobaoaelhebaa.PB
end
