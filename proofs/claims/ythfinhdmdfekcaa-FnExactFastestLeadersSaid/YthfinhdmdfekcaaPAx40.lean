/- Lean functions for Go functions, and proofs that Go comes to just their answers; written by a program of this session. -/
import Derived.Test.YthfinhdmdfekcaaPAx0
import Derived.Test.YthfinhdmdfekcaaPAx1
import Derived.Test.YthfinhdmdfekcaaPAx2
import Derived.Test.YthfinhdmdfekcaaPAx3
import Derived.Test.YthfinhdmdfekcaaPAx5
import Derived.Test.YthfinhdmdfekcaaPAx12
import Derived.Test.YthfinhdmdfekcaaPAx20
namespace Go.Proofs.Ythfinhdmdfekcaa.PA
open Go.RowKit Go.Proofs.YthfinhdmdfekcaaW.PrintWords Go.Proofs.YthfinhdmdfekcaaW.PrintLast Go.Proofs.YthfinhdmdfekcaaW.PrintMore
attribute [local go_sem] max2_int min2_int max_two min_two max_three min_three max_four min_four   -- for this text's walks alone
set_option linter.unusedVariables false
set_option linter.unusedSimpArgs false

/-! ### ext impl_leastPlan: function 85 -/

def leastStep (num : List Int → Option Int) (s : List Int × Int) (plan : List Int) : Option (List Int × Int) :=
  (num plan).bind fun m => if s.2 < 0 then some (plan, m) else if m < s.2 then some (plan, m) else some s
theorem leastStep_le {f g : List Int → Option Int} (h : ∀ a, LeO (f a) (g a)) (s : List Int × Int) (a : List Int) : LeO (leastStep f s a) (leastStep g s a) := LeO.bind (h a) (fun _ => LeO.refl _)
def leastM (k : Nat) (num : List Int → Option Int) (l0 : List S75) (l1 : List Int) : Option (List Int × Int × Int) :=
  (impl_ValidGuides.f l0).bind fun a => if a = true then (impl_ValidLegs.f l1).bind fun b => if b = true then (plansM k l0 l1 (leastStep num) (l1.length + 1) [] (([] : List Int), (-1 : Int))).bind fun r => if r.2 < 0 then some (([] : List Int), 0, 6) else some (r.1, r.2, 0)
    else some (([] : List Int), 0, 1) else some (([] : List Int), 0, 1)
theorem leastM_le (k : Nat) {f g : List Int → Option Int} (h : ∀ a, LeO (f a) (g a)) (l0 : List S75) (l1 : List Int) : LeO (leastM k f l0 l1) (leastM (k + 1) g l0 l1) := by
  unfold leastM
  exact LeO.bind (LeO.refl _) (fun _ => LeO.ite (LeO.bind (LeO.refl _) (fun _ => LeO.ite (LeO.bind (plansM_le k l0 l1 (leastStep_le h) _ _ _) (fun _ => LeO.refl _)) (LeO.refl _))) (LeO.refl _))

/-- What 'leastPlan' keeps: the number's function, the best plan yet, its number. -/
def LeastInv (NF : Nat) (ncaps : Array Value) (B t1 t2 t3 : Nat) (w0 : World) (s : List Int × Int) (W : World) : Prop :=
  W.heap[t1]? = some (.cells #[.func (.func NF) #[] ncaps] 62 (0, 0)) ∧ W.heap[t2]? = some (.cells #[.int .i64 s.2] 2 (0, 0)) ∧ (∃ vb, W.heap[t3]? = some (.cells #[vb] 22 (0, 0)) ∧ Kd.R (Kd.int .i64) 2 W B (fun k => ¬ (k = t2 ∨ k = t3)) vb s.1) ∧
    Below B w0 W ∧ B ≤ W.heap.size
theorem LeastInv.stable {NF : Nat} {ncaps : Array Value} {B t1 t2 t3 : Nat} {w0 : World} {s : List Int × Int} {W W' : World} (h : LeastInv NF ncaps B t1 t2 t3 w0 s W) (hb : Below W.heap.size W W') : LeastInv NF ncaps B t1 t2 t3 w0 s W' := by
  obtain ⟨h1, h2, ⟨vb, h3, h4⟩, h5, h6⟩ := h
  exact ⟨(hb.block _ (blk_lt h1)).trans h1, (hb.block _ (blk_lt h2)).trans h2, ⟨vb, (hb.block _ (blk_lt h3)).trans h3, Kd.R_below h4 hb⟩, below_then h5 h6 hb, Nat.le_trans h6 hb.size⟩
theorem isfn_least : IsFn 103 := fun _ _ => by kernel_rfl

/-- What is asked of the function that tells a plan's number. -/
structure NumOk (num : List Int → Option Int) (NF : Nat) (ncaps : Array Value) (B : Nat) (w0 : World) : Prop where
  fn : IsFn NF
  tells : ∀ (W : World) (A : Option Addr) (c : Nat) (l : List Int) (m : Int), Below B w0 W → Kd.C (Kd.int .i64) W A l.length l → l.length ≤ c → num l = some m →
    Calls Try.prog NF (#[.slice A l.length c] ++ ncaps) W fun e w' => e = .returned (.int .i64 m) ∧ Below W.heap.size W w'

set_option maxHeartbeats 8000000 in
set_option maxRecDepth 100000 in
theorem least_each (num : List Int → Option Int) (NF : Nat) (ncaps : Array Value) (B t1 t2 t3 : Nat) (h12 : t1 ≠ t2) (h13 : t1 ≠ t3) (h23 : t2 ≠ t3) (hB1 : B ≤ t1) (hB2 : B ≤ t2) (hB3 : B ≤ t3)
    (w0 : World) (hnum : NumOk num NF ncaps B w0)
    (s s' : List Int × Int) (W : World) (v : Value) (l : List Int) (hi : LeastInv NF ncaps B t1 t2 t3 w0 s W) (hr : Kd.R (Kd.int .i64) 2 W B (fun k => ¬ (k = t2 ∨ k = t3)) v l) (h : leastStep num s l = some s') :
    Calls Try.prog 103 (#[v] ++ #[.pointer (some ⟨t1, 0, none⟩), .pointer (some ⟨t2, 0, none⟩), .pointer (some ⟨t3, 0, none⟩)]) W fun e w' => e = .returned (.bool true) ∧ LeastInv NF ncaps B t1 t2 t3 w0 s' w' ∧ Kept W w' (fun k => k = t2 ∨ k = t3) ∧ Below B W w' := by
  obtain ⟨A, c, rfl, hlc, hc⟩ := Kd.R_reads hr
  obtain ⟨m, hm, h⟩ := Option.bind_eq_some_iff.1 h
  obtain ⟨h1, h2, ⟨vb, h3, h4⟩, h5, h6⟩ := hi
  have hx1 := blk_cell h1 0
  have H1 := Aside0.mk h1
  have H2 := Aside0.mk h2
  have H3 := Aside0.mk h3
  have H4 := Aside0.mk h4
  have H5 := Aside0.mk h5
  have H6 := Aside0.mk h6
  have HR := Aside0.mk hr
  have HC := Aside0.mk hc
  have HM := Aside0.mk hm
  have HP := Aside0.mk hnum
  have HH := Aside0.mk h
  have N12 := Aside0.mk h12
  have N13 := Aside0.mk h13
  have N23 := Aside0.mk h23
  have hcf := hnum.fn
  unfold IsFn at hcf
  clear h1 h2 h3 h4 h5 h6 hr hc hm hnum h h12 h13 h23
  obtain ⟨sb, sn⟩ := s
  show Calls Try.prog 103 #[.slice A l.length c, .pointer (some ⟨t1, 0, none⟩), .pointer (some ⟨t2, 0, none⟩), .pointer (some ⟨t3, 0, none⟩)] W _
  by_cases hnew : sn < 0 ∨ m < sn
  · have hs' : s' = (l, m) := by
      have := HH.out
      simp only at this
      rcases hnew with h | h
      · rw [if_pos h] at this; exact (Option.some.inj this).symm
      · by_cases h0 : sn < 0
        · rw [if_pos h0] at this; exact (Option.some.inj this).symm
        · rw [if_neg h0, if_pos h] at this; exact (Option.some.inj this).symm
    subst hs'
    clear HH
    have fin : ∀ w1 : World, Below W.heap.size W w1 → LeastInv NF ncaps B t1 t2 t3 w0 (l, m) ((w1.setCell ⟨t3, 0, none⟩ (.slice A l.length c)).setCell ⟨t2, 0, none⟩ (.int .i64 m)) ∧ Kept W ((w1.setCell ⟨t3, 0, none⟩ (.slice A l.length c)).setCell ⟨t2, 0, none⟩ (.int .i64 m)) (fun k => k = t2 ∨ k = t3) ∧ Below B W ((w1.setCell ⟨t3, 0, none⟩ (.slice A l.length c)).setCell ⟨t2, 0, none⟩ (.int .i64 m)) := by
      intro w1 hb
      have g1 := (hb.block _ (blk_lt H1.out)).trans H1.out
      have g2 := (hb.block _ (blk_lt H2.out)).trans H2.out
      have g3 := (hb.block _ (blk_lt H3.out)).trans H3.out
      have hbB : Below B W ((w1.setCell ⟨t3, 0, none⟩ (.slice A l.length c)).setCell ⟨t2, 0, none⟩ (.int .i64 m)) := ((hb.mono H6.out).setCell (p := ⟨t3, 0, none⟩) hB3 _).setCell (p := ⟨t2, 0, none⟩) hB2 _
      refine ⟨⟨blk_far (blk_far g1 N13.out _) N12.out _, ?_, ⟨.slice A l.length c, ?_, ?_⟩, H5.out.trans hbB, Nat.le_trans H6.out hbB.size⟩, ?_, hbB⟩
      · have := blk_set (blk_far g2 (p := ⟨t3, 0, none⟩) N23.out (.slice A l.length c)) 0 (.int .i64 m)
        simpa using this
      · have := blk_far (blk_set g3 0 (.slice A l.length c)) (p := ⟨t2, 0, none⟩) (fun h => N23.out h.symm) (.int .i64 m)
        simpa using this
      · exact Kd.R_far (Kd.R_far (Kd.R_below HR.out hb) (fun q hq h => hq (.inr h)) _) (fun q hq h => hq (.inl h)) _
      · exact ((Kept.of_below hb _).setCell (.inl (.inr rfl)) _).setCell (.inl (.inl rfl)) _
    have FIN := Aside0.mk fin
    clear fin
    by_cases h0 : sn < 0
    · clear hnew
      go_enter Try.func103, Try.ntmps103
      go_wp2_with fail
      with_reducible refine (HP.out.tells _ A c l m H5.out HC.out hlc HM.out).mono ?_
      rintro e w1 ⟨rfl, hb⟩
      have hx2 : w1.cell? ⟨t2, 0, none⟩ = some (.int .i64 sn) := blk_cell ((hb.block _ (blk_lt H2.out)).trans H2.out) 0
      have hf2 : w1.frozen? ⟨t2, 0, none⟩ = false := blk_frozen ((hb.block _ (blk_lt H2.out)).trans H2.out) 0
      have hx3 : w1.cell? ⟨t3, 0, none⟩ = some vb := blk_cell ((hb.block _ (blk_lt H3.out)).trans H3.out) 0
      have hf3 : w1.frozen? ⟨t3, 0, none⟩ = false := blk_frozen ((hb.block _ (blk_lt H3.out)).trans H3.out) 0
      have HB := Aside0.mk hb
      clear hb
      have hne := N23.out
      have hne' : t3 ≠ t2 := fun h => hne h.symm
      go_wp2
      go_ret
      exact ⟨rfl, FIN.out _ HB.out⟩
    · have hlt : m < sn := by omega
      clear hnew
      go_enter Try.func103, Try.ntmps103
      go_wp2_with fail
      with_reducible refine (HP.out.tells _ A c l m H5.out HC.out hlc HM.out).mono ?_
      rintro e w1 ⟨rfl, hb⟩
      have hx2 : w1.cell? ⟨t2, 0, none⟩ = some (.int .i64 sn) := blk_cell ((hb.block _ (blk_lt H2.out)).trans H2.out) 0
      have hf2 : w1.frozen? ⟨t2, 0, none⟩ = false := blk_frozen ((hb.block _ (blk_lt H2.out)).trans H2.out) 0
      have hx3 : w1.cell? ⟨t3, 0, none⟩ = some vb := blk_cell ((hb.block _ (blk_lt H3.out)).trans H3.out) 0
      have hf3 : w1.frozen? ⟨t3, 0, none⟩ = false := blk_frozen ((hb.block _ (blk_lt H3.out)).trans H3.out) 0
      have HB := Aside0.mk hb
      clear hb
      have hne := N23.out
      have hne' : t3 ≠ t2 := fun h => hne h.symm
      go_wp2
      go_ret
      exact ⟨rfl, FIN.out _ HB.out⟩
  · have hs' : s' = (sb, sn) := by
      have := HH.out
      simp only at this
      rw [if_neg (fun h => hnew (.inl h)), if_neg (fun h => hnew (.inr h))] at this
      exact (Option.some.inj this).symm
    subst hs'
    clear HH
    have h0 : ¬ sn < 0 := fun h => hnew (.inl h)
    have hlt : ¬ m < sn := fun h => hnew (.inr h)
    have HI : Aside0 (LeastInv NF ncaps B t1 t2 t3 w0 (sb, sn) W) := ⟨H1.out, H2.out, ⟨vb, H3.out, H4.out⟩, H5.out, H6.out⟩
    clear hnew
    go_enter Try.func103, Try.ntmps103
    go_wp2_with fail
    with_reducible refine (HP.out.tells _ A c l m H5.out HC.out hlc HM.out).mono ?_
    rintro e w1 ⟨rfl, hb⟩
    have hx2 : w1.cell? ⟨t2, 0, none⟩ = some (.int .i64 sn) := blk_cell ((hb.block _ (blk_lt H2.out)).trans H2.out) 0
    have HB := Aside0.mk hb
    clear hb
    go_wp2
    go_ret
    exact ⟨rfl, HI.out.stable HB.out, Kept.of_below HB.out _, HB.out.mono H6.out⟩

set_option maxHeartbeats 8000000 in
set_option maxRecDepth 100000 in
theorem leastPlan_any (k : Nat) (num : List Int → Option Int) (NF : Nat) (ncaps : Array Value) (A0 : Option Addr) (c0 : Nat) (l0 : List S75) (A1 : Option Addr) (c1 : Nat) (l1 : List Int) (r1 : List Int) (r2 r3 : Int) (w : World) (hnum : NumOk num NF ncaps w.heap.size w)
    (hr0 : Kd.C k75 w A0 l0.length l0) (hc0 : l0.length ≤ c0) (hr1 : Kd.C (Kd.int .i64) w A1 l1.length l1) (hc1 : l1.length ≤ c1) (h : leastM k num l0 l1 = some (r1, r2, r3)) :
    Calls Try.prog 85 #[.slice A0 l0.length c0, .slice A1 l1.length c1, .func (.func NF) #[] ncaps] w fun e w' => ∃ v0_ : Value, e = .returned (.tuple #[v0_, .int .i64 r2, .int .i64 r3]) ∧ Kd.R (Kd.int .i64) 2 w' w.heap.size (fun _ => True) v0_ r1 ∧ Below w.heap.size w w' := by
  obtain ⟨a, ha, h⟩ := Option.bind_eq_some_iff.1 h
  have HA := Aside0.mk ha
  have HC0 := Aside0.mk hc0
  have HC1 := Aside0.mk hc1
  have HN := Aside0.mk hnum
  have hmf : ∀ (fn : Fn) (first cap : Array Value) (w : World), (Instr.makeFunc fn first cap).run Try.prog w = .ok (.func fn first cap) w := fun _ _ _ _ => rfl
  have HRD0 := Aside0.mk (fun (W : World) (hb : Below w.heap.size w W) => Kd.C_below hr0 hb)
  have HRD1 := Aside0.mk (fun (W : World) (hb : Below w.heap.size w W) => Kd.C_below hr1 hb)
  clear ha hr0 hr1 hc0 hc1 hnum
  cases a with
  | false =>
    rw [if_neg (by simp)] at h
    simp only [Option.some.injEq, Prod.mk.injEq] at h
    obtain ⟨rfl, rfl, rfl⟩ := h
    go_enter Try.func85, Try.ntmps85
    go_wp2_with fail
    with_reducible refine (impl_ValidGuides.calls A0 c0 l0 false _ (HRD0.out _ (below_alloc (Below.refl _ _) _)) HC0.out HA.out).mono ?_
    rintro e w1 ⟨rfl, hb⟩
    have HB := Aside0.mk (below_then (below_alloc (Below.refl w.heap.size w) _) (by simp) hb)
    clear hb
    go_wp2
    go_ret3
    exact ⟨_, rfl, Kd.R_nil _ _ _ _ _, HB.out⟩
  | true =>
    rw [if_pos rfl] at h
    obtain ⟨b, hb0, h⟩ := Option.bind_eq_some_iff.1 h
    have HBB := Aside0.mk hb0
    clear hb0
    cases b with
    | false =>
      rw [if_neg (by simp)] at h
      simp only [Option.some.injEq, Prod.mk.injEq] at h
      obtain ⟨rfl, rfl, rfl⟩ := h
      go_enter Try.func85, Try.ntmps85
      go_wp2_with fail
      with_reducible refine (impl_ValidGuides.calls A0 c0 l0 true _ (HRD0.out _ (below_alloc (Below.refl _ _) _)) HC0.out HA.out).mono ?_
      rintro e w1 ⟨rfl, hb⟩
      have HB := Aside0.mk (below_then (below_alloc (Below.refl w.heap.size w) _) (by simp) hb)
      clear hb
      go_wp2_with fail
      with_reducible refine (impl_ValidLegs.calls A1 c1 l1 false _ (HRD1.out _ HB.out) HC1.out HBB.out).mono ?_
      rintro e w2 ⟨rfl, hb⟩
      have HB2 := Aside0.mk (below_then HB.out HB.out.size hb)
      clear hb
      go_wp2
      go_ret3
      exact ⟨_, rfl, Kd.R_nil _ _ _ _ _, HB2.out⟩
    | true =>
      rw [if_pos rfl] at h
      obtain ⟨r, hr, h⟩ := Option.bind_eq_some_iff.1 h
      have H := Aside0.mk hr
      have hlen0 : l0.length ≤ 1000 := by
        have := HA.out
        simp only [impl_ValidGuides.f, inB, Option.some.injEq, Bool.and_eq_true, decide_eq_true_eq] at this
        omega
      have hlen1 : l1.length ≤ 1000 := by
        have := HBB.out
        simp only [impl_ValidLegs.f, inB, Option.some.injEq, Bool.and_eq_true, decide_eq_true_eq] at this
        omega
      have HH := Aside0.mk h
      clear hr h
      go_enter Try.func85, Try.ntmps85
      go_wp2_with fail
      with_reducible refine (impl_ValidGuides.calls A0 c0 l0 true _ (HRD0.out _ (below_alloc (Below.refl _ _) _)) HC0.out HA.out).mono ?_
      rintro e w1 ⟨rfl, hb⟩
      have hbk := (hb.block w.heap.size (by simp)).trans (blk_new w (.cells #[.func (.func NF) #[] ncaps] 62))
      have HBK := Aside0.mk hbk
      have HB := Aside0.mk (below_then (below_alloc (Below.refl w.heap.size w) (.cells #[.func (.func NF) #[] ncaps] 62)) (by simp) hb)
      clear hb hbk
      go_wp2_with fail
      with_reducible refine (impl_ValidLegs.calls A1 c1 l1 true _ (HRD1.out _ HB.out) HC1.out HBB.out).mono ?_
      rintro e w2 ⟨rfl, hb⟩
      have hbk2 := (hb.block _ (blk_lt HBK.out)).trans HBK.out
      have HBK2 := Aside0.mk hbk2
      have hsz : w.heap.size < w2.heap.size := blk_lt hbk2
      have HB2 := Aside0.mk (below_then HB.out HB.out.size hb)
      clear hb hbk2
      go_wp2_with fail
      have hbel := below_alloc (below_alloc (Below.refl w2.heap.size w2) (.cells #[.slice none 0 0] 22)) (.cells #[.int .i64 (-1)] 2)
      have hB1 : Below w.heap.size w ((w2.alloc (.cells #[.slice none 0 0] 22)).alloc (.cells #[.int .i64 (-1)] 2)) := below_then HB2.out (Nat.le_of_lt hsz) hbel
      have hinv : LeastInv NF ncaps w.heap.size w.heap.size (w2.heap.size + 1) w2.heap.size w ([], -1) ((w2.alloc (.cells #[.slice none 0 0] 22)).alloc (.cells #[.int .i64 (-1)] 2)) :=
        ⟨blk_alloc (blk_alloc HBK2.out _) _, blk_new2 _ _ (by simp), ⟨_, blk_alloc (blk_new _ _) _, Kd.R_nil _ _ _ _ _⟩, hB1, hB1.size⟩
      have hE : EachPlan (LeastInv NF ncaps w.heap.size w.heap.size (w2.heap.size + 1) w2.heap.size w) (leastStep num) 103 #[.pointer (some ⟨w.heap.size, 0, none⟩), .pointer (some ⟨w2.heap.size + 1, 0, none⟩), .pointer (some ⟨w2.heap.size, 0, none⟩)] (fun k => k = w2.heap.size + 1 ∨ k = w2.heap.size) w.heap.size :=
        { fn := isfn_least, stable := fun s W W' hi hb => hi.stable hb
          each := fun s s' W v l hi hr h => least_each num NF ncaps w.heap.size w.heap.size (w2.heap.size + 1) w2.heap.size (by omega) (by omega) (by omega) (Nat.le_refl _) (by omega) (by omega) w HN.out s s' W v l hi hr h }
      have HE := Aside0.mk hE
      have HI := Aside0.mk hinv
      have HB1 := Aside0.mk hB1
      clear hE hinv hB1 hbel
      with_reducible refine (plans_any _ (leastStep num) _ _ _ w.heap.size HE.out k l0 l1 A0 A1 c0 c1 w HC0.out HC1.out HRD0.out HRD1.out hlen0 hlen1 (l1.length + 1) _ ([], -1) r HI.out HB1.out HB1.out.size (fun q hq => by rcases hq with rfl | rfl <;> simp <;> omega) H.out).mono ?_
      rintro e w3 ⟨rfl, ⟨g1, g2, ⟨vb, g3, g4⟩, g5, g6⟩, hk, hb2⟩
      have hy2 : w3.cell? ⟨w2.heap.size + 1, 0, none⟩ = some (.int .i64 r.2) := blk_cell g2 0
      have hy3 : w3.cell? ⟨w2.heap.size, 0, none⟩ = some vb := blk_cell g3 0
      have G4 := Aside0.mk g4
      have G5 := Aside0.mk g5
      clear g1 g2 g3 g4 g5 g6 hk hb2
      by_cases hneg : r.2 < 0
      · have h := HH.out
        rw [if_pos hneg] at h
        simp only [Option.some.injEq, Prod.mk.injEq] at h
        obtain ⟨rfl, rfl, rfl⟩ := h
        go_wp2
        go_ret3
        exact ⟨_, rfl, Kd.R_nil _ _ _ _ _, G5.out⟩
      · have h := HH.out
        rw [if_neg hneg] at h
        simp only [Option.some.injEq, Prod.mk.injEq] at h
        obtain ⟨rfl, rfl, rfl⟩ := h
        clear HH
        go_wp2_with fail
        go_quiet (fail)
        go_wp2
        go_ret3
        exact ⟨_, rfl, Kd.R_drewN (Kd.R_mono G4.out (fun _ _ => trivial)) _, pw_below_drewN G5.out _⟩

/-! ### laws_markGuideS: function 48 -/
def laws_markGuideS.l0 : Nat → List (S75) → Int → Int → Option (Int × (List (S75)))
  | 0, _, _, _ => none
  | k + 1, x0, x1, x5 => if x5 < (x0.length : Int) then (if 0 ≤ x5 then ((some (x0.set (x5 : Int).toNat (⟨IntKind.i8.wrap (x1), (rd_T75 x0 x5).f1, (rd_T75 x0 x5).f2⟩ : S75) : List (S75))).bind fun y634 => ((some (y634.set (x5 : Int).toNat (⟨(rd_T75 y634 x5).f0, IntKind.i8.wrap (wrap64 (x1 + 1)), (rd_T75 y634 x5).f2⟩ : S75) : List (S75))).bind fun y635 => (laws_markGuideS.l0 k (y635.set (x5 : Int).toNat (⟨(rd_T75 y635 x5).f0, (rd_T75 y635 x5).f1, IntKind.i8.wrap (wrap64 ((wrap64 (x1 + 1)) + 1))⟩ : S75)) (wrap64 ((wrap64 ((wrap64 (x1 + 1)) + 1)) + 1)) (wrap64 (x5 + 1))))) else (none)) else (some (x1, x0))
def laws_markGuideS.f (k : Nat) (l0 : List (S75)) (a1 : Int) : Option (Int × (List (S75))) := laws_markGuideS.l0 k l0 a1 0
theorem laws_markGuideS.mono_l : ∀ k, (∀ y0 y1 y2, LeO (laws_markGuideS.l0 k y0 y1 y2) (laws_markGuideS.l0 (k + 1) y0 y1 y2))
  | 0 => fun _ _ _ r h => by simp [laws_markGuideS.l0] at h
  | k + 1 => by
    have ih0 := laws_markGuideS.mono_l k
    · intro y0 y1 y2
      unfold laws_markGuideS.l0
      repeat' first
      | (with_reducible exact ih0 _ _ _)
      | (with_reducible exact LeO.refl _)
      | (with_reducible exact LeO.none _)
      | (with_reducible refine LeO.ite ?_ ?_)
      | (with_reducible refine LeO.bind ?_ (fun _ => ?_))
      | exact ih0 _ _ _
      | exact LeO.none _
      | refine LeO.ite ?_ ?_
      | refine LeO.bind ?_ (fun _ => ?_)
theorem laws_markGuideS.mono : ∀ a0 a1 k, LeO (laws_markGuideS.f k a0 a1) (laws_markGuideS.f (k + 1) a0 a1) := by
  intro a0 a1 k
  have ih0 := laws_markGuideS.mono_l k
  unfold laws_markGuideS.f
  repeat' first
      | (with_reducible exact ih0 _ _ _)
      | (with_reducible exact LeO.refl _)
      | (with_reducible exact LeO.none _)
      | (with_reducible refine LeO.ite ?_ ?_)
      | (with_reducible refine LeO.bind ?_ (fun _ => ?_))
      | exact ih0 _ _ _
      | exact LeO.none _
      | refine LeO.ite ?_ ?_
      | refine LeO.bind ?_ (fun _ => ?_)
set_option maxHeartbeats 8000000 in
set_option maxRecDepth 100000 in
theorem laws_markGuideS.calls (k : Nat) (P0_ : Nat → Prop) (u9000_ : Value) (l0 : List (S75)) (a1 : Int) (r1 : Int) (r2 : List (S75)) (w0 w : World) (hB : Below w0.heap.size w0 w) (ho0 : Kd.R k75 75 w w0.heap.size P0_ u9000_ l0) (h : laws_markGuideS.f k l0 a1 = some (r1, r2)) :
    Calls Try.prog 48 #[u9000_, .int .i64 a1] w fun e w' => e = .returned (.int .i64 r1) ∧ Kd.R k75 75 w' w0.heap.size (fun k_ => (P0_ k_ ∨ w.heap.size ≤ k_)) u9000_ r2 ∧ Below w0.heap.size w0 w' ∧ Kept w w' (fun k_ => P0_ k_) := by
  have HO0 := Aside0.mk (show Kd.R k75 75 w w0.heap.size (fun k_ => (P0_ k_ ∨ w.heap.size ≤ k_)) u9000_ l0 from Kd.R_mono ho0 (fun k_ hk => (.inl hk)))
  have HK := Aside0.mk (Kept.refl w (fun k_ => P0_ k_))
  have HW0 := Aside0.mk hB.size
  have HB := Aside0.mk hB
  clear hB
  have H : (laws_markGuideS.l0 k l0 a1 0) = some (r1, r2) := h
  clear h
  have H' := Aside0.mk H
  clear H
  go_enter Try.func48, Try.ntmps48
  go_wp2
  go_loopg [1, 5] k (fun kq v1 v5 w' => ∃ (x0_1 : List (S75)) (x1_1 : Int) (x5_1 : Int), v1 = .int .i64 x1_1 ∧ v5 = .int .i64 x5_1 ∧ Aside0 (laws_markGuideS.l0 kq x0_1 x1_1 x5_1 = some (r1, r2)) ∧ Aside0 (kq ≤ k) ∧ Aside0 (Kd.R k75 75 w' w0.heap.size (fun k_ => (P0_ k_ ∨ w.heap.size ≤ k_)) u9000_ x0_1) ∧ Aside0 (Kept w w' (fun k_ => P0_ k_)) ∧ Aside0 (Below w0.heap.size w0 w'))
  case atStart => exact ⟨(l0), (a1), (0), (by first | rfl | (simp; done) | (simp [*]; done)), (by first | rfl | (simp; done) | (simp [*]; done)), H', ⟨Nat.le_refl _⟩, ⟨by (with_reducible repeat (first | apply Kd.R_alloc | apply Kd.R_drewN | apply Kd.R_drew)); exact HO0.out⟩, ⟨by repeat (first | (with_reducible first | exact HK.out | apply Kept.alloc | apply Kept.drewN | apply Kept.drew) | exact HK.out)⟩, ⟨by repeat (first | (with_reducible first | exact HB.out | apply below_alloc | apply pw_below_drewN | apply below_drew1) | exact HB.out)⟩⟩
  case round =>
    clear H'
    try clear p2
    obtain ⟨x0_1, x1_1, x5_1, rfl, rfl, HA, HK1, HO_0, HK, HB⟩ := hrel
    cases gk with
    | zero => exact absurd HA.out (by simp [laws_markGuideS.l0])
    | succ k1 =>
      have H := HA.out
      clear HA
      simp only [laws_markGuideS.l0] at H
      by_cases c3 : x5_1 < (x0_1.length : Int)
      · rw [if_pos c3] at H
        have c3b0 : decide (x5_1 < (x0_1.length : Int)) = true := decide_eq_true c3
        clear c3
        by_cases c4 : 0 ≤ x5_1
        · rw [if_pos c4] at H
          have c4b0 : decide (0 ≤ x5_1) = true := decide_eq_true c4
          clear c4
          obtain ⟨y634, hy634⟩ : ∃ y_ : List (S75), y_ = (x0_1.set (x5_1 : Int).toNat (⟨IntKind.i8.wrap (x1_1), (rd_T75 x0_1 x5_1).f1, (rd_T75 x0_1 x5_1).f2⟩ : S75)) := ⟨_, rfl⟩
          replace H : ((some (y634.set (x5_1 : Int).toNat (⟨(rd_T75 y634 x5_1).f0, IntKind.i8.wrap (wrap64 (x1_1 + 1)), (rd_T75 y634 x5_1).f2⟩ : S75) : List (S75))).bind fun y635 => (laws_markGuideS.l0 k1 (y635.set (x5_1 : Int).toNat (⟨(rd_T75 y635 x5_1).f0, (rd_T75 y635 x5_1).f1, IntKind.i8.wrap (wrap64 ((wrap64 (x1_1 + 1)) + 1))⟩ : S75)) (wrap64 ((wrap64 ((wrap64 (x1_1 + 1)) + 1)) + 1)) (wrap64 (x5_1 + 1)))) = some (r1, r2) := by first | (rw [hy634]; with_reducible exact H) | (have H2_ := (Option.bind_some _ _).symm.trans H; rw [hy634]; with_reducible exact H2_) | (have H2_ := (Option.bind_some _ _).symm.trans H; with_reducible exact H2_) | with_reducible exact H | (rw [hy634]; exact H) | exact H
          have Ny634 := Aside0.mk hy634
          clear hy634
          obtain ⟨y635, hy635⟩ : ∃ y_ : List (S75), y_ = (y634.set (x5_1 : Int).toNat (⟨(rd_T75 y634 x5_1).f0, IntKind.i8.wrap (wrap64 (x1_1 + 1)), (rd_T75 y634 x5_1).f2⟩ : S75)) := ⟨_, rfl⟩
          replace H : (laws_markGuideS.l0 k1 (y635.set (x5_1 : Int).toNat (⟨(rd_T75 y635 x5_1).f0, (rd_T75 y635 x5_1).f1, IntKind.i8.wrap (wrap64 ((wrap64 (x1_1 + 1)) + 1))⟩ : S75)) (wrap64 ((wrap64 ((wrap64 (x1_1 + 1)) + 1)) + 1)) (wrap64 (x5_1 + 1))) = some (r1, r2) := by first | (rw [hy635]; with_reducible exact H) | (have H2_ := (Option.bind_some _ _).symm.trans H; rw [hy635]; with_reducible exact H2_) | (have H2_ := (Option.bind_some _ _).symm.trans H; with_reducible exact H2_) | with_reducible exact H | (rw [hy635]; exact H) | exact H
          have Ny635 := Aside0.mk hy635
          clear hy635
          obtain ⟨y636, hy636⟩ : ∃ y_ : List (S75), y_ = (y635.set (x5_1 : Int).toNat (⟨(rd_T75 y635 x5_1).f0, (rd_T75 y635 x5_1).f1, IntKind.i8.wrap (wrap64 ((wrap64 (x1_1 + 1)) + 1))⟩ : S75)) := ⟨_, rfl⟩
          replace H : (laws_markGuideS.l0 k1 y636 (wrap64 ((wrap64 ((wrap64 (x1_1 + 1)) + 1)) + 1)) (wrap64 (x5_1 + 1))) = some (r1, r2) := by first | (rw [hy636]; with_reducible exact H) | (have H2_ := (Option.bind_some _ _).symm.trans H; rw [hy636]; with_reducible exact H2_) | (have H2_ := (Option.bind_some _ _).symm.trans H; with_reducible exact H2_) | with_reducible exact H | (rw [hy636]; exact H) | exact H
          have Ny636 := Aside0.mk hy636
          clear hy636
          have H' := Aside0.mk H
          clear H
          obtain ⟨Ao8, co8, eo8⟩ := Kd.R_slice HO_0.out
          subst eo8
          have p5 : 0 ≤ (x5_1 : Int) := of_decide_eq_true (by first | (with_reducible assumption) | assumption)
          have q5 : (x5_1 : Int) < ((x0_1.length : Int) : Int) := of_decide_eq_true (by first | (with_reducible assumption) | assumption)
          obtain ⟨go5, co5, eo5, gb5, gl5, cl5, HG5⟩ := Kd.R_form HO_0.out (by omega)
          (first | cases eo5 | (injection eo5 with ea_ en_ ec_; (first | subst ea_ | (injection ea_ with ea_; subst ea_)); subst ec_; clear en_))
          have GB5 := Aside0.mk gb5
          have GG5 := Aside0.mk HG5
          clear gb5 gl5 HG5
          have HMgo5 := Aside0.mk (show (P0_ go5 ∨ w.heap.size ≤ go5) from (HO_0.out.1 _ rfl))
          obtain ⟨ce5, hcl5, hM5, hcc5, hfr5⟩ := Kd.R_elem HO_0.out z75 (x5_1 : Int) p5 q5
          obtain rfl := k75_openM hM5
          have hx5_0 : wr.cell? ⟨go5, (x5_1 : Int).toNat * 3, none⟩ = some (.int .i8 ((rd_T75 x0_1 x5_1).f0)) := hcc5 0 _ rfl
          have hx5_1 : wr.cell? ⟨go5, (x5_1 : Int).toNat * 3 + 1, none⟩ = some (.int .i8 ((rd_T75 x0_1 x5_1).f1)) := hcc5 1 _ rfl
          have hx5_2 : wr.cell? ⟨go5, (x5_1 : Int).toNat * 3 + 2, none⟩ = some (.int .i8 ((rd_T75 x0_1 x5_1).f2)) := hcc5 2 _ rfl
          have hf5_0 : wr.frozen? ⟨go5, (x5_1 : Int).toNat * 3, none⟩ = false := hfr5 0
          have hf5_1 : wr.frozen? ⟨go5, (x5_1 : Int).toNat * 3 + 1, none⟩ = false := hfr5 1
          have hf5_2 : wr.frozen? ⟨go5, (x5_1 : Int).toNat * 3 + 2, none⟩ = false := hfr5 2
          clear hcl5 hcc5 hfr5 hM5
          replace p5 := eq_true p5
          replace q5 := eq_true q5
          have HX9 := Aside0.mk (show Kd.R k75 75 wr w0.heap.size (fun k_ => (P0_ k_ ∨ w.heap.size ≤ k_)) (.slice (some ⟨go5, 0, none⟩) x0_1.length co8) x0_1 from (by (with_reducible repeat (first | apply Kd.R_alloc | apply Kd.R_drewN | apply Kd.R_drew)); exact HO_0.out))
          obtain ⟨ce9, hcl9, hM9, hcc9, hfr9⟩ := Kd.R_elem HX9.out z75 (x5_1 : Int) (of_decide_eq_true (by first | (with_reducible assumption) | assumption)) (by have h_ : (x5_1 : Int) < ((x0_1.length : Int) : Int) := of_decide_eq_true (by first | (with_reducible assumption) | assumption); first | exact h_ | (have e_ := (Kd.R_reads' HO_0.out).1; omega) | simpa using h_)
          obtain rfl := k75_openM hM9
          have HP9 := Kd.R_seg HX9.out (x5_1 : Int) (of_decide_eq_true (by first | (with_reducible assumption) | assumption)) (by have h_ : (x5_1 : Int) < ((x0_1.length : Int) : Int) := of_decide_eq_true (by first | (with_reducible assumption) | assumption); first | exact h_ | (have e_ := (Kd.R_reads' HO_0.out).1; omega) | simpa using h_) (seg := [.int .i8 (IntKind.i8.wrap (x1_1))]) (j := 0) hcl9 hcc9 (show 1 ≤ 3 from by decide) (x' := (⟨IntKind.i8.wrap (x1_1), (rd_T75 x0_1 x5_1).f1, (rd_T75 x0_1 x5_1).f2⟩ : S75)) (k75_mkM _ _ _ (⟨IntKind.i8.wrap (x1_1), (rd_T75 x0_1 x5_1).f1, (rd_T75 x0_1 x5_1).f2⟩ : S75) ) (fun _ hk => hk)
          have hx9_0 := hcc9 0 _ rfl
          (try simp only [show (k75).sz = 3 from rfl, Nat.mul_one, Nat.add_zero] at hx9_0)
          have hf9_0 := hfr9 0
          (try simp only [show (k75).sz = 3 from rfl, Nat.mul_one, Nat.add_zero] at hf9_0)
          clear hcl9 hcc9 hfr9 hM9
          go_wp2_with (first | ((with_reducible refine gate_store (t := 73) (p := 17) rfl ?_); refine store_event (t := 73) (p := 17) (v := ?vo_w10) (w1 := (wr.setCell ⟨go5, (x5_1 : Int).toNat * 3, none⟩ (.int .i8 (IntKind.i8.wrap (x1_1))))) ?hg ?ho ?hn ?hr ?_; (case ho => rfl); (case hg => rfl); (case hn => rfl); (case hr => first | (go_simp; done) | (go_simp; rfl)); intro w10 hw; have hg : wr.grownBy w10 (some go5) := (by rw [hw]; exact HP9.2); have hp_ : Kd.R k75 75 w10 w0.heap.size (fun k_ => (P0_ k_ ∨ w.heap.size ≤ k_)) (.slice (some ⟨go5, 0, none⟩) x0_1.length co8) y634 := (by rw [hw, Ny634.out]; exact HP9.1); clear HP9; have n0_ := Aside0.mk (hp_); have n1_ := Aside0.mk ((by rw [hw]; exact below_set (HB.out) GB5.out : Below w0.heap.size w0 w10)); have n2_ := Aside0.mk (Kept.of_grown (S := (fun k_ => P0_ k_)) hg (by repeat (first | (with_reducible first | exact HK.out | apply Kept.alloc | apply Kept.drewN | apply Kept.drew) | exact HK.out)) (fun k_ e_ => (HO_0.out.1 k_ e_))); clear HO_0; clear HB; clear HK; have HO_0 := n0_; have HB := n1_; have HK := n2_; clear n0_ n1_ n2_; clear hg hw hp_; have p6 : 0 ≤ (x5_1 : Int) := of_decide_eq_true (by first | (with_reducible assumption) | assumption); have q6 : (x5_1 : Int) < ((x0_1.length : Int) : Int) := of_decide_eq_true (by first | (with_reducible assumption) | assumption); obtain ⟨ce6, hcl6, hM6, hcc6, hfr6⟩ := Kd.R_elem HO_0.out z75 (x5_1 : Int) p6 q6; obtain rfl := k75_openM hM6; have hx6_0 : w10.cell? ⟨go5, (x5_1 : Int).toNat * 3, none⟩ = some (.int .i8 ((rd_T75 y634 x5_1).f0)) := hcc6 0 _ rfl; have hx6_1 : w10.cell? ⟨go5, (x5_1 : Int).toNat * 3 + 1, none⟩ = some (.int .i8 ((rd_T75 y634 x5_1).f1)) := hcc6 1 _ rfl; have hx6_2 : w10.cell? ⟨go5, (x5_1 : Int).toNat * 3 + 2, none⟩ = some (.int .i8 ((rd_T75 y634 x5_1).f2)) := hcc6 2 _ rfl; have hf6_0 : w10.frozen? ⟨go5, (x5_1 : Int).toNat * 3, none⟩ = false := hfr6 0; have hf6_1 : w10.frozen? ⟨go5, (x5_1 : Int).toNat * 3 + 1, none⟩ = false := hfr6 1; have hf6_2 : w10.frozen? ⟨go5, (x5_1 : Int).toNat * 3 + 2, none⟩ = false := hfr6 2; clear hcl6 hcc6 hfr6 hM6; replace p6 := eq_true p6; replace q6 := eq_true q6; have HX11 := Aside0.mk (show Kd.R k75 75 w10 w0.heap.size (fun k_ => (P0_ k_ ∨ w.heap.size ≤ k_)) (.slice (some ⟨go5, 0, none⟩) x0_1.length co8) y634 from (by (with_reducible repeat (first | apply Kd.R_alloc | apply Kd.R_drewN | apply Kd.R_drew)); exact HO_0.out)); obtain ⟨ce11, hcl11, hM11, hcc11, hfr11⟩ := Kd.R_elem HX11.out z75 (x5_1 : Int) (of_decide_eq_true (by first | (with_reducible assumption) | assumption)) (by have h_ : (x5_1 : Int) < ((x0_1.length : Int) : Int) := of_decide_eq_true (by first | (with_reducible assumption) | assumption); first | exact h_ | (have e_ := (Kd.R_reads' HO_0.out).1; omega) | simpa using h_); obtain rfl := k75_openM hM11; have HP11 := Kd.R_seg HX11.out (x5_1 : Int) (of_decide_eq_true (by first | (with_reducible assumption) | assumption)) (by have h_ : (x5_1 : Int) < ((x0_1.length : Int) : Int) := of_decide_eq_true (by first | (with_reducible assumption) | assumption); first | exact h_ | (have e_ := (Kd.R_reads' HO_0.out).1; omega) | simpa using h_) (seg := [.int .i8 (IntKind.i8.wrap (wrap64 (x1_1 + 1)))]) (j := 1) hcl11 hcc11 (show 2 ≤ 3 from by decide) (x' := (⟨(rd_T75 y634 x5_1).f0, IntKind.i8.wrap (wrap64 (x1_1 + 1)), (rd_T75 y634 x5_1).f2⟩ : S75)) (k75_mkM _ _ _ (⟨(rd_T75 y634 x5_1).f0, IntKind.i8.wrap (wrap64 (x1_1 + 1)), (rd_T75 y634 x5_1).f2⟩ : S75) ) (fun _ hk => hk); have hx11_1 := hcc11 1 _ rfl; (try simp only [show (k75).sz = 3 from rfl, Nat.mul_one, Nat.add_zero] at hx11_1); have hf11_1 := hfr11 1; (try simp only [show (k75).sz = 3 from rfl, Nat.mul_one, Nat.add_zero] at hf11_1); clear hcl11 hcc11 hfr11 hM11) | ((with_reducible refine gate_store (t := 73) (p := 25) rfl ?_); refine store_event (t := 73) (p := 25) (v := ?vo_w12) (w1 := (w10.setCell ⟨go5, (x5_1 : Int).toNat * 3 + 1, none⟩ (.int .i8 (IntKind.i8.wrap (wrap64 (x1_1 + 1)))))) ?hg ?ho ?hn ?hr ?_; (case ho => rfl); (case hg => rfl); (case hn => rfl); (case hr => first | (go_simp; done) | (go_simp; rfl)); intro w12 hw; have hg : w10.grownBy w12 (some go5) := (by rw [hw]; exact HP11.2); have hp_ : Kd.R k75 75 w12 w0.heap.size (fun k_ => (P0_ k_ ∨ w.heap.size ≤ k_)) (.slice (some ⟨go5, 0, none⟩) x0_1.length co8) y635 := (by rw [hw, Ny635.out]; exact HP11.1); clear HP11; have n0_ := Aside0.mk (hp_); have n1_ := Aside0.mk ((by rw [hw]; exact below_set (HB.out) GB5.out : Below w0.heap.size w0 w12)); have n2_ := Aside0.mk (Kept.of_grown (S := (fun k_ => P0_ k_)) hg (by repeat (first | (with_reducible first | exact HK.out | apply Kept.alloc | apply Kept.drewN | apply Kept.drew) | exact HK.out)) (fun k_ e_ => (HO_0.out.1 k_ e_))); clear HO_0; clear HB; clear HK; have HO_0 := n0_; have HB := n1_; have HK := n2_; clear n0_ n1_ n2_; clear hg hw hp_; have p7 : 0 ≤ (x5_1 : Int) := of_decide_eq_true (by first | (with_reducible assumption) | assumption); have q7 : (x5_1 : Int) < ((x0_1.length : Int) : Int) := of_decide_eq_true (by first | (with_reducible assumption) | assumption); obtain ⟨ce7, hcl7, hM7, hcc7, hfr7⟩ := Kd.R_elem HO_0.out z75 (x5_1 : Int) p7 q7; obtain rfl := k75_openM hM7; have hx7_0 : w12.cell? ⟨go5, (x5_1 : Int).toNat * 3, none⟩ = some (.int .i8 ((rd_T75 y635 x5_1).f0)) := hcc7 0 _ rfl; have hx7_1 : w12.cell? ⟨go5, (x5_1 : Int).toNat * 3 + 1, none⟩ = some (.int .i8 ((rd_T75 y635 x5_1).f1)) := hcc7 1 _ rfl; have hx7_2 : w12.cell? ⟨go5, (x5_1 : Int).toNat * 3 + 2, none⟩ = some (.int .i8 ((rd_T75 y635 x5_1).f2)) := hcc7 2 _ rfl; have hf7_0 : w12.frozen? ⟨go5, (x5_1 : Int).toNat * 3, none⟩ = false := hfr7 0; have hf7_1 : w12.frozen? ⟨go5, (x5_1 : Int).toNat * 3 + 1, none⟩ = false := hfr7 1; have hf7_2 : w12.frozen? ⟨go5, (x5_1 : Int).toNat * 3 + 2, none⟩ = false := hfr7 2; clear hcl7 hcc7 hfr7 hM7; replace p7 := eq_true p7; replace q7 := eq_true q7; have HX13 := Aside0.mk (show Kd.R k75 75 w12 w0.heap.size (fun k_ => (P0_ k_ ∨ w.heap.size ≤ k_)) (.slice (some ⟨go5, 0, none⟩) x0_1.length co8) y635 from (by (with_reducible repeat (first | apply Kd.R_alloc | apply Kd.R_drewN | apply Kd.R_drew)); exact HO_0.out)); obtain ⟨ce13, hcl13, hM13, hcc13, hfr13⟩ := Kd.R_elem HX13.out z75 (x5_1 : Int) (of_decide_eq_true (by first | (with_reducible assumption) | assumption)) (by have h_ : (x5_1 : Int) < ((x0_1.length : Int) : Int) := of_decide_eq_true (by first | (with_reducible assumption) | assumption); first | exact h_ | (have e_ := (Kd.R_reads' HO_0.out).1; omega) | simpa using h_); obtain rfl := k75_openM hM13; have HP13 := Kd.R_seg HX13.out (x5_1 : Int) (of_decide_eq_true (by first | (with_reducible assumption) | assumption)) (by have h_ : (x5_1 : Int) < ((x0_1.length : Int) : Int) := of_decide_eq_true (by first | (with_reducible assumption) | assumption); first | exact h_ | (have e_ := (Kd.R_reads' HO_0.out).1; omega) | simpa using h_) (seg := [.int .i8 (IntKind.i8.wrap (wrap64 ((wrap64 (x1_1 + 1)) + 1)))]) (j := 2) hcl13 hcc13 (show 3 ≤ 3 from by decide) (x' := (⟨(rd_T75 y635 x5_1).f0, (rd_T75 y635 x5_1).f1, IntKind.i8.wrap (wrap64 ((wrap64 (x1_1 + 1)) + 1))⟩ : S75)) (k75_mkM _ _ _ (⟨(rd_T75 y635 x5_1).f0, (rd_T75 y635 x5_1).f1, IntKind.i8.wrap (wrap64 ((wrap64 (x1_1 + 1)) + 1))⟩ : S75) ) (fun _ hk => hk); have hx13_2 := hcc13 2 _ rfl; (try simp only [show (k75).sz = 3 from rfl, Nat.mul_one, Nat.add_zero] at hx13_2); have hf13_2 := hfr13 2; (try simp only [show (k75).sz = 3 from rfl, Nat.mul_one, Nat.add_zero] at hf13_2); clear hcl13 hcc13 hfr13 hM13) | ((with_reducible refine gate_store (t := 73) (p := 33) rfl ?_); refine store_event (t := 73) (p := 33) (v := ?vo_w14) (w1 := (w12.setCell ⟨go5, (x5_1 : Int).toNat * 3 + 2, none⟩ (.int .i8 (IntKind.i8.wrap (wrap64 ((wrap64 (x1_1 + 1)) + 1)))))) ?hg ?ho ?hn ?hr ?_; (case ho => rfl); (case hg => rfl); (case hn => rfl); (case hr => first | (go_simp; done) | (go_simp; rfl)); intro w14 hw; have hg : w12.grownBy w14 (some go5) := (by rw [hw]; exact HP13.2); have hp_ : Kd.R k75 75 w14 w0.heap.size (fun k_ => (P0_ k_ ∨ w.heap.size ≤ k_)) (.slice (some ⟨go5, 0, none⟩) x0_1.length co8) y636 := (by rw [hw, Ny636.out]; exact HP13.1); clear HP13; have n0_ := Aside0.mk (hp_); have n1_ := Aside0.mk ((by rw [hw]; exact below_set (HB.out) GB5.out : Below w0.heap.size w0 w14)); have n2_ := Aside0.mk (Kept.of_grown (S := (fun k_ => P0_ k_)) hg (by repeat (first | (with_reducible first | exact HK.out | apply Kept.alloc | apply Kept.drewN | apply Kept.drew) | exact HK.out)) (fun k_ e_ => (HO_0.out.1 k_ e_))); clear HO_0; clear HB; clear HK; have HO_0 := n0_; have HB := n1_; have HK := n2_; clear n0_ n1_ n2_; clear hg hw hp_))
          go_roundg k1
          case measure => have := HK1.out; omega
          case rel => exact ⟨(y636), (wrap64 ((wrap64 ((wrap64 (x1_1 + 1)) + 1)) + 1)), (wrap64 (x5_1 + 1)), (by first | rfl | (simp; done) | (simp [*]; done)), (by first | rfl | (simp; done) | (simp [*]; done)), H', ⟨by have := HK1.out; omega⟩, ⟨by (with_reducible repeat (first | apply Kd.R_alloc | apply Kd.R_drewN | apply Kd.R_drew)); exact HO_0.out⟩, ⟨by repeat (first | (with_reducible first | exact HK.out | apply Kept.alloc | apply Kept.drewN | apply Kept.drew) | exact HK.out)⟩, ⟨by repeat (first | (with_reducible first | exact HB.out | apply below_alloc | apply pw_below_drewN | apply below_drew1) | exact HB.out)⟩⟩
        · rw [if_neg c4] at H
          exact absurd H (by simp)
      · rw [if_neg c3] at H
        have c3b0 : decide (x5_1 < (x0_1.length : Int)) = false := decide_eq_false c3
        clear c3
        simp only [Option.some.injEq, Prod.mk.injEq] at H
        obtain ⟨rfl, rfl⟩ := H
        obtain ⟨Ao15, co15, eo15⟩ := Kd.R_slice HO_0.out
        subst eo15
        go_wp2
        go_ret
        exact ⟨by first | rfl | (simp [errW_none, errW_some] <;> rfl) | (simp [*, errW_none, errW_some] <;> rfl), by (with_reducible repeat (first | apply Kd.R_alloc | apply Kd.R_drewN | apply Kd.R_drew)); exact HO_0.out, by repeat (first | (with_reducible first | exact HB.out | apply below_alloc | apply pw_below_drewN | apply below_drew1) | exact HB.out), by repeat (first | (with_reducible first | exact HK.out | apply Kept.alloc | apply Kept.drewN | apply Kept.drew) | exact HK.out)⟩

end Go.Proofs.Ythfinhdmdfekcaa.PA
