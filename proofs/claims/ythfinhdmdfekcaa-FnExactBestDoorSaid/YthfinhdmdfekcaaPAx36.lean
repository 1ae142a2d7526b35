/- Lean functions for Go functions, and proofs that Go comes to just their answers; written by a program of this session. -/
import Derived.Test.YthfinhdmdfekcaaPAx0
import Derived.Test.YthfinhdmdfekcaaPAx1
import Derived.Test.YthfinhdmdfekcaaPAx3
import Derived.Test.YthfinhdmdfekcaaPAx9
import Derived.Test.YthfinhdmdfekcaaPAx24
import Derived.Test.YthfinhdmdfekcaaPAx35
namespace Go.Proofs.Ythfinhdmdfekcaa.PA
open Go.RowKit Go.Proofs.YthfinhdmdfekcaaW.PrintWords Go.Proofs.YthfinhdmdfekcaaW.PrintLast Go.Proofs.YthfinhdmdfekcaaW.PrintMore
attribute [local go_sem] max2_int min2_int max_two min_two max_three min_three max_four min_four   -- for this text's walks alone
set_option linter.unusedVariables false
set_option linter.unusedSimpArgs false

/-! ### ext impl_BestDoor: function 45 -/

def bestStep (k : Nat) (l0 : List S67) (s : List Int × Int) (order : List Int) : Option (List Int × Int) :=
  (impl_waiting.f k l0 order).bind fun m => if s.2 < 0 then some (order, m) else if m < s.2 then some (order, m) else some s
def impl_BestDoor.f (k : Nat) (l0 : List S67) : Option (List Int × Int × Int) :=
  (impl_ValidParties.f l0).bind fun ok => if ok = true then (ordersM l0.length (bestStep k l0) (l0.length + 1) [] (([] : List Int), (-1 : Int))).bind fun r => some (r.1, r.2, 0) else some ([], 0, 1)
theorem ordersM_le {σ : Type} (n : Nat) {f g : σ → List Int → Option σ} (h : ∀ s a, LeO (f s a) (g s a)) : ∀ (fuel : Nat) (l : List Int) (s : σ), LeO (ordersM n f fuel l s) (ordersM n g fuel l s)
  | 0, _, _ => LeO.none _
  | fuel + 1, l, s => by
    simp only [ordersM]
    refine LeO.ite (h s l) (foldlM_le (fun s a => LeO.ite (LeO.refl _) (ordersM_le n h fuel _ s)) _ s)
theorem bestStep_le (k : Nat) (l0 : List S67) (s : List Int × Int) (a : List Int) : LeO (bestStep k l0 s a) (bestStep (k + 1) l0 s a) := by
  unfold bestStep
  exact LeO.bind (impl_waiting.mono _ _ k) (fun _ => LeO.refl _)
theorem impl_BestDoor.mono : ∀ a0 k, LeO (impl_BestDoor.f k a0) (impl_BestDoor.f (k + 1) a0) := by
  intro a0 k
  unfold impl_BestDoor.f
  exact LeO.bind (LeO.refl _) (fun _ => LeO.ite (LeO.bind (ordersM_le _ (bestStep_le k a0) _ _ _) (fun _ => LeO.refl _)) (LeO.refl _))

/-- What the door's orders keep: the list, the best order yet, its waiting. -/
def BestInv (l0 : List S67) (A0 : Option Addr) (c0 B t1 t2 t3 : Nat) (w0 : World) (s : List Int × Int) (W : World) : Prop :=
  W.heap[t1]? = some (.cells #[.slice A0 l0.length c0] 29 (0, 0)) ∧ W.heap[t2]? = some (.cells #[.int .i64 s.2] 2 (0, 0)) ∧ (∃ vb, W.heap[t3]? = some (.cells #[vb] 22 (0, 0)) ∧ Kd.R (Kd.int .i64) 2 W B (fun k => ¬ (k = t2 ∨ k = t3)) vb s.1) ∧
    Below B w0 W ∧ B ≤ W.heap.size
theorem BestInv.stable {l0 : List S67} {A0 : Option Addr} {c0 B t1 t2 t3 : Nat} {w0 : World} {s : List Int × Int} {W W' : World} (h : BestInv l0 A0 c0 B t1 t2 t3 w0 s W) (hb : Below W.heap.size W W') : BestInv l0 A0 c0 B t1 t2 t3 w0 s W' := by
  obtain ⟨h1, h2, ⟨vb, h3, h4⟩, h5, h6⟩ := h
  exact ⟨(hb.block _ (blk_lt h1)).trans h1, (hb.block _ (blk_lt h2)).trans h2, ⟨vb, (hb.block _ (blk_lt h3)).trans h3, Kd.R_below h4 hb⟩, below_then h5 h6 hb, Nat.le_trans h6 hb.size⟩
theorem isfn_best : IsFn 84 := fun _ _ => by kernel_rfl

set_option maxHeartbeats 8000000 in
set_option maxRecDepth 100000 in
theorem best_each (k : Nat) (l0 : List S67) (A0 : Option Addr) (c0 B t1 t2 t3 : Nat) (hc0 : l0.length ≤ c0) (h12 : t1 ≠ t2) (h13 : t1 ≠ t3) (h23 : t2 ≠ t3) (hB1 : B ≤ t1) (hB2 : B ≤ t2) (hB3 : B ≤ t3)
    (w0 : World) (hpast : ∀ W : World, Below B w0 W → Kd.C k67 W A0 l0.length l0)
    (s s' : List Int × Int) (W : World) (v : Value) (l : List Int) (hi : BestInv l0 A0 c0 B t1 t2 t3 w0 s W) (hr : Kd.R (Kd.int .i64) 2 W B (fun k => ¬ (k = t2 ∨ k = t3)) v l) (h : bestStep k l0 s l = some s') :
    Calls Try.prog 84 (#[v] ++ #[.pointer (some ⟨t1, 0, none⟩), .pointer (some ⟨t2, 0, none⟩), .pointer (some ⟨t3, 0, none⟩)]) W fun e w' => e = .returned (.tuple #[]) ∧ BestInv l0 A0 c0 B t1 t2 t3 w0 s' w' ∧ Kept W w' (fun k => k = t2 ∨ k = t3) ∧ Below B W w' := by
  obtain ⟨A, c, rfl, hlc, hc⟩ := Kd.R_reads hr
  obtain ⟨m, hm, h⟩ := Option.bind_eq_some_iff.1 h
  obtain ⟨h1, h2, ⟨vb, h3, h4⟩, h5, h6⟩ := hi
  have hx1 := blk_cell h1 0
  have H1 := Aside0.mk h1
  have H2 := Aside0.mk h2
  have H3 := Aside0.mk h3
  have H4 := Aside0.mk h4
  have H5 := Aside0.mk h5
  have H6 := Aside0.mk h6
  have HR := Aside0.mk hr
  have HC := Aside0.mk hc
  have HM := Aside0.mk hm
  have HP := Aside0.mk hpast
  have HH := Aside0.mk h
  have N12 := Aside0.mk h12
  have N13 := Aside0.mk h13
  have N23 := Aside0.mk h23
  clear h1 h2 h3 h4 h5 h6 hr hc hm hpast h h12 h13 h23
  obtain ⟨sb, sn⟩ := s
  show Calls Try.prog 84 #[.slice A l.length c, .pointer (some ⟨t1, 0, none⟩), .pointer (some ⟨t2, 0, none⟩), .pointer (some ⟨t3, 0, none⟩)] W _
  by_cases hnew : sn < 0 ∨ m < sn
  · have hs' : s' = (l, m) := by
      have := HH.out
      simp only at this
      rcases hnew with h | h
      · rw [if_pos h] at this; exact (Option.some.inj this).symm
      · by_cases h0 : sn < 0
        · rw [if_pos h0] at this; exact (Option.some.inj this).symm
        · rw [if_neg h0, if_pos h] at this; exact (Option.some.inj this).symm
    subst hs'
    clear HH
    have fin : ∀ w1 : World, Below W.heap.size W w1 → BestInv l0 A0 c0 B t1 t2 t3 w0 (l, m) ((w1.setCell ⟨t3, 0, none⟩ (.slice A l.length c)).setCell ⟨t2, 0, none⟩ (.int .i64 m)) ∧ Kept W ((w1.setCell ⟨t3, 0, none⟩ (.slice A l.length c)).setCell ⟨t2, 0, none⟩ (.int .i64 m)) (fun k => k = t2 ∨ k = t3) ∧ Below B W ((w1.setCell ⟨t3, 0, none⟩ (.slice A l.length c)).setCell ⟨t2, 0, none⟩ (.int .i64 m)) := by
      intro w1 hb
      have g1 := (hb.block _ (blk_lt H1.out)).trans H1.out
      have g2 := (hb.block _ (blk_lt H2.out)).trans H2.out
      have g3 := (hb.block _ (blk_lt H3.out)).trans H3.out
      have hbB : Below B W ((w1.setCell ⟨t3, 0, none⟩ (.slice A l.length c)).setCell ⟨t2, 0, none⟩ (.int .i64 m)) := ((hb.mono H6.out).setCell (p := ⟨t3, 0, none⟩) hB3 _).setCell (p := ⟨t2, 0, none⟩) hB2 _
      refine ⟨⟨blk_far (blk_far g1 N13.out _) N12.out _, ?_, ⟨.slice A l.length c, ?_, ?_⟩, H5.out.trans hbB, Nat.le_trans H6.out hbB.size⟩, ?_, hbB⟩
      · have := blk_set (blk_far g2 (p := ⟨t3, 0, none⟩) N23.out (.slice A l.length c)) 0 (.int .i64 m)
        simpa using this
      · have := blk_far (blk_set g3 0 (.slice A l.length c)) (p := ⟨t2, 0, none⟩) (fun h => N23.out h.symm) (.int .i64 m)
        simpa using this
      · exact Kd.R_far (Kd.R_far (Kd.R_below HR.out hb) (fun q hq h => hq (.inr h)) _) (fun q hq h => hq (.inl h)) _
      · exact ((Kept.of_below hb _).setCell (.inl (.inr rfl)) _).setCell (.inl (.inl rfl)) _
    have FIN := Aside0.mk fin
    clear fin
    by_cases h0 : sn < 0
    · clear hnew
      go_enter Try.func84, Try.ntmps84
      go_wp2_with fail
      with_reducible refine (impl_waiting.calls k A0 c0 l0 A c l m _ (HP.out _ H5.out) hc0 HC.out hlc HM.out).mono ?_
      rintro e w1 ⟨rfl, hb⟩
      have hx2 : w1.cell? ⟨t2, 0, none⟩ = some (.int .i64 sn) := blk_cell ((hb.block _ (blk_lt H2.out)).trans H2.out) 0
      have hf2 : w1.frozen? ⟨t2, 0, none⟩ = false := blk_frozen ((hb.block _ (blk_lt H2.out)).trans H2.out) 0
      have hx3 : w1.cell? ⟨t3, 0, none⟩ = some vb := blk_cell ((hb.block _ (blk_lt H3.out)).trans H3.out) 0
      have hf3 : w1.frozen? ⟨t3, 0, none⟩ = false := blk_frozen ((hb.block _ (blk_lt H3.out)).trans H3.out) 0
      have HB := Aside0.mk hb
      clear hb
      have hne := N23.out
      have hne' : t3 ≠ t2 := fun h => hne h.symm
      go_wp2
      go_end0
      exact ⟨rfl, FIN.out _ HB.out⟩
    · have hlt : m < sn := by omega
      clear hnew
      go_enter Try.func84, Try.ntmps84
      go_wp2_with fail
      with_reducible refine (impl_waiting.calls k A0 c0 l0 A c l m _ (HP.out _ H5.out) hc0 HC.out hlc HM.out).mono ?_
      rintro e w1 ⟨rfl, hb⟩
      have hx2 : w1.cell? ⟨t2, 0, none⟩ = some (.int .i64 sn) := blk_cell ((hb.block _ (blk_lt H2.out)).trans H2.out) 0
      have hf2 : w1.frozen? ⟨t2, 0, none⟩ = false := blk_frozen ((hb.block _ (blk_lt H2.out)).trans H2.out) 0
      have hx3 : w1.cell? ⟨t3, 0, none⟩ = some vb := blk_cell ((hb.block _ (blk_lt H3.out)).trans H3.out) 0
      have hf3 : w1.frozen? ⟨t3, 0, none⟩ = false := blk_frozen ((hb.block _ (blk_lt H3.out)).trans H3.out) 0
      have HB := Aside0.mk hb
      clear hb
      have hne := N23.out
      have hne' : t3 ≠ t2 := fun h => hne h.symm
      go_wp2
      go_end0
      exact ⟨rfl, FIN.out _ HB.out⟩
  · have hs' : s' = (sb, sn) := by
      have := HH.out
      simp only at this
      rw [if_neg (fun h => hnew (.inl h)), if_neg (fun h => hnew (.inr h))] at this
      exact (Option.some.inj this).symm
    subst hs'
    clear HH
    have h0 : ¬ sn < 0 := fun h => hnew (.inl h)
    have hlt : ¬ m < sn := fun h => hnew (.inr h)
    have HI : Aside0 (BestInv l0 A0 c0 B t1 t2 t3 w0 (sb, sn) W) := ⟨H1.out, H2.out, ⟨vb, H3.out, H4.out⟩, H5.out, H6.out⟩
    clear hnew
    go_enter Try.func84, Try.ntmps84
    go_wp2_with fail
    with_reducible refine (impl_waiting.calls k A0 c0 l0 A c l m _ (HP.out _ H5.out) hc0 HC.out hlc HM.out).mono ?_
    rintro e w1 ⟨rfl, hb⟩
    have hx2 : w1.cell? ⟨t2, 0, none⟩ = some (.int .i64 sn) := blk_cell ((hb.block _ (blk_lt H2.out)).trans H2.out) 0
    have HB := Aside0.mk hb
    clear hb
    go_wp2
    go_end0
    exact ⟨rfl, HI.out.stable HB.out, Kept.of_below HB.out _, HB.out.mono H6.out⟩

set_option maxHeartbeats 8000000 in
set_option maxRecDepth 100000 in
theorem impl_BestDoor.calls (k : Nat) (A0 : Option Addr) (c0 : Nat) (l0 : List S67) (r1 : List Int) (r2 : Int) (r3 : Int) (w : World) (hr0 : Kd.C k67 w A0 l0.length l0) (hc0 : l0.length ≤ c0) (h : impl_BestDoor.f k l0 = some (r1, r2, r3)) :
    Calls Try.prog 45 #[.slice A0 l0.length c0] w fun e w' => ∃ v0_ : Value, e = .returned (.tuple #[v0_, .int .i64 r2, .int .i64 r3]) ∧ Kd.R (Kd.int .i64) 2 w' w.heap.size (fun _ => True) v0_ r1 ∧ Below w.heap.size w w' := by
  obtain ⟨ok, hok, h⟩ := Option.bind_eq_some_iff.1 h
  have HOK := Aside0.mk hok
  have HR := Aside0.mk hr0
  have HC := Aside0.mk hc0
  have hmf : ∀ (fn : Fn) (first cap : Array Value) (w : World), (Instr.makeFunc fn first cap).run Try.prog w = .ok (.func fn first cap) w := fun _ _ _ _ => rfl
  have hreads : ∀ W : World, Below w.heap.size w W → Kd.C k67 W A0 l0.length l0 := fun W hb => Kd.C_below hr0 hb
  have HRD := Aside0.mk hreads
  clear hok hr0 hc0 hreads
  cases ok with
  | false =>
    rw [if_neg (by simp)] at h
    simp only [Option.some.injEq, Prod.mk.injEq] at h
    obtain ⟨rfl, rfl, rfl⟩ := h
    go_enter Try.func45, Try.ntmps45
    go_wp2_with fail
    with_reducible refine (impl_ValidParties.calls A0 c0 l0 false _ (HRD.out _ (below_alloc (Below.refl _ _) _)) HC.out HOK.out).mono ?_
    rintro e w1 ⟨rfl, hb⟩
    have HB := Aside0.mk (below_then (below_alloc (Below.refl w.heap.size w) _) (by simp) hb)
    clear hb
    go_wp2
    go_ret3
    exact ⟨_, rfl, Kd.R_nil _ _ _ _ _, HB.out⟩
  | true =>
    rw [if_pos rfl] at h
    obtain ⟨r, hr, h⟩ := Option.bind_eq_some_iff.1 h
    simp only [Option.some.injEq, Prod.mk.injEq] at h
    obtain ⟨rfl, rfl, rfl⟩ := h
    have H := Aside0.mk hr
    have hlen : l0.length ≤ 1000 := by
      have := HOK.out
      simp only [impl_ValidParties.f, Option.some.injEq, Bool.and_eq_true, decide_eq_true_eq] at this
      omega
    clear hr
    go_enter Try.func45, Try.ntmps45
    go_wp2_with fail
    with_reducible refine (impl_ValidParties.calls A0 c0 l0 true _ (HRD.out _ (below_alloc (Below.refl _ _) _)) HC.out HOK.out).mono ?_
    rintro e w1 ⟨rfl, hb⟩
    have hbk := (hb.block w.heap.size (by simp)).trans (blk_new w (.cells #[.slice A0 l0.length c0] 29))
    have hx1 : w1.cell? ⟨w.heap.size, 0, none⟩ = some (.slice A0 l0.length c0) := blk_cell hbk 0
    have HBK := Aside0.mk hbk
    have HB := Aside0.mk (below_then (below_alloc (Below.refl w.heap.size w) (.cells #[.slice A0 l0.length c0] 29)) (by simp) hb)
    have hsz : w.heap.size < w1.heap.size := blk_lt hbk
    clear hb hbk
    go_wp2_with fail
    have hbel := below_alloc (below_alloc (Below.refl w1.heap.size w1) (.cells #[.slice none 0 0] 22)) (.cells #[.int .i64 (-1)] 2)
    have hB1 : Below w.heap.size w ((w1.alloc (.cells #[.slice none 0 0] 22)).alloc (.cells #[.int .i64 (-1)] 2)) := below_then HB.out (Nat.le_of_lt hsz) hbel
    have hinv : BestInv l0 A0 c0 w.heap.size w.heap.size (w1.heap.size + 1) w1.heap.size w ([], -1) ((w1.alloc (.cells #[.slice none 0 0] 22)).alloc (.cells #[.int .i64 (-1)] 2)) :=
      ⟨blk_alloc (blk_alloc HBK.out _) _, blk_new2 _ _ (by simp), ⟨_, blk_alloc (blk_new _ _) _, Kd.R_nil _ _ _ _ _⟩, hB1, hB1.size⟩
    have hE : EachOk (BestInv l0 A0 c0 w.heap.size w.heap.size (w1.heap.size + 1) w1.heap.size w) (bestStep k l0) 84 #[.pointer (some ⟨w.heap.size, 0, none⟩), .pointer (some ⟨w1.heap.size + 1, 0, none⟩), .pointer (some ⟨w1.heap.size, 0, none⟩)] (fun k => k = w1.heap.size + 1 ∨ k = w1.heap.size) w.heap.size :=
      { fn := isfn_best, stable := fun s W W' hi hb => hi.stable hb
        each := fun s s' W v l hi hr h => best_each k l0 A0 c0 w.heap.size w.heap.size (w1.heap.size + 1) w1.heap.size HC.out (by omega) (by omega) (by omega) (Nat.le_refl _) (by omega) (by omega) w HRD.out s s' W v l hi hr h }
    have HE := Aside0.mk hE
    have HI := Aside0.mk hinv
    have HB1 := Aside0.mk hB1
    clear hE hinv hB1 hbel
    with_reducible refine (orders_any _ (bestStep k l0) _ _ _ w.heap.size HE.out (fun q hq => by rcases hq with rfl | rfl <;> omega) l0.length hlen (l0.length + 1) _ ([], -1) r HI.out HB1.out.size (fun q hq => by rcases hq with rfl | rfl <;> simp <;> omega) H.out).mono ?_
    rintro e w2 ⟨rfl, ⟨g1, g2, ⟨vb, g3, g4⟩, g5, g6⟩, hk, hb2⟩
    have hy2 : w2.cell? ⟨w1.heap.size + 1, 0, none⟩ = some (.int .i64 r.2) := blk_cell g2 0
    have hy3 : w2.cell? ⟨w1.heap.size, 0, none⟩ = some vb := blk_cell g3 0
    have G4 := Aside0.mk g4
    have G5 := Aside0.mk g5
    clear g1 g2 g3 g4 g5 g6 hk hb2
    go_wp2_with fail
    go_quiet (fail)
    go_wp2
    go_ret3
    exact ⟨_, rfl, Kd.R_drewN (Kd.R_mono G4.out (fun _ _ => trivial)) _, pw_below_drewN G5.out _⟩

end Go.Proofs.Ythfinhdmdfekcaa.PA
