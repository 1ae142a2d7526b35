/- Plain laws, joined: Qf, Qpl, Qle, Qmi, QuFastestLeaders, QvFastestLeaders. -/
import Derived.Test.YthfinhdmdfekcaaPAx19
import Derived.Test.YthfinhdmdfekcaaPAx20
import Derived.Test.YthfinhdmdfekcaaPAx26
import Derived.Test.YthfinhdmdfekcaaPAx40
import Derived.Test.YthfinhdmdfekcaaPAx41
import Derived.Test.YthfinhdmdfekcaaPAx42
import Derived.Test.YthfinhdmdfekcaaQk
import Derived.Test.YthfinhdmdfekcaaQm
import Derived.Test.YthfinhdmdfekcaaQld
import Derived.Test.YthfinhdmdfekcaaQi
import Derived.Test.YthfinhdmdfekcaaQj
import Derived.Test.YthfinhdmdfekcaaQg
import Derived.Test.YthfinhdmdfekcaaQgm
namespace Go.Proofs.Ythfinhdmdfekcaa.Q
open Go.RowKit Go.Proofs.YthfinhdmdfekcaaW.PrintWords Go.Proofs.YthfinhdmdfekcaaW.PrintLast Go.Proofs.Ythfinhdmdfekcaa.PA
set_option linter.unusedVariables false
set_option linter.unusedSimpArgs false

theorem Ev.foldlM {σ α : Type} (f : Nat → σ → α → Option σ) (g : σ → α → σ) (xs : List α) (h : ∀ x ∈ xs, ∀ s, Ev (fun k => f k s x) (g s x)) : ∀ s, Ev (fun k => xs.foldlM (f k) s) (xs.foldl g s) := by
  induction xs with
  | nil => intro s; simpa using Ev.now s
  | cons x xs ih =>
    intro s
    simp only [List.foldlM_cons, List.foldl_cons]
    exact Ev.bind (h x (by simp) s) (ih (fun y hy => h y (by simp [hy])) _)
theorem foldl_flat {α β σ : Type} (h : α → List β) (g : σ → β → σ) : ∀ (xs : List α) (s : σ), (xs.flatMap h).foldl g s = xs.foldl (fun s x => (h x).foldl g s) s
  | [], s => rfl
  | x :: xs, s => by
    simp only [List.flatMap_cons, List.foldl_append, List.foldl_cons]
    exact foldl_flat h g xs _
theorem Own_f (l : List Int) (h : l.length ≤ 1048576) : spec_l00Own.f l = some l := by
  unfold spec_l00Own.f
  simp only [Option.bind_some, List.nil_append, List.length_nil]
  rw [if_pos (by omega)]
theorem flat_len {α β : Type} (h : α → List β) (c : Nat) : ∀ (xs : List α), (∀ x ∈ xs, (h x).length ≤ c) → (xs.flatMap h).length ≤ xs.length * c
  | [], _ => by simp
  | x :: xs, hb => by
    have h1 := hb x (by simp)
    have h2 := flat_len h c xs (fun y hy => hb y (by simp [hy]))
    simp only [List.flatMap_cons, List.length_append, List.length_cons, Nat.succ_mul]
    omega

end Go.Proofs.Ythfinhdmdfekcaa.Q

namespace Go.Proofs.Ythfinhdmdfekcaa.Q
open Go.RowKit Go.Proofs.YthfinhdmdfekcaaW.PrintWords Go.Proofs.YthfinhdmdfekcaaW.PrintLast Go.Proofs.Ythfinhdmdfekcaa.PA
set_option linter.unusedVariables false
set_option linter.unusedSimpArgs false

/-- All plans that go on from a start, by the legs that are left. -/
def plansL (l0 : List S75) (l1 : List Int) : Nat → List Int → List (List Int)
  | 0, l => [l]
  | m + 1, l => (List.range l0.length).flatMap fun (i : Nat) => if mayV l0 l1 l (i : Int) = true then plansL l0 l1 m (l ++ [(i : Int)]) else []
theorem plansL_len (l0 : List S75) (l1 : List Int) : ∀ (m : Nat) (l : List Int), (plansL l0 l1 m l).length ≤ l0.length ^ m
  | 0, l => by simp [plansL]
  | m + 1, l => by
    simp only [plansL]
    refine Nat.le_trans (flat_len _ (l0.length ^ m) _ (fun i _ => ?_)) (by rw [List.length_range, Nat.pow_succ, Nat.mul_comm]; exact Nat.le_refl _)
    split
    · exact plansL_len l0 l1 m _
    · simp
theorem plansL_in (l0 : List S75) (l1 : List Int) : ∀ (m : Nat) (l : List Int), (∀ x ∈ l, 0 ≤ x ∧ x < l0.length) → ∀ p ∈ plansL l0 l1 m l, p.length = l.length + m ∧ ∀ x : Int, x ∈ p → 0 ≤ x ∧ x < (l0.length : Int)
  | 0, l, h, p, hp => by
    simp only [plansL, List.mem_singleton] at hp
    subst hp
    exact ⟨rfl, h⟩
  | m + 1, l, h, p, hp => by
    simp only [plansL, List.mem_flatMap, List.mem_range] at hp
    obtain ⟨i, hi, hp⟩ := hp
    split at hp
    · have := plansL_in l0 l1 m (l ++ [(i : Int)]) (fun x hx => by
        simp only [List.mem_append, List.mem_singleton] at hx
        rcases hx with hx | rfl
        · exact h x hx
        · omega) p hp
      simp only [List.length_append, List.length_singleton] at this
      exact ⟨by omega, this.2⟩
    · simp at hp
theorem Plans_ev (l0 : List S75) (l1 : List Int) (h0 : l0.length ≤ 5) (h1 : l1.length ≤ 8) : ∀ (m : Nat) (l : List Int), l.length + m = l1.length → Ev (fun k => spec_l07Plans.f k l0 l1 l) (plansL l0 l1 m l) := by
  intro m
  induction m with
  | zero =>
    intro l hl
    refine Ev.succ ?_
    simp only [spec_l07Plans.f]
    exact Ev.pos (by omega) (Ev.bind (Ev.const (Own_f l (by omega))) (Ev.now _))
  | succ m ih =>
    intro l hl
    have hpow : ∀ q : Nat, q ≤ 8 → l0.length ^ q ≤ 390625 := fun q hq => Nat.le_trans (Nat.pow_le_pow_left h0 q) (Nat.le_trans (Nat.pow_le_pow_right (by omega) hq) (by decide))
    refine Ev.succ ?_
    simp only [spec_l07Plans.f]
    refine Ev.neg (by omega) ?_
    have key : ∀ (n i : Nat) (acc : List (List Int)), i + n = l0.length → acc.length ≤ 390625 * i → Ev (fun k => spec_l07Plans.l0 k l0 l1 l acc (i : Int)) (acc ++ ((List.range l0.length).drop i).flatMap fun (i : Nat) => if mayV l0 l1 l (i : Int) = true then plansL l0 l1 m (l ++ [(i : Int)]) else []) := by
      intro n
      induction n with
      | zero =>
        intro i acc hi ha
        obtain rfl : i = l0.length := by omega
        refine Ev.succ ?_
        simp only [spec_l07Plans.l0]
        refine Ev.neg (by omega) (Ev.eq (Ev.now acc) ?_)
        rw [List.drop_of_length_le (by simp)]
        simp
      | succ n ihn =>
        intro i acc hi ha
        have hd : (List.range l0.length).drop i = i :: (List.range l0.length).drop (i + 1) := by
          rw [List.drop_eq_getElem_cons (by simpa using (by omega : i < l0.length))]
          simp
        refine Ev.succ ?_
        simp only [spec_l07Plans.l0]
        refine Ev.pos (by omega) (Ev.bind (May_ev l0 l1 l (i : Int) (by omega) (by omega) (by omega) (by omega)) ?_)
        rw [hd]
        simp only [List.flatMap_cons]
        have hw : wrap64 ((i : Int) + 1) = ((i + 1 : Nat) : Int) := wnat i l0.length (by omega) (by omega)
        cases hm : mayV l0 l1 l (i : Int) with
        | true =>
          have hb := Nat.le_trans (plansL_len l0 l1 m (l ++ [(i : Int)])) (hpow m (by omega))
          refine Ev.pos rfl (Ev.bind (Ev.const (Own_f l (by omega))) (Ev.pos (by omega) (Ev.bind (ih (l ++ [(i : Int)]) (by simp; omega)) (Ev.pos (by omega) ?_))))
          rw [hw]
          refine Ev.eq (ihn (i + 1) (acc ++ plansL l0 l1 m (l ++ [(i : Int)])) (by omega) (by rw [List.length_append]; omega)) ?_
          simp [List.append_assoc]
        | false =>
          refine Ev.neg (by simp) ?_
          rw [hw]
          exact Ev.eq (ihn (i + 1) acc (by omega) (by omega)) (by simp)
    simpa [plansL] using key l0.length 0 [] (by omega) (by simp)
theorem plansM_ev {σ : Type} (l0 : List S75) (l1 : List Int) (h1 : l1.length ≤ 1048576) (step : Nat → σ → List Int → Option σ) (g : σ → List Int → σ) (hs : ∀ s p, p.length = l1.length → (∀ x : Int, x ∈ p → 0 ≤ x ∧ x < (l0.length : Int)) → Ev (fun k => step k s p) (g s p)) :
    ∀ (m : Nat) (l : List Int) (s : σ), l.length + m = l1.length → (∀ x : Int, x ∈ l → 0 ≤ x ∧ x < (l0.length : Int)) → Ev (fun k => plansM k l0 l1 (step k) (m + 1) l s) ((plansL l0 l1 m l).foldl g s) := by
  intro m
  induction m with
  | zero =>
    intro l s hl hin
    simp only [plansM]
    exact Ev.pos (by omega) (by simpa [plansL] using hs s l (by omega) hin)
  | succ m ih =>
    intro l s hl hin
    rw [plansL, foldl_flat]
    unfold plansM
    refine Ev.neg (by omega) (Ev.foldlM _ _ _ (fun i hi s' => ?_) s)
    have hi' : i < l0.length := by simpa using hi
    refine Ev.bind (goesOn_ev l0 l1 l (i : Int) (by omega) h1 (by omega) (by omega)) ?_
    cases mayV l0 l1 l (i : Int) with
    | true =>
      simp only [if_true]
      exact ih (l ++ [(i : Int)]) s' (by simp; omega) (fun x hx => by
        simp only [List.mem_append, List.mem_singleton] at hx
        rcases hx with hx | rfl
        · exact hin x hx
        · omega)
    | false => simpa using Ev.now s'

end Go.Proofs.Ythfinhdmdfekcaa.Q

namespace Go.Proofs.Ythfinhdmdfekcaa.Q
open Go.RowKit Go.Proofs.YthfinhdmdfekcaaW.PrintWords Go.Proofs.YthfinhdmdfekcaaW.PrintLast Go.Proofs.Ythfinhdmdfekcaa.PA
set_option linter.unusedVariables false
set_option linter.unusedSimpArgs false

/-- The best so far: the first of the least; a number below 0 says that there is none. -/
def lstep (num : List Int → Int) (s : List Int × Int) (p : List Int) : List Int × Int := if s.2 < 0 then (p, num p) else if num p < s.2 then (p, num p) else s
theorem lfold_pos (num : List Int → Int) : ∀ (ps : List (List Int)) (s : List Int × Int), 0 ≤ s.2 → (∀ p ∈ ps, 0 ≤ num p) → 0 ≤ (ps.foldl (lstep num) s).2
  | [], s, h, _ => h
  | p :: ps, s, h, hp => by
    rw [List.foldl_cons]
    refine lfold_pos num ps _ ?_ (fun q hq => hp q (by simp [hq]))
    have := hp p (by simp)
    unfold lstep
    split
    · exact this
    · split
      · exact this
      · exact h
theorem leastStep_ev (num : Nat → List Int → Option Int) (g : List Int → Int) (s : List Int × Int) (p : List Int) (h : Ev (fun k => num k p) (g p)) : Ev (fun k => leastStep (num k) s p) (lstep g s p) := by
  unfold leastStep lstep
  refine Ev.bind h ?_
  by_cases h1 : s.2 < 0
  · rw [if_pos h1, if_pos h1]; exact Ev.now _
  · rw [if_neg h1, if_neg h1]
    by_cases h2 : g p < s.2
    · rw [if_pos h2, if_pos h2]; exact Ev.now _
    · rw [if_neg h2, if_neg h2]; exact Ev.now _
def leastV (g : List Int → Int) (ps : List (List Int)) : List Int × Int × Int :=
  match ps with
  | [] => ([], 0, 6)
  | p :: ps => let r := ps.foldl (lstep g) (p, g p); (r.1, r.2, 0)
theorem leastM_ev (num : Nat → List Int → Option Int) (g : List Int → Int) (l0 : List S75) (l1 : List Int) (hok : ledB l0 l1 = true)
    (hn : ∀ p, p.length = l1.length → (∀ x : Int, x ∈ p → 0 ≤ x ∧ x < (l0.length : Int)) → Ev (fun k => num k p) (g p) ∧ 0 ≤ g p) : Ev (fun k => leastM k (num k) l0 l1) (leastV g (plansL l0 l1 l1.length [])) := by
  have hb := ledB_len hok
  have hok' := hok
  simp only [ledB, Bool.and_eq_true] at hok'
  unfold leastM
  have hm := plansM_ev l0 l1 (by omega) (fun k => leastStep (num k)) (lstep g) (fun s p hp1 hp2 => leastStep_ev num g s p (hn p hp1 hp2).1) l1.length [] (([] : List Int), (-1 : Int)) (by simp) (by simp)
  refine Ev.bind (Ev.const (ValidGuides_f l0)) (Ev.pos hok'.1 (Ev.bind (Ev.const (ValidLegs_f l1)) (Ev.pos hok'.2 (Ev.bind hm ?_))))
  have hin := plansL_in l0 l1 l1.length [] (by simp)
  generalize hps : plansL l0 l1 l1.length [] = ps at *
  cases ps with
  | nil => exact Ev.pos (by simp) (Ev.now _)
  | cons p ps =>
    have e1 : (p :: ps).foldl (lstep g) (([] : List Int), (-1 : Int)) = ps.foldl (lstep g) (p, g p) := by
      rw [List.foldl_cons]
      congr 1
    have hpos := lfold_pos g ps (p, g p) ((hn p (by have := (hin p (by simp)).1; simpa using this) (hin p (by simp)).2).2) (fun q hq => (hn q (by have := (hin q (by simp [hq])).1; simpa using this) (hin q (by simp [hq])).2).2)
    rw [e1]
    exact Ev.neg (by omega) (Ev.now _)
theorem leastM_bad (num : Nat → List Int → Option Int) (l0 : List S75) (l1 : List Int) (hok : ledB l0 l1 = false) : Ev (fun k => leastM k (num k) l0 l1) ([], 0, 1) := by
  unfold leastM
  refine Ev.bind (Ev.const (ValidGuides_f l0)) ?_
  cases hg : okGuides l0 with
  | false => exact Ev.neg (by simp) (Ev.now _)
  | true =>
    refine Ev.pos rfl (Ev.bind (Ev.const (ValidLegs_f l1)) (Ev.neg ?_ (Ev.now _)))
    simp only [ledB, hg, Bool.true_and] at hok
    simp [hok]

end Go.Proofs.Ythfinhdmdfekcaa.Q

namespace Go.Proofs.Ythfinhdmdfekcaa.Q
open Go.RowKit Go.Proofs.YthfinhdmdfekcaaW.PrintWords Go.Proofs.YthfinhdmdfekcaaW.PrintLast Go.Proofs.Ythfinhdmdfekcaa.PA
set_option linter.unusedVariables false
set_option linter.unusedSimpArgs false

theorem minutes_all (l0 : List S75) (l1 l2 : List Int) (h2 : l2.length ≤ l1.length) (hl : l1.length ≤ 1048576) (hin : ∀ x ∈ l2, 0 ≤ x ∧ x < l0.length) : ∃ r, Ev (fun k => spec_l07Minutes.f k l0 l1 l2) r ∧ Ev (fun k => impl_minutes.f k l0 l1 l2) r ∧ (l1.length ≤ 8 → (∀ x ∈ l1, 0 ≤ x ∧ x ≤ 20) → (∀ i : Int, 0 ≤ i → i < l0.length → 0 ≤ wrap64 (rd_T75 l0 i).f2 ∧ wrap64 (rd_T75 l0 i).f2 ≤ 20) → 0 ≤ r ∧ r ≤ 3200) := by
  unfold spec_l07Minutes.f impl_minutes.f
  have key : ∀ (m i : Nat) (s : Int), i + m = l2.length → ∃ r, Ev (fun k => spec_l07Minutes.l0 k l0 l1 l2 s (i : Int)) r ∧ Ev (fun k => impl_minutes.l0 k l0 l1 s l2 (l2.length : Int) (i : Int)) r ∧ ((∀ x ∈ l1, 0 ≤ x ∧ x ≤ 20) → (∀ i : Int, 0 ≤ i → i < l0.length → 0 ≤ wrap64 (rd_T75 l0 i).f2 ∧ wrap64 (rd_T75 l0 i).f2 ≤ 20) → 0 ≤ s → s ≤ 400 * (i : Int) → 0 ≤ r ∧ r ≤ 400 * (l2.length : Int)) := by
    intro m
    induction m with
    | zero =>
      intro i s hi
      obtain rfl : i = l2.length := by omega
      refine ⟨s, Ev.round (Ev.now _) fun k => ?_, Ev.round (Ev.now _) fun k => ?_, fun _ _ h0 h1 => ⟨h0, h1⟩⟩
      · simp only [spec_l07Minutes.l0]; rw [if_neg (by omega)]
      · simp only [impl_minutes.l0]; rw [if_neg (by omega)]
    | succ m ih =>
      intro i s hi
      obtain ⟨j0, j1⟩ := hin _ (getD_mem l2 i 0 (by omega))
      obtain ⟨r, g1, g2, g3⟩ := ih (i + 1) (wrap64 (s + (wrap64 (l1.getD i 0 * (wrap64 ((rd_T75 l0 (l2.getD i 0)).f2)))))) (by omega)
      refine ⟨r, Ev.round g1 fun k => ?_, Ev.round g2 fun k => ?_, fun a1 a2 s0 s1 => ?_⟩
      · simp only [spec_l07Minutes.l0, rd_nat]
        rw [if_pos (by omega), if_pos (by omega), if_pos (by omega), if_pos j0, if_pos j1, wnat i l2.length (by omega) (by omega)]
      · simp only [impl_minutes.l0, rd_nat]
        rw [if_pos (by omega), if_pos (by omega), if_pos (by omega), if_pos (by omega), if_pos j0, if_pos j1, wnat i l2.length (by omega) (by omega)]
      · obtain ⟨b0, b1⟩ := a1 _ (getD_mem l1 i 0 (by omega))
        obtain ⟨c0, c1⟩ := a2 _ j0 j1
        have p0 : 0 ≤ l1.getD i 0 * wrap64 (rd_T75 l0 (l2.getD i 0)).f2 := Int.mul_nonneg b0 c0
        have p1 : l1.getD i 0 * wrap64 (rd_T75 l0 (l2.getD i 0)).f2 ≤ 20 * 20 := Int.mul_le_mul b1 c1 c0 (by omega)
        have e1 : wrap64 (l1.getD i 0 * wrap64 (rd_T75 l0 (l2.getD i 0)).f2) = l1.getD i 0 * wrap64 (rd_T75 l0 (l2.getD i 0)).f2 := wint _ (by omega) (by omega)
        have e2 : wrap64 (s + wrap64 (l1.getD i 0 * wrap64 (rd_T75 l0 (l2.getD i 0)).f2)) = s + l1.getD i 0 * wrap64 (rd_T75 l0 (l2.getD i 0)).f2 := by rw [e1]; exact wint _ (by omega) (by omega)
        rw [e2] at g3
        exact g3 a1 a2 (by omega) (by omega)
  obtain ⟨r, g1, g2, g3⟩ := key l2.length 0 0 (by omega)
  refine ⟨r, g1, g2, fun h8 a1 a2 => ?_⟩
  have := g3 a1 a2 (by omega) (by omega)
  omega

end Go.Proofs.Ythfinhdmdfekcaa.Q

namespace Go.Proofs.Ythfinhdmdfekcaa.Q
open Go.RowKit Go.Proofs.YthfinhdmdfekcaaW.PrintWords Go.Proofs.YthfinhdmdfekcaaW.PrintLast Go.Proofs.Ythfinhdmdfekcaa.PA
set_option linter.unusedVariables false
set_option linter.unusedSimpArgs false

theorem rd_L_nat2 (xs : List (List Int)) (i : Nat) : rd_L1 xs (i : Int) = xs.getD i [] := by simp [rd_L1]
theorem fast_loop (l0 : List S75) (l1 : List Int) (g : List Int → Int) (ps : List (List Int)) (hn : ps.length ≤ 1048576) (hm : ∀ p ∈ ps, Ev (fun k => spec_l07Minutes.f k l0 l1 p) (g p) ∧ 0 ≤ g p) :
    ∀ (m i : Nat) (s : List Int × Int), i + m = ps.length → 0 ≤ s.2 → Ev (fun k => spec_FastestLeaders.l0 k l0 l1 ps s.1 s.2 (i : Int)) (((ps.drop i).foldl (lstep g) s).1, ((ps.drop i).foldl (lstep g) s).2, 0) := by
  intro m
  induction m with
  | zero =>
    intro i s hi hs
    obtain rfl : i = ps.length := by omega
    rw [List.drop_length]
    refine Ev.succ ?_
    simp only [spec_FastestLeaders.l0]
    exact Ev.neg (by omega) (Ev.now _)
  | succ m ih =>
    intro i s hi hs
    have hx := hm _ (getD_mem ps i [] (by omega))
    rw [drop_get ps i [] (by omega), List.foldl_cons]
    refine Ev.succ ?_
    simp only [spec_FastestLeaders.l0, rd_L_nat2]
    refine Ev.pos (by omega) (Ev.pos (by omega) (Ev.bind hx.1 ?_))
    rw [wnat i ps.length (by omega) (by omega)]
    by_cases hc : g (ps.getD i []) < s.2
    · have e : lstep g s (ps.getD i []) = (ps.getD i [], g (ps.getD i [])) := by rw [lstep, if_neg (by omega), if_pos hc]
      rw [e]
      exact Ev.pos hc (ih (i + 1) (ps.getD i [], g (ps.getD i [])) (by omega) hx.2)
    · have e : lstep g s (ps.getD i []) = s := by rw [lstep, if_neg (by omega), if_neg hc]
      rw [e]
      exact Ev.neg hc (ih (i + 1) s (by omega) hs)
theorem guides_pace {l0 : List S75} (h : okGuides l0 = true) (i : Int) (h0 : 0 ≤ i) (h1 : i < l0.length) : 0 ≤ wrap64 (rd_T75 l0 i).f2 ∧ wrap64 (rd_T75 l0 i).f2 ≤ 20 := by
  simp only [okGuides, Bool.and_eq_true, List.all_eq_true] at h
  have hx := h.2 _ (getD_mem l0 i.toNat z75 (by omega))
  simp only [impl_ValidGuides.ok, inB, Bool.and_eq_true, decide_eq_true_eq] at hx
  unfold rd_T75
  omega
theorem legs_in {l : List Int} (h : okLegs l = true) : ∀ x ∈ l, 0 ≤ x ∧ x ≤ 20 := by
  simp only [okLegs, Bool.and_eq_true, List.all_eq_true] at h
  intro x hx
  have := h.2 x hx
  simp only [inB, Bool.and_eq_true, decide_eq_true_eq] at this
  omega
theorem FastestLeaders_both (l0 : List S75) (l1 : List Int) (h0 : l0.length ≤ 1048576) (h1 : l1.length ≤ 1048576) : ∃ r : List Int × Int × Int, r.1.length ≤ 1048576 ∧ Ev (fun k => spec_FastestLeaders.f k l0 l1) r ∧ Ev (fun k => impl_FastestLeaders.f k l0 l1) r := by
  have hled := Led_ev l0 l1 h0 h1
  unfold spec_FastestLeaders.f impl_FastestLeaders.f
  cases hb : ledB l0 l1 with
  | false =>
    rw [hb] at hled
    exact ⟨([], 0, 1), by simp, Ev.bind hled (Ev.neg (by simp) (Ev.now _)), leastM_bad (fun k p => impl_minutes.f k l0 l1 p) l0 l1 hb⟩
  | true =>
    rw [hb] at hled
    have hl := ledB_len hb
    have hb' := hb
    simp only [ledB, Bool.and_eq_true] at hb'
    have hall : ∀ p : List Int, ∃ r : Int, p.length = l1.length → (∀ x : Int, x ∈ p → 0 ≤ x ∧ x < (l0.length : Int)) → Ev (fun k => spec_l07Minutes.f k l0 l1 p) r ∧ Ev (fun k => impl_minutes.f k l0 l1 p) r ∧ 0 ≤ r := by
      intro p
      by_cases hp : p.length = l1.length ∧ ∀ x : Int, x ∈ p → 0 ≤ x ∧ x < (l0.length : Int)
      · obtain ⟨r, g1, g2, g3⟩ := minutes_all l0 l1 p (by omega) (by omega) hp.2
        exact ⟨r, fun _ _ => ⟨g1, g2, (g3 (by omega) (legs_in hb'.2) (guides_pace hb'.1)).1⟩⟩
      · exact ⟨0, fun a b => absurd ⟨a, b⟩ hp⟩
    have hp := Plans_ev l0 l1 (by omega) (by omega) l1.length [] (by simp)
    have hg := fun p => (hall p).choose_spec
    have hm := leastM_ev (fun k p => impl_minutes.f k l0 l1 p) (fun p => (hall p).choose) l0 l1 hb (fun p a b => ⟨(hg p a b).2.1, (hg p a b).2.2⟩)
    have hin := plansL_in l0 l1 l1.length [] (by simp)
    have hlen := Nat.le_trans (plansL_len l0 l1 l1.length []) (Nat.le_trans (Nat.pow_le_pow_left (show l0.length ≤ 5 by omega) l1.length) (Nat.le_trans (Nat.pow_le_pow_right (by omega) (show l1.length ≤ 8 by omega)) (show 5 ^ 8 ≤ 390625 by decide)))
    generalize hgg : (fun p => (hall p).choose) = g at *
    have hg2 : ∀ p, p.length = l1.length → (∀ x : Int, x ∈ p → 0 ≤ x ∧ x < (l0.length : Int)) → Ev (fun k => spec_l07Minutes.f k l0 l1 p) (g p) ∧ 0 ≤ g p := fun p a b => by
      subst hgg
      exact ⟨(hg p a b).1, (hg p a b).2.2⟩
    generalize hps : plansL l0 l1 l1.length [] = ps at *
    cases ps with
    | nil => exact ⟨([], 0, 6), by simp, Ev.bind hled (Ev.pos rfl (Ev.bind hp (Ev.pos (by simp) (Ev.now _)))), hm⟩
    | cons p ps =>
      have hq : ∀ q ∈ p :: ps, Ev (fun k => spec_l07Minutes.f k l0 l1 q) (g q) ∧ 0 ≤ g q := fun q hq => hg2 q (by have := (hin q hq).1; simpa using this) (hin q hq).2
      have hloop := fast_loop l0 l1 g (p :: ps) (by omega) hq ps.length 1 (p, g p) (by simp; omega) (hq p (by simp)).2
      have hbest : ∀ (qs : List (List Int)) (s : List Int × Int), (∀ q ∈ qs, q.length ≤ 8) → s.1.length ≤ 8 → (qs.foldl (lstep g) s).1.length ≤ 8 := by
        intro qs
        induction qs with
        | nil => intro s _ h; exact h
        | cons q qs ihq =>
          intro s hqs h
          rw [List.foldl_cons]
          refine ihq _ (fun z hz => hqs z (by simp [hz])) ?_
          have hq8 := hqs q (by simp)
          unfold lstep
          split
          · exact hq8
          · split
            · exact hq8
            · exact h
      have hl8 : ∀ q ∈ p :: ps, q.length ≤ 8 := fun q hq => by have := (hin q hq).1; simp at this; omega
      refine ⟨leastV g (p :: ps), ?_, Ev.bind hled (Ev.pos rfl (Ev.bind hp (Ev.neg (by simp <;> omega) (Ev.pos (by simp <;> omega) ?_)))), hm⟩
      · have := hbest ps (p, g p) (fun q hq => hl8 q (by simp [hq])) (hl8 p (by simp))
        simp only [leastV]
        omega
      · rw [show rd_L1 (p :: ps) 0 = p by simp [rd_L1]]
        exact Ev.bind (hq p (by simp)).1 hloop

end Go.Proofs.Ythfinhdmdfekcaa.Q

namespace Go.Proofs.Ythfinhdmdfekcaa.Q
open Go.RowKit Go.Proofs.YthfinhdmdfekcaaW.PrintWords Go.Proofs.YthfinhdmdfekcaaW.PrintLast Go.Proofs.Ythfinhdmdfekcaa.PA
set_option linter.unusedVariables false
set_option linter.unusedSimpArgs false
theorem FnExactFastestLeaders
    (l0 : List S77)
    (l1 : List Int)
    (hm0 : l0.length ≤ maxLen) (hw0 : ∀ x ∈ l0, (Lit.int .i8 x.f0).wf = true ∧ (Lit.int .i8 x.f1).wf = true ∧ (Lit.int .i8 x.f2).wf = true)
    (hm1 : l1.length ≤ maxLen) (hw1 : ∀ x ∈ l1, (Lit.int .i64 x).wf = true)
    : Ev (fun k => laws_FnExactFastestLeaders.f k l0 l1) true := by
  unfold laws_FnExactFastestLeaders.f
  by_cases hi1 : (l1.length : Int) > 1048576
  · exact Ev.pos hi1 (Ev.now _)
  refine Ev.neg hi1 ?_
  have hl1 : l1.length ≤ 1048576 := by omega
  by_cases hs0 : l0.length ≤ 1048576
  rotate_left
  · exact Ev.bind (Ev.const (szGuideS_big l0 (by omega) hm0)) (Ev.pos (by decide) (Ev.now _))
  refine Ev.bind (Ev.const (szGuideS_small l0 hs0)) (Ev.neg (by omega) ?_)
  have e0 := toGuideS_ev l0 hs0
  have q0 := eqGuideS_ev (l0.map cGuide) (by simpa using hs0)
  obtain ⟨lm0, mk0⟩ := markGuideS_ev (l0.map cGuide) (1) (by simpa using hs0) (by omega) (by (try simp only [List.length_map] at *); omega)
  have e1 := toInt64S_ev l1 hl1
  have q1 := eqInt64S_ev l1 hl1
  have mk1 := markInt64S_ev l1 (1 + 3 * ((l0.map cGuide).length : Int)) hl1 (by omega) (by (try simp only [List.length_map] at *); omega)
  obtain ⟨r, hrl, hs, hi⟩ := FastestLeaders_both (l0.map cGuide) l1 (by simpa using hs0) hl1
  have qr := eqInt64S_ev r.1 hrl
  have mr := markInt64S_ev r.1 1 hrl (by omega) (by omega)
  have hr := heldInt64S_ev 1 r.1.length hrl (by omega) (by omega)
  refine Ev.bind e0 ?_
  refine Ev.bind e1 ?_
  refine Ev.bind hs ?_
  refine Ev.bind e0 ?_
  refine Ev.bind e1 ?_
  refine Ev.bind hi ?_
  first | refine Ev.bind q1 ?_ | refine Ev.bind qr ?_
  refine Ev.pos (by first | exact rfl | exact trivial) ?_
  refine Ev.pos (by first | exact rfl | exact trivial) ?_
  refine Ev.succ ?_
  simp only [laws_FnExactFastestLeaders.j0]
  refine Ev.neg (by simp) ?_
  refine Ev.bind e0 ?_
  refine Ev.bind q0 ?_
  refine Ev.pos (by first | exact rfl | exact trivial) ?_
  refine Ev.bind e1 ?_
  first | refine Ev.bind q1 ?_ | refine Ev.bind qr ?_
  refine Ev.pos (by first | exact rfl | exact trivial) ?_
  refine Ev.bind mk0 ?_
  first | refine Ev.bind mk1 ?_ | refine Ev.bind mr ?_
  refine Ev.neg (by (try dsimp only); omega) ?_
  first | refine Ev.bind q1 ?_ | refine Ev.bind qr ?_
  refine Ev.pos (by first | exact rfl | exact trivial) ?_
  refine Ev.pos (by first | exact rfl | exact trivial) ?_
  refine Ev.succ ?_
  simp only [laws_FnExactFastestLeaders.j1]
  refine Ev.neg (by simp) ?_
  first | refine Ev.bind mk1 ?_ | refine Ev.bind mr ?_
  refine Ev.bind hr ?_
  refine Ev.neg (by (try dsimp only); omega) ?_
  refine Ev.pos (by first | exact rfl | exact trivial) ?_
  refine Ev.bind e0 ?_
  refine Ev.bind e1 ?_
  refine Ev.bind hi ?_
  first | refine Ev.bind q1 ?_ | refine Ev.bind qr ?_
  refine Ev.pos (by first | exact rfl | exact trivial) ?_
  refine Ev.pos (by first | exact rfl | exact trivial) ?_
  refine Ev.succ ?_
  simp only [laws_FnExactFastestLeaders.j2]
  refine Ev.neg (by simp) ?_
  refine Ev.bind hr ?_
  refine Ev.neg (by (try dsimp only); omega) ?_
  refine Ev.pos (by first | exact rfl | exact trivial) ?_
  exact Ev.now _
end Go.Proofs.Ythfinhdmdfekcaa.Q
