/- Plain laws, joined: Qf, Qpl, Qle, QuFirstLeaders, QvFirstLeaders. -/
import Derived.Test.YthfinhdmdfekcaaPAx19
import Derived.Test.YthfinhdmdfekcaaPAx20
import Derived.Test.YthfinhdmdfekcaaPAx38
import Derived.Test.YthfinhdmdfekcaaPAx39
import Derived.Test.YthfinhdmdfekcaaPAx40
import Derived.Test.YthfinhdmdfekcaaQk
import Derived.Test.YthfinhdmdfekcaaQm
import Derived.Test.YthfinhdmdfekcaaQld
import Derived.Test.YthfinhdmdfekcaaQi
import Derived.Test.YthfinhdmdfekcaaQj
import Derived.Test.YthfinhdmdfekcaaQg
import Derived.Test.YthfinhdmdfekcaaQgm
namespace Go.Proofs.Ythfinhdmdfekcaa.Q
open Go.RowKit Go.Proofs.YthfinhdmdfekcaaW.PrintWords Go.Proofs.YthfinhdmdfekcaaW.PrintLast Go.Proofs.Ythfinhdmdfekcaa.PA
set_option linter.unusedVariables false
set_option linter.unusedSimpArgs false

theorem Ev.foldlM {σ α : Type} (f : Nat → σ → α → Option σ) (g : σ → α → σ) (xs : List α) (h : ∀ x ∈ xs, ∀ s, Ev (fun k => f k s x) (g s x)) : ∀ s, Ev (fun k => xs.foldlM (f k) s) (xs.foldl g s) := by
  induction xs with
  | nil => intro s; simpa using Ev.now s
  | cons x xs ih =>
    intro s
    simp only [List.foldlM_cons, List.foldl_cons]
    exact Ev.bind (h x (by simp) s) (ih (fun y hy => h y (by simp [hy])) _)
theorem foldl_flat {α β σ : Type} (h : α → List β) (g : σ → β → σ) : ∀ (xs : List α) (s : σ), (xs.flatMap h).foldl g s = xs.foldl (fun s x => (h x).foldl g s) s
  | [], s => rfl
  | x :: xs, s => by
    simp only [List.flatMap_cons, List.foldl_append, List.foldl_cons]
    exact foldl_flat h g xs _
theorem Own_f (l : List Int) (h : l.length ≤ 1048576) : spec_l00Own.f l = some l := by
  unfold spec_l00Own.f
  simp only [Option.bind_some, List.nil_append, List.length_nil]
  rw [if_pos (by omega)]
theorem flat_len {α β : Type} (h : α → List β) (c : Nat) : ∀ (xs : List α), (∀ x ∈ xs, (h x).length ≤ c) → (xs.flatMap h).length ≤ xs.length * c
  | [], _ => by simp
  | x :: xs, hb => by
    have h1 := hb x (by simp)
    have h2 := flat_len h c xs (fun y hy => hb y (by simp [hy]))
    simp only [List.flatMap_cons, List.length_append, List.length_cons, Nat.succ_mul]
    omega

end Go.Proofs.Ythfinhdmdfekcaa.Q

namespace Go.Proofs.Ythfinhdmdfekcaa.Q
open Go.RowKit Go.Proofs.YthfinhdmdfekcaaW.PrintWords Go.Proofs.YthfinhdmdfekcaaW.PrintLast Go.Proofs.Ythfinhdmdfekcaa.PA
set_option linter.unusedVariables false
set_option linter.unusedSimpArgs false

/-- All plans that go on from a start, by the legs that are left. -/
def plansL (l0 : List S75) (l1 : List Int) : Nat → List Int → List (List Int)
  | 0, l => [l]
  | m + 1, l => (List.range l0.length).flatMap fun (i : Nat) => if mayV l0 l1 l (i : Int) = true then plansL l0 l1 m (l ++ [(i : Int)]) else []
theorem plansL_len (l0 : List S75) (l1 : List Int) : ∀ (m : Nat) (l : List Int), (plansL l0 l1 m l).length ≤ l0.length ^ m
  | 0, l => by simp [plansL]
  | m + 1, l => by
    simp only [plansL]
    refine Nat.le_trans (flat_len _ (l0.length ^ m) _ (fun i _ => ?_)) (by rw [List.length_range, Nat.pow_succ, Nat.mul_comm]; exact Nat.le_refl _)
    split
    · exact plansL_len l0 l1 m _
    · simp
theorem plansL_in (l0 : List S75) (l1 : List Int) : ∀ (m : Nat) (l : List Int), (∀ x ∈ l, 0 ≤ x ∧ x < l0.length) → ∀ p ∈ plansL l0 l1 m l, p.length = l.length + m ∧ ∀ x : Int, x ∈ p → 0 ≤ x ∧ x < (l0.length : Int)
  | 0, l, h, p, hp => by
    simp only [plansL, List.mem_singleton] at hp
    subst hp
    exact ⟨rfl, h⟩
  | m + 1, l, h, p, hp => by
    simp only [plansL, List.mem_flatMap, List.mem_range] at hp
    obtain ⟨i, hi, hp⟩ := hp
    split at hp
    · have := plansL_in l0 l1 m (l ++ [(i : Int)]) (fun x hx => by
        simp only [List.mem_append, List.mem_singleton] at hx
        rcases hx with hx | rfl
        · exact h x hx
        · omega) p hp
      simp only [List.length_append, List.length_singleton] at this
      exact ⟨by omega, this.2⟩
    · simp at hp
theorem Plans_ev (l0 : List S75) (l1 : List Int) (h0 : l0.length ≤ 5) (h1 : l1.length ≤ 8) : ∀ (m : Nat) (l : List Int), l.length + m = l1.length → Ev (fun k => spec_l07Plans.f k l0 l1 l) (plansL l0 l1 m l) := by
  intro m
  induction m with
  | zero =>
    intro l hl
    refine Ev.succ ?_
    simp only [spec_l07Plans.f]
    exact Ev.pos (by omega) (Ev.bind (Ev.const (Own_f l (by omega))) (Ev.now _))
  | succ m ih =>
    intro l hl
    have hpow : ∀ q : Nat, q ≤ 8 → l0.length ^ q ≤ 390625 := fun q hq => Nat.le_trans (Nat.pow_le_pow_left h0 q) (Nat.le_trans (Nat.pow_le_pow_right (by omega) hq) (by decide))
    refine Ev.succ ?_
    simp only [spec_l07Plans.f]
    refine Ev.neg (by omega) ?_
    have key : ∀ (n i : Nat) (acc : List (List Int)), i + n = l0.length → acc.length ≤ 390625 * i → Ev (fun k => spec_l07Plans.l0 k l0 l1 l acc (i : Int)) (acc ++ ((List.range l0.length).drop i).flatMap fun (i : Nat) => if mayV l0 l1 l (i : Int) = true then plansL l0 l1 m (l ++ [(i : Int)]) else []) := by
      intro n
      induction n with
      | zero =>
        intro i acc hi ha
        obtain rfl : i = l0.length := by omega
        refine Ev.succ ?_
        simp only [spec_l07Plans.l0]
        refine Ev.neg (by omega) (Ev.eq (Ev.now acc) ?_)
        rw [List.drop_of_length_le (by simp)]
        simp
      | succ n ihn =>
        intro i acc hi ha
        have hd : (List.range l0.length).drop i = i :: (List.range l0.length).drop (i + 1) := by
          rw [List.drop_eq_getElem_cons (by simpa using (by omega : i < l0.length))]
          simp
        refine Ev.succ ?_
        simp only [spec_l07Plans.l0]
        refine Ev.pos (by omega) (Ev.bind (May_ev l0 l1 l (i : Int) (by omega) (by omega) (by omega) (by omega)) ?_)
        rw [hd]
        simp only [List.flatMap_cons]
        have hw : wrap64 ((i : Int) + 1) = ((i + 1 : Nat) : Int) := wnat i l0.length (by omega) (by omega)
        cases hm : mayV l0 l1 l (i : Int) with
        | true =>
          have hb := Nat.le_trans (plansL_len l0 l1 m (l ++ [(i : Int)])) (hpow m (by omega))
          refine Ev.pos rfl (Ev.bind (Ev.const (Own_f l (by omega))) (Ev.pos (by omega) (Ev.bind (ih (l ++ [(i : Int)]) (by simp; omega)) (Ev.pos (by omega) ?_))))
          rw [hw]
          refine Ev.eq (ihn (i + 1) (acc ++ plansL l0 l1 m (l ++ [(i : Int)])) (by omega) (by rw [List.length_append]; omega)) ?_
          simp [List.append_assoc]
        | false =>
          refine Ev.neg (by simp) ?_
          rw [hw]
          exact Ev.eq (ihn (i + 1) acc (by omega) (by omega)) (by simp)
    simpa [plansL] using key l0.length 0 [] (by omega) (by simp)
theorem plansM_ev {σ : Type} (l0 : List S75) (l1 : List Int) (h1 : l1.length ≤ 1048576) (step : Nat → σ → List Int → Option σ) (g : σ → List Int → σ) (hs : ∀ s p, p.length = l1.length → (∀ x : Int, x ∈ p → 0 ≤ x ∧ x < (l0.length : Int)) → Ev (fun k => step k s p) (g s p)) :
    ∀ (m : Nat) (l : List Int) (s : σ), l.length + m = l1.length → (∀ x : Int, x ∈ l → 0 ≤ x ∧ x < (l0.length : Int)) → Ev (fun k => plansM k l0 l1 (step k) (m + 1) l s) ((plansL l0 l1 m l).foldl g s) := by
  intro m
  induction m with
  | zero =>
    intro l s hl hin
    simp only [plansM]
    exact Ev.pos (by omega) (by simpa [plansL] using hs s l (by omega) hin)
  | succ m ih =>
    intro l s hl hin
    rw [plansL, foldl_flat]
    unfold plansM
    refine Ev.neg (by omega) (Ev.foldlM _ _ _ (fun i hi s' => ?_) s)
    have hi' : i < l0.length := by simpa using hi
    refine Ev.bind (goesOn_ev l0 l1 l (i : Int) (by omega) h1 (by omega) (by omega)) ?_
    cases mayV l0 l1 l (i : Int) with
    | true =>
      simp only [if_true]
      exact ih (l ++ [(i : Int)]) s' (by simp; omega) (fun x hx => by
        simp only [List.mem_append, List.mem_singleton] at hx
        rcases hx with hx | rfl
        · exact hin x hx
        · omega)
    | false => simpa using Ev.now s'

end Go.Proofs.Ythfinhdmdfekcaa.Q

namespace Go.Proofs.Ythfinhdmdfekcaa.Q
open Go.RowKit Go.Proofs.YthfinhdmdfekcaaW.PrintWords Go.Proofs.YthfinhdmdfekcaaW.PrintLast Go.Proofs.Ythfinhdmdfekcaa.PA
set_option linter.unusedVariables false
set_option linter.unusedSimpArgs false

/-- The best so far: the first of the least; a number below 0 says that there is none. -/
def lstep (num : List Int → Int) (s : List Int × Int) (p : List Int) : List Int × Int := if s.2 < 0 then (p, num p) else if num p < s.2 then (p, num p) else s
theorem lfold_pos (num : List Int → Int) : ∀ (ps : List (List Int)) (s : List Int × Int), 0 ≤ s.2 → (∀ p ∈ ps, 0 ≤ num p) → 0 ≤ (ps.foldl (lstep num) s).2
  | [], s, h, _ => h
  | p :: ps, s, h, hp => by
    rw [List.foldl_cons]
    refine lfold_pos num ps _ ?_ (fun q hq => hp q (by simp [hq]))
    have := hp p (by simp)
    unfold lstep
    split
    · exact this
    · split
      · exact this
      · exact h
theorem leastStep_ev (num : Nat → List Int → Option Int) (g : List Int → Int) (s : List Int × Int) (p : List Int) (h : Ev (fun k => num k p) (g p)) : Ev (fun k => leastStep (num k) s p) (lstep g s p) := by
  unfold leastStep lstep
  refine Ev.bind h ?_
  by_cases h1 : s.2 < 0
  · rw [if_pos h1, if_pos h1]; exact Ev.now _
  · rw [if_neg h1, if_neg h1]
    by_cases h2 : g p < s.2
    · rw [if_pos h2, if_pos h2]; exact Ev.now _
    · rw [if_neg h2, if_neg h2]; exact Ev.now _
def leastV (g : List Int → Int) (ps : List (List Int)) : List Int × Int × Int :=
  match ps with
  | [] => ([], 0, 6)
  | p :: ps => let r := ps.foldl (lstep g) (p, g p); (r.1, r.2, 0)
theorem leastM_ev (num : Nat → List Int → Option Int) (g : List Int → Int) (l0 : List S75) (l1 : List Int) (hok : ledB l0 l1 = true)
    (hn : ∀ p, p.length = l1.length → (∀ x : Int, x ∈ p → 0 ≤ x ∧ x < (l0.length : Int)) → Ev (fun k => num k p) (g p) ∧ 0 ≤ g p) : Ev (fun k => leastM k (num k) l0 l1) (leastV g (plansL l0 l1 l1.length [])) := by
  have hb := ledB_len hok
  have hok' := hok
  simp only [ledB, Bool.and_eq_true] at hok'
  unfold leastM
  have hm := plansM_ev l0 l1 (by omega) (fun k => leastStep (num k)) (lstep g) (fun s p hp1 hp2 => leastStep_ev num g s p (hn p hp1 hp2).1) l1.length [] (([] : List Int), (-1 : Int)) (by simp) (by simp)
  refine Ev.bind (Ev.const (ValidGuides_f l0)) (Ev.pos hok'.1 (Ev.bind (Ev.const (ValidLegs_f l1)) (Ev.pos hok'.2 (Ev.bind hm ?_))))
  have hin := plansL_in l0 l1 l1.length [] (by simp)
  generalize hps : plansL l0 l1 l1.length [] = ps at *
  cases ps with
  | nil => exact Ev.pos (by simp) (Ev.now _)
  | cons p ps =>
    have e1 : (p :: ps).foldl (lstep g) (([] : List Int), (-1 : Int)) = ps.foldl (lstep g) (p, g p) := by
      rw [List.foldl_cons]
      congr 1
    have hpos := lfold_pos g ps (p, g p) ((hn p (by have := (hin p (by simp)).1; simpa using this) (hin p (by simp)).2).2) (fun q hq => (hn q (by have := (hin q (by simp [hq])).1; simpa using this) (hin q (by simp [hq])).2).2)
    rw [e1]
    exact Ev.neg (by omega) (Ev.now _)
theorem leastM_bad (num : Nat → List Int → Option Int) (l0 : List S75) (l1 : List Int) (hok : ledB l0 l1 = false) : Ev (fun k => leastM k (num k) l0 l1) ([], 0, 1) := by
  unfold leastM
  refine Ev.bind (Ev.const (ValidGuides_f l0)) ?_
  cases hg : okGuides l0 with
  | false => exact Ev.neg (by simp) (Ev.now _)
  | true =>
    refine Ev.pos rfl (Ev.bind (Ev.const (ValidLegs_f l1)) (Ev.neg ?_ (Ev.now _)))
    simp only [ledB, hg, Bool.true_and] at hok
    simp [hok]

end Go.Proofs.Ythfinhdmdfekcaa.Q

namespace Go.Proofs.Ythfinhdmdfekcaa.Q
open Go.RowKit Go.Proofs.YthfinhdmdfekcaaW.PrintWords Go.Proofs.YthfinhdmdfekcaaW.PrintLast Go.Proofs.Ythfinhdmdfekcaa.PA
set_option linter.unusedVariables false
set_option linter.unusedSimpArgs false

theorem rd_L_nat (xs : List (List Int)) (i : Nat) : rd_L1 xs (i : Int) = xs.getD i [] := by simp [rd_L1]
theorem first_fold : ∀ (ps : List (List Int)) (p : List Int), ps.foldl (lstep fun _ => 0) (p, 0) = (p, 0)
  | [], p => rfl
  | q :: ps, p => by
    rw [List.foldl_cons, show lstep (fun _ => 0) (p, 0) q = (p, 0) by simp [lstep]]
    exact first_fold ps p
theorem FirstLeaders_both (l0 : List S75) (l1 : List Int) (h0 : l0.length ≤ 1048576) (h1 : l1.length ≤ 1048576) : ∃ r : List Int × Int, r.1.length ≤ 1048576 ∧ Ev (fun k => spec_FirstLeaders.f k l0 l1) r ∧ Ev (fun k => impl_FirstLeaders.f k l0 l1) r := by
  have hled := Led_ev l0 l1 h0 h1
  unfold spec_FirstLeaders.f impl_FirstLeaders.f
  cases hb : ledB l0 l1 with
  | false =>
    rw [hb] at hled
    exact ⟨([], 1), by simp, Ev.bind hled (Ev.neg (by simp) (Ev.now _)), Ev.bind (leastM_bad (fun _ _ => some 0) l0 l1 hb) (Ev.now _)⟩
  | true =>
    rw [hb] at hled
    have hl := ledB_len hb
    have hp := Plans_ev l0 l1 (by omega) (by omega) l1.length [] (by simp)
    have hm := leastM_ev (fun _ _ => some 0) (fun _ => 0) l0 l1 hb (fun p _ _ => ⟨Ev.now _, Int.le_refl _⟩)
    have hin := plansL_in l0 l1 l1.length [] (by simp)
    generalize hps : plansL l0 l1 l1.length [] = ps at *
    cases ps with
    | nil => exact ⟨([], 6), by simp, Ev.bind hled (Ev.pos rfl (Ev.bind hp (Ev.pos (by simp) (Ev.now _)))), Ev.bind hm (Ev.now _)⟩
    | cons p ps =>
      have hlen := (hin p (by simp)).1
      refine ⟨(p, 0), by simp at hlen ⊢; omega, Ev.bind hled (Ev.pos rfl (Ev.bind hp (Ev.neg (by simp <;> omega) (Ev.pos (by simp <;> omega) (Ev.eq (Ev.now _) ?_))))), Ev.bind hm (Ev.eq (Ev.now _) ?_)⟩
      · simp [rd_L1]
      · simp only [leastV, first_fold]

end Go.Proofs.Ythfinhdmdfekcaa.Q

namespace Go.Proofs.Ythfinhdmdfekcaa.Q
open Go.RowKit Go.Proofs.YthfinhdmdfekcaaW.PrintWords Go.Proofs.YthfinhdmdfekcaaW.PrintLast Go.Proofs.Ythfinhdmdfekcaa.PA
set_option linter.unusedVariables false
set_option linter.unusedSimpArgs false
theorem FnExactFirstLeaders
    (l0 : List S77)
    (l1 : List Int)
    (hm0 : l0.length ≤ maxLen) (hw0 : ∀ x ∈ l0, (Lit.int .i8 x.f0).wf = true ∧ (Lit.int .i8 x.f1).wf = true ∧ (Lit.int .i8 x.f2).wf = true)
    (hm1 : l1.length ≤ maxLen) (hw1 : ∀ x ∈ l1, (Lit.int .i64 x).wf = true)
    : Ev (fun k => laws_FnExactFirstLeaders.f k l0 l1) true := by
  unfold laws_FnExactFirstLeaders.f
  by_cases hi1 : (l1.length : Int) > 1048576
  · exact Ev.pos hi1 (Ev.now _)
  refine Ev.neg hi1 ?_
  have hl1 : l1.length ≤ 1048576 := by omega
  by_cases hs0 : l0.length ≤ 1048576
  rotate_left
  · exact Ev.bind (Ev.const (szGuideS_big l0 (by omega) hm0)) (Ev.pos (by decide) (Ev.now _))
  refine Ev.bind (Ev.const (szGuideS_small l0 hs0)) (Ev.neg (by omega) ?_)
  have e0 := toGuideS_ev l0 hs0
  have q0 := eqGuideS_ev (l0.map cGuide) (by simpa using hs0)
  obtain ⟨lm0, mk0⟩ := markGuideS_ev (l0.map cGuide) (1) (by simpa using hs0) (by omega) (by (try simp only [List.length_map] at *); omega)
  have e1 := toInt64S_ev l1 hl1
  have q1 := eqInt64S_ev l1 hl1
  have mk1 := markInt64S_ev l1 (1 + 3 * ((l0.map cGuide).length : Int)) hl1 (by omega) (by (try simp only [List.length_map] at *); omega)
  obtain ⟨r, hrl, hs, hi⟩ := FirstLeaders_both (l0.map cGuide) l1 (by simpa using hs0) hl1
  have qr := eqInt64S_ev r.1 hrl
  have mr := markInt64S_ev r.1 1 hrl (by omega) (by omega)
  have hr := heldInt64S_ev 1 r.1.length hrl (by omega) (by omega)
  refine Ev.bind e0 ?_
  refine Ev.bind e1 ?_
  refine Ev.bind hs ?_
  refine Ev.bind e0 ?_
  refine Ev.bind e1 ?_
  refine Ev.bind hi ?_
  first | refine Ev.bind q1 ?_ | refine Ev.bind qr ?_
  refine Ev.pos (by first | exact rfl | exact trivial) ?_
  refine Ev.succ ?_
  simp only [laws_FnExactFirstLeaders.j0]
  refine Ev.neg (by simp) ?_
  refine Ev.bind e0 ?_
  refine Ev.bind q0 ?_
  refine Ev.pos (by first | exact rfl | exact trivial) ?_
  refine Ev.bind e1 ?_
  first | refine Ev.bind q1 ?_ | refine Ev.bind qr ?_
  refine Ev.pos (by first | exact rfl | exact trivial) ?_
  refine Ev.bind mk0 ?_
  first | refine Ev.bind mk1 ?_ | refine Ev.bind mr ?_
  refine Ev.neg (by (try dsimp only); omega) ?_
  first | refine Ev.bind q1 ?_ | refine Ev.bind qr ?_
  refine Ev.pos (by first | exact rfl | exact trivial) ?_
  refine Ev.succ ?_
  simp only [laws_FnExactFirstLeaders.j1]
  refine Ev.neg (by simp) ?_
  first | refine Ev.bind mk1 ?_ | refine Ev.bind mr ?_
  refine Ev.bind hr ?_
  refine Ev.neg (by (try dsimp only); omega) ?_
  refine Ev.pos (by first | exact rfl | exact trivial) ?_
  refine Ev.bind e0 ?_
  refine Ev.bind e1 ?_
  refine Ev.bind hi ?_
  first | refine Ev.bind q1 ?_ | refine Ev.bind qr ?_
  refine Ev.pos (by first | exact rfl | exact trivial) ?_
  refine Ev.succ ?_
  simp only [laws_FnExactFirstLeaders.j2]
  refine Ev.neg (by simp) ?_
  refine Ev.bind hr ?_
  refine Ev.neg (by (try dsimp only); omega) ?_
  refine Ev.pos (by first | exact rfl | exact trivial) ?_
  exact Ev.now _
end Go.Proofs.Ythfinhdmdfekcaa.Q
