/- The plans of leaders. -/
import Derived.Test.YthfinhdmdfekcaaPAx20
import Derived.Test.YthfinhdmdfekcaaQf
import Derived.Test.YthfinhdmdfekcaaQm
namespace Go.Proofs.Ythfinhdmdfekcaa.Q
open Go.RowKit Go.Proofs.YthfinhdmdfekcaaW.PrintWords Go.Proofs.YthfinhdmdfekcaaW.PrintLast Go.Proofs.Ythfinhdmdfekcaa.PA
set_option linter.unusedVariables false
set_option linter.unusedSimpArgs false

/-- All plans that go on from a start, by the legs that are left. -/
def plansL (l0 : List S75) (l1 : List Int) : Nat → List Int → List (List Int)
  | 0, l => [l]
  | m + 1, l => (List.range l0.length).flatMap fun (i : Nat) => if mayV l0 l1 l (i : Int) = true then plansL l0 l1 m (l ++ [(i : Int)]) else []
theorem plansL_len (l0 : List S75) (l1 : List Int) : ∀ (m : Nat) (l : List Int), (plansL l0 l1 m l).length ≤ l0.length ^ m
  | 0, l => by simp [plansL]
  | m + 1, l => by
    simp only [plansL]
    refine Nat.le_trans (flat_len _ (l0.length ^ m) _ (fun i _ => ?_)) (by rw [List.length_range, Nat.pow_succ, Nat.mul_comm]; exact Nat.le_refl _)
    split
    · exact plansL_len l0 l1 m _
    · simp
theorem plansL_in (l0 : List S75) (l1 : List Int) : ∀ (m : Nat) (l : List Int), (∀ x ∈ l, 0 ≤ x ∧ x < l0.length) → ∀ p ∈ plansL l0 l1 m l, p.length = l.length + m ∧ ∀ x ∈ p, 0 ≤ x ∧ x < l0.length
  | 0, l, h, p, hp => by
    simp only [plansL, List.mem_singleton] at hp
    subst hp
    exact ⟨rfl, h⟩
  | m + 1, l, h, p, hp => by
    simp only [plansL, List.mem_flatMap, List.mem_range] at hp
    obtain ⟨i, hi, hp⟩ := hp
    split at hp
    · have := plansL_in l0 l1 m (l ++ [(i : Int)]) (fun x hx => by
        simp only [List.mem_append, List.mem_singleton] at hx
        rcases hx with hx | rfl
        · exact h x hx
        · omega) p hp
      simp only [List.length_append, List.length_singleton] at this
      exact ⟨by omega, this.2⟩
    · simp at hp
theorem Plans_ev (l0 : List S75) (l1 : List Int) (h0 : l0.length ≤ 5) (h1 : l1.length ≤ 8) : ∀ (m : Nat) (l : List Int), l.length + m = l1.length → Ev (fun k => spec_l07Plans.f k l0 l1 l) (plansL l0 l1 m l) := by
  intro m
  induction m with
  | zero =>
    intro l hl
    refine Ev.succ ?_
    simp only [spec_l07Plans.f]
    exact Ev.pos (by omega) (Ev.bind (Ev.const (Own_f l (by omega))) (Ev.now _))
  | succ m ih =>
    intro l hl
    have hpow : ∀ q : Nat, q ≤ 8 → l0.length ^ q ≤ 390625 := fun q hq => Nat.le_trans (Nat.pow_le_pow_left h0 q) (Nat.le_trans (Nat.pow_le_pow_right (by omega) hq) (by decide))
    refine Ev.succ ?_
    simp only [spec_l07Plans.f]
    refine Ev.neg (by omega) ?_
    have key : ∀ (n i : Nat) (acc : List (List Int)), i + n = l0.length → acc.length ≤ 390625 * i → Ev (fun k => spec_l07Plans.l0 k l0 l1 l acc (i : Int)) (acc ++ ((List.range l0.length).drop i).flatMap fun (i : Nat) => if mayV l0 l1 l (i : Int) = true then plansL l0 l1 m (l ++ [(i : Int)]) else []) := by
      intro n
      induction n with
      | zero =>
        intro i acc hi ha
        obtain rfl : i = l0.length := by omega
        refine Ev.succ ?_
        simp only [spec_l07Plans.l0]
        refine Ev.neg (by omega) (Ev.eq (Ev.now acc) ?_)
        rw [List.drop_of_length_le (by simp)]
        simp
      | succ n ihn =>
        intro i acc hi ha
        have hd : (List.range l0.length).drop i = i :: (List.range l0.length).drop (i + 1) := by
          rw [List.drop_eq_getElem_cons (by simpa using (by omega : i < l0.length))]
          simp
        refine Ev.succ ?_
        simp only [spec_l07Plans.l0]
        refine Ev.pos (by omega) (Ev.bind (May_ev l0 l1 l (i : Int) (by omega) (by omega) (by omega) (by omega)) ?_)
        rw [hd]
        simp only [List.flatMap_cons]
        have hw : wrap64 ((i : Int) + 1) = ((i + 1 : Nat) : Int) := wnat i l0.length (by omega) (by omega)
        cases hm : mayV l0 l1 l (i : Int) with
        | true =>
          have hb := Nat.le_trans (plansL_len l0 l1 m (l ++ [(i : Int)])) (hpow m (by omega))
          refine Ev.pos rfl (Ev.bind (Ev.const (Own_f l (by omega))) (Ev.pos (by omega) (Ev.bind (ih (l ++ [(i : Int)]) (by simp; omega)) (Ev.pos (by omega) ?_))))
          rw [hw]
          refine Ev.eq (ihn (i + 1) (acc ++ plansL l0 l1 m (l ++ [(i : Int)])) (by omega) (by rw [List.length_append]; omega)) ?_
          simp [List.append_assoc]
        | false =>
          refine Ev.neg (by simp) ?_
          rw [hw]
          exact Ev.eq (ihn (i + 1) acc (by omega) (by omega)) (by simp)
    simpa [plansL] using key l0.length 0 [] (by omega) (by simp)
theorem plansM_ev {σ : Type} (l0 : List S75) (l1 : List Int) (h1 : l1.length ≤ 1048576) (step : Nat → σ → List Int → Option σ) (g : σ → List Int → σ) (hs : ∀ s p, p.length = l1.length → (∀ x : Int, x ∈ p → 0 ≤ x ∧ x < (l0.length : Int)) → Ev (fun k => step k s p) (g s p)) :
    ∀ (m : Nat) (l : List Int) (s : σ), l.length + m = l1.length → (∀ x : Int, x ∈ l → 0 ≤ x ∧ x < (l0.length : Int)) → Ev (fun k => plansM k l0 l1 (step k) (m + 1) l s) ((plansL l0 l1 m l).foldl g s) := by
  intro m
  induction m with
  | zero =>
    intro l s hl hin
    simp only [plansM]
    exact Ev.pos (by omega) (by simpa [plansL] using hs s l (by omega) hin)
  | succ m ih =>
    intro l s hl hin
    rw [plansL, foldl_flat]
    unfold plansM
    refine Ev.neg (by omega) (Ev.foldlM _ _ _ (fun i hi s' => ?_) s)
    have hi' : i < l0.length := by simpa using hi
    refine Ev.bind (goesOn_ev l0 l1 l (i : Int) (by omega) h1 (by omega) (by omega)) ?_
    cases mayV l0 l1 l (i : Int) with
    | true =>
      simp only [if_true]
      exact ih (l ++ [(i : Int)]) s' (by simp; omega) (fun x hx => by
        simp only [List.mem_append, List.mem_singleton] at hx
        rcases hx with hx | rfl
        · exact hin x hx
        · omega)
    | false => simpa using Ev.now s'

end Go.Proofs.Ythfinhdmdfekcaa.Q
