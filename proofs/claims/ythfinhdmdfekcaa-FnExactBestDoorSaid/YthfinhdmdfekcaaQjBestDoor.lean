/- Plain laws, joined: Qta, Qwa, Qos, QuBestDoor, QvBestDoor. -/
import Derived.Test.YthfinhdmdfekcaaPAx2
import Derived.Test.YthfinhdmdfekcaaPAx22
import Derived.Test.YthfinhdmdfekcaaPAx24
import Derived.Test.YthfinhdmdfekcaaPAx35
import Derived.Test.YthfinhdmdfekcaaPAx36
import Derived.Test.YthfinhdmdfekcaaPAx37
import Derived.Test.YthfinhdmdfekcaaPAx9
import Derived.Test.YthfinhdmdfekcaaQt
import Derived.Test.YthfinhdmdfekcaaQf
import Derived.Test.YthfinhdmdfekcaaQo
import Derived.Test.YthfinhdmdfekcaaQpv
import Derived.Test.YthfinhdmdfekcaaQi
import Derived.Test.YthfinhdmdfekcaaQj
import Derived.Test.YthfinhdmdfekcaaQp
import Derived.Test.YthfinhdmdfekcaaQpm
namespace Go.Proofs.Ythfinhdmdfekcaa.Q
open Go.RowKit Go.Proofs.YthfinhdmdfekcaaW.PrintWords Go.Proofs.YthfinhdmdfekcaaW.PrintLast Go.Proofs.Ythfinhdmdfekcaa.PA
set_option linter.unusedVariables false
set_option linter.unusedSimpArgs false

theorem rd_set_ne (x : List Int) (j q v : Int) (h0 : 0 ≤ j) (h1 : 0 ≤ q) (hn : q ≠ j) : rd (x.set j.toNat v) q = rd x q := by
  have : j.toNat ≠ q.toNat := by omega
  simp [rd, List.getD_eq_getElem?_getD, List.getElem?_set, this]
theorem times_all (l0 : List S67) (l1 : List Int) (hl : l0.length ≤ 1048576) (hl1 : l1.length ≤ 6) (hin : ∀ x ∈ l1, 0 ≤ x ∧ x < l0.length)
    (H : ∀ j : Int, 0 ≤ j → j < l0.length → 0 ≤ wrap64 (rd_T67 l0 j).f0 ∧ wrap64 (rd_T67 l0 j).f0 ≤ 1000 ∧ 0 ≤ wrap64 (rd_T67 l0 j).f1 ∧ wrap64 (rd_T67 l0 j).f1 ≤ 100) :
    ∃ ts : List Int, ts.length = l0.length ∧ Ev (fun k => spec_l07Times.f k l0 l1) ts ∧ Ev (fun k => impl_doorTimes.f k l0 l1) ts ∧ ∀ j : Int, j ∈ l1 → wrap64 (rd_T67 l0 j).f0 ≤ rd ts j ∧ rd ts j ≤ 2000 := by
  unfold spec_l07Times.f impl_doorTimes.f
  have key : ∀ (m i : Nat) (x : List Int) (f : Int), i + m = l1.length → x.length = l0.length → 0 ≤ f → f ≤ 1000 + 100 * (i : Int) → (∀ j : Int, j ∈ l1.take i → wrap64 (rd_T67 l0 j).f0 ≤ rd x j ∧ rd x j ≤ 2000) → ∃ ts : List Int, ts.length = l0.length ∧ Ev (fun k => spec_l07Times.l0 k l0 l1 x f (i : Int)) ts ∧ Ev (fun k => impl_doorTimes.l0 k l0 x f l1 (l1.length : Int) (i : Int)) ts ∧ ∀ j : Int, j ∈ l1 → wrap64 (rd_T67 l0 j).f0 ≤ rd ts j ∧ rd ts j ≤ 2000 := by
    intro m
    induction m with
    | zero =>
      intro i x f hi hx f0 f1 hb
      obtain rfl : i = l1.length := by omega
      refine ⟨x, hx, Ev.round (Ev.now _) fun k => ?_, Ev.round (Ev.now _) fun k => ?_, by simpa using hb⟩
      · simp only [spec_l07Times.l0]; rw [if_neg (by omega)]
      · simp only [impl_doorTimes.l0]; rw [if_neg (by omega)]
    | succ m ih =>
      intro i x f hi hx f0 f1 hb
      obtain ⟨j0, j1⟩ := hin _ (getD_mem l1 i 0 (by omega))
      obtain ⟨a0, a1, b0, b1⟩ := H _ j0 j1
      have v0 : wrap64 (rd_T67 l0 (l1.getD i 0)).f0 ≤ mx f (wrap64 (rd_T67 l0 (l1.getD i 0)).f0) := by unfold mx; split <;> omega
      have v1 : mx f (wrap64 (rd_T67 l0 (l1.getD i 0)).f0) ≤ 1000 + 100 * (i : Int) := by unfold mx; split <;> omega
      have v2 : 0 ≤ mx f (wrap64 (rd_T67 l0 (l1.getD i 0)).f0) := by omega
      have ew : wrap64 (mx f (wrap64 (rd_T67 l0 (l1.getD i 0)).f0) + wrap64 (rd_T67 l0 (l1.getD i 0)).f1) = mx f (wrap64 (rd_T67 l0 (l1.getD i 0)).f0) + wrap64 (rd_T67 l0 (l1.getD i 0)).f1 := wint _ (by omega) (by omega)
      obtain ⟨ts, h0, h1, h2, h3⟩ := ih (i + 1) (x.set (l1.getD i 0).toNat (mx f (wrap64 (rd_T67 l0 (l1.getD i 0)).f0))) (wrap64 (mx f (wrap64 (rd_T67 l0 (l1.getD i 0)).f0) + wrap64 (rd_T67 l0 (l1.getD i 0)).f1)) (by omega) (by simpa using hx) (by rw [ew]; omega) (by rw [ew]; omega) (fun j hj => by
        rw [take_get l1 i 0 (by omega)] at hj
        by_cases he : j = l1.getD i 0
        · subst he
          rw [rd_set _ _ _ j0 (by omega)]
          omega
        · have hj' : j ∈ l1.take i := by
            simp only [List.mem_append, List.mem_singleton] at hj
            rcases hj with hj | hj
            · exact hj
            · exact absurd hj he
          have hq := hin j (List.mem_of_mem_take hj')
          rw [rd_set_ne _ _ _ _ j0 hq.1 he]
          exact hb j hj')
      refine ⟨ts, h0, Ev.round h1 fun k => ?_, Ev.round h2 fun k => ?_, h3⟩
      · simp only [spec_l07Times.l0, rd_nat, Max_mx, Option.bind_some]
        rw [if_pos (by omega), if_pos (by omega), if_pos j0, if_pos j1, if_pos (by omega), wnat i l1.length (by omega) (by omega)]
      · simp only [impl_doorTimes.l0, rd_nat, Option.bind_some]
        rw [if_pos (by omega), if_pos (by omega), if_pos (by omega), if_pos j0, if_pos j1, if_pos (by omega), rd_set _ _ _ j0 (by omega), wnat i l1.length (by omega) (by omega)]
  obtain ⟨ts, h0, h1, h2, h3⟩ := key l1.length 0 (List.replicate ((l0.length : Int)).toNat 0) 0 (by omega) (by simp) (by omega) (by omega) (by simp)
  exact ⟨ts, h0, Ev.pos (by omega) (Ev.pos (by omega) h1), Ev.pos (by omega) (Ev.pos (by omega) h2), h3⟩

end Go.Proofs.Ythfinhdmdfekcaa.Q

namespace Go.Proofs.Ythfinhdmdfekcaa.Q
open Go.RowKit Go.Proofs.YthfinhdmdfekcaaW.PrintWords Go.Proofs.YthfinhdmdfekcaaW.PrintLast Go.Proofs.Ythfinhdmdfekcaa.PA
set_option linter.unusedVariables false
set_option linter.unusedSimpArgs false

theorem waiting_all (l0 : List S67) (l1 : List Int) (hl : l0.length ≤ 6) (hl1 : l1.length ≤ 6) (hin : ∀ x ∈ l1, 0 ≤ x ∧ x < l0.length)
    (H : ∀ j : Int, 0 ≤ j → j < l0.length → 0 ≤ wrap64 (rd_T67 l0 j).f0 ∧ wrap64 (rd_T67 l0 j).f0 ≤ 1000 ∧ 0 ≤ wrap64 (rd_T67 l0 j).f1 ∧ wrap64 (rd_T67 l0 j).f1 ≤ 100) (hall : ∀ j : Nat, j < l0.length → (j : Int) ∈ l1) :
    ∃ r, Ev (fun k => spec_l07Waiting.f k l0 l1) r ∧ Ev (fun k => impl_waiting.f k l0 l1) r ∧ 0 ≤ r := by
  obtain ⟨ts, ht, hs, hi, hb⟩ := times_all l0 l1 (by omega) hl1 hin H
  unfold spec_l07Waiting.f impl_waiting.f
  have key : ∀ (m i : Nat) (s : Int), i + m = l0.length → 0 ≤ s → s ≤ 200000 * (i : Int) → ∃ r, Ev (fun k => spec_l07Waiting.l0 k l0 ts s (i : Int)) r ∧ Ev (fun k => impl_waiting.l0 k l0 s ts (ts.length : Int) (i : Int)) r ∧ 0 ≤ r := by
    intro m
    induction m with
    | zero =>
      intro i s hi s0 s1
      obtain rfl : i = l0.length := by omega
      refine ⟨s, Ev.round (Ev.now _) fun k => ?_, Ev.round (Ev.now _) fun k => ?_, s0⟩
      · simp only [spec_l07Waiting.l0]; rw [if_neg (by omega)]
      · simp only [impl_waiting.l0]; rw [if_neg (by omega)]
    | succ m ih =>
      intro i s hi s0 s1
      obtain ⟨a0, a1, b0, b1⟩ := H (i : Int) (by omega) (by omega)
      obtain ⟨c0, c1⟩ := hb _ (hall i (by omega))
      have e1 : wrap64 (rd ts (i : Int) - wrap64 (rd_T67 l0 (i : Int)).f0) = rd ts (i : Int) - wrap64 (rd_T67 l0 (i : Int)).f0 := wint _ (by omega) (by omega)
      have p0 : 0 ≤ wrap64 (rd_T67 l0 (i : Int)).f1 * (rd ts (i : Int) - wrap64 (rd_T67 l0 (i : Int)).f0) := Int.mul_nonneg b0 (by omega)
      have p1 : wrap64 (rd_T67 l0 (i : Int)).f1 * (rd ts (i : Int) - wrap64 (rd_T67 l0 (i : Int)).f0) ≤ 100 * 2000 := Int.mul_le_mul b1 (by omega) (by omega) (by omega)
      have e2 : wrap64 (wrap64 (rd_T67 l0 (i : Int)).f1 * wrap64 (rd ts (i : Int) - wrap64 (rd_T67 l0 (i : Int)).f0)) = wrap64 (rd_T67 l0 (i : Int)).f1 * (rd ts (i : Int) - wrap64 (rd_T67 l0 (i : Int)).f0) := by rw [e1]; exact wint _ (by omega) (by omega)
      have e3 : wrap64 (s + wrap64 (wrap64 (rd_T67 l0 (i : Int)).f1 * wrap64 (rd ts (i : Int) - wrap64 (rd_T67 l0 (i : Int)).f0))) = s + wrap64 (rd_T67 l0 (i : Int)).f1 * (rd ts (i : Int) - wrap64 (rd_T67 l0 (i : Int)).f0) := by rw [e2]; exact wint _ (by omega) (by omega)
      obtain ⟨r, h1, h2, h3⟩ := ih (i + 1) (wrap64 (s + (wrap64 ((wrap64 ((rd_T67 l0 (i : Int)).f1)) * (wrap64 ((rd ts (i : Int)) - (wrap64 ((rd_T67 l0 (i : Int)).f0)))))))) (by omega) (by rw [e3]; omega) (by rw [e3]; omega)
      refine ⟨r, Ev.round h1 fun k => ?_, Ev.round h2 fun k => ?_, h3⟩
      · simp only [spec_l07Waiting.l0]
        rw [if_pos (by omega), if_pos (by omega), if_pos (by omega), wnat i l0.length (by omega) (by omega)]
      · simp only [impl_waiting.l0]
        rw [if_pos (by omega), if_pos (by omega), if_pos (by omega), if_pos (by omega), wnat i l0.length (by omega) (by omega)]
  obtain ⟨r, h1, h2, h3⟩ := key l0.length 0 0 (by omega) (by omega) (by omega)
  exact ⟨r, Ev.bind hs h1, Ev.bind hi h2, h3⟩
theorem parties_in {l0 : List S67} (h : ∀ x ∈ l0, impl_ValidParties.ok x = true) (j : Int) (h0 : 0 ≤ j) (h1 : j < l0.length) : 0 ≤ wrap64 (rd_T67 l0 j).f0 ∧ wrap64 (rd_T67 l0 j).f0 ≤ 1000 ∧ 0 ≤ wrap64 (rd_T67 l0 j).f1 ∧ wrap64 (rd_T67 l0 j).f1 ≤ 100 := by
  have hx := h _ (getD_mem l0 j.toNat z67 (by omega))
  simp only [impl_ValidParties.ok, inB, Bool.and_eq_true, decide_eq_true_eq] at hx
  unfold rd_T67
  omega

end Go.Proofs.Ythfinhdmdfekcaa.Q

namespace Go.Proofs.Ythfinhdmdfekcaa.Q
open Go.RowKit Go.Proofs.YthfinhdmdfekcaaW.PrintWords Go.Proofs.YthfinhdmdfekcaaW.PrintLast Go.Proofs.Ythfinhdmdfekcaa.PA
set_option linter.unusedVariables false
set_option linter.unusedSimpArgs false

/-- All orders that go on from a start, by the parties that are left. -/
def ordersL (n : Nat) : Nat → List Int → List (List Int)
  | 0, l => [l]
  | m + 1, l => (List.range n).flatMap fun (i : Nat) => if (i : Int) ∈ l then [] else ordersL n m (l ++ [(i : Int)])
theorem ordersL_len (n : Nat) : ∀ (m : Nat) (l : List Int), (ordersL n m l).length ≤ n ^ m
  | 0, l => by simp [ordersL]
  | m + 1, l => by
    simp only [ordersL]
    refine Nat.le_trans (flat_len _ (n ^ m) _ (fun i _ => ?_)) (by rw [List.length_range, Nat.pow_succ, Nat.mul_comm]; exact Nat.le_refl _)
    split
    · simp
    · exact ordersL_len n m _
theorem ordersL_in (n : Nat) : ∀ (m : Nat) (l : List Int), l.Nodup → (∀ x : Int, x ∈ l → 0 ≤ x ∧ x < (n : Int)) → ∀ p ∈ ordersL n m l, p.length = l.length + m ∧ p.Nodup ∧ ∀ x : Int, x ∈ p → 0 ≤ x ∧ x < (n : Int)
  | 0, l, hd, h, p, hp => by
    simp only [ordersL, List.mem_singleton] at hp
    subst hp
    exact ⟨rfl, hd, h⟩
  | m + 1, l, hd, h, p, hp => by
    simp only [ordersL, List.mem_flatMap, List.mem_range] at hp
    obtain ⟨i, hi, hp⟩ := hp
    split at hp
    · simp at hp
    · rename_i hni
      have := ordersL_in n m (l ++ [(i : Int)]) (by
        rw [List.nodup_append]
        refine ⟨hd, by simp, fun a ha b hb => ?_⟩
        simp only [List.mem_singleton] at hb
        subst hb
        intro e
        exact hni (e ▸ ha)) (fun x hx => by
        simp only [List.mem_append, List.mem_singleton] at hx
        rcases hx with hx | rfl
        · exact h x hx
        · omega) p hp
      simp only [List.length_append, List.length_singleton] at this
      exact ⟨by omega, this.2⟩
theorem order_all {n : Nat} {p : List Int} (hl : p.length = n) (hd : p.Nodup) (hin : ∀ x : Int, x ∈ p → 0 ≤ x ∧ x < (n : Int)) : ∀ j : Nat, j < n → (j : Int) ∈ p := by
  intro j hj
  refine Classical.byContradiction fun hno => ?_
  have := sub_len ((j : Int) :: p) (upI n) (List.nodup_cons.2 ⟨hno, hd⟩) (fun x hx => by
    rw [mem_upI]
    rcases List.mem_cons.1 hx with rfl | hx
    · omega
    · exact hin x hx)
  rw [upI_len] at this
  simp only [List.length_cons] at this
  omega
theorem Orders_ev (n : Nat) (h0 : n ≤ 6) : ∀ (m : Nat) (l : List Int), l.length + m = n → Ev (fun k => spec_l07Orders.f k (n : Int) l) (ordersL n m l) := by
  intro m
  induction m with
  | zero =>
    intro l hl
    refine Ev.succ ?_
    simp only [spec_l07Orders.f]
    exact Ev.pos (by omega) (Ev.bind (Ev.const (Own_f l (by omega))) (Ev.now _))
  | succ m ih =>
    intro l hl
    have hpow : ∀ q : Nat, q ≤ 6 → n ^ q ≤ 46656 := fun q hq => Nat.le_trans (Nat.pow_le_pow_left h0 q) (Nat.le_trans (Nat.pow_le_pow_right (by omega) hq) (by decide))
    refine Ev.succ ?_
    simp only [spec_l07Orders.f]
    refine Ev.neg (by omega) ?_
    have key : ∀ (q i : Nat) (acc : List (List Int)), i + q = n → acc.length ≤ 46656 * i → Ev (fun k => spec_l07Orders.l0 k (n : Int) l acc (i : Int)) (acc ++ ((List.range n).drop i).flatMap fun (i : Nat) => if (i : Int) ∈ l then [] else ordersL n m (l ++ [(i : Int)])) := by
      intro q
      induction q with
      | zero =>
        intro i acc hi ha
        obtain rfl : i = n := by omega
        refine Ev.succ ?_
        simp only [spec_l07Orders.l0]
        refine Ev.neg (by omega) (Ev.eq (Ev.now acc) ?_)
        rw [List.drop_of_length_le (by simp)]
        simp
      | succ q ihn =>
        intro i acc hi ha
        have hd : (List.range n).drop i = i :: (List.range n).drop (i + 1) := by
          rw [List.drop_eq_getElem_cons (by simpa using (by omega : i < n))]
          simp
        refine Ev.succ ?_
        simp only [spec_l07Orders.l0]
        refine Ev.pos (by omega) (Ev.bind (Has_ev l (i : Int) (by omega)) ?_)
        rw [hd]
        simp only [List.flatMap_cons]
        have hw : wrap64 ((i : Int) + 1) = ((i + 1 : Nat) : Int) := wnat i n (by omega) (by omega)
        by_cases hm : (i : Int) ∈ l
        · refine Ev.pos (by simpa using hm) ?_
          rw [hw, if_pos hm]
          exact Ev.eq (ihn (i + 1) acc (by omega) (by omega)) (by simp)
        · have hb := Nat.le_trans (ordersL_len n m (l ++ [(i : Int)])) (hpow m (by omega))
          refine Ev.neg (by simpa using hm) (Ev.bind (Ev.const (Own_f l (by omega))) (Ev.pos (by omega) (Ev.bind (ih (l ++ [(i : Int)]) (by simp; omega)) (Ev.pos (by omega) ?_))))
          rw [hw, if_neg hm]
          refine Ev.eq (ihn (i + 1) (acc ++ ordersL n m (l ++ [(i : Int)])) (by omega) (by rw [List.length_append]; omega)) ?_
          simp [List.append_assoc]
    simpa [ordersL] using key n 0 [] (by omega) (by simp)
theorem ordersM_ev {σ : Type} (n : Nat) (step : Nat → σ → List Int → Option σ) (g : σ → List Int → σ) (hs : ∀ s p, p.length = n → p.Nodup → (∀ x : Int, x ∈ p → 0 ≤ x ∧ x < (n : Int)) → Ev (fun k => step k s p) (g s p)) :
    ∀ (m : Nat) (l : List Int) (s : σ), l.length + m = n → l.Nodup → (∀ x : Int, x ∈ l → 0 ≤ x ∧ x < (n : Int)) → Ev (fun k => ordersM n (step k) (m + 1) l s) ((ordersL n m l).foldl g s) := by
  intro m
  induction m with
  | zero =>
    intro l s hl hd hin
    simp only [ordersM]
    exact Ev.pos (by omega) (by simpa [ordersL] using hs s l (by omega) hd hin)
  | succ m ih =>
    intro l s hl hd hin
    rw [ordersL, foldl_flat]
    unfold ordersM
    refine Ev.neg (by omega) (Ev.foldlM _ _ _ (fun i hi s' => ?_) s)
    have hi' : i < n := by simpa using hi
    by_cases hm : (i : Int) ∈ l
    · simp only [if_pos hm]
      simpa using Ev.now s'
    · simp only [if_neg hm]
      exact ih (l ++ [(i : Int)]) s' (by simp; omega) (by
        rw [List.nodup_append]
        refine ⟨hd, by simp, fun a ha b hb => ?_⟩
        simp only [List.mem_singleton] at hb
        subst hb
        intro e
        exact hm (e ▸ ha)) (fun x hx => by
        simp only [List.mem_append, List.mem_singleton] at hx
        rcases hx with hx | rfl
        · exact hin x hx
        · omega)

end Go.Proofs.Ythfinhdmdfekcaa.Q

namespace Go.Proofs.Ythfinhdmdfekcaa.Q
open Go.RowKit Go.Proofs.YthfinhdmdfekcaaW.PrintWords Go.Proofs.YthfinhdmdfekcaaW.PrintLast Go.Proofs.Ythfinhdmdfekcaa.PA
set_option linter.unusedVariables false
set_option linter.unusedSimpArgs false

/-- The best so far: the first of the least; a number below 0 says that there is none. -/
def lstepB (num : List Int → Int) (s : List Int × Int) (p : List Int) : List Int × Int := if s.2 < 0 then (p, num p) else if num p < s.2 then (p, num p) else s
theorem rd_L_natB (xs : List (List Int)) (i : Nat) : rd_L1 xs (i : Int) = xs.getD i [] := by simp [rd_L1]
theorem best_loop (l0 : List S67) (g : List Int → Int) (ps : List (List Int)) (hn : ps.length ≤ 1048576) (hm : ∀ p ∈ ps, Ev (fun k => spec_l07Waiting.f k l0 p) (g p) ∧ 0 ≤ g p) :
    ∀ (m i : Nat) (s : List Int × Int), i + m = ps.length → 0 ≤ s.2 → Ev (fun k => spec_BestDoor.l0 k l0 ps s.1 s.2 (i : Int)) (((ps.drop i).foldl (lstepB g) s).1, ((ps.drop i).foldl (lstepB g) s).2, 0) := by
  intro m
  induction m with
  | zero =>
    intro i s hi hs
    obtain rfl : i = ps.length := by omega
    rw [List.drop_length]
    refine Ev.succ ?_
    simp only [spec_BestDoor.l0]
    exact Ev.neg (by omega) (Ev.now _)
  | succ m ih =>
    intro i s hi hs
    have hx := hm _ (getD_mem ps i [] (by omega))
    rw [drop_get ps i [] (by omega), List.foldl_cons]
    refine Ev.succ ?_
    simp only [spec_BestDoor.l0, rd_L_natB]
    refine Ev.pos (by omega) (Ev.pos (by omega) (Ev.bind hx.1 ?_))
    rw [wnat i ps.length (by omega) (by omega)]
    by_cases hc : g (ps.getD i []) < s.2
    · have e : lstepB g s (ps.getD i []) = (ps.getD i [], g (ps.getD i [])) := by rw [lstepB, if_neg (by omega), if_pos hc]
      rw [e]
      exact Ev.pos hc (ih (i + 1) (ps.getD i [], g (ps.getD i [])) (by omega) hx.2)
    · have e : lstepB g s (ps.getD i []) = s := by rw [lstepB, if_neg (by omega), if_neg hc]
      rw [e]
      exact Ev.neg hc (ih (i + 1) s (by omega) hs)
theorem bestStep_ev (l0 : List S67) (g : List Int → Int) (s : List Int × Int) (p : List Int) (h : Ev (fun k => impl_waiting.f k l0 p) (g p)) : Ev (fun k => bestStep k l0 s p) (lstepB g s p) := by
  unfold bestStep lstepB
  refine Ev.bind h ?_
  by_cases h1 : s.2 < 0
  · rw [if_pos h1, if_pos h1]; exact Ev.now _
  · rw [if_neg h1, if_neg h1]
    by_cases h2 : g p < s.2
    · rw [if_pos h2, if_pos h2]; exact Ev.now _
    · rw [if_neg h2, if_neg h2]; exact Ev.now _
theorem order_some (n : Nat) : ∀ (m : Nat) (l : List Int), l.length + m = n → l.Nodup → (∀ x : Int, x ∈ l → 0 ≤ x ∧ x < (n : Int)) → ordersL n m l ≠ []
  | 0, l, _, _, _ => by simp [ordersL]
  | m + 1, l, hl, hd, hin => by
    intro he
    have hmiss : ∃ j : Nat, j < n ∧ (j : Int) ∉ l := by
      refine Classical.byContradiction fun hno => ?_
      have := sub_len (upI n) l (upI_nodup n) (fun x hx => by
        have hx' := (mem_upI n x).1 hx
        refine Classical.byContradiction fun hx2 => hno ⟨x.toNat, by omega, ?_⟩
        rw [show ((x.toNat : Nat) : Int) = x by omega]
        exact hx2)
      rw [upI_len] at this
      omega
    obtain ⟨j, hj, hjl⟩ := hmiss
    have := order_some n m (l ++ [(j : Int)]) (by simp; omega) (by
      rw [List.nodup_append]
      refine ⟨hd, by simp, fun a ha b hb => ?_⟩
      simp only [List.mem_singleton] at hb
      subst hb
      intro e
      exact hjl (e ▸ ha)) (fun x hx => by
      simp only [List.mem_append, List.mem_singleton] at hx
      rcases hx with hx | rfl
      · exact hin x hx
      · omega)
    apply this
    rw [ordersL, List.flatMap_eq_nil_iff] at he
    have := he j (by simpa using hj)
    rwa [if_neg hjl] at this
theorem BestDoor_both (l0 : List S67) (h0 : l0.length ≤ 1048576) : ∃ r : List Int × Int × Int, r.1.length ≤ 1048576 ∧ Ev (fun k => spec_BestDoor.f k l0) r ∧ Ev (fun k => impl_BestDoor.f k l0) r := by
  have hpar := l07Parties_ev l0 (by omega)
  unfold spec_BestDoor.f impl_BestDoor.f
  cases hb : okParties l0 with
  | false =>
    rw [hb] at hpar
    exact ⟨([], 0, 1), by simp, Ev.bind hpar (Ev.neg (by simp) (Ev.now _)), Ev.bind (Ev.const (ValidParties_f l0)) (Ev.neg (by simp [hb]) (Ev.now _))⟩
  | true =>
    rw [hb] at hpar
    have hl := okParties_len hb
    have hok : ∀ x ∈ l0, impl_ValidParties.ok x = true := by
      simp only [okParties, Bool.and_eq_true, List.all_eq_true] at hb
      exact hb.2
    have H := parties_in hok
    have hall : ∀ p : List Int, ∃ r : Int, p.length = l0.length → p.Nodup → (∀ x : Int, x ∈ p → 0 ≤ x ∧ x < (l0.length : Int)) → Ev (fun k => spec_l07Waiting.f k l0 p) r ∧ Ev (fun k => impl_waiting.f k l0 p) r ∧ 0 ≤ r := by
      intro p
      by_cases hp : p.length = l0.length ∧ p.Nodup ∧ ∀ x : Int, x ∈ p → 0 ≤ x ∧ x < (l0.length : Int)
      · obtain ⟨r, g1, g2, g3⟩ := waiting_all l0 p hl (by omega) hp.2.2 H (order_all hp.1 hp.2.1 hp.2.2)
        exact ⟨r, fun _ _ _ => ⟨g1, g2, g3⟩⟩
      · exact ⟨0, fun a b c => absurd ⟨a, b, c⟩ hp⟩
    have hp := Orders_ev l0.length hl l0.length [] (by simp)
    have hg := fun p => (hall p).choose_spec
    have hm := ordersM_ev l0.length (fun k => bestStep k l0) (lstepB fun p => (hall p).choose) (fun s p a b c => bestStep_ev l0 _ s p (hg p a b c).2.1) l0.length [] (([] : List Int), (-1 : Int)) (by simp) (by simp) (by simp)
    have hin := ordersL_in l0.length l0.length [] (by simp) (by simp)
    have hne := order_some l0.length l0.length [] (by simp) (by simp) (by simp)
    have hlen := Nat.le_trans (ordersL_len l0.length l0.length []) (Nat.le_trans (Nat.pow_le_pow_left hl l0.length) (Nat.le_trans (Nat.pow_le_pow_right (by omega) hl) (show 6 ^ 6 ≤ 46656 by decide)))
    generalize hgg : (fun p => (hall p).choose) = g at *
    have hg2 : ∀ p : List Int, p.length = l0.length → p.Nodup → (∀ x : Int, x ∈ p → 0 ≤ x ∧ x < (l0.length : Int)) → Ev (fun k => spec_l07Waiting.f k l0 p) (g p) ∧ 0 ≤ g p := fun p a b c => by
      subst hgg
      exact ⟨(hg p a b c).1, (hg p a b c).2.2⟩
    generalize hps : ordersL l0.length l0.length [] = ps at *
    cases ps with
    | nil => exact absurd rfl hne
    | cons p ps =>
      have hq : ∀ q ∈ p :: ps, Ev (fun k => spec_l07Waiting.f k l0 q) (g q) ∧ 0 ≤ g q := fun q hq => hg2 q (by have := (hin q hq).1; simpa using this) (hin q hq).2.1 (hin q hq).2.2
      have hloop := best_loop l0 g (p :: ps) (by omega) hq ps.length 1 (p, g p) (by simp; omega) (hq p (by simp)).2
      have hbest : ∀ (qs : List (List Int)) (s : List Int × Int), (∀ q ∈ qs, q.length ≤ 8) → s.1.length ≤ 8 → (qs.foldl (lstepB g) s).1.length ≤ 8 := by
        intro qs
        induction qs with
        | nil => intro s _ h; exact h
        | cons q qs ihq =>
          intro s hqs h
          rw [List.foldl_cons]
          refine ihq _ (fun z hz => hqs z (by simp [hz])) ?_
          have hq8 := hqs q (by simp)
          unfold lstepB
          split
          · exact hq8
          · split
            · exact hq8
            · exact h
      have hl8 : ∀ q ∈ p :: ps, q.length ≤ 8 := fun q hq => by have := (hin q hq).1; simp at this; omega
      have e1 : (p :: ps).foldl (lstepB g) (([] : List Int), (-1 : Int)) = ps.foldl (lstepB g) (p, g p) := by
        rw [List.foldl_cons]
        congr 1
      rw [e1] at hm
      refine ⟨((ps.foldl (lstepB g) (p, g p)).1, (ps.foldl (lstepB g) (p, g p)).2, 0), ?_, Ev.bind hpar (Ev.pos rfl (Ev.bind hp (Ev.pos (by simp <;> omega) ?_))), Ev.bind (Ev.const (ValidParties_f l0)) (Ev.pos hb (Ev.bind hm (Ev.now _)))⟩
      · have := hbest ps (p, g p) (fun q hq => hl8 q (by simp [hq])) (hl8 p (by simp))
        simp only
        omega
      · rw [show rd_L1 (p :: ps) 0 = p by simp [rd_L1]]
        exact Ev.bind (hq p (by simp)).1 hloop

end Go.Proofs.Ythfinhdmdfekcaa.Q

namespace Go.Proofs.Ythfinhdmdfekcaa.Q
open Go.RowKit Go.Proofs.YthfinhdmdfekcaaW.PrintWords Go.Proofs.YthfinhdmdfekcaaW.PrintLast Go.Proofs.Ythfinhdmdfekcaa.PA
set_option linter.unusedVariables false
set_option linter.unusedSimpArgs false
theorem FnExactBestDoor
    (l0 : List S69)
    (hm0 : l0.length ≤ maxLen) (hw0 : ∀ x ∈ l0, (Lit.int .i16 x.f0).wf = true ∧ (Lit.int .i16 x.f1).wf = true)
    : Ev (fun k => laws_FnExactBestDoor.f k l0) true := by
  unfold laws_FnExactBestDoor.f
  by_cases hs0 : l0.length ≤ 1048576
  rotate_left
  · exact Ev.bind (Ev.const (szPartyS_big l0 (by omega) hm0)) (Ev.pos (by decide) (Ev.now _))
  refine Ev.bind (Ev.const (szPartyS_small l0 hs0)) (Ev.neg (by omega) ?_)
  have e0 := toPartyS_ev l0 hs0
  have q0 := eqPartyS_ev (l0.map cParty) (by simpa using hs0)
  obtain ⟨lm0, mk0⟩ := markPartyS_ev (l0.map cParty) (1) (by simpa using hs0) (by omega) (by (try simp only [List.length_map] at *); omega)
  obtain ⟨r, hrl, hs, hi⟩ := BestDoor_both (l0.map cParty) (by simpa using hs0)
  have qr := eqInt64S_ev r.1 hrl
  have mr := markInt64S_ev r.1 1 hrl (by omega) (by omega)
  have hr := heldInt64S_ev 1 r.1.length hrl (by omega) (by omega)
  refine Ev.bind e0 ?_
  refine Ev.bind hs ?_
  refine Ev.bind e0 ?_
  refine Ev.bind hi ?_
  refine Ev.bind qr ?_
  refine Ev.pos (by first | exact rfl | exact trivial) ?_
  refine Ev.pos (by first | exact rfl | exact trivial) ?_
  refine Ev.succ ?_
  simp only [laws_FnExactBestDoor.j0]
  refine Ev.neg (by simp) ?_
  refine Ev.bind e0 ?_
  refine Ev.bind q0 ?_
  refine Ev.pos (by first | exact rfl | exact trivial) ?_
  refine Ev.bind mk0 ?_
  refine Ev.neg (by (try dsimp only); omega) ?_
  refine Ev.bind qr ?_
  refine Ev.pos (by first | exact rfl | exact trivial) ?_
  refine Ev.pos (by first | exact rfl | exact trivial) ?_
  refine Ev.succ ?_
  simp only [laws_FnExactBestDoor.j1]
  refine Ev.neg (by simp) ?_
  refine Ev.bind mr ?_
  refine Ev.bind hr ?_
  refine Ev.neg (by (try dsimp only); omega) ?_
  refine Ev.pos (by first | exact rfl | exact trivial) ?_
  refine Ev.bind e0 ?_
  refine Ev.bind hi ?_
  refine Ev.bind qr ?_
  refine Ev.pos (by first | exact rfl | exact trivial) ?_
  refine Ev.pos (by first | exact rfl | exact trivial) ?_
  refine Ev.succ ?_
  simp only [laws_FnExactBestDoor.j2]
  refine Ev.neg (by simp) ?_
  refine Ev.bind hr ?_
  refine Ev.neg (by (try dsimp only); omega) ?_
  refine Ev.pos (by first | exact rfl | exact trivial) ?_
  exact Ev.now _
end Go.Proofs.Ythfinhdmdfekcaa.Q
