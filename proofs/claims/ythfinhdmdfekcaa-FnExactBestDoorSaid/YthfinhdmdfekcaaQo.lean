/- Orders: what the tests of an order come to. -/
import Derived.Test.YthfinhdmdfekcaaPAx2
import Derived.Test.YthfinhdmdfekcaaPAx22
import Derived.Test.YthfinhdmdfekcaaPAx23
import Derived.Test.YthfinhdmdfekcaaQk
namespace Go.Proofs.Ythfinhdmdfekcaa.Q
open Go.RowKit Go.Proofs.YthfinhdmdfekcaaW.PrintWords Go.Proofs.YthfinhdmdfekcaaW.PrintLast Go.Proofs.Ythfinhdmdfekcaa.PA
set_option linter.unusedVariables false
set_option linter.unusedSimpArgs false

theorem sub_len : ∀ (r l : List Int), r.Nodup → (∀ x ∈ r, x ∈ l) → r.length ≤ l.length
  | [], l, _, _ => by simp
  | x :: r, l, hd, hs => by
    have hx := hs x (by simp)
    have h := sub_len r (l.erase x) (List.nodup_cons.1 hd).2 (fun y hy => by
      have hne : y ≠ x := fun e => (List.nodup_cons.1 hd).1 (e ▸ hy)
      exact (List.mem_erase_of_ne hne).2 (hs y (by simp [hy])))
    rw [List.length_erase_of_mem hx] at h
    have := List.length_pos_of_mem hx
    simp only [List.length_cons]
    omega
def upI (n : Nat) : List Int := (List.range n).map fun (j : Nat) => (j : Int)
theorem upI_nodup (n : Nat) : (upI n).Nodup := by
  unfold upI
  rw [List.Nodup, List.pairwise_map]
  exact (List.nodup_range (n := n)).imp (fun h e => h (by omega))
theorem mem_upI (n : Nat) (x : Int) : x ∈ upI n ↔ 0 ≤ x ∧ x < n := by
  simp only [upI, List.mem_map, List.mem_range]
  constructor
  · rintro ⟨j, hj, rfl⟩; omega
  · intro h; exact ⟨x.toNat, by omega, by omega⟩
theorem upI_len (n : Nat) : (upI n).length = n := by simp [upI]
def okOrder (n : Nat) (l : List Int) : Bool := decide (l.length = n) && (List.range n).all fun j => decide ((j : Int) ∈ l)
theorem okOrder_iff (n : Nat) (l : List Int) : okOrder n l = true ↔ (l.length = n ∧ ∀ i, i < l.length → (0 ≤ l.getD i 0 ∧ l.getD i 0 < n) ∧ l.getD i 0 ∉ l.take i) := by
  unfold okOrder
  simp only [Bool.and_eq_true, decide_eq_true_eq, List.all_eq_true, List.mem_range]
  constructor
  · rintro ⟨hl, hall⟩
    refine ⟨hl, fun i hi => ?_⟩
    have hsp : l = l.take i ++ l.getD i 0 :: l.drop (i + 1) := by rw [← drop_get l i 0 hi, List.take_append_drop]
    refine Classical.byContradiction fun hbad => ?_
    have hsub : ∀ x ∈ upI n, x ∈ l.take i ++ l.drop (i + 1) := by
      intro x hx
      have hx' := (mem_upI n x).1 hx
      have hm := hall x.toNat (by omega)
      rw [show ((x.toNat : Nat) : Int) = x by omega] at hm
      have hm0 := hm
      rw [hsp] at hm
      simp only [List.mem_append, List.mem_cons] at hm ⊢
      rcases hm with hm | hm | hm
      · exact .inl hm
      · refine Classical.byContradiction fun hno => hbad ⟨by rw [← hm]; exact hx', fun h => hno (.inl (by rw [hm]; exact h))⟩
      · exact .inr hm
    have := sub_len _ _ (upI_nodup n) hsub
    rw [upI_len] at this
    simp only [List.length_append, List.length_take, List.length_drop] at this
    omega
  · rintro ⟨hl, hall⟩
    refine ⟨hl, fun j hj => ?_⟩
    refine Classical.byContradiction fun hno => ?_
    have hnd : l.Nodup := by
      rw [List.Nodup, List.pairwise_iff_getElem]
      intro a b ha hb hab e
      have h := (hall b hb).2
      apply h
      rw [List.mem_take_iff_getElem]
      refine ⟨a, by omega, ?_⟩
      rw [List.getD_eq_getElem?_getD, List.getElem?_eq_getElem hb]
      exact e
    have hsub : ∀ x ∈ (j : Int) :: l, x ∈ upI n := by
      intro x hx
      rw [mem_upI]
      rcases List.mem_cons.1 hx with rfl | hx
      · omega
      · obtain ⟨i, hi, rfl⟩ := List.mem_iff_getElem.1 hx
        have := (hall i hi).1
        rw [List.getD_eq_getElem?_getD, List.getElem?_eq_getElem hi] at this
        exact this
    have := sub_len _ _ (List.nodup_cons.2 ⟨hno, hnd⟩) hsub
    rw [upI_len] at this
    simp only [List.length_cons] at this
    omega
theorem okOrder_in {n : Nat} {l : List Int} (h : okOrder n l = true) : l.length = n ∧ ∀ x ∈ l, 0 ≤ x ∧ x < n := by
  obtain ⟨hl, ha⟩ := (okOrder_iff n l).1 h
  refine ⟨hl, fun x hx => ?_⟩
  obtain ⟨i, hi, rfl⟩ := List.mem_iff_getElem.1 hx
  have := (ha i hi).1
  rw [List.getD_eq_getElem?_getD, List.getElem?_eq_getElem hi] at this
  exact this
theorem Has_ev (l : List Int) (a : Int) (h : l.length ≤ 9223372036854775806) : Ev (fun k => spec_l00Has.f k l a) (decide (a ∈ l)) := by
  unfold spec_l00Has.f
  have key : ∀ (m i : Nat), i + m = l.length → Ev (fun k => spec_l00Has.l0 k l a (i : Int)) (decide (a ∈ l.drop i)) := by
    intro m
    induction m with
    | zero =>
      intro i hi
      obtain rfl : i = l.length := by omega
      refine Ev.round (Ev.now _) fun k => ?_
      simp only [spec_l00Has.l0]
      rw [if_neg (by omega)]
      simp
    | succ m ih =>
      intro i hi
      have hx := drop_get l i 0 (by omega)
      by_cases he : l.getD i 0 = a
      · refine Ev.round (Ev.now _) fun k => ?_
        simp only [spec_l00Has.l0, rd_nat]
        rw [if_pos (by omega), if_pos (by omega), if_pos he, hx, he]
        simp
      · refine Ev.eq (Ev.round (ih (i + 1) (by omega)) fun k => ?_) ?_
        · simp only [spec_l00Has.l0, rd_nat]
          rw [if_pos (by omega), if_pos (by omega), if_neg he, wnat i l.length (by omega) (by omega)]
        · have hne : ¬ a = l.getD i 0 := fun e => he e.symm
          rw [hx]
          simp only [List.mem_cons, hne, false_or]
  simpa using key l.length 0 (by omega)
theorem Contains_ev (l : List Int) (a : Int) (h : l.length ≤ 9223372036854775806) : Ev (fun k => slices_Contains_int64_int64.f k l a) (decide (a ∈ l)) := by
  unfold slices_Contains_int64_int64.f slices_Index_int64_int64.f
  have key : ∀ (m i : Nat), i + m = l.length → ∃ r, Ev (fun k => slices_Index_int64_int64.l0 k l a (l.length : Int) (i : Int)) r ∧ decide (r ≥ 0) = decide (a ∈ l.drop i) := by
    intro m
    induction m with
    | zero =>
      intro i hi
      obtain rfl : i = l.length := by omega
      refine ⟨-1, Ev.round (Ev.now _) fun k => ?_, by simp⟩
      simp only [slices_Index_int64_int64.l0]
      rw [if_neg (by omega)]
    | succ m ih =>
      intro i hi
      have hx := drop_get l i 0 (by omega)
      by_cases he : a = l.getD i 0
      · refine ⟨i, Ev.round (Ev.now _) fun k => ?_, ?_⟩
        · simp only [slices_Index_int64_int64.l0, rd_nat]
          rw [if_pos (by omega), if_pos (by omega), if_pos (by omega), if_pos he]
        · rw [hx, ← he]
          simp
      · obtain ⟨r, hr, hd⟩ := ih (i + 1) (by omega)
        refine ⟨r, Ev.round hr fun k => ?_, ?_⟩
        · simp only [slices_Index_int64_int64.l0, rd_nat]
          rw [if_pos (by omega), if_pos (by omega), if_pos (by omega), if_neg he, wnat i l.length (by omega) (by omega)]
        · rw [hd, hx]
          simp only [List.mem_cons, he, false_or]
  obtain ⟨r, hr, hd⟩ := key l.length 0 (by omega)
  refine Ev.eq (Ev.bind hr (Ev.now _)) ?_
  simpa using hd
theorem l07Order_ev (n : Nat) (l : List Int) (hn : n ≤ 1000) (h : l.length ≤ 9223372036854775806) : Ev (fun k => spec_l07Order.f k (n : Int) l) (okOrder n l) := by
  unfold spec_l07Order.f
  refine Ev.eq (Ev.all_upto (fun k i => spec_l07Order.l0 k (n : Int) l i) (fun i => inB (l.getD i 0) 0 ((n : Int) - 1) && !decide (l.getD i 0 ∈ l.take i)) ((l.length : Int) == (n : Int)) l.length (fun i hi ho r hr => ?_) (fun i hi ho => ?_) ?_) ?_
  · simp only [Bool.and_eq_true, Bool.not_eq_true', decide_eq_false_iff_not] at ho
    have hh := Has_ev (l.take i) (l.getD i 0) (by rw [List.length_take]; omega)
    rw [decide_eq_false ho.2] at hh
    have hx : Ev (fun k => (spec_l00Has.f k (l.take i) (l.getD i 0)).bind fun t => if t = true then some false else spec_l07Order.l0 k (n : Int) l ((i + 1 : Nat) : Int)) r := Ev.bind hh (Ev.neg (by simp) hr)
    refine Ev.round hx fun k => ?_
    simp only [spec_l07Order.l0, In_c, Option.bind_some, rd_nat]
    rw [wint ((n : Int) - 1) (by omega) (by omega), if_pos (by omega), if_pos (by omega), if_pos (show inC _ _ _ = true from ho.1), if_pos (by omega), wnat i l.length hi (by omega)]
    rfl
  · by_cases hin : inB (l.getD i 0) 0 ((n : Int) - 1) = true
    · have hm : l.getD i 0 ∈ l.take i := by
        rw [hin] at ho
        simpa using ho
      have hh := Has_ev (l.take i) (l.getD i 0) (by rw [List.length_take]; omega)
      rw [decide_eq_true hm] at hh
      have hx : Ev (fun k => (spec_l00Has.f k (l.take i) (l.getD i 0)).bind fun t => if t = true then some false else spec_l07Order.l0 k (n : Int) l ((i + 1 : Nat) : Int)) false := Ev.bind hh (Ev.pos rfl (Ev.now _))
      refine Ev.round hx fun k => ?_
      simp only [spec_l07Order.l0, In_c, Option.bind_some, rd_nat]
      rw [wint ((n : Int) - 1) (by omega) (by omega), if_pos (by omega), if_pos (by omega), if_pos (show inC _ _ _ = true from hin), if_pos (by omega), wnat i l.length hi (by omega)]
      rfl
    · refine Ev.round (Ev.now false) fun k => ?_
      simp only [spec_l07Order.l0, In_c, Option.bind_some, rd_nat]
      rw [wint ((n : Int) - 1) (by omega) (by omega), if_pos (by omega), if_pos (by omega), if_neg (show ¬ inC _ _ _ = true from hin)]
  · refine Ev.round (Ev.now _) fun k => ?_
    simp only [spec_l07Order.l0]
    rw [if_neg (by omega)]
  · rw [Bool.eq_iff_iff, okOrder_iff]
    simp only [Bool.and_eq_true, List.all_eq_true, List.mem_range, inB, decide_eq_true_eq, Bool.not_eq_true', decide_eq_false_iff_not, beq_iff_eq]
    constructor
    · rintro ⟨h1, h2⟩
      refine ⟨by omega, fun i hi => ?_⟩
      have := h1 i hi
      exact ⟨by omega, this.2⟩
    · rintro ⟨h1, h2⟩
      refine ⟨fun i hi => ?_, by omega⟩
      have := h2 i hi
      exact ⟨by omega, this.2⟩
theorem isOrder_ev (n : Nat) (l : List Int) (hn : n ≤ 1000) (h : l.length ≤ 9223372036854775806) : Ev (fun k => impl_isOrder.f k l (n : Int)) (okOrder n l) := by
  unfold impl_isOrder.f okOrder
  by_cases hl : l.length = n
  · rw [decide_eq_true hl, Bool.true_and]
    refine Ev.pos (by omega) (Ev.eq (Ev.all_upto (fun k i => impl_isOrder.l0 k l (n : Int) i) (fun j => decide ((j : Int) ∈ l)) true n (fun i hi ho r hr => ?_) (fun i hi ho => ?_) ?_) (by simp))
    · have hc := Contains_ev l (i : Int) h
      rw [ho] at hc
      have hx : Ev (fun k => (slices_Contains_int64_int64.f k l (i : Int)).bind fun t => if t = true then impl_isOrder.l0 k l (n : Int) ((i + 1 : Nat) : Int) else some false) r := Ev.bind hc (Ev.pos rfl hr)
      refine Ev.round hx fun k => ?_
      simp only [impl_isOrder.l0]
      rw [if_pos (by omega), wnat i n hi (by omega)]
    · have hc := Contains_ev l (i : Int) h
      rw [ho] at hc
      have hx : Ev (fun k => (slices_Contains_int64_int64.f k l (i : Int)).bind fun t => if t = true then impl_isOrder.l0 k l (n : Int) ((i + 1 : Nat) : Int) else some false) false := Ev.bind hc (Ev.neg (by simp) (Ev.now _))
      refine Ev.round hx fun k => ?_
      simp only [impl_isOrder.l0]
      rw [if_pos (by omega), wnat i n hi (by omega)]
    · refine Ev.round (Ev.now _) fun k => ?_
      simp only [impl_isOrder.l0]
      rw [if_neg (by omega)]
  · rw [decide_eq_false hl, Bool.false_and]
    exact Ev.neg (by omega) (Ev.now _)

end Go.Proofs.Ythfinhdmdfekcaa.Q
