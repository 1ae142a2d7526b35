/- The statement FnDoor of this program: what its proof uses, part 11 of 11. The call returns true for all arguments. No condition of its own. -/
import Derived.IntWalk
import Derived.Test.YtjieacofpegmpaaZFnDoor9
section
namespace Go.Proofs.Ytjieacofpegmpaa.Q
open Go.RowKit Go.Proofs.YtjieacofpegmpaaW.PrintWords Go.Proofs.YtjieacofpegmpaaW.PrintLast
set_option linter.unusedVariables false
set_option linter.unusedSimpArgs false
theorem wnat (i n : Nat) (h : i < n) (hn : n ≤ 9223372036854775807) : wrap64 ((i : Int) + 1) = ((i + 1 : Nat) : Int) := by unfold wrap64; omega
theorem wint (a : Int) (h0 : -9223372036854775808 ≤ a) (h1 : a ≤ 9223372036854775807) : wrap64 a = a := by unfold wrap64; omega
theorem rd_nat (xs : List Int) (i : Nat) : rd xs (i : Int) = xs.getD i 0 := by simp [rd]
theorem Ev.round {α : Type} {g f : Nat → Option α} {r : α} (k : Ev f r) (h : ∀ k, g (k + 1) = f k) : Ev g r := Ev.step h k
theorem Ev.eq {α : Type} {g : Nat → Option α} {r r' : α} (h : Ev g r) (e : r = r') : Ev g r' := e ▸ h
theorem Ev.uniq {α : Type} {g : Nat → Option α} {r r' : α} (h : Ev g r) (h' : Ev g r') : r = r' := by
  obtain ⟨K, h⟩ := h
  obtain ⟨K', h'⟩ := h'
  have a := h (max K K') (by omega)
  have b := h' (max K K') (by omega)
  rw [a] at b
  exact Option.some.inj b
theorem Ev.ite {α : Type} {c : Prop} [Decidable c] {f g : Nat → Option α} {r : α} (h : c → Ev f r) (h' : ¬ c → Ev g r) : Ev (fun k => if c then f k else g k) r := by
  by_cases hc : c
  · simp only [hc, if_true]; exact h hc
  · simp only [hc, if_false]; exact h' hc
theorem Ev.pos {α : Type} {c : Prop} [Decidable c] {f g : Nat → Option α} {r : α} (hc : c) (h : Ev f r) : Ev (fun k => if c then f k else g k) r := by simp only [hc, if_true]; exact h
theorem Ev.neg {α : Type} {c : Prop} [Decidable c] {f g : Nat → Option α} {r : α} (hc : ¬ c) (h : Ev g r) : Ev (fun k => if c then f k else g k) r := by simp only [hc, if_false]; exact h
theorem take_get {α : Type} (xs : List α) (i : Nat) (d : α) (h : i < xs.length) : xs.take (i + 1) = xs.take i ++ [xs.getD i d] := by
  rw [List.take_succ_eq_append_getElem h]
  simp [List.getD_eq_getElem?_getD, List.getElem?_eq_getElem h]
theorem Ev.all_loop {ρ : Type} (L : Nat → Int → Option ρ) (n : Nat) (r : ρ)
    (hstep : ∀ i : Nat, i < n → Ev (fun k => L k ((i + 1 : Nat) : Int)) r → Ev (fun k => L k (i : Int)) r)
    (hend : Ev (fun k => L k (n : Int)) r) : Ev (fun k => L k 0) r := by
  have key : ∀ (m i : Nat), i + m = n → Ev (fun k => L k (i : Int)) r := by
    intro m
    induction m with
    | zero => intro i hi; obtain rfl : i = n := by omega
              exact hend
    | succ m ih => intro i hi; exact hstep i (by omega) (ih (i + 1) (by omega))
  exact key n 0 (by omega)
theorem Ev.all_or {α : Type} (L : Nat → Int → Option Bool) (ok : α → Bool) (d : α) (e : Bool) (xs : List α)
    (hyes : ∀ i : Nat, i < xs.length → ok (xs.getD i d) = true → ∀ r, Ev (fun k => L k ((i + 1 : Nat) : Int)) r → Ev (fun k => L k (i : Int)) r)
    (hno : ∀ i : Nat, i < xs.length → ok (xs.getD i d) = false → Ev (fun k => L k (i : Int)) false)
    (hend : Ev (fun k => L k (xs.length : Int)) e) : Ev (fun k => L k 0) (xs.all ok && e) := by
  have key : ∀ (m i : Nat), i + m = xs.length → Ev (fun k => L k (i : Int)) ((xs.drop i).all ok && e) := by
    intro m
    induction m with
    | zero =>
      intro i hi
      obtain rfl : i = xs.length := by omega
      simpa using hend
    | succ m ih =>
      intro i hi
      have hx : xs.drop i = xs.getD i d :: xs.drop (i + 1) := by
        rw [List.drop_eq_getElem_cons (by omega)]
        simp [List.getD_eq_getElem?_getD, List.getElem?_eq_getElem (show i < xs.length by omega)]
      rw [hx, List.all_cons]
      cases ho : ok (xs.getD i d) with
      | true => simpa using hyes i (by omega) ho _ (ih (i + 1) (by omega))
      | false => simpa using hno i (by omega) ho
  simpa using key xs.length 0 (by omega)
end Go.Proofs.Ytjieacofpegmpaa.Q
end
section
namespace Go.Proofs.Ytjieacofpegmpaa.Q
open Go.RowKit Go.Proofs.YtjieacofpegmpaaW.PrintWords Go.Proofs.YtjieacofpegmpaaW.PrintLast Go.Proofs.YtjieacofpegmpaaW.PrintMore Go.Proofs.Ytjieacofpegmpaa.La Go.Proofs.Ytjieacofpegmpaa.PD
set_option linter.unusedVariables false
set_option linter.unusedSimpArgs false
def inC (a lo hi : Int) : Bool := decide (lo ≤ a) && decide (a ≤ hi)
theorem In_c (a lo hi : Int) : spec_l00In.f a lo hi = some (inC a lo hi) := by
  unfold spec_l00In.f inC
  split
  · rename_i h; simp [h]
  · rename_i h; simp [h]
theorem Ev.const {α : Type} {x : Option α} {a : α} (h : x = some a) : Ev (fun _ => x) a := by subst h; exact Ev.now a
theorem Ev.succ {α : Type} {g : Nat → Option α} {r : α} (h : Ev (fun k => g (k + 1)) r) : Ev g r := Ev.step (fun _ => rfl) h
theorem getD_mem {α : Type} (l : List α) (i : Nat) (d : α) (h : i < l.length) : l.getD i d ∈ l := by
  simp [List.getD_eq_getElem?_getD, List.getElem?_eq_getElem h]
theorem drop_get {α : Type} (xs : List α) (i : Nat) (d : α) (h : i < xs.length) : xs.drop i = xs.getD i d :: xs.drop (i + 1) := by
  rw [List.drop_eq_getElem_cons h]
  simp [List.getD_eq_getElem?_getD, List.getElem?_eq_getElem h]
theorem rd_set (x : List Int) (j v : Int) (h0 : 0 ≤ j) (h1 : j < x.length) : rd (x.set j.toNat v) j = v := by
  have : j.toNat < x.length := by omega
  simp [rd, List.getD_eq_getElem?_getD, List.getElem?_set, this]
theorem Ev.all_upto (L : Nat → Int → Option Bool) (ok : Nat → Bool) (e : Bool) (n : Nat)
    (hyes : ∀ i : Nat, i < n → ok i = true → ∀ r, Ev (fun k => L k ((i + 1 : Nat) : Int)) r → Ev (fun k => L k (i : Int)) r)
    (hno : ∀ i : Nat, i < n → ok i = false → Ev (fun k => L k (i : Int)) false)
    (hend : Ev (fun k => L k (n : Int)) e) : Ev (fun k => L k 0) ((List.range n).all ok && e) := by
  refine Ev.all_or L ok 0 e (List.range n) ?_ ?_ (by simpa using hend)
  · intro i hi ho r hr
    have hi' : i < n := by simpa using hi
    refine hyes i hi' ?_ r hr
    simpa [List.getD_eq_getElem?_getD, hi'] using ho
  · intro i hi ho
    have hi' : i < n := by simpa using hi
    refine hno i hi' ?_
    simpa [List.getD_eq_getElem?_getD, hi'] using ho
end Go.Proofs.Ytjieacofpegmpaa.Q
end
section
namespace Go.Proofs.Ytjieacofpegmpaa.Q
open Go.RowKit Go.Proofs.YtjieacofpegmpaaW.PrintWords Go.Proofs.YtjieacofpegmpaaW.PrintLast Go.Proofs.YtjieacofpegmpaaW.PrintMore Go.Proofs.Ytjieacofpegmpaa.La Go.Proofs.Ytjieacofpegmpaa.PD
set_option linter.unusedVariables false
set_option linter.unusedSimpArgs false
theorem wraps_u64 (n : Int) (h0 : 0 ≤ n) (h1 : n < 2 ^ 64) : IntKind.u64.wrap n = n := by
  simp [IntKind.wrap, IntKind.bits, IntKind.signed]
  omega
theorem and255 (x : Int) (h0 : 0 ≤ x) (h1 : x < 18446744073709551616) : Go.bits .and .u64 x 255 = x % 256 := Go.bits_mask .u64 64 (by decide) wraps_u64 8 (by decide) x h0 h1
theorem u64_range (n : Int) : 0 ≤ IntKind.u64.wrap n ∧ IntKind.u64.wrap n < 18446744073709551616 := by
  simp [IntKind.wrap, IntKind.bits, IntKind.signed]
  omega
def ByteL (c : List Int) : Prop := (∀ i, 0 ≤ rd c i ∧ rd c i ≤ 255) ∧ c.length ≤ 1000000000000
theorem next_ok (c : List Int) (a s : Int) (hc : ByteL c) (ha : 0 ≤ a ∧ a ≤ 1000000000000) : ∃ v s' : Int, spec_l00Src_next.f c a s = some (v, a + 1, s') ∧ 0 ≤ v ∧ v ≤ 255 := by
  have w : wrap64 (a + 1) = a + 1 := by unfold wrap64; omega
  have hr := hc.1 a
  have wr : wrap64 (rd c a) = rd c a := by unfold wrap64; omega
  unfold spec_l00Src_next.f
  rw [w]
  by_cases h1 : a < (c.length : Int)
  · rw [if_pos h1, if_pos ha.1, if_pos (by omega), wr]
    exact ⟨_, _, rfl, hr.1, hr.2⟩
  · rw [if_neg h1, if_neg (by omega)]
    have hu := u64_range ((IntKind.u64.wrap ((IntKind.u64.wrap (s * 6364136223846793005)))) + 1442695040888963407)
    refine ⟨_, _, rfl, ?_⟩
    rw [and255 _ (by omega) (by omega)]
    unfold wrap64
    omega
theorem pick_ok (c : List Int) (a s n : Int) (hc : ByteL c) (ha : 0 ≤ a ∧ a ≤ 1000000000000) (hn : n ≤ 200) : ∃ v a' s' : Int, spec_l00Src_pick.f c a s n = some (v, a', s') ∧ (a ≤ a' ∧ a' ≤ a + 1) ∧ 0 ≤ v ∧ (1 ≤ n → v < n) := by
  unfold spec_l00Src_pick.f
  by_cases h1 : n ≤ 1
  · rw [if_pos h1]
    exact ⟨0, a, s, rfl, by omega, by omega, by omega⟩
  · rw [if_neg h1]
    obtain ⟨v, s', h2, h3, h4⟩ := next_ok c a s hc ha
    rw [h2]
    simp only [Option.bind_some]
    rw [if_neg (by omega), if_neg (by omega)]
    exact ⟨_, _, _, rfl, by omega, Int.tmod_nonneg _ h3, fun _ => Int.tmod_lt_of_pos _ (by omega)⟩
def goodP (q : S55) : Prop := (0 ≤ q.f0 ∧ q.f0 ≤ 11) ∧ (1 ≤ q.f1 ∧ q.f1 ≤ 7)
theorem i16w (a : Int) (h : 0 ≤ a ∧ a ≤ 100) : IntKind.i16.wrap a = a := by
  simp [IntKind.wrap, IntKind.bits, IntKind.signed]
  omega
theorem A2Parties_ev (c : List Int) (hc : ByteL c) : ∃ P : List S55, Ev (fun k => spec_A2Parties.f k c) P ∧ P.length ≤ 6 ∧ ∀ q ∈ P, goodP q := by
  have key : ∀ (m : Nat) (acc : List S55) (a s : Int), acc.length + m ≤ 6 → (0 ≤ a ∧ a ≤ 1000 - 10 * (m : Int)) → (∀ q ∈ acc, goodP q) → ∃ P : List S55, Ev (fun k => spec_A2Parties.l0 k acc (m : Int) c a s) P ∧ P.length ≤ 6 ∧ ∀ q ∈ P, goodP q := by
    intro m
    induction m with
    | zero =>
      intro acc a s hl ha hg
      refine ⟨acc, ?_, by omega, hg⟩
      refine Ev.succ ?_
      simp only [spec_A2Parties.l0]
      exact Ev.neg (by omega) (Ev.now _)
    | succ m ih =>
      intro acc a s hl ha hg
      obtain ⟨v, a1, s1, h1, h2, h3, h4⟩ := pick_ok c a s 12 hc (by omega) (by omega)
      obtain ⟨u, a2, s2, g1, g2, g3, g4⟩ := pick_ok c a1 s1 7 hc (by omega) (by omega)
      have h5 := h4 (by omega)
      have g5 := g4 (by omega)
      have wu : wrap64 (1 + u) = 1 + u := by unfold wrap64; omega
      have wm : wrap64 (((m + 1 : Nat) : Int) - 1) = (m : Int) := by unfold wrap64; omega
      obtain ⟨P, e, p1, p2⟩ := ih (acc ++ [⟨v, 1 + u⟩]) a2 s2 (by rw [List.length_append, List.length_singleton]; omega) (by omega) (fun q hq => by
        rcases List.mem_append.1 hq with h | h
        · exact hg q h
        · rw [List.mem_singleton.1 h]
          exact ⟨⟨h3, by show v ≤ 11; omega⟩, by show 1 ≤ 1 + u; omega, by show 1 + u ≤ 7; omega⟩)
      refine ⟨P, ?_, p1, p2⟩
      refine Ev.succ ?_
      simp only [spec_A2Parties.l0]
      rw [h1, wm]
      refine Ev.pos (by omega) (Ev.bind (Ev.now _) ?_)
      rw [g1]
      refine Ev.bind (Ev.now _) ?_
      rw [wu, i16w v (by omega), i16w (1 + u) (by omega)]
      exact Ev.pos (by omega) e
  obtain ⟨v, a1, s1, h1, h2, h3, h4⟩ := pick_ok c 0 0 6 hc (by omega) (by omega)
  have h5 := h4 (by omega)
  obtain ⟨P, e, p1, p2⟩ := key v.toNat [] a1 s1 (by simp; omega) (by omega) (fun q hq => absurd hq (by simp))
  refine ⟨P, ?_, p1, p2⟩
  unfold spec_A2Parties.f spec_l00From.f
  refine Ev.bind (a := (c, 0, 0)) (Ev.now _) ?_
  rw [h1]
  refine Ev.bind (Ev.now _) ?_
  rw [show ((v.toNat : Nat) : Int) = v by omega] at e
  exact e
def vO (n : Nat) (p : List Int) : Prop := p.length = n ∧ p.Nodup ∧ ∀ x ∈ p, 0 ≤ x ∧ x < (n : Int)
theorem vO_ins {i : Nat} {A B : List Int} (h : vO i (A ++ B)) : vO (i + 1) (A ++ ((i : Int) :: B)) := by
  obtain ⟨h1, h2, h3⟩ := h
  have hp : (A ++ ((i : Int) :: B)).Perm ((i : Int) :: (A ++ B)) := List.perm_middle
  refine ⟨by rw [hp.length_eq, List.length_cons, h1], hp.nodup_iff.2 (List.nodup_cons.2 ⟨fun hm => by have := h3 _ hm; omega, h2⟩), fun x hx => ?_⟩
  rcases List.mem_cons.1 (hp.mem_iff.1 hx) with rfl | hx
  · omega
  · have := h3 x hx
    omega
theorem own_f (l : List Int) (h : l.length ≤ 100) : spec_l00Own.f l = some l := by
  unfold spec_l00Own.f
  simp
  omega
theorem A2Order_ev (c : List Int) (hc : ByteL c) (n : Nat) (hn : n ≤ 6) : ∃ p : List Int, Ev (fun k => spec_A2Order.f k c (n : Int)) p ∧ vO n p := by
  have key : ∀ (m i : Nat) (o : List Int) (a s : Int), i + m = n → vO i o → (0 ≤ a ∧ a ≤ 1000 - 10 * (m : Int)) → ∃ p : List Int, Ev (fun k => spec_A2Order.l0 k (n : Int) o (i : Int) c a s) p ∧ vO n p := by
    intro m
    induction m with
    | zero =>
      intro i o a s hi ho ha
      obtain rfl : i = n := by omega
      refine ⟨o, ?_, ho⟩
      refine Ev.succ ?_
      simp only [spec_A2Order.l0]
      exact Ev.neg (by omega) (Ev.now _)
    | succ m ih =>
      intro i o a s hi ho ha
      have w := wnat i 100 (by omega) (by omega)
      obtain ⟨v, a1, s1, h1, h2, h3, h4⟩ := pick_ok c a s ((i + 1 : Nat) : Int) hc (by omega) (by omega)
      have h5 := h4 (by omega)
      have hol := ho.1
      obtain ⟨p, e, hp⟩ := ih (i + 1) (o.take v.toNat ++ ((i : Int) :: o.drop v.toNat)) a1 s1 (by omega) (vO_ins (by rw [List.take_append_drop]; exact ho)) (by omega)
      refine ⟨p, ?_, hp⟩
      refine Ev.succ ?_
      simp only [spec_A2Order.l0]
      rw [w, h1]
      have e2 : Ev (fun k => spec_A2Order.l0 k (n : Int) (o.take v.toNat ++ [(i : Int)] ++ o.drop v.toNat) ((i + 1 : Nat) : Int) c a1 s1) p := by simpa using e
      refine Ev.pos (by omega) (Ev.bind (Ev.now _) (Ev.pos h3 (Ev.pos (by omega) ?_)))
      rw [own_f _ (by rw [List.length_drop]; omega)]
      exact Ev.bind (Ev.now _) (Ev.bind (a := o.take v.toNat) (Ev.now _) (Ev.pos (by rw [List.length_take]; omega) (Ev.bind (a := o.take v.toNat ++ [(i : Int)]) (Ev.now _) (Ev.pos (by rw [List.length_append, List.length_take, List.length_drop, List.length_singleton]; omega) e2))))
  obtain ⟨p, e, hp⟩ := key n 0 [] 0 0 (Nat.zero_add _) ⟨rfl, List.nodup_nil, fun x hx => absurd hx (by simp)⟩ (by omega)
  refine ⟨p, ?_, hp⟩
  unfold spec_A2Order.f spec_l00From.f
  exact Ev.bind (a := (c, 0, 0)) (Ev.now _) e
end Go.Proofs.Ytjieacofpegmpaa.Q
end
section
namespace Go.Proofs.Ytjieacofpegmpaa.Q
open Go.RowKit Go.Proofs.YtjieacofpegmpaaW.PrintWords Go.Proofs.YtjieacofpegmpaaW.PrintLast Go.Proofs.YtjieacofpegmpaaW.PrintMore Go.Proofs.Ytjieacofpegmpaa.La Go.Proofs.Ytjieacofpegmpaa.PD
set_option linter.unusedVariables false
set_option linter.unusedSimpArgs false
theorem Max_mx (a b : Int) : spec_l00Max.f a b = some (mx a b) := by
  unfold spec_l00Max.f mx
  split <;> split <;> first | rfl | omega | (congr 1; omega)
end Go.Proofs.Ytjieacofpegmpaa.Q
end
section
namespace Go.Proofs.Ytjieacofpegmpaa.Q
open Go.RowKit Go.Proofs.YtjieacofpegmpaaW.PrintWords Go.Proofs.YtjieacofpegmpaaW.PrintLast Go.Proofs.YtjieacofpegmpaaW.PrintMore Go.Proofs.Ytjieacofpegmpaa.La Go.Proofs.Ytjieacofpegmpaa.PD
set_option linter.unusedVariables false
set_option linter.unusedSimpArgs false
theorem sub_len : ∀ (r l : List Int), r.Nodup → (∀ x ∈ r, x ∈ l) → r.length ≤ l.length
  | [], l, _, _ => by simp
  | x :: r, l, hd, hs => by
    have hx := hs x (by simp)
    have h := sub_len r (l.erase x) (List.nodup_cons.1 hd).2 (fun y hy => by
      have hne : y ≠ x := fun e => (List.nodup_cons.1 hd).1 (e ▸ hy)
      exact (List.mem_erase_of_ne hne).2 (hs y (by simp [hy])))
    rw [List.length_erase_of_mem hx] at h
    have := List.length_pos_of_mem hx
    simp only [List.length_cons]
    omega
def upI (n : Nat) : List Int := (List.range n).map fun (j : Nat) => (j : Int)
theorem upI_nodup (n : Nat) : (upI n).Nodup := by
  unfold upI
  rw [List.Nodup, List.pairwise_map]
  exact (List.nodup_range (n := n)).imp (fun h e => h (by omega))
theorem mem_upI (n : Nat) (x : Int) : x ∈ upI n ↔ 0 ≤ x ∧ x < n := by
  simp only [upI, List.mem_map, List.mem_range]
  constructor
  · rintro ⟨j, hj, rfl⟩; omega
  · intro h; exact ⟨x.toNat, by omega, by omega⟩
theorem upI_len (n : Nat) : (upI n).length = n := by simp [upI]
def okOrder (n : Nat) (l : List Int) : Bool := decide (l.length = n) && (List.range n).all fun j => decide ((j : Int) ∈ l)
theorem okOrder_iff (n : Nat) (l : List Int) : okOrder n l = true ↔ (l.length = n ∧ ∀ i, i < l.length → (0 ≤ l.getD i 0 ∧ l.getD i 0 < n) ∧ l.getD i 0 ∉ l.take i) := by
  unfold okOrder
  simp only [Bool.and_eq_true, decide_eq_true_eq, List.all_eq_true, List.mem_range]
  constructor
  · rintro ⟨hl, hall⟩
    refine ⟨hl, fun i hi => ?_⟩
    have hsp : l = l.take i ++ l.getD i 0 :: l.drop (i + 1) := by rw [← drop_get l i 0 hi, List.take_append_drop]
    refine Classical.byContradiction fun hbad => ?_
    have hsub : ∀ x ∈ upI n, x ∈ l.take i ++ l.drop (i + 1) := by
      intro x hx
      have hx' := (mem_upI n x).1 hx
      have hm := hall x.toNat (by omega)
      rw [show ((x.toNat : Nat) : Int) = x by omega] at hm
      have hm0 := hm
      rw [hsp] at hm
      simp only [List.mem_append, List.mem_cons] at hm ⊢
      rcases hm with hm | hm | hm
      · exact .inl hm
      · refine Classical.byContradiction fun hno => hbad ⟨by rw [← hm]; exact hx', fun h => hno (.inl (by rw [hm]; exact h))⟩
      · exact .inr hm
    have := sub_len _ _ (upI_nodup n) hsub
    rw [upI_len] at this
    simp only [List.length_append, List.length_take, List.length_drop] at this
    omega
  · rintro ⟨hl, hall⟩
    refine ⟨hl, fun j hj => ?_⟩
    refine Classical.byContradiction fun hno => ?_
    have hnd : l.Nodup := by
      rw [List.Nodup, List.pairwise_iff_getElem]
      intro a b ha hb hab e
      have h := (hall b hb).2
      apply h
      rw [List.mem_take_iff_getElem]
      refine ⟨a, by omega, ?_⟩
      rw [List.getD_eq_getElem?_getD, List.getElem?_eq_getElem hb]
      exact e
    have hsub : ∀ x ∈ (j : Int) :: l, x ∈ upI n := by
      intro x hx
      rw [mem_upI]
      rcases List.mem_cons.1 hx with rfl | hx
      · omega
      · obtain ⟨i, hi, rfl⟩ := List.mem_iff_getElem.1 hx
        have := (hall i hi).1
        rw [List.getD_eq_getElem?_getD, List.getElem?_eq_getElem hi] at this
        exact this
    have := sub_len _ _ (List.nodup_cons.2 ⟨hno, hnd⟩) hsub
    rw [upI_len] at this
    simp only [List.length_cons] at this
    omega
theorem Has_ev (l : List Int) (a : Int) (h : l.length ≤ 9223372036854775806) : Ev (fun k => spec_l00Has.f k l a) (decide (a ∈ l)) := by
  unfold spec_l00Has.f
  have key : ∀ (m i : Nat), i + m = l.length → Ev (fun k => spec_l00Has.l0 k l a (i : Int)) (decide (a ∈ l.drop i)) := by
    intro m
    induction m with
    | zero =>
      intro i hi
      obtain rfl : i = l.length := by omega
      refine Ev.round (Ev.now _) fun k => ?_
      simp only [spec_l00Has.l0]
      rw [if_neg (by omega)]
      simp
    | succ m ih =>
      intro i hi
      have hx := drop_get l i 0 (by omega)
      by_cases he : l.getD i 0 = a
      · refine Ev.round (Ev.now _) fun k => ?_
        simp only [spec_l00Has.l0, rd_nat]
        rw [if_pos (by omega), if_pos (by omega), if_pos he, hx, he]
        simp
      · refine Ev.eq (Ev.round (ih (i + 1) (by omega)) fun k => ?_) ?_
        · simp only [spec_l00Has.l0, rd_nat]
          rw [if_pos (by omega), if_pos (by omega), if_neg he, wnat i l.length (by omega) (by omega)]
        · have hne : ¬ a = l.getD i 0 := fun e => he e.symm
          rw [hx]
          simp only [List.mem_cons, hne, false_or]
  simpa using key l.length 0 (by omega)
theorem Contains_ev (l : List Int) (a : Int) (h : l.length ≤ 9223372036854775806) : Ev (fun k => slices_Contains_int64_int64.f k l a) (decide (a ∈ l)) := by
  unfold slices_Contains_int64_int64.f slices_Index_int64_int64.f
  have key : ∀ (m i : Nat), i + m = l.length → ∃ r, Ev (fun k => slices_Index_int64_int64.l0 k l a (l.length : Int) (i : Int)) r ∧ decide (r ≥ 0) = decide (a ∈ l.drop i) := by
    intro m
    induction m with
    | zero =>
      intro i hi
      obtain rfl : i = l.length := by omega
      refine ⟨-1, Ev.round (Ev.now _) fun k => ?_, by simp⟩
      simp only [slices_Index_int64_int64.l0]
      rw [if_neg (by omega)]
    | succ m ih =>
      intro i hi
      have hx := drop_get l i 0 (by omega)
      by_cases he : a = l.getD i 0
      · refine ⟨i, Ev.round (Ev.now _) fun k => ?_, ?_⟩
        · simp only [slices_Index_int64_int64.l0, rd_nat]
          rw [if_pos (by omega), if_pos (by omega), if_pos (by omega), if_pos he]
        · rw [hx, ← he]
          simp
      · obtain ⟨r, hr, hd⟩ := ih (i + 1) (by omega)
        refine ⟨r, Ev.round hr fun k => ?_, ?_⟩
        · simp only [slices_Index_int64_int64.l0, rd_nat]
          rw [if_pos (by omega), if_pos (by omega), if_pos (by omega), if_neg he, wnat i l.length (by omega) (by omega)]
        · rw [hd, hx]
          simp only [List.mem_cons, he, false_or]
  obtain ⟨r, hr, hd⟩ := key l.length 0 (by omega)
  refine Ev.eq (Ev.bind hr (Ev.now _)) ?_
  simpa using hd
theorem l07Order_ev (n : Nat) (l : List Int) (hn : n ≤ 1000) (h : l.length ≤ 9223372036854775806) : Ev (fun k => spec_l07Order.f k (n : Int) l) (okOrder n l) := by
  unfold spec_l07Order.f
  refine Ev.eq (Ev.all_upto (fun k i => spec_l07Order.l0 k (n : Int) l i) (fun i => inB (l.getD i 0) 0 ((n : Int) - 1) && !decide (l.getD i 0 ∈ l.take i)) ((l.length : Int) == (n : Int)) l.length (fun i hi ho r hr => ?_) (fun i hi ho => ?_) ?_) ?_
  · simp only [Bool.and_eq_true, Bool.not_eq_true', decide_eq_false_iff_not] at ho
    have hh := Has_ev (l.take i) (l.getD i 0) (by rw [List.length_take]; omega)
    rw [decide_eq_false ho.2] at hh
    have hx : Ev (fun k => (spec_l00Has.f k (l.take i) (l.getD i 0)).bind fun t => if t = true then some false else spec_l07Order.l0 k (n : Int) l ((i + 1 : Nat) : Int)) r := Ev.bind hh (Ev.neg (by simp) hr)
    refine Ev.round hx fun k => ?_
    simp only [spec_l07Order.l0, In_c, Option.bind_some, rd_nat]
    rw [wint ((n : Int) - 1) (by omega) (by omega), if_pos (by omega), if_pos (by omega), if_pos (show inC _ _ _ = true from ho.1), if_pos (by omega), wnat i l.length hi (by omega)]
    rfl
  · by_cases hin : inB (l.getD i 0) 0 ((n : Int) - 1) = true
    · have hm : l.getD i 0 ∈ l.take i := by
        rw [hin] at ho
        simpa using ho
      have hh := Has_ev (l.take i) (l.getD i 0) (by rw [List.length_take]; omega)
      rw [decide_eq_true hm] at hh
      have hx : Ev (fun k => (spec_l00Has.f k (l.take i) (l.getD i 0)).bind fun t => if t = true then some false else spec_l07Order.l0 k (n : Int) l ((i + 1 : Nat) : Int)) false := Ev.bind hh (Ev.pos rfl (Ev.now _))
      refine Ev.round hx fun k => ?_
      simp only [spec_l07Order.l0, In_c, Option.bind_some, rd_nat]
      rw [wint ((n : Int) - 1) (by omega) (by omega), if_pos (by omega), if_pos (by omega), if_pos (show inC _ _ _ = true from hin), if_pos (by omega), wnat i l.length hi (by omega)]
      rfl
    · refine Ev.round (Ev.now false) fun k => ?_
      simp only [spec_l07Order.l0, In_c, Option.bind_some, rd_nat]
      rw [wint ((n : Int) - 1) (by omega) (by omega), if_pos (by omega), if_pos (by omega), if_neg (show ¬ inC _ _ _ = true from hin)]
  · refine Ev.round (Ev.now _) fun k => ?_
    simp only [spec_l07Order.l0]
    rw [if_neg (by omega)]
  · rw [Bool.eq_iff_iff, okOrder_iff]
    simp only [Bool.and_eq_true, List.all_eq_true, List.mem_range, inB, decide_eq_true_eq, Bool.not_eq_true', decide_eq_false_iff_not, beq_iff_eq]
    constructor
    · rintro ⟨h1, h2⟩
      refine ⟨by omega, fun i hi => ?_⟩
      have := h1 i hi
      exact ⟨by omega, this.2⟩
    · rintro ⟨h1, h2⟩
      refine ⟨fun i hi => ?_, by omega⟩
      have := h2 i hi
      exact ⟨by omega, this.2⟩
theorem isOrder_ev (n : Nat) (l : List Int) (hn : n ≤ 1000) (h : l.length ≤ 9223372036854775806) : Ev (fun k => impl_isOrder.f k l (n : Int)) (okOrder n l) := by
  unfold impl_isOrder.f okOrder
  by_cases hl : l.length = n
  · rw [decide_eq_true hl, Bool.true_and]
    refine Ev.pos (by omega) (Ev.eq (Ev.all_upto (fun k i => impl_isOrder.l0 k l (n : Int) i) (fun j => decide ((j : Int) ∈ l)) true n (fun i hi ho r hr => ?_) (fun i hi ho => ?_) ?_) (by simp))
    · have hc := Contains_ev l (i : Int) h
      rw [ho] at hc
      have hx : Ev (fun k => (slices_Contains_int64_int64.f k l (i : Int)).bind fun t => if t = true then impl_isOrder.l0 k l (n : Int) ((i + 1 : Nat) : Int) else some false) r := Ev.bind hc (Ev.pos rfl hr)
      refine Ev.round hx fun k => ?_
      simp only [impl_isOrder.l0]
      rw [if_pos (by omega), wnat i n hi (by omega)]
    · have hc := Contains_ev l (i : Int) h
      rw [ho] at hc
      have hx : Ev (fun k => (slices_Contains_int64_int64.f k l (i : Int)).bind fun t => if t = true then impl_isOrder.l0 k l (n : Int) ((i + 1 : Nat) : Int) else some false) false := Ev.bind hc (Ev.neg (by simp) (Ev.now _))
      refine Ev.round hx fun k => ?_
      simp only [impl_isOrder.l0]
      rw [if_pos (by omega), wnat i n hi (by omega)]
    · refine Ev.round (Ev.now _) fun k => ?_
      simp only [impl_isOrder.l0]
      rw [if_neg (by omega)]
  · rw [decide_eq_false hl, Bool.false_and]
    exact Ev.neg (by omega) (Ev.now _)
end Go.Proofs.Ytjieacofpegmpaa.Q
end
section
namespace Go.Proofs.Ytjieacofpegmpaa.Q
open Go.RowKit Go.Proofs.YtjieacofpegmpaaW.PrintWords Go.Proofs.YtjieacofpegmpaaW.PrintLast Go.Proofs.YtjieacofpegmpaaW.PrintMore Go.Proofs.Ytjieacofpegmpaa.La Go.Proofs.Ytjieacofpegmpaa.PD
set_option linter.unusedVariables false
set_option linter.unusedSimpArgs false
theorem In_p (a lo hi : Int) : spec_l00In.f a lo hi = some (inB a lo hi) := In_c a lo hi
def okParties (l : List S55) : Bool := decide ((l.length : Int) ≤ 6) && l.all impl_ValidParties.ok
theorem rd_P_nat (xs : List S55) (i : Nat) : rd_T55 xs (i : Int) = xs.getD i z55 := by simp [rd_T55]
theorem l07Parties_ev (l : List S55) (h : l.length ≤ 9223372036854775806) : Ev (fun k => spec_l07Parties.f k l) (okParties l) := by
  unfold spec_l07Parties.f okParties
  rw [Bool.and_comm]
  refine Ev.all_or (fun k i => spec_l07Parties.l0 k l i) impl_ValidParties.ok z55 _ l (fun i hi ho r hr => ?_) (fun i hi ho => ?_) ?_
  · simp only [impl_ValidParties.ok, Bool.and_eq_true] at ho
    refine Ev.round hr fun k => ?_
    simp only [spec_l07Parties.l0, In_p, Option.bind_some, rd_P_nat]
    rw [if_pos (by omega), if_pos (by omega), if_pos ho.1, if_pos ho.2, wnat i l.length hi (by omega)]
  · simp only [impl_ValidParties.ok, Bool.and_eq_false_iff] at ho
    refine Ev.round (Ev.now false) fun k => ?_
    simp only [spec_l07Parties.l0, In_p, Option.bind_some, rd_P_nat]
    rw [if_pos (by omega), if_pos (by omega)]
    rcases ho with ho | ho
    · rw [if_neg (by rw [ho]; simp)]
    · rw [if_neg (c := inB (wrap64 (l.getD i z55).f1) 1 100 = true) (by rw [ho]; simp)]
      split <;> rfl
  · refine Ev.round (Ev.now _) fun k => ?_
    simp only [spec_l07Parties.l0]
    rw [if_neg (by omega)]
theorem ValidParties_f (l : List S55) : impl_ValidParties.f l = some (okParties l) := rfl
theorem okParties_len {l : List S55} (h : okParties l = true) : l.length ≤ 6 := by
  simp only [okParties, Bool.and_eq_true, decide_eq_true_eq] at h
  omega
end Go.Proofs.Ytjieacofpegmpaa.Q
end
section
namespace Go.Proofs.Ytjieacofpegmpaa.Q
open Go.RowKit Go.Proofs.YtjieacofpegmpaaW.PrintWords Go.Proofs.YtjieacofpegmpaaW.PrintLast Go.Proofs.YtjieacofpegmpaaW.PrintMore Go.Proofs.Ytjieacofpegmpaa.La Go.Proofs.Ytjieacofpegmpaa.PD
set_option linter.unusedVariables false
set_option linter.unusedSimpArgs false
def codeO (l0 : List S55) (l1 : List Int) : Int := if okParties l0 = true then (if okOrder l0.length l1 = true then 0 else 4) else 1
theorem Ordered_ev (l0 : List S55) (l1 : List Int) (h0 : l0.length ≤ 1048576) (h1 : l1.length ≤ 1048576) : Ev (fun k => spec_l07Ordered.f k l0 l1) (codeO l0 l1) := by
  unfold spec_l07Ordered.f codeO
  refine Ev.bind (l07Parties_ev l0 (by omega)) ?_
  by_cases hp : okParties l0 = true
  · refine Ev.pos hp ?_
    rw [if_pos hp]
    refine Ev.bind (l07Order_ev l0.length l1 (by have := okParties_len hp; omega) (by omega)) ?_
    by_cases ho : okOrder l0.length l1 = true
    · rw [if_pos ho, if_pos ho]; exact Ev.now _
    · rw [if_neg ho, if_neg ho]; exact Ev.now _
  · rw [if_neg hp]
    exact Ev.neg hp (Ev.now _)
theorem orderCode_ev (l0 : List S55) (l1 : List Int) (h0 : l0.length ≤ 1048576) (h1 : l1.length ≤ 1048576) : Ev (fun k => impl_orderCode.f k l0 l1) (codeO l0 l1) := by
  unfold impl_orderCode.f codeO
  refine Ev.bind (Ev.const (ValidParties_f l0)) ?_
  by_cases hp : okParties l0 = true
  · refine Ev.pos hp ?_
    rw [if_pos hp]
    refine Ev.bind (isOrder_ev l0.length l1 (by have := okParties_len hp; omega) (by omega)) ?_
    refine Ev.bind (Ev.const (show impl_unless.f (okOrder l0.length l1) 4 = some (if okOrder l0.length l1 = true then 0 else 4) from ?_)) (Ev.now _)
    unfold impl_unless.f
    split <;> rfl
  · rw [if_neg hp]
    exact Ev.neg hp (Ev.now _)
end Go.Proofs.Ytjieacofpegmpaa.Q
end
section
namespace Go.Proofs.Ytjieacofpegmpaa.Q
open Go.RowKit Go.Proofs.YtjieacofpegmpaaW.PrintWords Go.Proofs.YtjieacofpegmpaaW.PrintLast Go.Proofs.YtjieacofpegmpaaW.PrintMore Go.Proofs.Ytjieacofpegmpaa.La Go.Proofs.Ytjieacofpegmpaa.PD
set_option linter.unusedVariables false
set_option linter.unusedSimpArgs false
def sumL (h : Int → Int) : List Int → Int
  | [] => 0
  | x :: l => h x + sumL h l
theorem sumL_perm (h : Int → Int) {l l' : List Int} (p : l.Perm l') : sumL h l = sumL h l' := by
  induction p with
  | nil => rfl
  | cons x _ ih => simp only [sumL, ih]
  | swap x y l => simp only [sumL]; omega
  | trans _ _ a b => exact a.trans b
def fromTo (i : Nat) : Nat → List Int
  | 0 => []
  | m + 1 => (i : Int) :: fromTo (i + 1) m
theorem fromTo_len : ∀ (m i : Nat), (fromTo i m).length = m
  | 0, _ => rfl
  | m + 1, i => by simp [fromTo, fromTo_len m]
theorem fromTo_mem : ∀ (m i : Nat) (x : Int), x ∈ fromTo i m ↔ (i : Int) ≤ x ∧ x < (i : Int) + m
  | 0, i, x => by simp [fromTo] <;> omega
  | m + 1, i, x => by
    rw [fromTo, List.mem_cons, fromTo_mem m (i + 1) x]
    omega
theorem perm_of_sub : ∀ (l l' : List Int), l.Nodup → l.length = l'.length → (∀ x ∈ l, x ∈ l') → l.Perm l'
  | [], l', _, hl, _ => by
    have : l' = [] := List.eq_nil_of_length_eq_zero hl.symm
    rw [this]
  | x :: l, l', hd, hl, hs => by
    have hx := hs x (by simp)
    have h1 : l'.Perm (x :: l'.erase x) := List.perm_cons_erase hx
    refine List.Perm.trans (List.Perm.cons x (perm_of_sub l (l'.erase x) (List.nodup_cons.1 hd).2 ?_ (fun y hy => ?_))) h1.symm
    · have := List.length_erase_of_mem hx
      have := List.length_pos_of_mem hx
      simp only [List.length_cons] at hl
      omega
    · have hne : y ≠ x := fun e => (List.nodup_cons.1 hd).1 (e ▸ hy)
      exact (List.mem_erase_of_ne hne).2 (hs y (by simp [hy]))
theorem vO_perm {n : Nat} {p : List Int} (h : vO n p) : p.Perm (fromTo 0 n) :=
  perm_of_sub p _ h.2.1 (by rw [h.1, fromTo_len]) (fun x hx => (fromTo_mem n 0 x).2 (by have := h.2.2 x hx; omega))
def goodPs (Q : List S55) : Prop := Q.length ≤ 6 ∧ ∀ q ∈ Q, goodP q
abbrev aP (Q : List S55) (j : Int) : Int := (rd_T55 Q j).f0
abbrev zP (Q : List S55) (j : Int) : Int := (rd_T55 Q j).f1
theorem good_at {Q : List S55} (h : goodPs Q) {j : Int} (h0 : 0 ≤ j) (h1 : j < (Q.length : Int)) : (0 ≤ aP Q j ∧ aP Q j ≤ 11) ∧ (1 ≤ zP Q j ∧ zP Q j ≤ 7) ∧ wrap64 (aP Q j) = aP Q j ∧ wrap64 (zP Q j) = zP Q j := by
  have e : rd_T55 Q j = Q.getD j.toNat z55 := rfl
  have hg := h.2 _ (getD_mem Q j.toNat z55 (by omega))
  rw [← e] at hg
  have g1 : 0 ≤ aP Q j ∧ aP Q j ≤ 11 := hg.1
  have g2 : 1 ≤ zP Q j ∧ zP Q j ≤ 7 := hg.2
  exact ⟨g1, g2, wint _ (by omega) (by omega), wint _ (by omega) (by omega)⟩
def chainOk (Q : List S55) (ts : List Int) (f : Int) : List Int → Prop
  | [] => True
  | y :: q => rd ts y = mx f (aP Q y) ∧ chainOk Q ts (rd ts y + zP Q y) q
theorem chain_bound {Q : List S55} (hQ : goodPs Q) {ts : List Int} : ∀ (q : List Int) (f F : Int), (∀ y ∈ q, 0 ≤ y ∧ y < (Q.length : Int)) → chainOk Q ts f q → 0 ≤ f → f ≤ F → 11 ≤ F → ∀ y ∈ q, aP Q y ≤ rd ts y ∧ 0 ≤ rd ts y ∧ rd ts y ≤ F + 7 * (q.length : Int)
  | [], _, _, _, _, _, _, _ => fun y hy => absurd hy (by simp)
  | z :: q, f, F, hin, hc, h0, h1, h2 => by
    obtain ⟨c1, c2⟩ := hc
    have hz := hin z (by simp)
    obtain ⟨g1, g2, _, _⟩ := good_at hQ hz.1 hz.2
    have hm : aP Q z ≤ rd ts z ∧ f ≤ rd ts z ∧ rd ts z ≤ F := by
      rw [c1]
      unfold mx
      split <;> omega
    intro y hy
    rcases List.mem_cons.1 hy with rfl | hy
    · simp only [List.length_cons]; omega
    · have := chain_bound hQ q (rd ts z + zP Q z) (F + 7) (fun y hy => hin y (by simp [hy])) c2 (by omega) (by omega) (by omega) y hy
      simp only [List.length_cons]
      omega
theorem rd_set_same (x : List Int) (j v : Int) (h0 : 0 ≤ j) (h1 : j < (x.length : Int)) : rd (x.set j.toNat v) j = v := by
  simp [rd, List.getD_eq_getElem?_getD, List.getElem?_set, show j.toNat < x.length by omega]
theorem rd_set_oth (x : List Int) (j q v : Int) (h0 : 0 ≤ j) (h1 : 0 ≤ q) (hn : q ≠ j) : rd (x.set j.toNat v) q = rd x q := by
  have : j.toNat ≠ q.toNat := by omega
  simp [rd, List.getD_eq_getElem?_getD, List.getElem?_set, this]
theorem times_chain (Q : List S55) (hQ : goodPs Q) (p : List Int) (hp : vO Q.length p) : ∃ ts : List Int, ts.length = Q.length ∧ Ev (fun k => spec_l07Times.f k Q p) ts ∧ Ev (fun k => impl_doorTimes.f k Q p) ts ∧ chainOk Q ts 0 p := by
  obtain ⟨hpl, hpd, hpi⟩ := hp
  have hn := hQ.1
  have key : ∀ (m i : Nat) (x : List Int) (f : Int), i + m = p.length → x.length = Q.length → 0 ≤ f → f ≤ 100 + 20 * (i : Int) →
      ∃ ts : List Int, ts.length = Q.length ∧ Ev (fun k => spec_l07Times.l0 k Q p x f (i : Int)) ts ∧ Ev (fun k => impl_doorTimes.l0 k Q x f p (p.length : Int) (i : Int)) ts ∧ (∀ j : Int, 0 ≤ j → j ∉ p.drop i → rd ts j = rd x j) ∧ chainOk Q ts f (p.drop i) := by
    intro m
    induction m with
    | zero =>
      intro i x f hi hx f0 f1
      obtain rfl : i = p.length := by omega
      refine ⟨x, hx, Ev.round (Ev.now _) fun k => ?_, Ev.round (Ev.now _) fun k => ?_, fun _ _ _ => rfl, ?_⟩
      · simp only [spec_l07Times.l0]; rw [if_neg (by omega)]
      · simp only [impl_doorTimes.l0]; rw [if_neg (by omega)]
      · rw [List.drop_length]; exact trivial
    | succ m ih =>
      intro i x f hi hx f0 f1
      have hil : i < p.length := by omega
      obtain ⟨j0, j1⟩ := hpi _ (getD_mem p i 0 hil)
      obtain ⟨g1, g2, w1, w2⟩ := good_at hQ j0 j1
      have hmx : 0 ≤ mx f (aP Q (p.getD i 0)) ∧ mx f (aP Q (p.getD i 0)) ≤ 100 + 20 * (i : Int) := by unfold mx; split <;> omega
      have wt : wrap64 (mx f (aP Q (p.getD i 0)) + zP Q (p.getD i 0)) = mx f (aP Q (p.getD i 0)) + zP Q (p.getD i 0) := wint _ (by omega) (by omega)
      obtain ⟨ts, h0, h1, h2, h3, h4⟩ := ih (i + 1) (x.set (p.getD i 0).toNat (mx f (aP Q (p.getD i 0)))) (mx f (aP Q (p.getD i 0)) + zP Q (p.getD i 0)) (by omega) (by simpa using hx) (by omega) (by omega)
      have hdr := drop_get p i 0 hil
      have hnd : p.getD i 0 ∉ p.drop (i + 1) := by
        have hd2 : (p.drop i).Nodup := hpd.sublist (List.drop_sublist i p)
        rw [hdr] at hd2
        exact (List.nodup_cons.1 hd2).1
      have hts : rd ts (p.getD i 0) = mx f (aP Q (p.getD i 0)) := by rw [h3 _ j0 hnd, rd_set_same _ _ _ j0 (by omega)]
      refine ⟨ts, h0, Ev.round h1 fun k => ?_, Ev.round h2 fun k => ?_, fun j hj hjn => ?_, ?_⟩
      · simp only [spec_l07Times.l0, rd_nat, Max_mx, Option.bind_some]
        rw [if_pos (by omega), if_pos (by omega), if_pos j0, if_pos j1, if_pos (by omega), wnat i p.length (by omega) (by omega)]
        show spec_l07Times.l0 k Q p (x.set (p.getD i 0).toNat (mx f (wrap64 (aP Q (p.getD i 0))))) (wrap64 (mx f (wrap64 (aP Q (p.getD i 0))) + wrap64 (zP Q (p.getD i 0)))) _ = _
        rw [w1, w2, wt]
      · simp only [impl_doorTimes.l0, rd_nat, Option.bind_some]
        rw [if_pos (by omega), if_pos (by omega), if_pos (by omega), if_pos j0, if_pos j1, if_pos (by omega), rd_set_same _ _ _ j0 (by omega), wnat i p.length (by omega) (by omega)]
        show impl_doorTimes.l0 k Q (x.set (p.getD i 0).toNat (mx f (wrap64 (aP Q (p.getD i 0))))) (wrap64 (mx f (wrap64 (aP Q (p.getD i 0))) + wrap64 (zP Q (p.getD i 0)))) _ _ _ = _
        rw [w1, w2, wt]
      · rw [hdr] at hjn
        have hjn2 : j ≠ p.getD i 0 ∧ j ∉ p.drop (i + 1) := by simpa using hjn
        rw [h3 j hj hjn2.2, rd_set_oth _ _ _ _ j0 hj hjn2.1]
      · rw [hdr]
        refine ⟨hts, ?_⟩
        rw [hts]
        exact h4
  unfold spec_l07Times.f impl_doorTimes.f
  obtain ⟨ts, h0, h1, h2, _, h4⟩ := key p.length 0 (List.replicate ((Q.length : Int)).toNat 0) 0 (by omega) (by simp) (by omega) (by omega)
  exact ⟨ts, h0, Ev.pos (by omega) (Ev.pos (by omega) h1), Ev.pos (by omega) (Ev.pos (by omega) h2), by simpa using h4⟩
abbrev hW (Q : List S55) (ts : List Int) (j : Int) : Int := zP Q j * (rd ts j - aP Q j)
theorem hW_bound {Q : List S55} (hQ : goodPs Q) {ts p : List Int} (hp : vO Q.length p) (hc : chainOk Q ts 0 p) {j : Int} (h0 : 0 ≤ j) (h1 : j < (Q.length : Int)) : (aP Q j ≤ rd ts j ∧ rd ts j ≤ 100) ∧ 0 ≤ hW Q ts j ∧ hW Q ts j ≤ 1000 ∧ wrap64 (rd ts j - aP Q j) = rd ts j - aP Q j ∧ wrap64 (zP Q j * (rd ts j - aP Q j)) = zP Q j * (rd ts j - aP Q j) := by
  have hm : j ∈ p := (vO_perm hp).mem_iff.2 ((fromTo_mem _ _ _).2 (by omega))
  have hb := chain_bound hQ p 0 11 hp.2.2 hc (by omega) (by omega) (by omega) j hm
  obtain ⟨g1, g2, _, _⟩ := good_at hQ h0 h1
  have hl := hp.1
  have hn := hQ.1
  have p0 : 0 ≤ zP Q j * (rd ts j - aP Q j) := Int.mul_nonneg (by omega) (by omega)
  have p1 : zP Q j * (rd ts j - aP Q j) ≤ 7 * 100 := Int.mul_le_mul g2.2 (by omega) (by omega) (by omega)
  exact ⟨⟨hb.1, by omega⟩, p0, by show zP Q j * (rd ts j - aP Q j) ≤ 1000; omega, wint _ (by omega) (by omega), wint _ (by omega) (by omega)⟩
theorem waiting_val (Q : List S55) (hQ : goodPs Q) (p ts : List Int) (hp : vO Q.length p) (hl : ts.length = Q.length) (hc : chainOk Q ts 0 p) : ∀ (m i : Nat) (s : Int), i + m = Q.length → 0 ≤ s → s ≤ 1000 * (i : Int) →
    Ev (fun k => spec_l07Waiting.l0 k Q ts s (i : Int)) (s + sumL (hW Q ts) (fromTo i m)) ∧ Ev (fun k => impl_waiting.l0 k Q s ts (ts.length : Int) (i : Int)) (s + sumL (hW Q ts) (fromTo i m)) ∧ 0 ≤ s + sumL (hW Q ts) (fromTo i m) := by
  intro m
  have hn := hQ.1
  induction m with
  | zero =>
    intro i s hi s0 s1
    obtain rfl : i = Q.length := by omega
    refine ⟨Ev.round (Ev.now _) fun k => ?_, Ev.round (Ev.now _) fun k => ?_, by simp [fromTo, sumL]; exact s0⟩
    · simp only [spec_l07Waiting.l0]; rw [if_neg (by omega)]; simp [fromTo, sumL]
    · simp only [impl_waiting.l0]; rw [if_neg (by omega)]; simp [fromTo, sumL]
  | succ m ih =>
    intro i s hi s0 s1
    obtain ⟨g1, g2, w1, w2⟩ := good_at hQ (j := (i : Int)) (by omega) (by omega)
    obtain ⟨b1, b2, b3, b4, b5⟩ := hW_bound hQ hp hc (j := (i : Int)) (by omega) (by omega)
    have ws : wrap64 (s + hW Q ts (i : Int)) = s + hW Q ts (i : Int) := wint _ (by omega) (by omega)
    obtain ⟨e1, e2, e3⟩ := ih (i + 1) (s + hW Q ts (i : Int)) (by omega) (by omega) (by omega)
    have es : s + sumL (hW Q ts) (fromTo i (m + 1)) = s + hW Q ts (i : Int) + sumL (hW Q ts) (fromTo (i + 1) m) := by
      simp only [fromTo, sumL]; omega
    rw [es]
    refine ⟨Ev.round e1 fun k => ?_, Ev.round e2 fun k => ?_, e3⟩
    · simp only [spec_l07Waiting.l0]
      rw [if_pos (by omega), if_pos (by omega), if_pos (by omega), wnat i Q.length (by omega) (by omega)]
      show spec_l07Waiting.l0 k Q ts (wrap64 (s + wrap64 (wrap64 (zP Q (i : Int)) * wrap64 (rd ts (i : Int) - wrap64 (aP Q (i : Int)))))) _ = _
      rw [w1, w2, b4, b5, ws]
    · simp only [impl_waiting.l0]
      rw [if_pos (by omega), if_pos (by omega), if_pos (by omega), if_pos (by omega), wnat i Q.length (by omega) (by omega)]
      show impl_waiting.l0 k Q (wrap64 (s + wrap64 (wrap64 (zP Q (i : Int)) * wrap64 (rd ts (i : Int) - wrap64 (aP Q (i : Int)))))) _ _ _ = _
      rw [w1, w2, b4, b5, ws]
theorem order_val (Q : List S55) (hQ : goodPs Q) (p : List Int) (hp : vO Q.length p) : ∃ ts : List Int, ts.length = Q.length ∧ chainOk Q ts 0 p ∧ Ev (fun k => spec_l07Times.f k Q p) ts ∧ Ev (fun k => impl_doorTimes.f k Q p) ts ∧
    Ev (fun k => spec_l07Waiting.f k Q p) (sumL (hW Q ts) p) ∧ Ev (fun k => impl_waiting.f k Q p) (sumL (hW Q ts) p) ∧ 0 ≤ sumL (hW Q ts) p := by
  obtain ⟨ts, hl, h1, h2, hc⟩ := times_chain Q hQ p hp
  obtain ⟨e1, e2, e3⟩ := waiting_val Q hQ p ts hp hl hc Q.length 0 0 (Nat.zero_add _) (by omega) (by omega)
  rw [Int.zero_add, ← sumL_perm _ (vO_perm hp)] at e1 e2 e3
  refine ⟨ts, hl, hc, h1, h2, ?_, ?_, e3⟩
  · unfold spec_l07Waiting.f
    exact Ev.bind h1 e1
  · unfold impl_waiting.f
    exact Ev.bind h2 e2
theorem okOrder_vO {n : Nat} {p : List Int} (h : vO n p) : okOrder n p = true := by
  unfold okOrder
  rw [Bool.and_eq_true, List.all_eq_true]
  refine ⟨decide_eq_true h.1, fun j hj => decide_eq_true ((vO_perm h).mem_iff.2 ((fromTo_mem _ _ _).2 ?_))⟩
  have := List.mem_range.1 hj
  omega
theorem okParties_good {Q : List S55} (h : goodPs Q) : okParties Q = true := by
  unfold okParties
  rw [Bool.and_eq_true, List.all_eq_true]
  have hl := h.1
  refine ⟨decide_eq_true (by omega), fun q hq => ?_⟩
  obtain ⟨g1, g2⟩ := h.2 q hq
  unfold impl_ValidParties.ok inB
  rw [wint q.f0 (by omega) (by omega), wint q.f1 (by omega) (by omega)]
  simp
  omega
theorem codeO_good {Q : List S55} (h : goodPs Q) {p : List Int} (hp : vO Q.length p) : codeO Q p = 0 := by
  unfold codeO
  rw [if_pos (okParties_good h), if_pos (okOrder_vO hp)]
theorem Door_val (Q : List S55) (hQ : goodPs Q) (p ts : List Int) (hp : vO Q.length p) (h1 : Ev (fun k => spec_l07Times.f k Q p) ts) (h2 : Ev (fun k => impl_doorTimes.f k Q p) ts) : Ev (fun k => spec_DoorTimes.f k Q p) (ts, 0) ∧ Ev (fun k => impl_DoorTimes.f k Q p) (ts, 0) := by
  have hn := hQ.1
  have hl := hp.1
  have c1 := Ordered_ev Q p (by omega) (by omega)
  have c2 := orderCode_ev Q p (by omega) (by omega)
  rw [codeO_good hQ hp] at c1 c2
  refine ⟨?_, ?_⟩
  · unfold spec_DoorTimes.f
    exact Ev.bind c1 (Ev.pos rfl (Ev.bind h1 (Ev.now _)))
  · unfold impl_DoorTimes.f
    exact Ev.bind c2 (Ev.pos rfl (Ev.bind h2 (Ev.now _)))
theorem Wait_val (Q : List S55) (hQ : goodPs Q) (p : List Int) (v : Int) (hp : vO Q.length p) (h1 : Ev (fun k => spec_l07Waiting.f k Q p) v) (h2 : Ev (fun k => impl_waiting.f k Q p) v) : Ev (fun k => spec_WaitingOf.f k Q p) (v, 0) ∧ Ev (fun k => impl_WaitingOf.f k Q p) (v, 0) := by
  have hn := hQ.1
  have hl := hp.1
  have c1 := Ordered_ev Q p (by omega) (by omega)
  have c2 := orderCode_ev Q p (by omega) (by omega)
  rw [codeO_good hQ hp] at c1 c2
  refine ⟨?_, ?_⟩
  · unfold spec_WaitingOf.f
    exact Ev.bind c1 (Ev.pos rfl (Ev.bind h1 (Ev.now _)))
  · unfold impl_WaitingOf.f
    exact Ev.bind c2 (Ev.pos rfl (Ev.bind h2 (Ev.now _)))
end Go.Proofs.Ytjieacofpegmpaa.Q
end
section
namespace Go.Proofs.Ytjieacofpegmpaa.Q
open Go.RowKit Go.Proofs.YtjieacofpegmpaaW.PrintWords Go.Proofs.YtjieacofpegmpaaW.PrintLast Go.Proofs.YtjieacofpegmpaaW.PrintMore Go.Proofs.Ytjieacofpegmpaa.La Go.Proofs.Ytjieacofpegmpaa.PD
set_option linter.unusedVariables false
set_option linter.unusedSimpArgs false
theorem rdP_get (l : List S55) (i : Nat) : rd_T55 l (i : Int) = l.getD i z55 := by simp [rd_T55]
theorem w16 (a : Int) (h : -32768 ≤ a ∧ a ≤ 32767) : wrap64 a = a := by unfold wrap64; omega
theorem rd_app (L R : List Int) (x : Int) : rd (L ++ x :: R) (L.length : Int) = x := by
  rw [rd_nat, List.getD_eq_getElem?_getD, List.getElem?_append_right (Nat.le_refl _), Nat.sub_self]
  rfl
theorem swap_at (x y : Int) (R : List Int) : ∀ L : List Int, ((L ++ y :: x :: R).set (L.length + 1) y).set L.length x = L ++ x :: y :: R
  | [] => rfl
  | a :: L => by
    have h := swap_at x y R L
    simp only [List.cons_append, List.length_cons, List.set_cons_succ, h]
theorem Inner (Q : List S55) (hQ : Q.length ≤ 6) (hv : ∀ q ∈ Q, 0 ≤ q.f0 ∧ q.f0 ≤ 1000) (i : Nat) (hi : i < Q.length) (rest : List Int) : ∀ (m : Nat) (L R : List Int), L.length = m → L.length + R.length = i → (∀ y ∈ L, 0 ≤ y ∧ y < (Q.length : Int)) → 1 + i + rest.length = Q.length → L.Pairwise (fun a b => aP Q a ≤ aP Q b) → (∀ b ∈ R, aP Q (i : Int) < aP Q b) →
    ∃ (A B : List Int), A ++ B = L ++ R ∧ (∀ a ∈ A, aP Q a ≤ aP Q (i : Int)) ∧ (∀ b ∈ B, aP Q (i : Int) < aP Q b) ∧ (∀ r, Ev (fun k => spec_FirstCome.l0 k Q (A ++ ((i : Int) :: B)) ((i + 1 : Nat) : Int)) r → Ev (fun k => spec_FirstCome.l1 k Q (L ++ R) (i : Int) (L.length : Int)) r) ∧
      (∀ r, Ev (fun k => slices_insertionSortCmpFunc_int64__41.l0 k (A ++ ((i : Int) :: (B ++ rest))) 0 (Q.length : Int) ((i + 1 : Nat) : Int) Q) r → Ev (fun k => slices_insertionSortCmpFunc_int64__41.l1 k (L ++ (i : Int) :: (R ++ rest)) 0 (Q.length : Int) (i : Int) (L.length : Int) Q) r) := by
  intro m
  induction m with
  | zero =>
    intro L R hL hLR hin hr hsL hsR
    obtain rfl : L = [] := List.eq_nil_of_length_eq_zero hL
    have hR : R.length = i := by simpa using hLR
    have w := wnat i 100 (by omega) (by omega)
    refine ⟨[], R, rfl, fun a ha => absurd ha (by simp), hsR, fun r h => ?_, fun r h => ?_⟩
    · refine Ev.succ ?_
      simp only [spec_FirstCome.l1]
      simp only [List.length_nil, List.nil_append, Int.toNat_zero, List.drop_zero, List.take_zero, Int.natCast_zero]
      rw [own_f R (by omega), w]
      refine Ev.neg (by omega) (Ev.pos (by omega) (Ev.pos (by omega) (Ev.bind (a := R) (Ev.now _) (Ev.bind (a := []) (Ev.now _) (Ev.pos (by decide) (Ev.bind (a := [(i : Int)]) (Ev.now _) (Ev.pos (by simp; omega) h)))))))
    · refine Ev.succ ?_
      simp only [slices_insertionSortCmpFunc_int64__41.l1]
      rw [w]
      exact Ev.neg (by simp) h
  | succ m ih =>
    intro L R hL hLR hin hr hsL hsR
    obtain ⟨L', y, rfl⟩ : ∃ L' y, L = L' ++ [y] := ⟨L.dropLast, L.getLast (by intro h; rw [h] at hL; simp at hL), (List.dropLast_concat_getLast _).symm⟩
    have hL' : L'.length = m := by simpa using hL
    have hyin := hin y (by simp)
    have hlen : ((L' ++ [y]).length : Int) = (L'.length : Int) + 1 := by simp
    have w := wnat i 100 (by omega) (by omega)
    have wd : wrap64 (((L' ++ [y]).length : Int) - 1) = (L'.length : Int) := by rw [hlen]; unfold wrap64; simp at hL hLR; omega
    have e0 : L' ++ [y] ++ R = L' ++ y :: R := by simp
    have r1 : rd (L' ++ y :: R) (L'.length : Int) = y := rd_app L' R y
    have hy2 : y = ((y.toNat : Nat) : Int) := by omega
    have hyl : y.toNat < Q.length := by omega
    have q1 := hv _ (getD_mem Q i z55 hi)
    have q2 := hv _ (getD_mem Q y.toNat z55 hyl)
    have g1 : rd_T55 Q (i : Int) = Q.getD i z55 := rdP_get Q i
    have g2 : rd_T55 Q y = Q.getD y.toNat z55 := rfl
    have hall : (L' ++ y :: R).length = i := by rw [← e0, List.length_append]; exact hLR
    have d1 : L' ++ [y] ++ (i : Int) :: (R ++ rest) = L' ++ y :: (i : Int) :: (R ++ rest) := by simp
    have d2 : L' ++ y :: (i : Int) :: (R ++ rest) = (L' ++ [y]) ++ (i : Int) :: (R ++ rest) := by simp
    have s1 : rd (L' ++ y :: (i : Int) :: (R ++ rest)) ((L' ++ [y]).length : Int) = (i : Int) := by rw [d2]; exact rd_app _ _ _
    have s2 : rd (L' ++ y :: (i : Int) :: (R ++ rest)) (L'.length : Int) = y := rd_app L' _ y
    have hdl : (L' ++ y :: (i : Int) :: (R ++ rest)).length = Q.length := by simp at hall ⊢; omega
    have hcmp : impl_FirstCome_2.f (i : Int) y Q = some ((Q.getD i z55).f0 - (Q.getD y.toNat z55).f0) := by
      unfold impl_FirstCome_2.f
      rw [g1, g2, if_pos (by omega), if_pos (by omega), if_pos hyin.1, if_pos hyin.2, w16 (Q.getD i z55).f0 (by omega), w16 (Q.getD y.toNat z55).f0 (by omega), wint _ (by omega) (by omega)]
    have ki : aP Q (i : Int) = (Q.getD i z55).f0 := by unfold aP; rw [g1]
    have ky : aP Q y = (Q.getD y.toNat z55).f0 := by unfold aP; rw [g2]
    by_cases hlt : (Q.getD i z55).f0 < (Q.getD y.toNat z55).f0
    · obtain ⟨A, B, hAB, hA, hB, hs, hp⟩ := ih L' (y :: R) hL' (by simp at hLR ⊢; omega) (fun z hz => hin z (by simp [hz])) hr (List.pairwise_append.1 hsL).1 (fun b hb => by
        rcases List.mem_cons.1 hb with rfl | hb
        · rw [ki, ky]; exact hlt
        · exact hsR b hb)
      refine ⟨A, B, by rw [hAB, e0], hA, hB, fun r h => ?_, fun r h => ?_⟩
      · have h2 := hs r h
        refine Ev.succ ?_
        simp only [spec_FirstCome.l1]
        rw [wd, e0, r1, g1, g2]
        exact Ev.pos (by omega) (Ev.pos (by omega) (Ev.pos (by omega) (Ev.pos (by omega) (Ev.pos (by omega) (Ev.pos hyin.1 (Ev.pos hyin.2 (Ev.pos hlt h2)))))))
      · have h2 := hp r h
        refine Ev.succ ?_
        simp only [slices_insertionSortCmpFunc_int64__41.l1]
        rw [wd, d1, s1, s2, hcmp]
        have e3 : ((L' ++ y :: (i : Int) :: (R ++ rest)).set (((L' ++ [y]).length : Int)).toNat y).set ((L'.length : Int)).toNat (i : Int) = L' ++ (i : Int) :: (y :: R ++ rest) := by
          rw [Int.toNat_natCast, Int.toNat_natCast, List.length_append, List.length_singleton]
          exact swap_at (i : Int) y (R ++ rest) L'
        rw [e3]
        exact Ev.pos (by omega) (Ev.pos (by omega) (Ev.pos (by rw [hdl, hlen]; omega) (Ev.pos (by omega) (Ev.pos (by rw [hdl]; omega) (Ev.bind (Ev.now _) (Ev.pos (by omega) h2))))))
    · refine ⟨L' ++ [y], R, rfl, fun a ha => ?_, hsR, fun r h => ?_, fun r h => ?_⟩
      · have hy3 : aP Q y ≤ aP Q (i : Int) := by rw [ki, ky]; omega
        rcases List.mem_append.1 ha with h | h
        · exact Int.le_trans ((List.pairwise_append.1 hsL).2.2 a h y (by simp)) hy3
        · rw [List.mem_singleton.1 h]; exact hy3
      · have t1 : (L' ++ y :: R).drop (((L' ++ [y]).length : Int)).toNat = R := by rw [Int.toNat_natCast, ← e0, List.drop_left]
        have t2 : (L' ++ y :: R).take (((L' ++ [y]).length : Int)).toNat = L' ++ [y] := by rw [Int.toNat_natCast, ← e0, List.take_left]
        have h3 : Ev (fun k => spec_FirstCome.l0 k Q (L' ++ [y] ++ [(i : Int)] ++ R) ((i + 1 : Nat) : Int)) r := by simpa using h
        have hRl : R.length ≤ 100 := by simp at hLR; omega
        have hLl : (L' ++ [y]).length ≤ 100 := by omega
        refine Ev.succ ?_
        simp only [spec_FirstCome.l1]
        rw [wd, e0, r1, g1, g2, t1, t2, own_f R hRl, w]
        exact Ev.pos (by omega) (Ev.pos (by omega) (Ev.pos (by omega) (Ev.pos (by omega) (Ev.pos (by omega) (Ev.pos hyin.1 (Ev.pos hyin.2 (Ev.neg hlt (Ev.pos (by omega) (Ev.pos (by omega) (Ev.bind (a := R) (Ev.now _) (Ev.bind (a := L' ++ [y]) (Ev.now _) (Ev.pos (by omega) (Ev.bind (a := L' ++ [y] ++ [(i : Int)]) (Ev.now _) (Ev.pos (by simp at hLl ⊢; omega) h3))))))))))))))
      · refine Ev.succ ?_
        simp only [slices_insertionSortCmpFunc_int64__41.l1]
        rw [wd, d1, s1, s2, hcmp, w]
        rw [← d2] at h
        exact Ev.pos (by omega) (Ev.pos (by omega) (Ev.pos (by rw [hdl, hlen]; omega) (Ev.pos (by omega) (Ev.pos (by rw [hdl]; omega) (Ev.bind (Ev.now _) (Ev.neg (by omega) h))))))
def leP (Q : List S55) (a b : Int) : Prop := aP Q a < aP Q b ∨ (aP Q a = aP Q b ∧ a < b)
theorem Outer (Q : List S55) (hQ : Q.length ≤ 6) (hv : ∀ q ∈ Q, 0 ≤ q.f0 ∧ q.f0 ≤ 1000) : ∀ (m i : Nat) (o : List Int), i + m = Q.length → vO i o → o.Pairwise (leP Q) →
    ∃ r : List Int, vO Q.length r ∧ r.Pairwise (leP Q) ∧ Ev (fun k => spec_FirstCome.l0 k Q o (i : Int)) (r, 0) ∧ Ev (fun k => slices_insertionSortCmpFunc_int64__41.l0 k (o ++ fromTo i m) 0 (Q.length : Int) (i : Int) Q) r := by
  intro m
  induction m with
  | zero =>
    intro i o hi ho hs
    obtain rfl : i = Q.length := by omega
    refine ⟨o, ho, hs, ?_, ?_⟩
    · refine Ev.succ ?_
      simp only [spec_FirstCome.l0]
      exact Ev.neg (by omega) (Ev.now _)
    · refine Ev.succ ?_
      simp only [slices_insertionSortCmpFunc_int64__41.l0]
      exact Ev.neg (by omega) (Ev.eq (Ev.now _) (by simp [fromTo]))
  | succ m ih =>
    intro i o hi ho hso
    have hol := ho.1
    obtain ⟨A, B, hAB, hA, hB, hs, hp⟩ := Inner Q hQ hv i (by omega) (fromTo (i + 1) m) o.length o [] rfl (by simpa using hol) (fun y hy => by have := ho.2.2 y hy; omega) (by rw [fromTo_len]; omega) (hso.imp (fun h => by unfold leP at h; omega)) (fun b hb => absurd hb (by simp))
    rw [List.append_nil] at hAB
    have ho2 : vO i (A ++ B) := by rw [hAB]; exact ho
    have hs2 : (A ++ B).Pairwise (leP Q) := by rw [hAB]; exact hso
    obtain ⟨sA, sB, sAB⟩ := List.pairwise_append.1 hs2
    have hs3 : (A ++ ((i : Int) :: B)).Pairwise (leP Q) := by
      refine List.pairwise_append.2 ⟨sA, List.pairwise_cons.2 ⟨fun b hb => .inl (hB b hb), sB⟩, fun a ha b hb => ?_⟩
      rcases List.mem_cons.1 hb with rfl | hb
      · have h1 := hA a ha
        have h2 := (ho2.2.2 a (List.mem_append_left _ ha)).2
        unfold leP
        omega
      · exact sAB a ha b hb
    obtain ⟨r, hrv, hrs, r1, r2⟩ := ih (i + 1) (A ++ ((i : Int) :: B)) (by omega) (vO_ins ho2) hs3
    have e1 := hs _ r1
    have e2 := hp r (by simpa using r2)
    rw [List.append_nil, hol] at e1
    rw [List.nil_append, hol] at e2
    refine ⟨r, hrv, hrs, ?_, ?_⟩
    · refine Ev.succ ?_
      simp only [spec_FirstCome.l0]
      rw [hol]
      exact Ev.pos (by omega) e1
    · refine Ev.succ ?_
      simp only [slices_insertionSortCmpFunc_int64__41.l0, fromTo]
      exact Ev.pos (by omega) e2
theorem Indices (n : Nat) (hn : n ≤ 6) : Ev (fun k => impl_indices__39.f k (n : Int)) (fromTo 0 n) := by
  have key : ∀ (m i : Nat) (x : List Int), i + m = n → x.length = i → Ev (fun k => impl_indices__39.l0 k x (n : Int) (i : Int)) (x ++ fromTo i m) := by
    intro m
    induction m with
    | zero =>
      intro i x hi hx
      refine Ev.succ ?_
      simp only [impl_indices__39.l0]
      exact Ev.neg (by omega) (Ev.eq (Ev.now _) (by simp [fromTo]))
    | succ m ih =>
      intro i x hi hx
      have e := ih (i + 1) (x ++ [(i : Int)]) (by omega) (by simp [hx])
      refine Ev.succ ?_
      simp only [impl_indices__39.l0]
      rw [wnat i 100 (by omega) (by omega)]
      exact Ev.pos (by omega) (Ev.bind (a := true) (Ev.now _) (Ev.pos rfl (Ev.pos (by omega) (Ev.eq e (by simp [fromTo])))))
  unfold impl_indices__39.f
  exact key n 0 [] (Nat.zero_add _) rfl
theorem FirstCome_val (Q : List S55) (hQ : goodPs Q) : ∃ r : List Int, vO Q.length r ∧ r.Pairwise (leP Q) ∧ Ev (fun k => spec_FirstCome.f k Q) (r, 0) ∧ Ev (fun k => impl_FirstCome.f k Q) (r, 0) := by
  have h6 := hQ.1
  have hv : ∀ q ∈ Q, 0 ≤ q.f0 ∧ q.f0 ≤ 1000 := fun q hq => by have := (hQ.2 q hq).1; omega
  have hs := l07Parties_ev Q (by omega)
  rw [okParties_good hQ] at hs
  have hn0 : vO 0 ([] : List Int) := ⟨rfl, List.nodup_nil, fun x hx => absurd hx (by simp)⟩
  obtain ⟨r, hrv, hrs, r1, r2⟩ := Outer Q h6 hv Q.length 0 [] (Nat.zero_add _) hn0 List.Pairwise.nil
  refine ⟨r, hrv, hrs, ?_, ?_⟩
  · unfold spec_FirstCome.f
    exact Ev.bind hs (Ev.pos rfl r1)
  · have e1 : Ev (fun k => slices_insertionSortCmpFunc_int64__41.f k (fromTo 0 Q.length) 0 (Q.length : Int) Q) r := by
      unfold slices_insertionSortCmpFunc_int64__41.f
      by_cases h0 : Q.length = 0
      · have hq : Q = [] := List.eq_nil_of_length_eq_zero h0
        subst hq
        have : r = [] := List.eq_nil_of_length_eq_zero hrv.1
        subst this
        refine Ev.succ ?_
        simp only [slices_insertionSortCmpFunc_int64__41.l0]
        exact Ev.neg (by unfold wrap64; simp) (Ev.eq (Ev.now _) rfl)
      · obtain ⟨m, hm⟩ : ∃ m, Q.length = m + 1 := ⟨Q.length - 1, by omega⟩
        obtain ⟨r', h1v, _, h1, h2⟩ := Outer Q h6 hv m 1 [0] (by omega) ⟨rfl, by simp, fun y hy => by simp at hy; omega⟩ (by simp)
        have e2 : Ev (fun k => slices_insertionSortCmpFunc_int64__41.l0 k (fromTo 0 Q.length) 0 (Q.length : Int) (wrap64 (0 + 1)) Q) r' := by
          have e0 : fromTo 0 (m + 1) = [0] ++ fromTo 1 m := rfl
          have w1 : wrap64 (0 + 1) = ((1 : Nat) : Int) := by unfold wrap64; omega
          rw [hm] at h2
          rw [hm, e0, w1]
          exact h2
        have e3 : Ev (fun k => spec_FirstCome.l0 k Q [] ((0 : Nat) : Int)) (r', 0) := by
          refine Ev.succ ?_
          simp only [spec_FirstCome.l0]
          refine Ev.pos (by omega) (Ev.succ ?_)
          simp only [spec_FirstCome.l1]
          have w2 : wrap64 (((0 : Nat) : Int) + 1) = ((1 : Nat) : Int) := wnat 0 100 (by omega) (by omega)
          rw [w2]
          exact Ev.neg (by decide) (Ev.pos (by decide) (Ev.pos (by decide) (Ev.bind (a := []) (Ev.now _) (Ev.bind (a := []) (Ev.now _) (Ev.pos (by decide) (Ev.bind (a := [((0 : Nat) : Int)]) (Ev.now _) (Ev.pos (by decide) h1)))))))
        have := Ev.uniq r1 e3
        obtain rfl : r = r' := by injection this
        exact e2
    unfold impl_FirstCome.f slices_SortStableFunc_int64_int64__41.f slices_stableCmpFunc_int64__41.f
    refine Ev.bind (Ev.const (ValidParties_f Q)) (Ev.pos (okParties_good hQ) (Ev.bind (Indices Q.length h6) (Ev.bind (Ev.bind (a := r) ?_ (Ev.now _)) (Ev.now _))))
    rw [fromTo_len]
    refine Ev.succ ?_
    simp only [slices_stableCmpFunc_int64__41.l0]
    refine Ev.neg (by omega) (Ev.bind e1 (Ev.succ ?_))
    simp only [slices_stableCmpFunc_int64__41.l1]
    exact Ev.neg (by omega) (Ev.now _)
end Go.Proofs.Ytjieacofpegmpaa.Q
end
section
namespace Go.Proofs.Ytjieacofpegmpaa.Q
open Go.RowKit Go.Proofs.YtjieacofpegmpaaW.PrintWords Go.Proofs.YtjieacofpegmpaaW.PrintLast Go.Proofs.YtjieacofpegmpaaW.PrintMore Go.Proofs.Ytjieacofpegmpaa.La Go.Proofs.Ytjieacofpegmpaa.PD
set_option linter.unusedVariables false
set_option linter.unusedSimpArgs false
theorem Ev.foldlM {σ α : Type} (f : Nat → σ → α → Option σ) (g : σ → α → σ) (xs : List α) (h : ∀ x ∈ xs, ∀ s, Ev (fun k => f k s x) (g s x)) : ∀ s, Ev (fun k => xs.foldlM (f k) s) (xs.foldl g s) := by
  induction xs with
  | nil => intro s; simpa using Ev.now s
  | cons x xs ih =>
    intro s
    simp only [List.foldlM_cons, List.foldl_cons]
    exact Ev.bind (h x (by simp) s) (ih (fun y hy => h y (by simp [hy])) _)
theorem foldl_flat {α β σ : Type} (h : α → List β) (g : σ → β → σ) : ∀ (xs : List α) (s : σ), (xs.flatMap h).foldl g s = xs.foldl (fun s x => (h x).foldl g s) s
  | [], s => rfl
  | x :: xs, s => by
    simp only [List.flatMap_cons, List.foldl_append, List.foldl_cons]
    exact foldl_flat h g xs _
theorem Own_f (l : List Int) (h : l.length ≤ 1048576) : spec_l00Own.f l = some l := by
  unfold spec_l00Own.f
  simp only [Option.bind_some, List.nil_append, List.length_nil]
  rw [if_pos (by omega)]
theorem flat_len {α β : Type} (h : α → List β) (c : Nat) : ∀ (xs : List α), (∀ x ∈ xs, (h x).length ≤ c) → (xs.flatMap h).length ≤ xs.length * c
  | [], _ => by simp
  | x :: xs, hb => by
    have h1 := hb x (by simp)
    have h2 := flat_len h c xs (fun y hy => hb y (by simp [hy]))
    simp only [List.flatMap_cons, List.length_append, List.length_cons, Nat.succ_mul]
    omega
end Go.Proofs.Ytjieacofpegmpaa.Q
end
section
namespace Go.Proofs.Ytjieacofpegmpaa.Q
open Go.RowKit Go.Proofs.YtjieacofpegmpaaW.PrintWords Go.Proofs.YtjieacofpegmpaaW.PrintLast Go.Proofs.YtjieacofpegmpaaW.PrintMore Go.Proofs.Ytjieacofpegmpaa.La Go.Proofs.Ytjieacofpegmpaa.PD
set_option linter.unusedVariables false
set_option linter.unusedSimpArgs false
theorem rd_set_ne (x : List Int) (j q v : Int) (h0 : 0 ≤ j) (h1 : 0 ≤ q) (hn : q ≠ j) : rd (x.set j.toNat v) q = rd x q := by
  have : j.toNat ≠ q.toNat := by omega
  simp [rd, List.getD_eq_getElem?_getD, List.getElem?_set, this]
theorem times_all (l0 : List S55) (l1 : List Int) (hl : l0.length ≤ 1048576) (hl1 : l1.length ≤ 6) (hin : ∀ x ∈ l1, 0 ≤ x ∧ x < l0.length)
    (H : ∀ j : Int, 0 ≤ j → j < l0.length → 0 ≤ wrap64 (rd_T55 l0 j).f0 ∧ wrap64 (rd_T55 l0 j).f0 ≤ 1000 ∧ 0 ≤ wrap64 (rd_T55 l0 j).f1 ∧ wrap64 (rd_T55 l0 j).f1 ≤ 100) :
    ∃ ts : List Int, ts.length = l0.length ∧ Ev (fun k => spec_l07Times.f k l0 l1) ts ∧ Ev (fun k => impl_doorTimes.f k l0 l1) ts ∧ ∀ j : Int, j ∈ l1 → wrap64 (rd_T55 l0 j).f0 ≤ rd ts j ∧ rd ts j ≤ 2000 := by
  unfold spec_l07Times.f impl_doorTimes.f
  have key : ∀ (m i : Nat) (x : List Int) (f : Int), i + m = l1.length → x.length = l0.length → 0 ≤ f → f ≤ 1000 + 100 * (i : Int) → (∀ j : Int, j ∈ l1.take i → wrap64 (rd_T55 l0 j).f0 ≤ rd x j ∧ rd x j ≤ 2000) → ∃ ts : List Int, ts.length = l0.length ∧ Ev (fun k => spec_l07Times.l0 k l0 l1 x f (i : Int)) ts ∧ Ev (fun k => impl_doorTimes.l0 k l0 x f l1 (l1.length : Int) (i : Int)) ts ∧ ∀ j : Int, j ∈ l1 → wrap64 (rd_T55 l0 j).f0 ≤ rd ts j ∧ rd ts j ≤ 2000 := by
    intro m
    induction m with
    | zero =>
      intro i x f hi hx f0 f1 hb
      obtain rfl : i = l1.length := by omega
      refine ⟨x, hx, Ev.round (Ev.now _) fun k => ?_, Ev.round (Ev.now _) fun k => ?_, by simpa using hb⟩
      · simp only [spec_l07Times.l0]; rw [if_neg (by omega)]
      · simp only [impl_doorTimes.l0]; rw [if_neg (by omega)]
    | succ m ih =>
      intro i x f hi hx f0 f1 hb
      obtain ⟨j0, j1⟩ := hin _ (getD_mem l1 i 0 (by omega))
      obtain ⟨a0, a1, b0, b1⟩ := H _ j0 j1
      have v0 : wrap64 (rd_T55 l0 (l1.getD i 0)).f0 ≤ mx f (wrap64 (rd_T55 l0 (l1.getD i 0)).f0) := by unfold mx; split <;> omega
      have v1 : mx f (wrap64 (rd_T55 l0 (l1.getD i 0)).f0) ≤ 1000 + 100 * (i : Int) := by unfold mx; split <;> omega
      have v2 : 0 ≤ mx f (wrap64 (rd_T55 l0 (l1.getD i 0)).f0) := by omega
      have ew : wrap64 (mx f (wrap64 (rd_T55 l0 (l1.getD i 0)).f0) + wrap64 (rd_T55 l0 (l1.getD i 0)).f1) = mx f (wrap64 (rd_T55 l0 (l1.getD i 0)).f0) + wrap64 (rd_T55 l0 (l1.getD i 0)).f1 := wint _ (by omega) (by omega)
      obtain ⟨ts, h0, h1, h2, h3⟩ := ih (i + 1) (x.set (l1.getD i 0).toNat (mx f (wrap64 (rd_T55 l0 (l1.getD i 0)).f0))) (wrap64 (mx f (wrap64 (rd_T55 l0 (l1.getD i 0)).f0) + wrap64 (rd_T55 l0 (l1.getD i 0)).f1)) (by omega) (by simpa using hx) (by rw [ew]; omega) (by rw [ew]; omega) (fun j hj => by
        rw [take_get l1 i 0 (by omega)] at hj
        by_cases he : j = l1.getD i 0
        · subst he
          rw [rd_set _ _ _ j0 (by omega)]
          omega
        · have hj' : j ∈ l1.take i := by
            simp only [List.mem_append, List.mem_singleton] at hj
            rcases hj with hj | hj
            · exact hj
            · exact absurd hj he
          have hq := hin j (List.mem_of_mem_take hj')
          rw [rd_set_ne _ _ _ _ j0 hq.1 he]
          exact hb j hj')
      refine ⟨ts, h0, Ev.round h1 fun k => ?_, Ev.round h2 fun k => ?_, h3⟩
      · simp only [spec_l07Times.l0, rd_nat, Max_mx, Option.bind_some]
        rw [if_pos (by omega), if_pos (by omega), if_pos j0, if_pos j1, if_pos (by omega), wnat i l1.length (by omega) (by omega)]
      · simp only [impl_doorTimes.l0, rd_nat, Option.bind_some]
        rw [if_pos (by omega), if_pos (by omega), if_pos (by omega), if_pos j0, if_pos j1, if_pos (by omega), rd_set _ _ _ j0 (by omega), wnat i l1.length (by omega) (by omega)]
  obtain ⟨ts, h0, h1, h2, h3⟩ := key l1.length 0 (List.replicate ((l0.length : Int)).toNat 0) 0 (by omega) (by simp) (by omega) (by omega) (by simp)
  exact ⟨ts, h0, Ev.pos (by omega) (Ev.pos (by omega) h1), Ev.pos (by omega) (Ev.pos (by omega) h2), h3⟩
end Go.Proofs.Ytjieacofpegmpaa.Q
namespace Go.Proofs.Ytjieacofpegmpaa.Q
open Go.RowKit Go.Proofs.YtjieacofpegmpaaW.PrintWords Go.Proofs.YtjieacofpegmpaaW.PrintLast Go.Proofs.YtjieacofpegmpaaW.PrintMore Go.Proofs.Ytjieacofpegmpaa.La Go.Proofs.Ytjieacofpegmpaa.PD
set_option linter.unusedVariables false
set_option linter.unusedSimpArgs false
end Go.Proofs.Ytjieacofpegmpaa.Q
namespace Go.Proofs.Ytjieacofpegmpaa.Q
open Go.RowKit Go.Proofs.YtjieacofpegmpaaW.PrintWords Go.Proofs.YtjieacofpegmpaaW.PrintLast Go.Proofs.YtjieacofpegmpaaW.PrintMore Go.Proofs.Ytjieacofpegmpaa.La Go.Proofs.Ytjieacofpegmpaa.PD
set_option linter.unusedVariables false
set_option linter.unusedSimpArgs false
def ordersL (n : Nat) : Nat → List Int → List (List Int)
  | 0, l => [l]
  | m + 1, l => (List.range n).flatMap fun (i : Nat) => if (i : Int) ∈ l then [] else ordersL n m (l ++ [(i : Int)])
theorem ordersL_len (n : Nat) : ∀ (m : Nat) (l : List Int), (ordersL n m l).length ≤ n ^ m
  | 0, l => by simp [ordersL]
  | m + 1, l => by
    simp only [ordersL]
    refine Nat.le_trans (flat_len _ (n ^ m) _ (fun i _ => ?_)) (by rw [List.length_range, Nat.pow_succ, Nat.mul_comm]; exact Nat.le_refl _)
    split
    · simp
    · exact ordersL_len n m _
theorem ordersL_in (n : Nat) : ∀ (m : Nat) (l : List Int), l.Nodup → (∀ x : Int, x ∈ l → 0 ≤ x ∧ x < (n : Int)) → ∀ p ∈ ordersL n m l, p.length = l.length + m ∧ p.Nodup ∧ ∀ x : Int, x ∈ p → 0 ≤ x ∧ x < (n : Int)
  | 0, l, hd, h, p, hp => by
    simp only [ordersL, List.mem_singleton] at hp
    subst hp
    exact ⟨rfl, hd, h⟩
  | m + 1, l, hd, h, p, hp => by
    simp only [ordersL, List.mem_flatMap, List.mem_range] at hp
    obtain ⟨i, hi, hp⟩ := hp
    split at hp
    · simp at hp
    · rename_i hni
      have := ordersL_in n m (l ++ [(i : Int)]) (by
        rw [List.nodup_append]
        refine ⟨hd, by simp, fun a ha b hb => ?_⟩
        simp only [List.mem_singleton] at hb
        subst hb
        intro e
        exact hni (e ▸ ha)) (fun x hx => by
        simp only [List.mem_append, List.mem_singleton] at hx
        rcases hx with hx | rfl
        · exact h x hx
        · omega) p hp
      simp only [List.length_append, List.length_singleton] at this
      exact ⟨by omega, this.2⟩
theorem Orders_ev (n : Nat) (h0 : n ≤ 6) : ∀ (m : Nat) (l : List Int), l.length + m = n → Ev (fun k => spec_l07Orders.f k (n : Int) l) (ordersL n m l) := by
  intro m
  induction m with
  | zero =>
    intro l hl
    refine Ev.succ ?_
    simp only [spec_l07Orders.f]
    exact Ev.pos (by omega) (Ev.bind (Ev.const (Own_f l (by omega))) (Ev.now _))
  | succ m ih =>
    intro l hl
    have hpow : ∀ q : Nat, q ≤ 6 → n ^ q ≤ 46656 := fun q hq => Nat.le_trans (Nat.pow_le_pow_left h0 q) (Nat.le_trans (Nat.pow_le_pow_right (by omega) hq) (by decide))
    refine Ev.succ ?_
    simp only [spec_l07Orders.f]
    refine Ev.neg (by omega) ?_
    have key : ∀ (q i : Nat) (acc : List (List Int)), i + q = n → acc.length ≤ 46656 * i → Ev (fun k => spec_l07Orders.l0 k (n : Int) l acc (i : Int)) (acc ++ ((List.range n).drop i).flatMap fun (i : Nat) => if (i : Int) ∈ l then [] else ordersL n m (l ++ [(i : Int)])) := by
      intro q
      induction q with
      | zero =>
        intro i acc hi ha
        obtain rfl : i = n := by omega
        refine Ev.succ ?_
        simp only [spec_l07Orders.l0]
        refine Ev.neg (by omega) (Ev.eq (Ev.now acc) ?_)
        rw [List.drop_of_length_le (by simp)]
        simp
      | succ q ihn =>
        intro i acc hi ha
        have hd : (List.range n).drop i = i :: (List.range n).drop (i + 1) := by
          rw [List.drop_eq_getElem_cons (by simpa using (by omega : i < n))]
          simp
        refine Ev.succ ?_
        simp only [spec_l07Orders.l0]
        refine Ev.pos (by omega) (Ev.bind (Has_ev l (i : Int) (by omega)) ?_)
        rw [hd]
        simp only [List.flatMap_cons]
        have hw : wrap64 ((i : Int) + 1) = ((i + 1 : Nat) : Int) := wnat i n (by omega) (by omega)
        by_cases hm : (i : Int) ∈ l
        · refine Ev.pos (by simpa using hm) ?_
          rw [hw, if_pos hm]
          exact Ev.eq (ihn (i + 1) acc (by omega) (by omega)) (by simp)
        · have hb := Nat.le_trans (ordersL_len n m (l ++ [(i : Int)])) (hpow m (by omega))
          refine Ev.neg (by simpa using hm) (Ev.bind (Ev.const (Own_f l (by omega))) (Ev.pos (by omega) (Ev.bind (ih (l ++ [(i : Int)]) (by simp; omega)) (Ev.pos (by omega) ?_))))
          rw [hw, if_neg hm]
          refine Ev.eq (ihn (i + 1) (acc ++ ordersL n m (l ++ [(i : Int)])) (by omega) (by rw [List.length_append]; omega)) ?_
          simp [List.append_assoc]
    simpa [ordersL] using key n 0 [] (by omega) (by simp)
theorem ordersM_ev {σ : Type} (n : Nat) (step : Nat → σ → List Int → Option σ) (g : σ → List Int → σ) (hs : ∀ s p, p.length = n → p.Nodup → (∀ x : Int, x ∈ p → 0 ≤ x ∧ x < (n : Int)) → Ev (fun k => step k s p) (g s p)) :
    ∀ (m : Nat) (l : List Int) (s : σ), l.length + m = n → l.Nodup → (∀ x : Int, x ∈ l → 0 ≤ x ∧ x < (n : Int)) → Ev (fun k => ordersM n (step k) (m + 1) l s) ((ordersL n m l).foldl g s) := by
  intro m
  induction m with
  | zero =>
    intro l s hl hd hin
    simp only [ordersM]
    exact Ev.pos (by omega) (by simpa [ordersL] using hs s l (by omega) hd hin)
  | succ m ih =>
    intro l s hl hd hin
    rw [ordersL, foldl_flat]
    unfold ordersM
    refine Ev.neg (by omega) (Ev.foldlM _ _ _ (fun i hi s' => ?_) s)
    have hi' : i < n := by simpa using hi
    by_cases hm : (i : Int) ∈ l
    · simp only [if_pos hm]
      simpa using Ev.now s'
    · simp only [if_neg hm]
      exact ih (l ++ [(i : Int)]) s' (by simp; omega) (by
        rw [List.nodup_append]
        refine ⟨hd, by simp, fun a ha b hb => ?_⟩
        simp only [List.mem_singleton] at hb
        subst hb
        intro e
        exact hm (e ▸ ha)) (fun x hx => by
        simp only [List.mem_append, List.mem_singleton] at hx
        rcases hx with hx | rfl
        · exact hin x hx
        · omega)
end Go.Proofs.Ytjieacofpegmpaa.Q
namespace Go.Proofs.Ytjieacofpegmpaa.Q
open Go.RowKit Go.Proofs.YtjieacofpegmpaaW.PrintWords Go.Proofs.YtjieacofpegmpaaW.PrintLast Go.Proofs.YtjieacofpegmpaaW.PrintMore Go.Proofs.Ytjieacofpegmpaa.La Go.Proofs.Ytjieacofpegmpaa.PD
set_option linter.unusedVariables false
set_option linter.unusedSimpArgs false
def lstepB (num : List Int → Int) (s : List Int × Int) (p : List Int) : List Int × Int := if s.2 < 0 then (p, num p) else if num p < s.2 then (p, num p) else s
theorem rd_L_natB (xs : List (List Int)) (i : Nat) : rd_L6 xs (i : Int) = xs.getD i [] := by simp [rd_L6]
theorem best_loop (l0 : List S55) (g : List Int → Int) (ps : List (List Int)) (hn : ps.length ≤ 1048576) (hm : ∀ p ∈ ps, Ev (fun k => spec_l07Waiting.f k l0 p) (g p) ∧ 0 ≤ g p) :
    ∀ (m i : Nat) (s : List Int × Int), i + m = ps.length → 0 ≤ s.2 → Ev (fun k => spec_BestDoor.l0 k l0 ps s.1 s.2 (i : Int)) (((ps.drop i).foldl (lstepB g) s).1, ((ps.drop i).foldl (lstepB g) s).2, 0) := by
  intro m
  induction m with
  | zero =>
    intro i s hi hs
    obtain rfl : i = ps.length := by omega
    rw [List.drop_length]
    refine Ev.succ ?_
    simp only [spec_BestDoor.l0]
    exact Ev.neg (by omega) (Ev.now _)
  | succ m ih =>
    intro i s hi hs
    have hx := hm _ (getD_mem ps i [] (by omega))
    rw [drop_get ps i [] (by omega), List.foldl_cons]
    refine Ev.succ ?_
    simp only [spec_BestDoor.l0, rd_L_natB]
    refine Ev.pos (by omega) (Ev.pos (by omega) (Ev.bind hx.1 ?_))
    rw [wnat i ps.length (by omega) (by omega)]
    by_cases hc : g (ps.getD i []) < s.2
    · have e : lstepB g s (ps.getD i []) = (ps.getD i [], g (ps.getD i [])) := by rw [lstepB, if_neg (by omega), if_pos hc]
      rw [e]
      exact Ev.pos hc (ih (i + 1) (ps.getD i [], g (ps.getD i [])) (by omega) hx.2)
    · have e : lstepB g s (ps.getD i []) = s := by rw [lstepB, if_neg (by omega), if_neg hc]
      rw [e]
      exact Ev.neg hc (ih (i + 1) s (by omega) hs)
theorem bestStep_ev (l0 : List S55) (g : List Int → Int) (s : List Int × Int) (p : List Int) (h : Ev (fun k => impl_waiting.f k l0 p) (g p)) : Ev (fun k => bestStep k l0 s p) (lstepB g s p) := by
  unfold bestStep lstepB
  refine Ev.bind h ?_
  by_cases h1 : s.2 < 0
  · rw [if_pos h1, if_pos h1]; exact Ev.now _
  · rw [if_neg h1, if_neg h1]
    by_cases h2 : g p < s.2
    · rw [if_pos h2, if_pos h2]; exact Ev.now _
    · rw [if_neg h2, if_neg h2]; exact Ev.now _
theorem order_some (n : Nat) : ∀ (m : Nat) (l : List Int), l.length + m = n → l.Nodup → (∀ x : Int, x ∈ l → 0 ≤ x ∧ x < (n : Int)) → ordersL n m l ≠ []
  | 0, l, _, _, _ => by simp [ordersL]
  | m + 1, l, hl, hd, hin => by
    intro he
    have hmiss : ∃ j : Nat, j < n ∧ (j : Int) ∉ l := by
      refine Classical.byContradiction fun hno => ?_
      have := sub_len (upI n) l (upI_nodup n) (fun x hx => by
        have hx' := (mem_upI n x).1 hx
        refine Classical.byContradiction fun hx2 => hno ⟨x.toNat, by omega, ?_⟩
        rw [show ((x.toNat : Nat) : Int) = x by omega]
        exact hx2)
      rw [upI_len] at this
      omega
    obtain ⟨j, hj, hjl⟩ := hmiss
    have := order_some n m (l ++ [(j : Int)]) (by simp; omega) (by
      rw [List.nodup_append]
      refine ⟨hd, by simp, fun a ha b hb => ?_⟩
      simp only [List.mem_singleton] at hb
      subst hb
      intro e
      exact hjl (e ▸ ha)) (fun x hx => by
      simp only [List.mem_append, List.mem_singleton] at hx
      rcases hx with hx | rfl
      · exact hin x hx
      · omega)
    apply this
    rw [ordersL, List.flatMap_eq_nil_iff] at he
    have := he j (by simpa using hj)
    rwa [if_neg hjl] at this
end Go.Proofs.Ytjieacofpegmpaa.Q
end
section
namespace Go.Proofs.Ytjieacofpegmpaa.Q
open Go.RowKit Go.Proofs.YtjieacofpegmpaaW.PrintWords Go.Proofs.YtjieacofpegmpaaW.PrintLast Go.Proofs.YtjieacofpegmpaaW.PrintMore Go.Proofs.Ytjieacofpegmpaa.La Go.Proofs.Ytjieacofpegmpaa.PD
set_option linter.unusedVariables false
set_option linter.unusedSimpArgs false
theorem ordersL_all (n : Nat) : ∀ (m : Nat) (l q : List Int), q.length = m → (l ++ q).Nodup → (∀ x ∈ q, 0 ≤ x ∧ x < (n : Int)) → l ++ q ∈ ordersL n m l
  | 0, l, q, hq, _, _ => by
    obtain rfl : q = [] := List.eq_nil_of_length_eq_zero hq
    simp [ordersL]
  | m + 1, l, q, hq, hd, hin => by
    cases q with
    | nil => simp at hq
    | cons y q =>
      have hy := hin y (by simp)
      have e : l ++ y :: q = (l ++ [y]) ++ q := by simp
      rw [e] at hd ⊢
      have ih := ordersL_all n m (l ++ [y]) q (by simpa using hq) hd (fun x hx => hin x (by simp [hx]))
      have hyl : y ∉ l := by
        have h2 := (List.nodup_append.1 hd).1
        have h3 := (List.nodup_append.1 h2).2.2
        intro h
        exact h3 y h y (by simp) rfl
      rw [ordersL, List.mem_flatMap]
      refine ⟨y.toNat, List.mem_range.2 (by omega), ?_⟩
      rw [show ((y.toNat : Nat) : Int) = y by omega, if_neg hyl]
      exact ih
theorem fold_min (g : List Int → Int) : ∀ (qs : List (List Int)) (s : List Int × Int), 0 ≤ s.2 → (∀ q ∈ qs, 0 ≤ g q) → (qs.foldl (lstepB g) s).2 ≤ s.2 ∧ (∀ q ∈ qs, (qs.foldl (lstepB g) s).2 ≤ g q) ∧ (qs.foldl (lstepB g) s = s ∨ ∃ q ∈ qs, qs.foldl (lstepB g) s = (q, g q))
  | [], s, _, _ => ⟨Int.le_refl _, fun q hq => absurd hq (by simp), .inl rfl⟩
  | q :: qs, s, h0, hg => by
    have hq := hg q (by simp)
    rw [List.foldl_cons]
    by_cases h : g q < s.2
    · have e : lstepB g s q = (q, g q) := by unfold lstepB; rw [if_neg (by omega), if_pos h]
      rw [e]
      obtain ⟨a, b, c⟩ := fold_min g qs (q, g q) hq (fun z hz => hg z (by simp [hz]))
      have a' : (qs.foldl (lstepB g) (q, g q)).2 ≤ g q := a
      refine ⟨by omega, fun z hz => ?_, ?_⟩
      · rcases List.mem_cons.1 hz with rfl | hz
        · exact a'
        · exact b z hz
      · rcases c with c | ⟨z, hz, c⟩
        · exact .inr ⟨q, by simp, c⟩
        · exact .inr ⟨z, by simp [hz], c⟩
    · have e : lstepB g s q = s := by unfold lstepB; rw [if_neg (by omega), if_neg h]
      rw [e]
      obtain ⟨a, b, c⟩ := fold_min g qs s h0 (fun z hz => hg z (by simp [hz]))
      refine ⟨a, fun z hz => ?_, ?_⟩
      · rcases List.mem_cons.1 hz with rfl | hz
        · omega
        · exact b z hz
      · rcases c with c | ⟨z, hz, c⟩
        · exact .inl c
        · exact .inr ⟨z, by simp [hz], c⟩
theorem Best_val (Q : List S55) (hQ : goodPs Q) : ∃ (best : List Int) (least : Int), vO Q.length best ∧ Ev (fun k => spec_BestDoor.f k Q) (best, least, 0) ∧ Ev (fun k => impl_BestDoor.f k Q) (best, least, 0) ∧
    Ev (fun k => spec_l07Waiting.f k Q best) least ∧ Ev (fun k => impl_waiting.f k Q best) least ∧ ∀ (p : List Int) (v : Int), vO Q.length p → Ev (fun k => spec_l07Waiting.f k Q p) v → least ≤ v := by
  have hl := hQ.1
  have hpar := l07Parties_ev Q (by omega)
  rw [okParties_good hQ] at hpar
  have hall : ∀ p : List Int, ∃ r : Int, vO Q.length p → Ev (fun k => spec_l07Waiting.f k Q p) r ∧ Ev (fun k => impl_waiting.f k Q p) r ∧ 0 ≤ r := by
    intro p
    by_cases hp : vO Q.length p
    · obtain ⟨ts, _, _, _, _, g1, g2, g3⟩ := order_val Q hQ p hp
      exact ⟨_, fun _ => ⟨g1, g2, g3⟩⟩
    · exact ⟨0, fun h => absurd h hp⟩
  have hg := fun p => (hall p).choose_spec
  generalize hgg : (fun p => (hall p).choose) = g at *
  have hg2 : ∀ p : List Int, vO Q.length p → Ev (fun k => spec_l07Waiting.f k Q p) (g p) ∧ Ev (fun k => impl_waiting.f k Q p) (g p) ∧ 0 ≤ g p := fun p h => by
    subst hgg
    exact hg p h
  have hp := Orders_ev Q.length hl Q.length [] (by simp)
  have hm := ordersM_ev Q.length (fun k => bestStep k Q) (lstepB g) (fun s p a b c => bestStep_ev Q _ s p (hg2 p ⟨a, b, c⟩).2.1) Q.length [] (([] : List Int), (-1 : Int)) (by simp) (by simp) (by simp)
  have hin := ordersL_in Q.length Q.length [] (by simp) (by simp)
  have hne := order_some Q.length Q.length [] (by simp) (by simp) (by simp)
  have hcomp : ∀ p : List Int, vO Q.length p → p ∈ ordersL Q.length Q.length [] := fun p h => by
    have := ordersL_all Q.length Q.length [] p h.1 (by simpa using h.2.1) h.2.2
    simpa using this
  have hlen := Nat.le_trans (ordersL_len Q.length Q.length []) (Nat.le_trans (Nat.pow_le_pow_left hl Q.length) (Nat.le_trans (Nat.pow_le_pow_right (by omega) hl) (show 6 ^ 6 ≤ 46656 by decide)))
  generalize hps : ordersL Q.length Q.length [] = ps at *
  cases ps with
  | nil => exact absurd rfl hne
  | cons p ps =>
    have hv : ∀ q ∈ p :: ps, vO Q.length q := fun q hq => ⟨by have := (hin q hq).1; simpa using this, (hin q hq).2.1, (hin q hq).2.2⟩
    have hq : ∀ q ∈ p :: ps, Ev (fun k => spec_l07Waiting.f k Q q) (g q) ∧ 0 ≤ g q := fun q h => ⟨(hg2 q (hv q h)).1, (hg2 q (hv q h)).2.2⟩
    have hp0 := (hq p (by simp)).2
    have hloop := best_loop Q g (p :: ps) (by omega) hq ps.length 1 (p, g p) (by simp; omega) hp0
    have e1 : (p :: ps).foldl (lstepB g) (([] : List Int), (-1 : Int)) = ps.foldl (lstepB g) (p, g p) := by
      rw [List.foldl_cons]
      congr 1
    rw [e1] at hm
    obtain ⟨f1, f2, f3⟩ := fold_min g ps (p, g p) hp0 (fun q h => (hq q (by simp [h])).2)
    have hbest : ∃ q, vO Q.length q ∧ ps.foldl (lstepB g) (p, g p) = (q, g q) := by
      rcases f3 with h | ⟨q, h1, h2⟩
      · exact ⟨p, hv p (by simp), h⟩
      · exact ⟨q, hv q (by simp [h1]), h2⟩
    obtain ⟨q, hqv, hqe⟩ := hbest
    rw [hqe] at hm f1 f2
    have hdrop : (p :: ps).drop 1 = ps := rfl
    rw [hdrop, hqe] at hloop
    obtain ⟨b1, b2, b3⟩ := hg2 q hqv
    refine ⟨q, g q, hqv, ?_, ?_, b1, b2, fun z v hz hzv => ?_⟩
    · unfold spec_BestDoor.f
      refine Ev.bind hpar (Ev.pos rfl (Ev.bind hp (Ev.pos (by simp <;> omega) ?_)))
      rw [show rd_L6 (p :: ps) 0 = p by simp [rd_L6]]
      exact Ev.bind (hq p (by simp)).1 hloop
    · unfold impl_BestDoor.f
      exact Ev.bind (Ev.const (ValidParties_f Q)) (Ev.pos (okParties_good hQ) (Ev.bind hm (Ev.now _)))
    · obtain rfl := Ev.uniq hzv (hg2 z hz).1
      rcases List.mem_cons.1 (hcomp z hz) with rfl | h
      · exact f1
      · exact f2 z h
theorem Long_val (Q : List S55) (hQ : goodPs Q) (p ts : List Int) (hp : vO Q.length p) (hc : chainOk Q ts 0 p) (hl : ts.length = Q.length) (h1 : Ev (fun k => spec_l07Times.f k Q p) ts) (h2 : Ev (fun k => impl_doorTimes.f k Q p) ts) :
    ∃ (at_ most code : Int), Ev (fun k => spec_LongestWait.f k Q p) (at_, most, code) ∧ Ev (fun k => impl_LongestWait.f k Q p) (at_, most, code) ∧ (code = if (Q.length : Int) > 0 then 0 else 6) ∧
      (∀ j : Nat, j < Q.length → rd ts (j : Int) - aP Q (j : Int) ≤ most) ∧ (∀ j : Nat, j < Q.length → rd ts (j : Int) - aP Q (j : Int) = most → at_ ≤ (j : Int)) ∧ (∀ j : Nat, j < Q.length → (j : Int) = at_ → rd ts (j : Int) - aP Q (j : Int) = most) := by
  have hn := hQ.1
  have hpl := hp.1
  have c1 := Ordered_ev Q p (by omega) (by omega)
  have c2 := orderCode_ev Q p (by omega) (by omega)
  rw [codeO_good hQ hp] at c1 c2
  have key : ∀ (m i : Nat) (a b : Int), i + m = Q.length → (∀ j : Nat, j < i → rd ts (j : Int) - aP Q (j : Int) ≤ b) → (∀ j : Nat, j < i → rd ts (j : Int) - aP Q (j : Int) = b → a ≤ (j : Int)) → (∀ j : Nat, j < i → (j : Int) = a → rd ts (j : Int) - aP Q (j : Int) = b) → (i = 0 → b = -1) → (0 < i → 0 ≤ a ∧ a < (i : Int)) →
      ∃ (at_ most : Int), Ev (fun k => spec_LongestWait.l0 k Q ts a b (i : Int)) (at_, most, 0) ∧ Ev (fun k => impl_LongestWait.l0 k Q a b ts (ts.length : Int) (i : Int)) (at_, most, 0) ∧
        (∀ j : Nat, j < Q.length → rd ts (j : Int) - aP Q (j : Int) ≤ most) ∧ (∀ j : Nat, j < Q.length → rd ts (j : Int) - aP Q (j : Int) = most → at_ ≤ (j : Int)) ∧ (∀ j : Nat, j < Q.length → (j : Int) = at_ → rd ts (j : Int) - aP Q (j : Int) = most) := by
    intro m
    induction m with
    | zero =>
      intro i a b hi q1 q2 q3 q4 q5
      obtain rfl : i = Q.length := by omega
      refine ⟨a, b, Ev.round (Ev.now _) fun k => ?_, Ev.round (Ev.now _) fun k => ?_, q1, q2, q3⟩
      · simp only [spec_LongestWait.l0]; rw [if_neg (by omega)]
      · simp only [impl_LongestWait.l0]; rw [if_neg (by omega)]
    | succ m ih =>
      intro i a b hi q1 q2 q3 q4 q5
      obtain ⟨g1, g2, w1, w2⟩ := good_at hQ (j := (i : Int)) (by omega) (by omega)
      obtain ⟨b1, b2, b3, b4, b5⟩ := hW_bound hQ hp hc (j := (i : Int)) (by omega) (by omega)
      have ew : wrap64 (rd ts (i : Int) - wrap64 (rd_T55 Q (i : Int)).f0) = rd ts (i : Int) - aP Q (i : Int) := by
        show wrap64 (rd ts (i : Int) - wrap64 (aP Q (i : Int))) = _
        rw [w1, b4]
      by_cases hgt : rd ts (i : Int) - aP Q (i : Int) > b
      · obtain ⟨at_, most, e1, e2, r1, r2, r3⟩ := ih (i + 1) (i : Int) (rd ts (i : Int) - aP Q (i : Int)) (by omega)
          (fun j hj => by
            by_cases e : j = i
            · subst e; exact Int.le_refl _
            · have := q1 j (by omega); omega)
          (fun j hj he => by
            by_cases e : j = i
            · omega
            · have := q1 j (by omega); omega)
          (fun j hj he => by have : j = i := by omega
                             subst this; rfl) (fun h => by omega) (fun _ => by omega)
        refine ⟨at_, most, Ev.round e1 fun k => ?_, Ev.round e2 fun k => ?_, r1, r2, r3⟩
        · simp only [spec_LongestWait.l0]
          rw [if_pos (by omega), if_pos (by omega), if_pos (by omega), ew, if_pos hgt, wnat i Q.length (by omega) (by omega)]
        · simp only [impl_LongestWait.l0]
          rw [if_pos (by omega), if_pos (by omega), if_pos (by omega), if_pos (by omega), ew, if_pos hgt, wnat i Q.length (by omega) (by omega)]
      · have hi0 : 0 < i := by
          rcases Nat.eq_zero_or_pos i with h | h
          · have := q4 h; omega
          · exact h
        have ha := q5 hi0
        obtain ⟨at_, most, e1, e2, r1, r2, r3⟩ := ih (i + 1) a b (by omega)
          (fun j hj => by
            by_cases e : j = i
            · subst e; omega
            · exact q1 j (by omega))
          (fun j hj he => by
            by_cases e : j = i
            · omega
            · exact q2 j (by omega) he)
          (fun j hj he => q3 j (by omega) he) (fun h => by omega) (fun _ => by omega)
        refine ⟨at_, most, Ev.round e1 fun k => ?_, Ev.round e2 fun k => ?_, r1, r2, r3⟩
        · simp only [spec_LongestWait.l0]
          rw [if_pos (by omega), if_pos (by omega), if_pos (by omega), ew, if_neg hgt, wnat i Q.length (by omega) (by omega)]
        · simp only [impl_LongestWait.l0]
          rw [if_pos (by omega), if_pos (by omega), if_pos (by omega), if_pos (by omega), ew, if_neg hgt, wnat i Q.length (by omega) (by omega)]
  by_cases h0 : (Q.length : Int) > 0
  · obtain ⟨at_, most, e1, e2, r1, r2, r3⟩ := key Q.length 0 0 (-1) (Nat.zero_add _) (fun j hj => by omega) (fun j hj => by omega) (fun j hj => by omega) (fun _ => rfl) (fun h => by omega)
    refine ⟨at_, most, 0, ?_, ?_, (if_pos h0).symm, r1, r2, r3⟩
    · unfold spec_LongestWait.f
      refine Ev.bind c1 (Ev.pos rfl (Ev.succ ?_))
      simp only [spec_LongestWait.j0]
      refine Ev.neg (fun h => by have := beq_iff_eq.1 h; omega) (Ev.succ ?_)
      simp only [spec_LongestWait.j1]
      exact Ev.pos (by first | trivial | rfl) (Ev.bind h1 e1)
    · unfold impl_LongestWait.f
      exact Ev.bind c2 (Ev.pos rfl (Ev.neg (by omega) (Ev.bind h2 e2)))
  · refine ⟨0, 0, 6, ?_, ?_, (if_neg h0).symm, fun j hj => by omega, fun j hj => by omega, fun j hj => by omega⟩
    · unfold spec_LongestWait.f
      refine Ev.bind c1 (Ev.pos rfl (Ev.succ ?_))
      simp only [spec_LongestWait.j0]
      refine Ev.pos (beq_iff_eq.2 (by omega)) (Ev.succ ?_)
      simp only [spec_LongestWait.j1]
      exact Ev.neg (by decide) (Ev.now _)
    · unfold impl_LongestWait.f
      exact Ev.bind c2 (Ev.pos rfl (Ev.pos (by omega) (Ev.now _)))
end Go.Proofs.Ytjieacofpegmpaa.Q
end
section
namespace Go.Proofs.Ytjieacofpegmpaa.Q
open Go.RowKit Go.Proofs.YtjieacofpegmpaaW.PrintWords Go.Proofs.YtjieacofpegmpaaW.PrintLast Go.Proofs.YtjieacofpegmpaaW.PrintMore Go.Proofs.Ytjieacofpegmpaa.La Go.Proofs.Ytjieacofpegmpaa.PD
set_option linter.unusedVariables false
set_option linter.unusedSimpArgs false
theorem Same_ev (l : List Int) (h : l.length ≤ 1048576) : Ev (fun k => spec_A2Same.f k l l) true := by
  unfold spec_A2Same.f
  refine Ev.bind (a := true) ?_ (Ev.now _)
  unfold spec_l00Same.f
  refine Ev.pos rfl ?_
  refine Ev.all_loop (fun k i => spec_l00Same.l0 k l l i) l.length true (fun i hi hr => ?_) ?_
  · refine Ev.round hr fun k => ?_
    simp only [spec_l00Same.l0]
    rw [if_pos (by omega), if_pos (by omega), if_pos (by omega), if_pos trivial, wnat i l.length hi (by omega)]
  · refine Ev.round (Ev.now true) fun k => ?_
    simp only [spec_l00Same.l0]
    rw [if_neg (by omega)]
theorem L2_ev (Q : List S55) (hQ : goodPs Q) (p ts : List Int) (hp : vO Q.length p) (hc : chainOk Q ts 0 p) (hl : ts.length = Q.length) (a b : Int) (r1 : ∀ j : Nat, j < Q.length → rd ts (j : Int) - aP Q (j : Int) ≤ b) (r2 : ∀ j : Nat, j < Q.length → rd ts (j : Int) - aP Q (j : Int) = b → a ≤ (j : Int)) (r3 : ∀ j : Nat, j < Q.length → (j : Int) = a → rd ts (j : Int) - aP Q (j : Int) = b) :
    ∀ m i : Nat, i + m = Q.length → Ev (fun k => laws_FnDoor.l2 k Q ts a b (i : Int)) true := by
  intro m
  have hn := hQ.1
  induction m with
  | zero =>
    intro i hi
    refine Ev.succ ?_
    simp only [laws_FnDoor.l2]
    exact Ev.neg (by omega) (Ev.now _)
  | succ m ih =>
    intro i hi
    have e := ih (i + 1) (by omega)
    obtain ⟨g1, g2, w1, w2⟩ := good_at hQ (j := (i : Int)) (by omega) (by omega)
    obtain ⟨b1, b2, b3, b4, b5⟩ := hW_bound hQ hp hc (j := (i : Int)) (by omega) (by omega)
    have ew : wrap64 (rd ts (i : Int) - wrap64 (rd_T55 Q (i : Int)).f0) = rd ts (i : Int) - aP Q (i : Int) := by
      show wrap64 (rd ts (i : Int) - wrap64 (aP Q (i : Int))) = _
      rw [w1, b4]
    have q1 := r1 i (by omega)
    refine Ev.succ ?_
    simp only [laws_FnDoor.l2]
    rw [ew, wnat i 100 (by omega) (by omega)]
    refine Ev.pos (by omega) (Ev.pos (by omega) (Ev.pos (by omega) (Ev.neg (by omega) ?_)))
    by_cases he : rd ts (i : Int) - aP Q (i : Int) = b
    · have q2 := r2 i (by omega) he
      refine Ev.pos he (Ev.neg (by omega) ?_)
      by_cases ha : (i : Int) = a
      · exact Ev.pos ha e
      · exact Ev.neg ha e
    · exact Ev.neg he (Ev.neg (fun ha => he (r3 i (by omega) ha)) e)
theorem L1_ev (Q : List S55) (hQ : goodPs Q) (p ts o : List Int) (ho : vO Q.length o) (hs : o.Pairwise (leP Q)) (R : Bool)
    (htail : Ev (fun k => (impl_LongestWait.f k Q p).bind fun bt436 => ((spec_LongestWait.f k Q p).bind fun bt439 => (if bt436.2.2 = bt439.2.2 then (if bt436.1 = bt439.1 then (if bt436.2.1 = bt439.2.1 then (if ((bt436.2.2 == 0) != (decide ((Q.length : Int) > 0))) = true then (none) else (laws_FnDoor.l2 k Q ts bt439.1 bt439.2.1 0)) else (none)) else (none)) else (none)))) R) :
    ∀ m i : Nat, 1 ≤ i → (i + m = o.length ∨ (m = 0 ∧ o.length ≤ i)) → Ev (fun k => laws_FnDoor.l1 k Q p ts o (i : Int)) R := by
  intro m
  have hn := hQ.1
  have hol := ho.1
  induction m with
  | zero =>
    intro i h1 hi
    refine Ev.succ ?_
    simp only [laws_FnDoor.l1]
    exact Ev.neg (by omega) htail
  | succ m ih =>
    intro i h1 hi
    have hil : i < o.length := by omega
    obtain ⟨j, rfl⟩ : ∃ j, i = j + 1 := ⟨i - 1, by omega⟩
    have e := ih (j + 1 + 1) (by omega) (by omega)
    have wm : wrap64 (((j + 1 : Nat) : Int) - 1) = (j : Int) := by unfold wrap64; omega
    have hj := ho.2.2 _ (getD_mem o j 0 (by omega))
    have hj2 := ho.2.2 _ (getD_mem o (j + 1) 0 hil)
    have hle : leP Q (o.getD j 0) (o.getD (j + 1) 0) := by
      have := (List.pairwise_iff_getElem.1 hs) j (j + 1) (by omega) hil (by omega)
      rw [List.getD_eq_getElem?_getD, List.getD_eq_getElem?_getD, List.getElem?_eq_getElem (by omega), List.getElem?_eq_getElem hil]
      exact this
    refine Ev.succ ?_
    simp only [laws_FnDoor.l1, rd_nat]
    rw [wm, wnat (j + 1) 100 (by omega) (by omega)]
    simp only [rd_nat]
    refine Ev.pos (by omega) (Ev.pos (by omega) (Ev.pos (by omega) (Ev.pos hj.1 (Ev.pos (by omega) (Ev.pos (by omega) (Ev.pos hj2.1 (Ev.pos (by omega) ?_)))))))
    show Ev (fun k => if aP Q (o.getD j 0) > aP Q (o.getD (j + 1) 0) then none else if aP Q (o.getD j 0) = aP Q (o.getD (j + 1) 0) then (if o.getD j 0 > o.getD (j + 1) 0 then none else laws_FnDoor.l1 k Q p ts o ((j + 1 + 1 : Nat) : Int)) else laws_FnDoor.l1 k Q p ts o ((j + 1 + 1 : Nat) : Int)) R
    unfold leP at hle
    refine Ev.neg (by omega) ?_
    by_cases he : aP Q (o.getD j 0) = aP Q (o.getD (j + 1) 0)
    · exact Ev.pos he (Ev.neg (by omega) e)
    · exact Ev.neg he e
theorem L0_ev (Q : List S55) (hQ : goodPs Q) (p ts o : List Int) (hp : vO Q.length p) (hc0 : chainOk Q ts 0 p) (hl : ts.length = Q.length) (own : Int) (R : Bool) (hnext : Ev (fun k => laws_FnDoor.l1 k Q p ts o 1) R) :
    ∀ (m i : Nat) (s f : Int), i + m = p.length → chainOk Q ts f (p.drop i) → (0 ≤ s ∧ s ≤ 1000 * (i : Int)) → s + sumL (hW Q ts) (p.drop i) = own → Ev (fun k => laws_FnDoor.l0 k Q p ts own o s f (i : Int)) R := by
  intro m
  have hn := hQ.1
  have hpl := hp.1
  induction m with
  | zero =>
    intro i s f hi hc hs he
    obtain rfl : i = p.length := by omega
    rw [List.drop_length] at he
    have he2 : s = own := by simpa [sumL] using he
    refine Ev.succ ?_
    simp only [laws_FnDoor.l0]
    exact Ev.neg (by omega) (Ev.pos he2 hnext)
  | succ m ih =>
    intro i s f hi hc hs he
    have hil : i < p.length := by omega
    have hdr := drop_get p i 0 hil
    rw [hdr] at hc he
    obtain ⟨c1, c2⟩ := hc
    have hy := hp.2.2 _ (getD_mem p i 0 hil)
    obtain ⟨g1, g2, w1, w2⟩ := good_at hQ hy.1 hy.2
    obtain ⟨b1, b2, b3, b4, b5⟩ := hW_bound hQ hp hc0 hy.1 hy.2
    have ws : wrap64 (s + hW Q ts (p.getD i 0)) = s + hW Q ts (p.getD i 0) := wint _ (by omega) (by omega)
    have wf : wrap64 (rd ts (p.getD i 0) + zP Q (p.getD i 0)) = rd ts (p.getD i 0) + zP Q (p.getD i 0) := wint _ (by omega) (by omega)
    have e := ih (i + 1) (s + hW Q ts (p.getD i 0)) (rd ts (p.getD i 0) + zP Q (p.getD i 0)) (by omega) c2 (by omega) (by
      simp only [sumL] at he
      omega)
    refine Ev.succ ?_
    simp only [laws_FnDoor.l0]
    rw [rd_nat p i, wnat i 100 (by omega) (by omega)]
    refine Ev.pos (by omega) (Ev.pos (by omega) (Ev.pos hy.1 (Ev.pos hy.2 (Ev.pos (by omega) ?_))))
    show Ev (fun k => if rd ts (p.getD i 0) = mx f (wrap64 (aP Q (p.getD i 0))) then laws_FnDoor.l0 k Q p ts own o (wrap64 (s + wrap64 (wrap64 (zP Q (p.getD i 0)) * wrap64 (rd ts (p.getD i 0) - wrap64 (aP Q (p.getD i 0)))))) (wrap64 (rd ts (p.getD i 0) + wrap64 (zP Q (p.getD i 0)))) ((i + 1 : Nat) : Int) else none) R
    rw [w1, w2, b4, b5, ws, wf]
    exact Ev.pos c1 e
theorem FnDoor (l0 l1 : List Int) (hm0 : l0.length ≤ maxLen) (hw0 : ∀ x ∈ l0, (Lit.int .u8 x).wf = true) (hm1 : l1.length ≤ maxLen) (hw1 : ∀ x ∈ l1, (Lit.int .u8 x).wf = true) : Ev (fun k => laws_FnDoor.f k l0 l1) true := by
  have byte : ∀ l : List Int, l.length ≤ 3000 → (∀ x ∈ l, (Lit.int .u8 x).wf = true) → ByteL l := fun l hl hw => by
    refine ⟨fun i => ?_, by omega⟩
    unfold rd
    by_cases hi : i.toNat < l.length
    · have h := hw _ (getD_mem l i.toNat 0 hi)
      simp [Lit.wf, IntKind.min, IntKind.max, IntKind.signed, IntKind.bits] at h
      rw [List.getD_eq_getElem?_getD] at *
      omega
    · rw [List.getD_eq_getElem?_getD, List.getElem?_eq_none (by omega)]
      simp
  unfold laws_FnDoor.f laws_a2Long.f
  by_cases h0 : (l0.length : Int) > 3000
  · exact Ev.bind (a := true) (Ev.pos h0 (Ev.now _)) (Ev.pos rfl (Ev.now _))
  by_cases h1 : (l1.length : Int) > 3000
  · exact Ev.bind (a := true) (Ev.neg h0 (Ev.eq (Ev.now _) (decide_eq_true h1))) (Ev.pos rfl (Ev.now _))
  refine Ev.bind (a := false) (Ev.neg h0 (Ev.eq (Ev.now _) (decide_eq_false h1))) (Ev.neg Bool.false_ne_true ?_)
  obtain ⟨Q, hQe, hQl, hQg⟩ := A2Parties_ev l0 (byte l0 (by omega) hw0)
  have hQ : goodPs Q := ⟨hQl, hQg⟩
  obtain ⟨p, hpe, hp⟩ := A2Order_ev l1 (byte l1 (by omega) hw1) Q.length hQl
  obtain ⟨ts, tl, tc, t1, t2, v1, v2, v3⟩ := order_val Q hQ p hp
  obtain ⟨d1, d2⟩ := Door_val Q hQ p ts hp t1 t2
  obtain ⟨a1, a2⟩ := Wait_val Q hQ p _ hp v1 v2
  obtain ⟨best, least, bv, B1, B2, B3, B4, B5⟩ := Best_val Q hQ
  obtain ⟨fst, fv, fs, F1, F2⟩ := FirstCome_val Q hQ
  obtain ⟨ts2, _, _, _, _, u1, u2, u3⟩ := order_val Q hQ fst fv
  obtain ⟨_, c2⟩ := Wait_val Q hQ fst _ fv u1 u2
  obtain ⟨_, e2⟩ := Wait_val Q hQ best least bv B3 B4
  have k1 := B5 p _ hp v1
  have k2 := B5 fst _ fv u1
  obtain ⟨at_, most, code, L1, L2, hcode, r1, r2, r3⟩ := Long_val Q hQ p ts hp tc tl t1 t2
  have hbl := bv.1
  have hfl := fv.1
  have s1 := Same_ev ts (by omega)
  have s2 := Same_ev best (by omega)
  have s3 := Same_ev fst (by omega)
  have hl2 := L2_ev Q hQ p ts hp tc tl at_ most r1 r2 r3 Q.length 0 (Nat.zero_add _)
  have htail : Ev (fun k => (impl_LongestWait.f k Q p).bind fun bt436 => ((spec_LongestWait.f k Q p).bind fun bt439 => (if bt436.2.2 = bt439.2.2 then (if bt436.1 = bt439.1 then (if bt436.2.1 = bt439.2.1 then (if ((bt436.2.2 == 0) != (decide ((Q.length : Int) > 0))) = true then (none) else (laws_FnDoor.l2 k Q ts bt439.1 bt439.2.1 0)) else (none)) else (none)) else (none)))) true := by
    refine Ev.bind L2 (Ev.bind L1 (Ev.pos rfl (Ev.pos rfl (Ev.pos rfl (Ev.neg ?_ hl2)))))
    show ¬ ((code == 0) != decide ((Q.length : Int) > 0)) = true
    by_cases hn : (Q.length : Int) > 0
    · rw [hcode, if_pos hn, decide_eq_true hn]; decide
    · rw [hcode, if_neg hn, decide_eq_false hn]; decide
  have hl1 := L1_ev Q hQ p ts fst fv fs true htail (fst.length - 1) 1 (Nat.le_refl _) (by omega)
  have hl0 := L0_ev Q hQ p ts fst hp tc tl (sumL (hW Q ts) p) true hl1 p.length 0 0 0 (Nat.zero_add _) tc (by omega) (by rw [List.drop_zero]; omega)
  refine Ev.bind hQe (Ev.bind hpe (Ev.bind d2 (Ev.bind d1 (Ev.bind a2 (Ev.bind a1 (Ev.bind B2 (Ev.bind B1 (Ev.bind F2 (Ev.bind F1 (Ev.bind c2 (Ev.bind e2 ?_)))))))))))
  refine Ev.pos rfl (Ev.pos rfl (Ev.bind s1 (Ev.pos rfl (Ev.pos (by show (ts.length : Int) = (Q.length : Int); omega) (Ev.pos rfl (Ev.pos rfl (Ev.pos rfl (Ev.pos rfl (Ev.pos rfl (Ev.bind s2 (Ev.pos rfl (Ev.pos rfl (Ev.neg (by show ¬ least > sumL (hW Q ts) p; omega) (Ev.pos rfl (Ev.pos rfl (Ev.bind s3 (Ev.pos rfl (Ev.pos rfl (Ev.neg (by show ¬ sumL (hW Q ts2) fst < least; omega) (Ev.pos rfl (Ev.pos rfl ?_)))))))))))))))))))))
  exact Ev.bind (a := true) (Ev.const ((ValidParties_f Q).trans (by rw [okParties_good hQ]))) (Ev.pos rfl hl0)
end Go.Proofs.Ytjieacofpegmpaa.Q
end
section
namespace Go.Proofs.Ytjieacofpegmpaa.fnDoor
open Go.ChangeShapes Go.WideShapes Go.ChangeAt Go.RowKit Go.Proofs.YtjieacofpegmpaaW.PrintWords Go.Proofs.YtjieacofpegmpaaW.PrintLast Go.Proofs.Ytjieacofpegmpaa.La Go.Proofs.Ytjieacofpegmpaa.Rw Go.Proofs.Ytjieacofpegmpaa.PD
open Go.ChangeMaps (open_string shut_string)
set_option linter.unusedVariables false
set_option maxRecDepth 100000 in
set_option maxHeartbeats 1000000 in
theorem lifted (os : Os) (started : os.Started) (H : Type) (enc : TypeId × Value → H) :
    ReturnsInHanded {} Try.checked os 5 .any (Rows.fnDoorSpec.pre6 enc Try.prog Try.f5 Rows.fnDoorRow.domain false) (Rows.fnDoorSpec.post enc Try.prog Try.f5 false true false false) := by
  refine returnsInHanded_of_change_sized (C := Try.checked) own started (by kernel_rfl) Try.func5
    (ChangeSpec.witness6 (enc := enc) (C := Try.checked) false ⟨#[], #[.slice none 0 0, .slice none 0 0], []⟩ 8 (by kernel_rfl) (by kernel_rfl) (by kernel_rfl) (by kernel_rfl)) ?_
  intro W base args ds gs before hval0 hW hcnd hsz0 _
  have hval : ∀ (j : Nat) t v, Try.f5.params[j]? = some t → args[j]? = some v → Value.okWide Try.prog W .any base t v := hval0
  have hW' := hW
  obtain ⟨p, q, hA0, hV, rfl, hfz, hnd⟩ := hW
  have hA : DataW.TrodAll enc Try.prog W 0 (fun _ => true) true Try.f5.params.toList args.toList ds p := hA0
  rw [Try.params5] at hA hval
  obtain ⟨v0, vs0, d0, ds0, p0, q0, hargs, rfl, rfl, h0, r0⟩ := trodAll_cons hA
  obtain ⟨v1, vs1, d1, ds1, p1, q1, rfl, rfl, rfl, h1, r1⟩ := trodAll_cons r0
  obtain ⟨rfl, rfl, rfl⟩ := trodAll_nil r1
  obtain rfl : args = #[v0, v1] := by cases args; simp_all
  obtain ⟨rfl, rfl⟩ := trodVars_none hV
  have k0 := h0
  have lt0 : ∀ x ∈ p0, x.block < W.heap.size := by obtain ⟨m, hm⟩ := k0; exact DataW.trod_lt m _ _ _ hm
  obtain ⟨a0, len0, cap0, rfl⟩ := okWide_slice Try.underlying44 (hval 0 44 v0 rfl rfl)
  obtain ⟨l0, rfl, hr0, hm0, hw0, hc0⟩ := openI44 h0
  have k1 := h1
  have lt1 : ∀ x ∈ p1, x.block < W.heap.size := by obtain ⟨m, hm⟩ := k1; exact DataW.trod_lt m _ _ _ hm
  obtain ⟨a1, len1, cap1, rfl⟩ := okWide_slice Try.underlying44 (hval 1 44 v1 rfl rfl)
  obtain ⟨l1, rfl, hr1, hm1, hw1, hc1⟩ := openI44 h1
  clear hA0 hval0 hsz0
  obtain ⟨k, hk⟩ := Ev.rounds (Q.FnDoor l0 l1 hm0 hw0 hm1 hw1)
  refine (laws_FnDoor.calls k _ _ l0 _ _ l1 true W hr0 hc0 hr1 hc1 hk).mono fun e W' ⟨he, bel0⟩ => ?_
  subst he
  have bel : Below W.heap.size W W' := by first | exact bel0 | exact bel0.below
  exact ⟨_, rfl, _, _, _, [], _, [], hW', trodAll_mk1 (shut_bool Try.underlying4 _), (trodAll_cons_mk (Below.trod laidOut (by kernel_rfl) (of_decide_eq_true (by kernel_rfl)) k0 bel lt0) (trodAll_cons_mk (Below.trod laidOut (by kernel_rfl) (of_decide_eq_true (by kernel_rfl)) k1 bel lt1) trodAll_mk0)), rfl, bel.frame _, fun h => by cases h⟩
theorem over : Rows.fnDoorRow.holds Try.pinned (OpenSpec.ofChange Rows.fnDoorSpec) :=
  OpenClaim.holds_of_wide 5 Try.f5 rfl rfl rfl rfl rfl rfl rfl ⟨rfl, rfl, rfl, rfl, rfl⟩ rfl rfl rfl rfl rfl (by kernel_rfl) Try.func5 (by kernel_rfl)
    (of_decide_eq_true (by kernel_rfl)) (by unfold Func.isWrapper; first | (rw [if_pos (by decide +kernel)]; kernel_rfl) | (rw [if_neg (by decide +kernel)]; exact ⟨rfl, rfl⟩))
    (fun os started H enc _ => lifted os started H enc)
end Go.Proofs.Ytjieacofpegmpaa.fnDoor
namespace Go.Proofs.Ytjieacofpegmpaa
theorem fnDoor_holds : Rows.FnDoorSaid := fnDoor.over
end Go.Proofs.Ytjieacofpegmpaa
end
