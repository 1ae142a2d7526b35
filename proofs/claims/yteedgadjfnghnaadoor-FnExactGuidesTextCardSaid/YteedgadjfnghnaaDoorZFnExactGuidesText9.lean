/- The statement FnExactGuidesText of this program: what its proof uses, part 10 of 11. The call returns true for all arguments. No condition of its own. -/
import Derived.IntWalk
import Derived.Test.YteedgadjfnghnaaDoorZFnExactGuidesText8
section
namespace Go.Proofs.YteedgadjfnghnaaDoor.Q
open Go.RowKit Go.Proofs.YteedgadjfnghnaaDoorW.PrintWords Go.Proofs.YteedgadjfnghnaaDoorW.PrintLast
set_option linter.unusedVariables false
set_option linter.unusedSimpArgs false
theorem wnat (i n : Nat) (h : i < n) (hn : n ≤ 9223372036854775807) : wrap64 ((i : Int) + 1) = ((i + 1 : Nat) : Int) := by unfold wrap64; omega
theorem wint (a : Int) (h0 : -9223372036854775808 ≤ a) (h1 : a ≤ 9223372036854775807) : wrap64 a = a := by unfold wrap64; omega
theorem Ev.round {α : Type} {g f : Nat → Option α} {r : α} (k : Ev f r) (h : ∀ k, g (k + 1) = f k) : Ev g r := Ev.step h k
theorem Ev.eq {α : Type} {g : Nat → Option α} {r r' : α} (h : Ev g r) (e : r = r') : Ev g r' := e ▸ h
theorem Ev.ite {α : Type} {c : Prop} [Decidable c] {f g : Nat → Option α} {r : α} (h : c → Ev f r) (h' : ¬ c → Ev g r) : Ev (fun k => if c then f k else g k) r := by
  by_cases hc : c
  · simp only [hc, if_true]; exact h hc
  · simp only [hc, if_false]; exact h' hc
theorem Ev.pos {α : Type} {c : Prop} [Decidable c] {f g : Nat → Option α} {r : α} (hc : c) (h : Ev f r) : Ev (fun k => if c then f k else g k) r := by simp only [hc, if_true]; exact h
theorem Ev.neg {α : Type} {c : Prop} [Decidable c] {f g : Nat → Option α} {r : α} (hc : ¬ c) (h : Ev g r) : Ev (fun k => if c then f k else g k) r := by simp only [hc, if_false]; exact h
theorem take_set {α : Type} (xs : List α) (i : Nat) (a : α) (h : i < xs.length) : (xs.set i a).take (i + 1) = xs.take i ++ [a] := by
  rw [List.take_succ_eq_append_getElem (by simpa using h)]
  simp [List.take_set]
  rw [List.set_eq_of_length_le (by simp; omega)]
theorem take_get {α : Type} (xs : List α) (i : Nat) (d : α) (h : i < xs.length) : xs.take (i + 1) = xs.take i ++ [xs.getD i d] := by
  rw [List.take_succ_eq_append_getElem h]
  simp [List.getD_eq_getElem?_getD, List.getElem?_eq_getElem h]
theorem Ev.map_loop {α β : Type} (L : Nat → List β → Int → Option (List β)) (g : α → β) (d : α) (x0 : List α) (hn : x0.length ≤ 9223372036854775807)
    (hstep : ∀ (i : Nat) (x3 : List β) (r : List β), i < x0.length → x3.length = x0.length → Ev (fun k => L k (x3.set i (g (x0.getD i d))) ((i + 1 : Nat) : Int)) r → Ev (fun k => L k x3 (i : Int)) r)
    (hend : ∀ x3 : List β, x3.length = x0.length → Ev (fun k => L k x3 (x0.length : Int)) x3) :
    ∀ x3 : List β, x3.length = x0.length → Ev (fun k => L k x3 0) (x0.map g) := by
  have key : ∀ (n i : Nat) (x3 : List β), i + n = x0.length → x3.length = x0.length → x3.take i = (x0.take i).map g → Ev (fun k => L k x3 (i : Int)) (x0.map g) := by
    intro n
    induction n with
    | zero =>
      intro i x3 hi hl ht
      obtain rfl : i = x0.length := by omega
      have : x3 = x0.map g := by
        rw [List.take_of_length_le (by omega), List.take_of_length_le (by omega)] at ht
        exact ht
      rw [← this]
      exact hend x3 hl
    | succ n ih =>
      intro i x3 hi hl ht
      refine hstep i x3 _ (by omega) hl (ih (i + 1) _ (by omega) (by simpa using hl) ?_)
      rw [take_set _ _ _ (by omega), take_get _ _ d (by omega), ht, List.map_append]
      rfl
  intro x3 hl
  exact key x0.length 0 x3 (by omega) hl (by simp)
theorem Ev.all_loop {ρ : Type} (L : Nat → Int → Option ρ) (n : Nat) (r : ρ)
    (hstep : ∀ i : Nat, i < n → Ev (fun k => L k ((i + 1 : Nat) : Int)) r → Ev (fun k => L k (i : Int)) r)
    (hend : Ev (fun k => L k (n : Int)) r) : Ev (fun k => L k 0) r := by
  have key : ∀ (m i : Nat), i + m = n → Ev (fun k => L k (i : Int)) r := by
    intro m
    induction m with
    | zero => intro i hi; obtain rfl : i = n := by omega
              exact hend
    | succ m ih => intro i hi; exact hstep i (by omega) (ih (i + 1) (by omega))
  exact key n 0 (by omega)
end Go.Proofs.YteedgadjfnghnaaDoor.Q
end
section
namespace Go.Proofs.YteedgadjfnghnaaDoor.Q
open Go.RowKit Go.Proofs.YteedgadjfnghnaaDoorW.PrintWords Go.Proofs.YteedgadjfnghnaaDoorW.PrintLast Go.Proofs.YteedgadjfnghnaaDoor.PB
set_option linter.unusedVariables false
set_option linter.unusedSimpArgs false
def inC (a lo hi : Int) : Bool := decide (lo ≤ a) && decide (a ≤ hi)
theorem In_c (a lo hi : Int) : spec_l00In.f a lo hi = some (inC a lo hi) := by
  unfold spec_l00In.f inC
  split
  · rename_i h; simp [h]
  · rename_i h; simp [h]
theorem Ev.const {α : Type} {x : Option α} {a : α} (h : x = some a) : Ev (fun _ => x) a := by subst h; exact Ev.now a
theorem Ev.succ {α : Type} {g : Nat → Option α} {r : α} (h : Ev (fun k => g (k + 1)) r) : Ev g r := Ev.step (fun _ => rfl) h
theorem getD_mem {α : Type} (l : List α) (i : Nat) (d : α) (h : i < l.length) : l.getD i d ∈ l := by
  simp [List.getD_eq_getElem?_getD, List.getElem?_eq_getElem h]
theorem drop_get {α : Type} (xs : List α) (i : Nat) (d : α) (h : i < xs.length) : xs.drop i = xs.getD i d :: xs.drop (i + 1) := by
  rw [List.drop_eq_getElem_cons h]
  simp [List.getD_eq_getElem?_getD, List.getElem?_eq_getElem h]
end Go.Proofs.YteedgadjfnghnaaDoor.Q
end
section
namespace Go.Proofs.YteedgadjfnghnaaDoor.Q
open Go.RowKit Go.Proofs.YteedgadjfnghnaaDoorW.PrintWords Go.Proofs.YteedgadjfnghnaaDoorW.PrintLast Go.Proofs.YteedgadjfnghnaaDoorW.PrintMore Go.Proofs.YteedgadjfnghnaaDoor.La Go.Proofs.YteedgadjfnghnaaDoor.PB
set_option linter.unusedVariables false
set_option linter.unusedSimpArgs false
theorem Within_c (a lo hi : Int) : impl_within.f a lo hi = some (inC a lo hi) := by
  unfold impl_within.f inC
  split
  · rename_i h; simp [h]
  · rename_i h; simp [h]
theorem rdG (l : List S36) (i : Nat) : rd_T36 l (i : Int) = l.getD i z36 := by simp [rd_T36]
def okG (q : S36) : Bool := inC (wrap64 q.f0) 0 20 && (inC (wrap64 q.f1) 0 8 && inC (wrap64 q.f2) 1 20)
theorem Guides_s (l : List S36) (h : l.length ≤ 1073741824) : Ev (fun k => spec_l07Guides.f k l) (l.all okG && inC (l.length : Int) 1 5) := by
  unfold spec_l07Guides.f
  have key : ∀ n i : Nat, i + n = l.length → Ev (fun k => spec_l07Guides.l0 k l (i : Int)) ((l.drop i).all okG && inC (l.length : Int) 1 5) := by
    intro n
    induction n with
    | zero =>
      intro i hi
      obtain rfl : i = l.length := by omega
      rw [List.drop_length]
      refine Ev.succ ?_
      simp only [spec_l07Guides.l0]
      exact Ev.neg (by omega) (Ev.bind (Ev.const (In_c _ _ _)) (Ev.now _))
    | succ n ih =>
      intro i hi
      have hil : i < l.length := by omega
      have wi := wnat i l.length hil (by omega)
      have e := ih (i + 1) (by omega)
      rw [drop_get l i z36 hil, List.all_cons]
      unfold okG
      have hp : (i : Int) < (l.length : Int) ∧ 0 ≤ (i : Int) := by omega
      refine Ev.succ ?_
      simp only [spec_l07Guides.l0]
      rw [rdG, In_c, In_c, In_c, wi]
      refine Ev.pos hp.1 (Ev.pos hp.2 (Ev.bind (Ev.now _) ?_))
      cases h1 : inC (wrap64 (l.getD i z36).f0) 0 20 with
      | false => exact Ev.neg Bool.false_ne_true (Ev.now _)
      | true =>
        refine Ev.pos rfl (Ev.bind (Ev.now _) ?_)
        cases h2 : inC (wrap64 (l.getD i z36).f1) 0 8 with
        | false => exact Ev.neg Bool.false_ne_true (Ev.now _)
        | true =>
          refine Ev.pos rfl (Ev.bind (Ev.now _) ?_)
          cases h3 : inC (wrap64 (l.getD i z36).f2) 1 20 with
          | false => exact Ev.neg Bool.false_ne_true (Ev.now _)
          | true => exact Ev.pos rfl e
  have := key l.length 0 (by omega)
  rw [List.drop_zero] at this
  exact this
theorem Clo_i (q : S36) : impl_ValidGuides_1.f q.f0 q.f1 q.f2 = some (!okG q) := by
  unfold impl_ValidGuides_1.f okG
  rw [Within_c, Within_c, Within_c]
  simp only [Option.bind_some]
  cases inC (wrap64 q.f0) 0 20 <;> cases inC (wrap64 q.f1) 0 8 <;> cases inC (wrap64 q.f2) 1 20 <;> rfl
theorem Guides_i (l : List S36) (h : l.length ≤ 1073741824) : Ev (fun k => impl_ValidGuides.f k l) (l.all okG && inC (l.length : Int) 1 5) := by
  have key : ∀ n i : Nat, i + n = l.length → ∃ r : Int, Ev (fun k => impl_Guide_37__30.l0 k l (l.length : Int) (i : Int)) r ∧ decide (r ≥ 0) = !((l.drop i).all okG) := by
    intro n
    induction n with
    | zero =>
      intro i hi
      obtain rfl : i = l.length := by omega
      refine ⟨-1, ?_, by rw [List.drop_length]; rfl⟩
      refine Ev.succ ?_
      simp only [impl_Guide_37__30.l0]
      exact Ev.neg (by omega) (Ev.now _)
    | succ n ih =>
      intro i hi
      have hil : i < l.length := by omega
      have hp : (i : Int) < (l.length : Int) ∧ 0 ≤ (i : Int) := by omega
      obtain ⟨r, hr, hd⟩ := ih (i + 1) (by omega)
      cases ho : okG (l.getD i z36) with
      | false =>
        refine ⟨(i : Int), ?_, ?_⟩
        · refine Ev.succ ?_
          simp only [impl_Guide_37__30.l0]
          rw [rdG, Clo_i, ho]
          exact Ev.pos hp.1 (Ev.pos hp.2 (Ev.pos hp.1 (Ev.bind (Ev.now _) (Ev.pos rfl (Ev.now _)))))
        · rw [drop_get l i z36 hil, List.all_cons, ho]
          exact decide_eq_true hp.2
      | true =>
        refine ⟨r, ?_, ?_⟩
        · refine Ev.succ ?_
          simp only [impl_Guide_37__30.l0]
          rw [rdG, Clo_i, ho, wnat i l.length hil (by omega)]
          exact Ev.pos hp.1 (Ev.pos hp.2 (Ev.pos hp.1 (Ev.bind (Ev.now _) (Ev.neg (by simp) hr))))
        · rw [drop_get l i z36 hil, List.all_cons, ho, hd, Bool.true_and]
  obtain ⟨r, hr, hd⟩ := key l.length 0 (by omega)
  rw [List.drop_zero] at hd
  unfold impl_ValidGuides.f impl_Guide_28.f
  refine Ev.bind (Ev.now _) (Ev.bind (Ev.const (Within_c _ _ _)) ?_)
  cases hi : inC (l.length : Int) 1 5 with
  | false => exact Ev.neg Bool.false_ne_true (Ev.eq (Ev.now _) (by rw [Bool.and_false]))
  | true =>
    refine Ev.pos rfl ?_
    unfold impl_Guide_29__30.f impl_Guide_37__30.f
    refine Ev.bind (Ev.bind hr (Ev.now _)) (Ev.eq (Ev.now _) ?_)
    rw [hd]
    simp
def decB (v : Int) : ByteArray := ⟨(Lib.decDigits v.toNat).toArray⟩
set_option maxRecDepth 100000 in
theorem dec_tab : ∀ m : Fin 21, (m.val < 10 → strOfNums [(wrap64 (48 + Int.tmod ((m.val : Nat) : Int) 10)) % 256] = decB ((m.val : Nat) : Int)) ∧ (¬ m.val < 10 → decB (((m.val / 10 : Nat) : Nat) : Int) ++ strOfNums [(wrap64 (48 + Int.tmod ((m.val : Nat) : Int) 10)) % 256] = decB ((m.val : Nat) : Int)) ∧ (decB ((m.val : Nat) : Int)).size ≤ 2 := by decide +kernel
theorem dec_size (n : Nat) (h : n < 21) : (decB (n : Int)).size ≤ 2 := (dec_tab ⟨n, h⟩).2.2
theorem Dec_one (n : Nat) (h : n < 10) : Ev (fun k => spec_Decimal.f k (n : Int)) (decB (n : Int)) := by
  refine Ev.succ ?_
  simp only [spec_Decimal.f]
  exact Ev.pos (by omega) (Ev.eq (Ev.now _) ((dec_tab ⟨n, by omega⟩).1 h))
theorem Dec_s (n : Nat) (h : n < 21) : Ev (fun k => spec_Decimal.f k (n : Int)) (decB (n : Int)) := by
  by_cases h1 : n < 10
  · exact Dec_one n h1
  refine Ev.succ ?_
  simp only [spec_Decimal.f]
  have e : wrap64 (Int.tdiv (n : Int) 10) = ((n / 10 : Nat) : Int) := by
    rw [Int.tdiv_eq_ediv_of_nonneg (by omega), wint _ (by omega) (by omega)]
    omega
  rw [e]
  refine Ev.neg (by omega) (Ev.bind (Dec_one (n / 10) (by omega)) (Ev.bind (a := [(wrap64 (48 + Int.tmod (n : Int) 10)) % 256]) (Ev.now _) (Ev.pos ?_ (Ev.eq (Ev.now _) ((dec_tab ⟨n, h⟩).2.1 h1)))))
  have := dec_size (n / 10) (by omega)
  rw [strOfNums_size]
  simp only [List.length_singleton]
  omega
theorem Dec_i (n : Nat) (h : n < 21) : impl_decimal.f (n : Int) = some (decB (n : Int)) := by
  unfold impl_decimal.f strconv_FormatInt.f
  rw [if_pos ⟨by omega, by omega, rfl⟩]
  rfl
def wT (q : S36) : ByteArray := (((decB q.f0 ++ (⟨#[47]⟩ : ByteArray)) ++ decB q.f1) ++ (⟨#[47]⟩ : ByteArray)) ++ decB q.f2
theorem okG_nat (q : S36) (h : okG q = true) (hb : (-128 ≤ q.f0 ∧ q.f0 ≤ 127) ∧ (-128 ≤ q.f1 ∧ q.f1 ≤ 127) ∧ (-128 ≤ q.f2 ∧ q.f2 ≤ 127)) : ∃ a b c : Nat, q.f0 = a ∧ q.f1 = b ∧ q.f2 = c ∧ a < 21 ∧ b < 21 ∧ c < 21 := by
  unfold okG inC at h
  rw [wint _ (by omega) (by omega), wint _ (by omega) (by omega), wint _ (by omega) (by omega)] at h
  simp only [Bool.and_eq_true, decide_eq_true_eq] at h
  exact ⟨q.f0.toNat, q.f1.toNat, q.f2.toNat, by omega, by omega, by omega, by omega, by omega, by omega⟩
def gB (q : S36) : Prop := (-128 ≤ q.f0 ∧ q.f0 ≤ 127) ∧ (-128 ≤ q.f1 ∧ q.f1 ≤ 127) ∧ (-128 ≤ q.f2 ∧ q.f2 ≤ 127)
theorem wT_size (q : S36) (h : okG q = true) (hb : gB q) : (wT q).size ≤ 8 := by
  obtain ⟨a, b, c, h0, h1, h2, ha, hb2, hc⟩ := okG_nat q h hb
  unfold wT
  rw [h0, h1, h2]
  have s0 := dec_size a ha
  have s1 := dec_size b hb2
  have s2 := dec_size c hc
  simp only [ByteArray.size_append, show (⟨#[47]⟩ : ByteArray).size = 1 from rfl]
  omega
def stepT (t : ByteArray) (q : S36) : ByteArray := (t ++ (⟨#[32]⟩ : ByteArray)) ++ wT q
theorem Text_s (l : List S36) (hl : l.length ≤ 5) (hok : ∀ q ∈ l, okG q = true ∧ gB q) :
    ∀ (n i : Nat) (t : ByteArray), i + n = l.length → 1 ≤ i → t.size ≤ 9 * i → Ev (fun k => spec_l07Text.l0 k l t (i : Int)) ((l.drop i).foldl stepT t) := by
  intro n
  induction n with
  | zero =>
    intro i t hi h1 ht
    obtain rfl : i = l.length := by omega
    rw [List.drop_length]
    refine Ev.succ ?_
    simp only [spec_l07Text.l0]
    exact Ev.neg (by omega) (Ev.now _)
  | succ n ih =>
    intro i t hi h1 ht
    have hil : i < l.length := by omega
    obtain ⟨ho, hg⟩ := hok _ (getD_mem l i z36 hil)
    have hws := wT_size _ ho hg
    obtain ⟨a, b, c, h0, h1', h2, ha, hb2, hc⟩ := okG_nat _ ho hg
    have s0 := dec_size a ha
    have s1 := dec_size b hb2
    have s2 := dec_size c hc
    have hst : (stepT t (l.getD i z36)).size ≤ 9 * (i + 1) := by
      unfold stepT
      simp only [ByteArray.size_append, show (⟨#[32]⟩ : ByteArray).size = 1 from rfl]
      omega
    have e := ih (i + 1) (stepT t (l.getD i z36)) (by omega) (by omega) hst
    rw [drop_get l i z36 hil, List.foldl_cons]
    have hp : (i : Int) < (l.length : Int) ∧ 0 ≤ (i : Int) ∧ (i : Int) > 0 := by omega
    have z47 : (⟨#[47]⟩ : ByteArray).size = 1 := rfl
    have z32 : (⟨#[32]⟩ : ByteArray).size = 1 := rfl
    have b1 : t.size + 1 ≤ 9223372036854775807 := by omega
    have b2 : (decB (a : Int)).size + 1 ≤ 9223372036854775807 := by omega
    have b3 : (decB (a : Int) ++ (⟨#[47]⟩ : ByteArray)).size + (decB (b : Int)).size ≤ 9223372036854775807 := by simp only [ByteArray.size_append, z47]; omega
    have b4 : ((decB (a : Int) ++ (⟨#[47]⟩ : ByteArray)) ++ decB (b : Int)).size + 1 ≤ 9223372036854775807 := by simp only [ByteArray.size_append, z47]; omega
    have b5 : (((decB (a : Int) ++ (⟨#[47]⟩ : ByteArray)) ++ decB (b : Int)) ++ (⟨#[47]⟩ : ByteArray)).size + (decB (c : Int)).size ≤ 9223372036854775807 := by simp only [ByteArray.size_append, z47]; omega
    have b6 : (t ++ (⟨#[32]⟩ : ByteArray)).size + ((((decB (a : Int) ++ (⟨#[47]⟩ : ByteArray)) ++ decB (b : Int)) ++ (⟨#[47]⟩ : ByteArray)) ++ decB (c : Int)).size ≤ 9223372036854775807 := by simp only [ByteArray.size_append, z47, z32]; omega
    have hw : wT (l.getD i z36) = (((decB (a : Int) ++ (⟨#[47]⟩ : ByteArray)) ++ decB (b : Int)) ++ (⟨#[47]⟩ : ByteArray)) ++ decB (c : Int) := by unfold wT; rw [h0, h1', h2]
    unfold stepT at e
    rw [hw] at e
    unfold stepT
    rw [hw]
    refine Ev.succ ?_
    simp only [spec_l07Text.l0]
    rw [rdG, h0, h1', h2, wint (a : Int) (by omega) (by omega), wint (b : Int) (by omega) (by omega), wint (c : Int) (by omega) (by omega), wnat i 5 (by omega) (by omega)]
    exact Ev.pos hp.1 (Ev.pos hp.2.2 (Ev.pos b1 (Ev.pos hp.2.1 (Ev.bind (Dec_s a ha) (Ev.pos b2 (Ev.bind (Dec_s b hb2) (Ev.pos b3 (Ev.pos b4 (Ev.bind (Dec_s c hc) (Ev.pos b5 (Ev.pos b6 e)))))))))))
theorem Text_0 (q : S36) (r : List S36) (hl : (q :: r).length ≤ 5) (hok : ∀ g ∈ q :: r, okG g = true ∧ gB g) : Ev (fun k => spec_l07Text.f k (q :: r)) (r.foldl stepT ((⟨#[]⟩ : ByteArray) ++ wT q)) := by
  unfold spec_l07Text.f
  obtain ⟨ho, hg⟩ := hok q (by simp)
  have hws := wT_size _ ho hg
  obtain ⟨a, b, c, h0, h1', h2, ha, hb2, hc⟩ := okG_nat _ ho hg
  have s0 := dec_size a ha
  have s1 := dec_size b hb2
  have s2 := dec_size c hc
  have z47 : (⟨#[47]⟩ : ByteArray).size = 1 := rfl
  have z0 : (⟨#[]⟩ : ByteArray).size = 0 := rfl
  have e := Text_s (q :: r) hl hok r.length 1 ((⟨#[]⟩ : ByteArray) ++ wT q) (by rw [List.length_cons]; omega) (by omega) (by simp only [ByteArray.size_append, z0]; omega)
  have b2 : (decB (a : Int)).size + 1 ≤ 9223372036854775807 := by omega
  have b3 : (decB (a : Int) ++ (⟨#[47]⟩ : ByteArray)).size + (decB (b : Int)).size ≤ 9223372036854775807 := by simp only [ByteArray.size_append, z47]; omega
  have b4 : ((decB (a : Int) ++ (⟨#[47]⟩ : ByteArray)) ++ decB (b : Int)).size + 1 ≤ 9223372036854775807 := by simp only [ByteArray.size_append, z47]; omega
  have b5 : (((decB (a : Int) ++ (⟨#[47]⟩ : ByteArray)) ++ decB (b : Int)) ++ (⟨#[47]⟩ : ByteArray)).size + (decB (c : Int)).size ≤ 9223372036854775807 := by simp only [ByteArray.size_append, z47]; omega
  have b6 : (⟨#[]⟩ : ByteArray).size + ((((decB (a : Int) ++ (⟨#[47]⟩ : ByteArray)) ++ decB (b : Int)) ++ (⟨#[47]⟩ : ByteArray)) ++ decB (c : Int)).size ≤ 9223372036854775807 := by simp only [ByteArray.size_append, z47, z0]; omega
  have hw : wT q = (((decB (a : Int) ++ (⟨#[47]⟩ : ByteArray)) ++ decB (b : Int)) ++ (⟨#[47]⟩ : ByteArray)) ++ decB (c : Int) := by unfold wT; rw [h0, h1', h2]
  rw [hw] at e
  rw [hw]
  have hrd : rd_T36 (q :: r) 0 = q := rfl
  refine Ev.succ ?_
  simp only [spec_l07Text.l0]
  rw [hrd, h0, h1', h2, wint (a : Int) (by omega) (by omega), wint (b : Int) (by omega) (by omega), wint (c : Int) (by omega) (by omega), show wrap64 (0 + 1) = ((1 : Nat) : Int) by unfold wrap64; omega]
  exact Ev.pos (by rw [List.length_cons]; omega) (Ev.neg (by decide) (Ev.pos (by decide) (Ev.bind (Dec_s a ha) (Ev.pos b2 (Ev.bind (Dec_s b hb2) (Ev.pos b3 (Ev.pos b4 (Ev.bind (Dec_s c hc) (Ev.pos b5 (Ev.pos b6 e))))))))))
theorem fold_data : ∀ (r : List S36) (t : ByteArray), (r.foldl stepT t).data.toList = t.data.toList ++ Lib.joinTail [32] (r.map fun g => (wT g).data.toList)
  | [], t => by simp [Lib.joinTail]
  | q :: r, t => by
    rw [List.foldl_cons, fold_data r (stepT t q)]
    unfold stepT
    simp [Lib.joinTail, ByteArray.data_append, List.append_assoc]
theorem fold_size (r : List S36) (hok : ∀ g ∈ r, okG g = true ∧ gB g) : ∀ t : ByteArray, (r.foldl stepT t).size ≤ t.size + 9 * r.length := by
  induction r with
  | nil => intro t; simp
  | cons q r ih =>
    intro t
    have h1 := ih (fun g hg => hok g (by simp [hg])) (stepT t q)
    obtain ⟨ho, hg⟩ := hok q (by simp)
    have h2 := wT_size q ho hg
    rw [List.foldl_cons, List.length_cons]
    unfold stepT at h1
    simp only [ByteArray.size_append, show (⟨#[32]⟩ : ByteArray).size = 1 from rfl] at h1
    unfold stepT
    omega
theorem Words_i (l : List S36) (hl : l.length ≤ 5) (hok : ∀ q ∈ l, okG q = true ∧ gB q) (r : ByteArray) (hj : (strings_Join.f (l.map wT) (⟨#[32]⟩ : ByteArray)).bind (fun z => some z.1) = some r) :
    ∀ n i : Nat, i + n = l.length → Ev (fun k => impl_GuidesText.l0 k ((l.take i).map wT) l (l.length : Int) (i : Int)) r := by
  intro n
  induction n with
  | zero =>
    intro i hi
    obtain rfl : i = l.length := by omega
    rw [List.take_length]
    refine Ev.succ ?_
    simp only [impl_GuidesText.l0]
    exact Ev.neg (by omega) (Ev.const hj)
  | succ n ih =>
    intro i hi
    have hil : i < l.length := by omega
    obtain ⟨ho, hg⟩ := hok _ (getD_mem l i z36 hil)
    obtain ⟨a, b, c, h0, h1', h2, ha, hb2, hc⟩ := okG_nat _ ho hg
    have s0 := dec_size a ha
    have s1 := dec_size b hb2
    have s2 := dec_size c hc
    have e := ih (i + 1) (by omega)
    rw [take_get l i z36 hil, List.map_append, List.map_singleton] at e
    have hp : (i : Int) < (l.length : Int) ∧ 0 ≤ (i : Int) := by omega
    have z47 : (⟨#[47]⟩ : ByteArray).size = 1 := rfl
    have b2 : (decB (a : Int)).size + 1 ≤ 9223372036854775807 := by omega
    have b3 : (decB (a : Int) ++ (⟨#[47]⟩ : ByteArray)).size + (decB (b : Int)).size ≤ 9223372036854775807 := by simp only [ByteArray.size_append, z47]; omega
    have b4 : ((decB (a : Int) ++ (⟨#[47]⟩ : ByteArray)) ++ decB (b : Int)).size + 1 ≤ 9223372036854775807 := by simp only [ByteArray.size_append, z47]; omega
    have b5 : (((decB (a : Int) ++ (⟨#[47]⟩ : ByteArray)) ++ decB (b : Int)) ++ (⟨#[47]⟩ : ByteArray)).size + (decB (c : Int)).size ≤ 9223372036854775807 := by simp only [ByteArray.size_append, z47]; omega
    have b7 : ((l.take i).map wT).length < 8796093022208 := by rw [List.length_map, List.length_take]; omega
    have hw : wT (l.getD i z36) = (((decB (a : Int) ++ (⟨#[47]⟩ : ByteArray)) ++ decB (b : Int)) ++ (⟨#[47]⟩ : ByteArray)) ++ decB (c : Int) := by unfold wT; rw [h0, h1', h2]
    rw [hw] at e
    refine Ev.succ ?_
    simp only [impl_GuidesText.l0]
    rw [rdG, h0, h1', h2, wint (a : Int) (by omega) (by omega), wint (b : Int) (by omega) (by omega), wint (c : Int) (by omega) (by omega), wnat i 5 (by omega) (by omega), Dec_i a ha, Dec_i b hb2, Dec_i c hc]
    exact Ev.pos hp.1 (Ev.pos hp.2 (Ev.pos hp.1 (Ev.bind (Ev.now _) (Ev.pos b2 (Ev.bind (Ev.now _) (Ev.pos b3 (Ev.pos b4 (Ev.bind (Ev.now _) (Ev.pos b5 (Ev.pos b7 e))))))))))
theorem GuidesText_both (l : List S36) (hl : l.length ≤ 1048576) (hb : ∀ q ∈ l, gB q) : ∃ r, Ev (fun k => spec_GuidesText.f k l) r ∧ Ev (fun k => impl_GuidesText.f k l) r := by
  have h1 := Guides_s l (by omega)
  have h2 := Guides_i l (by omega)
  cases hv : (l.all okG && inC (l.length : Int) 1 5) with
  | false =>
    rw [hv] at h1 h2
    refine ⟨(⟨#[]⟩ : ByteArray), ?_, ?_⟩
    · unfold spec_GuidesText.f
      exact Ev.bind h1 (Ev.neg Bool.false_ne_true (Ev.now _))
    · unfold impl_GuidesText.f
      exact Ev.bind h2 (Ev.neg Bool.false_ne_true (Ev.now _))
  | true =>
    rw [hv] at h1 h2
    simp only [Bool.and_eq_true] at hv
    have hok : ∀ q ∈ l, okG q = true ∧ gB q := fun q hq => ⟨List.all_eq_true.1 hv.1 q hq, hb q hq⟩
    have hlen : 1 ≤ l.length ∧ l.length ≤ 5 := by
      have := hv.2
      unfold inC at this
      simp only [Bool.and_eq_true, decide_eq_true_eq] at this
      omega
    cases l with
    | nil => simp at hlen
    | cons q r =>
      have hs := Text_0 q r hlen.2 hok
      have hd := fold_data r ((⟨#[]⟩ : ByteArray) ++ wT q)
      have hz := fold_size r (fun g hg => hok g (by simp [hg])) ((⟨#[]⟩ : ByteArray) ++ wT q)
      have hws := wT_size q (hok q (by simp)).1 (hok q (by simp)).2
      simp only [ByteArray.size_append, show (⟨#[]⟩ : ByteArray).size = 0 from rfl] at hz
      have hjn : Lib.join (((q :: r).map wT).map (·.data.toList)) (⟨#[32]⟩ : ByteArray).data.toList = (r.foldl stepT ((⟨#[]⟩ : ByteArray) ++ wT q)).data.toList := by
        rw [hd, List.map_cons, List.map_cons, Lib.join_cons, List.map_map]
        simp [ByteArray.data_append]
        rfl
      have hsz := Lib.size_eq (r.foldl stepT ((⟨#[]⟩ : ByteArray) ++ wT q))
      have hj : (strings_Join.f ((q :: r).map wT) (⟨#[32]⟩ : ByteArray)).bind (fun z => some z.1) = some (r.foldl stepT ((⟨#[]⟩ : ByteArray) ++ wT q)) := by
        unfold strings_Join.f
        rw [hjn, if_pos ⟨by rw [List.length_map]; omega, by rw [List.length_cons] at hlen; omega⟩]
        rfl
      have hi := Words_i (q :: r) hlen.2 hok _ hj (q :: r).length 0 (by omega)
      refine ⟨r.foldl stepT ((⟨#[]⟩ : ByteArray) ++ wT q), ?_, ?_⟩
      · unfold spec_GuidesText.f
        exact Ev.bind h1 (Ev.pos rfl (Ev.bind hs (Ev.now _)))
      · unfold impl_GuidesText.f
        exact Ev.bind h2 (Ev.pos rfl hi)
end Go.Proofs.YteedgadjfnghnaaDoor.Q
end
section
namespace Go.Proofs.YteedgadjfnghnaaDoor.Q
open Go.RowKit Go.Proofs.YteedgadjfnghnaaDoorW.PrintWords Go.Proofs.YteedgadjfnghnaaDoorW.PrintLast Go.Proofs.YteedgadjfnghnaaDoorW.PrintMore Go.Proofs.YteedgadjfnghnaaDoor.La Go.Proofs.YteedgadjfnghnaaDoor.PB
set_option linter.unusedVariables false
set_option linter.unusedSimpArgs false
def cGuide (x : S38) : S36 := ⟨x.f0, x.f1, x.f2⟩
theorem toGuideS_ev (l : List S38) (h : l.length ≤ 1048576) : Ev (fun k => laws_toGuideS.f k l) (l.map cGuide) := by
  unfold laws_toGuideS.f
  refine Ev.pos (by omega) (Ev.pos (by omega) ?_)
  refine Ev.map_loop (fun k x3 i => laws_toGuideS.l0 k l x3 i) cGuide z38 l (by omega) ?_ ?_ (List.replicate ((l.length : Int)).toNat z36) (by simp)
  · intro i x3 r hi hl hr
    refine Ev.round hr fun k => ?_
    simp only [laws_toGuideS.l0, laws_toGuide.f, Option.bind_some]
    rw [if_pos (by omega), if_pos (by omega), if_pos (by omega), wnat i l.length hi (by omega)]
    simp [rd_T38, cGuide]
  · intro x3 hl
    refine Ev.round (Ev.now x3) fun k => ?_
    simp only [laws_toGuideS.l0]
    rw [if_neg (by omega)]
theorem eqGuideS_ev (l : List S36) (h : l.length ≤ 1048576) : Ev (fun k => laws_eqGuideS.f k l l) true := by
  unfold laws_eqGuideS.f
  refine Ev.pos rfl ?_
  refine Ev.all_loop (fun k i => laws_eqGuideS.l0 k l l i) l.length true (fun i hi hr => ?_) ?_
  · refine Ev.round hr fun k => ?_
    simp only [laws_eqGuideS.l0, laws_eqGuide.f, if_true, Option.bind_some]
    rw [if_pos (by omega), if_pos (by omega), if_pos (by omega), wnat i l.length hi (by omega)]
  · refine Ev.round (Ev.now true) fun k => ?_
    simp only [laws_eqGuideS.l0]
    rw [if_neg (by omega)]
theorem szGuideS_small (l : List S38) (h : l.length ≤ 1048576) : laws_szGuideS.f l 1048576 = some (1048576 - (l.length : Int)) := by
  unfold laws_szGuideS.f
  rw [wint _ (by omega) (by omega), if_neg (by omega)]
theorem szGuideS_big (l : List S38) (h : 1048576 < l.length) (hm : l.length ≤ maxLen) : laws_szGuideS.f l 1048576 = some (-1) := by
  unfold maxLen at hm
  unfold laws_szGuideS.f
  rw [wint _ (by omega) (by omega), if_pos (by omega)]
theorem wf_i8 {n : Int} (h : (Lit.int .i8 n).wf = true) : -128 ≤ n ∧ n ≤ 127 := by
  simp [Lit.wf, IntKind.min, IntKind.max, IntKind.signed, IntKind.bits] at h
  omega
theorem FnExactGuidesText (l0 : List S38) (hm0 : l0.length ≤ maxLen) (hw0 : ∀ x ∈ l0, (Lit.int .i8 x.f0).wf = true ∧ (Lit.int .i8 x.f1).wf = true ∧ (Lit.int .i8 x.f2).wf = true) : Ev (fun k => laws_FnExactGuidesText.f k l0) true := by
  unfold laws_FnExactGuidesText.f
  by_cases hs0 : l0.length ≤ 1048576
  rotate_left
  · exact Ev.bind (Ev.const (szGuideS_big l0 (by omega) hm0)) (Ev.pos (by decide) (Ev.now _))
  refine Ev.bind (Ev.const (szGuideS_small l0 hs0)) (Ev.neg (by omega) ?_)
  have e0 := toGuideS_ev l0 hs0
  have q0 := eqGuideS_ev (l0.map cGuide) (by simpa using hs0)
  obtain ⟨r, hs, hi⟩ := GuidesText_both (l0.map cGuide) (by simpa using hs0) (fun q hq => by
    obtain ⟨x, hx, rfl⟩ := List.mem_map.1 hq
    obtain ⟨w0, w1, w2⟩ := hw0 x hx
    exact ⟨wf_i8 w0, wf_i8 w1, wf_i8 w2⟩)
  exact Ev.bind e0 (Ev.bind hs (Ev.bind e0 (Ev.bind hi (Ev.pos rfl (Ev.bind e0 (Ev.bind q0 (Ev.pos rfl (Ev.now _))))))))
end Go.Proofs.YteedgadjfnghnaaDoor.Q
end
