/- The statement FnExactLateBy of this program: what its proof uses, part 12 of 12. The call returns true for all arguments. No condition of its own. -/
import Derived.IntWalk
import Derived.Test.YtanobaoaelhebaaZFnExactLateBy10
section
namespace Go.Proofs.Ytanobaoaelhebaa.Q
open Go.RowKit Go.Proofs.YtanobaoaelhebaaW.PrintWords Go.Proofs.YtanobaoaelhebaaW.PrintLast
set_option linter.unusedVariables false
set_option linter.unusedSimpArgs false
theorem wnat (i n : Nat) (h : i < n) (hn : n ≤ 9223372036854775807) : wrap64 ((i : Int) + 1) = ((i + 1 : Nat) : Int) := by unfold wrap64; omega
theorem wint (a : Int) (h0 : -9223372036854775808 ≤ a) (h1 : a ≤ 9223372036854775807) : wrap64 a = a := by unfold wrap64; omega
theorem rd_nat (xs : List Int) (i : Nat) : rd xs (i : Int) = xs.getD i 0 := by simp [rd]
theorem Ev.round {α : Type} {g f : Nat → Option α} {r : α} (k : Ev f r) (h : ∀ k, g (k + 1) = f k) : Ev g r := Ev.step h k
theorem Ev.eq {α : Type} {g : Nat → Option α} {r r' : α} (h : Ev g r) (e : r = r') : Ev g r' := e ▸ h
theorem Ev.uniq {α : Type} {g : Nat → Option α} {r r' : α} (h : Ev g r) (h' : Ev g r') : r = r' := by
  obtain ⟨K, h⟩ := h
  obtain ⟨K', h'⟩ := h'
  have a := h (max K K') (by omega)
  have b := h' (max K K') (by omega)
  rw [a] at b
  exact Option.some.inj b
theorem Ev.ite {α : Type} {c : Prop} [Decidable c] {f g : Nat → Option α} {r : α} (h : c → Ev f r) (h' : ¬ c → Ev g r) : Ev (fun k => if c then f k else g k) r := by
  by_cases hc : c
  · simp only [hc, if_true]; exact h hc
  · simp only [hc, if_false]; exact h' hc
theorem Ev.pos {α : Type} {c : Prop} [Decidable c] {f g : Nat → Option α} {r : α} (hc : c) (h : Ev f r) : Ev (fun k => if c then f k else g k) r := by simp only [hc, if_true]; exact h
theorem Ev.neg {α : Type} {c : Prop} [Decidable c] {f g : Nat → Option α} {r : α} (hc : ¬ c) (h : Ev g r) : Ev (fun k => if c then f k else g k) r := by simp only [hc, if_false]; exact h
theorem take_set {α : Type} (xs : List α) (i : Nat) (a : α) (h : i < xs.length) : (xs.set i a).take (i + 1) = xs.take i ++ [a] := by
  rw [List.take_succ_eq_append_getElem (by simpa using h)]
  simp [List.take_set]
  rw [List.set_eq_of_length_le (by simp; omega)]
theorem take_get {α : Type} (xs : List α) (i : Nat) (d : α) (h : i < xs.length) : xs.take (i + 1) = xs.take i ++ [xs.getD i d] := by
  rw [List.take_succ_eq_append_getElem h]
  simp [List.getD_eq_getElem?_getD, List.getElem?_eq_getElem h]
theorem Ev.map_loop {α β : Type} (L : Nat → List β → Int → Option (List β)) (g : α → β) (d : α) (x0 : List α) (hn : x0.length ≤ 9223372036854775807)
    (hstep : ∀ (i : Nat) (x3 : List β) (r : List β), i < x0.length → x3.length = x0.length → Ev (fun k => L k (x3.set i (g (x0.getD i d))) ((i + 1 : Nat) : Int)) r → Ev (fun k => L k x3 (i : Int)) r)
    (hend : ∀ x3 : List β, x3.length = x0.length → Ev (fun k => L k x3 (x0.length : Int)) x3) :
    ∀ x3 : List β, x3.length = x0.length → Ev (fun k => L k x3 0) (x0.map g) := by
  have key : ∀ (n i : Nat) (x3 : List β), i + n = x0.length → x3.length = x0.length → x3.take i = (x0.take i).map g → Ev (fun k => L k x3 (i : Int)) (x0.map g) := by
    intro n
    induction n with
    | zero =>
      intro i x3 hi hl ht
      obtain rfl : i = x0.length := by omega
      have : x3 = x0.map g := by
        rw [List.take_of_length_le (by omega), List.take_of_length_le (by omega)] at ht
        exact ht
      rw [← this]
      exact hend x3 hl
    | succ n ih =>
      intro i x3 hi hl ht
      refine hstep i x3 _ (by omega) hl (ih (i + 1) _ (by omega) (by simpa using hl) ?_)
      rw [take_set _ _ _ (by omega), take_get _ _ d (by omega), ht, List.map_append]
      rfl
  intro x3 hl
  exact key x0.length 0 x3 (by omega) hl (by simp)
theorem Ev.all_loop {ρ : Type} (L : Nat → Int → Option ρ) (n : Nat) (r : ρ)
    (hstep : ∀ i : Nat, i < n → Ev (fun k => L k ((i + 1 : Nat) : Int)) r → Ev (fun k => L k (i : Int)) r)
    (hend : Ev (fun k => L k (n : Int)) r) : Ev (fun k => L k 0) r := by
  have key : ∀ (m i : Nat), i + m = n → Ev (fun k => L k (i : Int)) r := by
    intro m
    induction m with
    | zero => intro i hi; obtain rfl : i = n := by omega
              exact hend
    | succ m ih => intro i hi; exact hstep i (by omega) (ih (i + 1) (by omega))
  exact key n 0 (by omega)
theorem Ev.all_or {α : Type} (L : Nat → Int → Option Bool) (ok : α → Bool) (d : α) (e : Bool) (xs : List α)
    (hyes : ∀ i : Nat, i < xs.length → ok (xs.getD i d) = true → ∀ r, Ev (fun k => L k ((i + 1 : Nat) : Int)) r → Ev (fun k => L k (i : Int)) r)
    (hno : ∀ i : Nat, i < xs.length → ok (xs.getD i d) = false → Ev (fun k => L k (i : Int)) false)
    (hend : Ev (fun k => L k (xs.length : Int)) e) : Ev (fun k => L k 0) (xs.all ok && e) := by
  have key : ∀ (m i : Nat), i + m = xs.length → Ev (fun k => L k (i : Int)) ((xs.drop i).all ok && e) := by
    intro m
    induction m with
    | zero =>
      intro i hi
      obtain rfl : i = xs.length := by omega
      simpa using hend
    | succ m ih =>
      intro i hi
      have hx : xs.drop i = xs.getD i d :: xs.drop (i + 1) := by
        rw [List.drop_eq_getElem_cons (by omega)]
        simp [List.getD_eq_getElem?_getD, List.getElem?_eq_getElem (show i < xs.length by omega)]
      rw [hx, List.all_cons]
      cases ho : ok (xs.getD i d) with
      | true => simpa using hyes i (by omega) ho _ (ih (i + 1) (by omega))
      | false => simpa using hno i (by omega) ho
  simpa using key xs.length 0 (by omega)
end Go.Proofs.Ytanobaoaelhebaa.Q
end
section
namespace Go.Proofs.Ytanobaoaelhebaa.Q
open Go.RowKit Go.Proofs.YtanobaoaelhebaaW.PrintWords Go.Proofs.YtanobaoaelhebaaW.PrintLast Go.Proofs.Ytanobaoaelhebaa.PB
set_option linter.unusedVariables false
set_option linter.unusedSimpArgs false
def inC (a lo hi : Int) : Bool := decide (lo ≤ a) && decide (a ≤ hi)
theorem In_c (a lo hi : Int) : spec_l00In.f a lo hi = some (inC a lo hi) := by
  unfold spec_l00In.f inC
  split
  · rename_i h; simp [h]
  · rename_i h; simp [h]
theorem Ev.const {α : Type} {x : Option α} {a : α} (h : x = some a) : Ev (fun _ => x) a := by subst h; exact Ev.now a
theorem Ev.succ {α : Type} {g : Nat → Option α} {r : α} (h : Ev (fun k => g (k + 1)) r) : Ev g r := Ev.step (fun _ => rfl) h
theorem getD_mem {α : Type} (l : List α) (i : Nat) (d : α) (h : i < l.length) : l.getD i d ∈ l := by
  simp [List.getD_eq_getElem?_getD, List.getElem?_eq_getElem h]
theorem drop_get {α : Type} (xs : List α) (i : Nat) (d : α) (h : i < xs.length) : xs.drop i = xs.getD i d :: xs.drop (i + 1) := by
  rw [List.drop_eq_getElem_cons h]
  simp [List.getD_eq_getElem?_getD, List.getElem?_eq_getElem h]
theorem Ev.all_upto (L : Nat → Int → Option Bool) (ok : Nat → Bool) (e : Bool) (n : Nat)
    (hyes : ∀ i : Nat, i < n → ok i = true → ∀ r, Ev (fun k => L k ((i + 1 : Nat) : Int)) r → Ev (fun k => L k (i : Int)) r)
    (hno : ∀ i : Nat, i < n → ok i = false → Ev (fun k => L k (i : Int)) false)
    (hend : Ev (fun k => L k (n : Int)) e) : Ev (fun k => L k 0) ((List.range n).all ok && e) := by
  refine Ev.all_or L ok 0 e (List.range n) ?_ ?_ (by simpa using hend)
  · intro i hi ho r hr
    have hi' : i < n := by simpa using hi
    refine hyes i hi' ?_ r hr
    simpa [List.getD_eq_getElem?_getD, hi'] using ho
  · intro i hi ho
    have hi' : i < n := by simpa using hi
    refine hno i hi' ?_
    simpa [List.getD_eq_getElem?_getD, hi'] using ho
end Go.Proofs.Ytanobaoaelhebaa.Q
end
section
namespace Go.Proofs.Ytanobaoaelhebaa.Q
open Go.RowKit Go.Proofs.YtanobaoaelhebaaW.PrintWords Go.Proofs.YtanobaoaelhebaaW.PrintLast Go.Proofs.YtanobaoaelhebaaW.PrintMore Go.Proofs.Ytanobaoaelhebaa.PB
set_option linter.unusedVariables false
set_option linter.unusedSimpArgs false
set_option maxRecDepth 100000 in
theorem wrap_u16 (n : Int) : IntKind.u16.wrap n = n % 65536 := by simp [IntKind.wrap, IntKind.bits, IntKind.signed]
theorem wraps_u16 (n : Int) (h₀ : 0 ≤ n) (h₁ : n < 2 ^ 16) : IntKind.u16.wrap n = n := by rw [wrap_u16]; omega
theorem u16_and1 {x : Int} (h₀ : 0 ≤ x) (h₁ : x < 65536) : Go.bits .and .u16 x 1 = x % 2 := bits_mask .u16 16 (by decide) wraps_u16 1 (by decide) x h₀ h₁
def bitV (v : Int) (x : Nat) : Int := v / 2 ^ x % 2
theorem shr_bit {v : Int} (h₀ : 0 ≤ v) (h₁ : v < 65536) {x : Nat} (hx : x < 10) : Go.bits .and .u16 (shr .u16 v (x : Int)) 1 = bitV v x := by
  have hs : shr .u16 v (x : Int) = v / 2 ^ x := by
    unfold shr
    rw [Int.toNat_natCast, Nat.min_eq_left (show x ≤ IntKind.u16.bits by unfold IntKind.bits; dsimp only; omega)]
  have hp : (0 : Int) < 2 ^ x := Int.pow_pos (by omega)
  have h2 : v / 2 ^ x ≤ v := Int.ediv_le_self _ h₀
  rw [hs, u16_and1 (Int.ediv_nonneg h₀ (by omega)) (by omega)]
  rfl
theorem u64_small (x : Nat) (h : x < 128) : IntKind.u64.wrap (x : Int) = x := by simp [IntKind.wrap, IntKind.bits, IntKind.signed]; omega
theorem wf_u16 {n : Int} (h : (Lit.int .u16 n).wf = true) : 0 ≤ n ∧ n < 65536 := by
  simp [Lit.wf, IntKind.min, IntKind.max, IntKind.signed, IntKind.bits] at h
  omega
theorem wf_i8 {n : Int} (h : (Lit.int .i8 n).wf = true) : -128 ≤ n ∧ n ≤ 127 := by
  simp [Lit.wf, IntKind.min, IntKind.max, IntKind.signed, IntKind.bits] at h
  omega
theorem rd_bound (l : List Int) (h : ∀ x ∈ l, 0 ≤ x ∧ x < 65536) (i : Int) : 0 ≤ rd l i ∧ rd l i < 65536 := by
  unfold rd
  by_cases hi : i.toNat < l.length
  · exact h _ (getD_mem l _ 0 hi)
  · rw [List.getD_eq_getElem?_getD, List.getElem?_eq_none (by omega)]
    show (0:Int) ≤ 0 ∧ (0:Int) < 65536
    omega
end Go.Proofs.Ytanobaoaelhebaa.Q
end
section
namespace Go.Proofs.Ytanobaoaelhebaa.Q
open Go.RowKit Go.Proofs.YtanobaoaelhebaaW.PrintWords Go.Proofs.YtanobaoaelhebaaW.PrintLast Go.Proofs.YtanobaoaelhebaaW.PrintMore Go.Proofs.Ytanobaoaelhebaa.La Go.Proofs.Ytanobaoaelhebaa.PB
set_option linter.unusedVariables false
set_option linter.unusedSimpArgs false
theorem Within_c (a lo hi : Int) : impl_within.f a lo hi = some (inC a lo hi) := by
  unfold impl_within.f inC
  split
  · rename_i h; simp [h]
  · rename_i h; simp [h]
theorem u64_int {a : Int} (h0 : 0 ≤ a) (h1 : a < 128) : IntKind.u64.wrap a = a := by
  obtain ⟨n, rfl⟩ : ∃ n : Nat, a = n := ⟨a.toNat, by omega⟩
  exact u64_small n (by omega)
theorem mn_small {a : Int} (h : a ≤ 10) : mn a 10 = a := by unfold mn; split <;> omega
theorem Ok_loop (s0 s1 : Int) (W : LA 10) (h0 : 1 ≤ s0 ∧ s0 ≤ 10) : ∀ n x : Nat, x + n = 10 → ∃ b, Ev (fun k => spec_l01Ok.l0 k (x : Int) s0 s1 W) b ∧ Ev (fun k => impl_ValidRoom.l0 k W (x : Int) s0 s1 W) b := by
  have hu : IntKind.u64.wrap s0 = s0 := u64_int (by omega) (by omega)
  intro n
  induction n with
  | zero =>
    intro x hx
    obtain rfl : x = 10 := by omega
    refine ⟨true, Ev.succ ?_, Ev.succ ?_⟩
    · simp only [spec_l01Ok.l0]
      exact Ev.neg (by omega) (Ev.now true)
    · simp only [impl_ValidRoom.l0]
      exact Ev.neg (by omega) (Ev.now true)
  | succ n ih =>
    intro x hx
    obtain ⟨b, hb1, hb2⟩ := ih (x + 1) (by omega)
    by_cases p1 : shr .u16 (rd W.l (x : Int)) s0 = 0
    · by_cases p2 : (x : Int) ≥ wrap64 s1
      · by_cases p3 : rd W.l (x : Int) = 0
        · refine ⟨b, Ev.succ ?_, Ev.succ ?_⟩
          · simp only [spec_l01Ok.l0]
            rw [hu, wnat x 10 (by omega) (by omega)]
            exact Ev.pos (by omega) (Ev.pos (by omega) (Ev.pos (by omega) (Ev.pos p1 (Ev.pos p2 (Ev.pos p3 hb1)))))
          · simp only [impl_ValidRoom.l0]
            rw [wnat x 10 (by omega) (by omega)]
            exact Ev.pos (by omega) (Ev.pos (by omega) (Ev.pos (by omega) (Ev.pos p1 (Ev.pos p2 (Ev.pos p3 hb2)))))
        · refine ⟨false, Ev.succ ?_, Ev.succ ?_⟩
          · simp only [spec_l01Ok.l0]
            rw [hu]
            exact Ev.pos (by omega) (Ev.pos (by omega) (Ev.pos (by omega) (Ev.pos p1 (Ev.pos p2 (Ev.neg p3 (Ev.now false))))))
          · simp only [impl_ValidRoom.l0]
            exact Ev.pos (by omega) (Ev.pos (by omega) (Ev.pos (by omega) (Ev.pos p1 (Ev.pos p2 (Ev.neg p3 (Ev.now false))))))
      · refine ⟨b, Ev.succ ?_, Ev.succ ?_⟩
        · simp only [spec_l01Ok.l0]
          rw [hu, wnat x 10 (by omega) (by omega)]
          exact Ev.pos (by omega) (Ev.pos (by omega) (Ev.pos (by omega) (Ev.pos p1 (Ev.neg p2 hb1))))
        · simp only [impl_ValidRoom.l0]
          rw [wnat x 10 (by omega) (by omega)]
          exact Ev.pos (by omega) (Ev.pos (by omega) (Ev.pos (by omega) (Ev.pos p1 (Ev.neg p2 hb2))))
    · refine ⟨false, Ev.succ ?_, Ev.succ ?_⟩
      · simp only [spec_l01Ok.l0]
        rw [hu]
        exact Ev.pos (by omega) (Ev.pos (by omega) (Ev.pos (by omega) (Ev.neg p1 (Ev.now false))))
      · simp only [impl_ValidRoom.l0]
        exact Ev.pos (by omega) (Ev.pos (by omega) (Ev.pos (by omega) (Ev.neg p1 (Ev.now false))))
theorem Ok_both (s0 s1 : Int) (W : LA 10) (b0 : -128 ≤ s0 ∧ s0 ≤ 127) (b1 : -128 ≤ s1 ∧ s1 ≤ 127) :
    ∃ b, Ev (fun k => spec_l01Ok.f k s0 s1 W) b ∧ Ev (fun k => impl_ValidRoom.f k s0 s1 W) b ∧ (b = true → (1 ≤ s0 ∧ s0 ≤ 10) ∧ (1 ≤ s1 ∧ s1 ≤ 10)) := by
  have e0 := wint s0 (by omega) (by omega)
  have e1 := wint s1 (by omega) (by omega)
  have spec0 : ∀ b1 : Bool, Ev (fun k => spec_l01Ok.j0 k true s0 s1 W) false := fun _ => Ev.succ (by simp only [spec_l01Ok.j0]; exact Ev.pos trivial (Ev.now false))
  have impl0 : ∀ b1 : Bool, Ev (fun k => impl_ValidRoom.j0 k true s0 s1 W) false := fun _ => Ev.succ (by simp only [impl_ValidRoom.j0]; exact Ev.pos trivial (Ev.now false))
  by_cases h0 : inC s0 1 10 = true
  · by_cases h1 : inC s1 1 10 = true
    · have h0' : 1 ≤ s0 ∧ s0 ≤ 10 := by unfold inC at h0; simpa using h0
      have h1' : 1 ≤ s1 ∧ s1 ≤ 10 := by unfold inC at h1; simpa using h1
      obtain ⟨b, hb1, hb2⟩ := Ok_loop s0 s1 W h0' 10 0 rfl
      refine ⟨b, ?_, ?_, fun _ => ⟨h0', h1'⟩⟩
      · unfold spec_l01Ok.f
        rw [e0, e1, In_c, In_c, h0, h1]
        simp only [Option.bind_some, if_true, Bool.not_true]
        refine Ev.succ ?_
        simp only [spec_l01Ok.j0]
        exact Ev.neg (by simp) hb1
      · unfold impl_ValidRoom.f
        rw [e0, e1, Within_c, Within_c, h0, h1]
        simp only [Option.bind_some, if_true, Bool.not_true]
        refine Ev.succ ?_
        simp only [impl_ValidRoom.j0]
        exact Ev.neg (by simp) hb2
    · have h1' : inC s1 1 10 = false := by simpa using h1
      refine ⟨false, ?_, ?_, fun h => by cases h⟩
      · unfold spec_l01Ok.f
        rw [e0, e1, In_c, In_c, h0, h1']
        simp only [Option.bind_some, if_true, Bool.not_false]
        exact spec0 true
      · unfold impl_ValidRoom.f
        rw [e0, e1, Within_c, Within_c, h0, h1']
        simp only [Option.bind_some, if_true, Bool.not_false]
        exact impl0 true
  · have h0' : inC s0 1 10 = false := by simpa using h0
    refine ⟨false, ?_, ?_, fun h => by cases h⟩
    · unfold spec_l01Ok.f
      rw [e0, In_c, h0']
      simp only [Option.bind_some, Bool.false_eq_true, if_false]
      exact spec0 true
    · unfold impl_ValidRoom.f
      rw [e0, Within_c, h0']
      simp only [Option.bind_some, Bool.false_eq_true, if_false]
      exact impl0 true
def fr (W : List Int) (x y : Int) : Bool := bitV (rd W y) x.toNat == 0
theorem shr_div {v : Int} {x : Nat} (hx : x < 10) : shr .u16 v (x : Int) = v / 2 ^ x := by
  unfold shr
  rw [Int.toNat_natCast, Nat.min_eq_left (show x ≤ IntKind.u16.bits by unfold IntKind.bits; dsimp only; omega)]
theorem Free_s (s0 s1 : Int) (W : LA 10) (hb : ∀ i, 0 ≤ rd W.l i ∧ rd W.l i < 65536) (h0 : s0 ≤ 10) (h1 : s1 ≤ 10) (x y : Nat) (hx : (x : Int) < s0) (hy : (y : Int) < s1) :
    spec_l01Free.f s0 s1 W (x : Int) (y : Int) = some (fr W.l (x : Int) (y : Int)) := by
  unfold spec_l01Free.f spec_l01Is.f
  rw [wint s0 (by omega) (by omega), wint s1 (by omega) (by omega), wint (x : Int) (by omega) (by omega), wint (y : Int) (by omega) (by omega), wint (s0 - 1) (by omega) (by omega), wint (s1 - 1) (by omega) (by omega), In_c, In_c]
  rw [show inC (x : Int) 0 (s0 - 1) = true by unfold inC; simp; omega, show inC (y : Int) 0 (s1 - 1) = true by unfold inC; simp; omega]
  simp only [Option.bind_some, if_true]
  rw [if_pos (by omega), if_pos (by omega), u64_int (by omega) (by omega), if_pos (by omega), shr_div (by omega)]
  have hn : 0 ≤ rd W.l (y : Int) / 2 ^ x := Int.ediv_nonneg (hb _).1 (Int.le_of_lt (Int.pow_pos (by omega)))
  rw [Int.tmod_eq_emod_of_nonneg hn]
  unfold fr bitV
  rw [Int.toNat_natCast]
theorem Free_i (s0 s1 : Int) (W : LA 10) (hb : ∀ i, 0 ≤ rd W.l i ∧ rd W.l i < 65536) (h0 : s0 ≤ 10) (h1 : s1 ≤ 10) (x y : Nat) (hx : (x : Int) < s0) (hy : (y : Int) < s1) :
    impl_Room_isFree.f s0 s1 W (x : Int) (y : Int) = some (fr W.l (x : Int) (y : Int)) := by
  unfold impl_Room_isFree.f impl_Room_isCell.f
  rw [wint s0 (by omega) (by omega), wint s1 (by omega) (by omega), wint (x : Int) (by omega) (by omega), wint (y : Int) (by omega) (by omega), mn_small h0, mn_small h1, wint (s0 - 1) (by omega) (by omega), wint (s1 - 1) (by omega) (by omega), Within_c, Within_c]
  rw [show inC (x : Int) 0 (s0 - 1) = true by unfold inC; simp; omega, show inC (y : Int) 0 (s1 - 1) = true by unfold inC; simp; omega]
  simp only [Option.bind_some, if_true]
  rw [if_pos (by omega), if_pos (by omega), if_pos (by omega), shr_bit (hb _).1 (hb _).2 (by omega)]
  unfold fr
  rw [Int.toNat_natCast]
def rowL (p : Int → Int → Bool) (y : Int) (acc : List S36) : Nat → List S36
  | 0 => acc
  | x + 1 => if p (x : Int) y then rowL p y acc x ++ [⟨(x : Int), y⟩] else rowL p y acc x
def cellsL (p : Int → Int → Bool) (w : Nat) : Nat → List S36
  | 0 => []
  | y + 1 => rowL p (y : Int) (cellsL p w y) w
theorem rowL_len (p : Int → Int → Bool) (y : Int) (acc : List S36) : ∀ x, (rowL p y acc x).length ≤ acc.length + x
  | 0 => by simp [rowL]
  | x + 1 => by have := rowL_len p y acc x; rw [rowL]; split <;> simp <;> omega
theorem cellsL_len (p : Int → Int → Bool) (w : Nat) : ∀ y, (cellsL p w y).length ≤ w * y
  | 0 => by simp [cellsL]
  | y + 1 => by
    have h1 := cellsL_len p w y
    have h2 := rowL_len p (y : Int) (cellsL p w y) w
    rw [cellsL, Nat.mul_succ]
    omega
theorem Ev.cells (p : Int → Int → Bool) (w h : Nat) (hw : w ≤ 10) (hh : h ≤ 10) (L0 : Nat → List S36 → Int → Option (List S36)) (L1 : Nat → List S36 → Int → Int → Option (List S36))
    (e0 : ∀ acc (y : Nat) r, y < h → Ev (fun k => L1 k acc (y : Int) 0) r → Ev (fun k => L0 k acc (y : Int)) r) (e0' : ∀ acc, Ev (fun k => L0 k acc (h : Int)) acc)
    (e1 : ∀ acc (y x : Nat) r, y < h → x < w → acc.length ≤ 1000 → Ev (fun k => L1 k (if p (x : Int) (y : Int) then acc ++ [⟨(x : Int), (y : Int)⟩] else acc) (y : Int) ((x + 1 : Nat) : Int)) r → Ev (fun k => L1 k acc (y : Int) (x : Int)) r)
    (e1' : ∀ acc (y : Nat) r, y < h → Ev (fun k => L0 k acc ((y + 1 : Nat) : Int)) r → Ev (fun k => L1 k acc (y : Int) (w : Int)) r) :
    Ev (fun k => L0 k [] 0) (cellsL p w h) := by
  have inner : ∀ (n x y : Nat) (acc : List S36) r, x + n = w → y < h → acc.length ≤ 900 → Ev (fun k => L0 k (rowL p (y : Int) acc w) ((y + 1 : Nat) : Int)) r → Ev (fun k => L1 k (rowL p (y : Int) acc x) (y : Int) (x : Int)) r := by
    intro n
    induction n with
    | zero =>
      intro x y acc r hx hy hl hr
      obtain rfl : x = w := by omega
      exact e1' _ y r hy hr
    | succ n ih =>
      intro x y acc r hx hy hl hr
      have := rowL_len p (y : Int) acc x
      exact e1 _ y x r hy (by omega) (by omega) (ih (x + 1) y acc r (by omega) hy hl hr)
  have outer : ∀ (n y : Nat), y + n = h → Ev (fun k => L0 k (cellsL p w y) (y : Int)) (cellsL p w h) := by
    intro n
    induction n with
    | zero =>
      intro y hy
      obtain rfl : y = h := by omega
      exact e0' _
    | succ n ih =>
      intro y hy
      have h1 := cellsL_len p w y
      have h2 : w * y ≤ 10 * 10 := Nat.mul_le_mul hw (by omega)
      exact e0 _ y _ (by omega) (inner w 0 y _ _ (by omega) (by omega) (by omega) (ih (y + 1) (by omega)))
  exact outer h 0 (by omega)
def isC (s0 s1 x y : Int) : Bool := inC x 0 (s0 - 1) && inC y 0 (s1 - 1)
def frC (s0 s1 : Int) (W : LA 10) (x y : Int) : Bool := isC s0 s1 x y && fr W.l x y
theorem isC_bounds {s0 s1 x y : Int} (h : isC s0 s1 x y = true) : (0 ≤ x ∧ x < s0) ∧ (0 ≤ y ∧ y < s1) := by
  unfold isC inC at h
  simp at h
  omega
theorem Is_s (s0 s1 : Int) (W : LA 10) (h0 : 1 ≤ s0 ∧ s0 ≤ 10) (h1 : 1 ≤ s1 ∧ s1 ≤ 10) (x y : Int) (hx : -128 ≤ x ∧ x ≤ 127) (hy : -128 ≤ y ∧ y ≤ 127) : spec_l01Is.f s0 s1 W x y = some (isC s0 s1 x y) := by
  unfold spec_l01Is.f isC
  rw [wint s0 (by omega) (by omega), wint s1 (by omega) (by omega), wint x (by omega) (by omega), wint y (by omega) (by omega), wint (s0 - 1) (by omega) (by omega), wint (s1 - 1) (by omega) (by omega), In_c, In_c]
  simp only [Option.bind_some]
  cases inC x 0 (s0 - 1) <;> simp
theorem Is_i (s0 s1 : Int) (W : LA 10) (h0 : 1 ≤ s0 ∧ s0 ≤ 10) (h1 : 1 ≤ s1 ∧ s1 ≤ 10) (x y : Int) (hx : -128 ≤ x ∧ x ≤ 127) (hy : -128 ≤ y ∧ y ≤ 127) : impl_Room_isCell.f s0 s1 W x y = some (isC s0 s1 x y) := by
  unfold impl_Room_isCell.f isC
  rw [wint s0 (by omega) (by omega), wint s1 (by omega) (by omega), wint x (by omega) (by omega), wint y (by omega) (by omega), mn_small h0.2, mn_small h1.2, wint (s0 - 1) (by omega) (by omega), wint (s1 - 1) (by omega) (by omega), Within_c, Within_c]
  simp only [Option.bind_some]
  cases inC x 0 (s0 - 1) <;> simp
theorem Fr_s (s0 s1 : Int) (W : LA 10) (hb : ∀ i, 0 ≤ rd W.l i ∧ rd W.l i < 65536) (h0 : 1 ≤ s0 ∧ s0 ≤ 10) (h1 : 1 ≤ s1 ∧ s1 ≤ 10) (x y : Int) (hx : -128 ≤ x ∧ x ≤ 127) (hy : -128 ≤ y ∧ y ≤ 127) : spec_l01Free.f s0 s1 W x y = some (frC s0 s1 W x y) := by
  cases hc : isC s0 s1 x y with
  | true =>
    have hd := isC_bounds hc
    obtain ⟨n, rfl⟩ : ∃ n : Nat, x = n := ⟨x.toNat, by omega⟩
    obtain ⟨m, rfl⟩ : ∃ m : Nat, y = m := ⟨y.toNat, by omega⟩
    rw [Free_s s0 s1 W hb (by omega) (by omega) n m (by omega) (by omega)]
    unfold frC
    rw [hc]
    rfl
  | false =>
    unfold spec_l01Free.f frC
    rw [Is_s s0 s1 W h0 h1 x y hx hy, hc]
    rfl
theorem Fr_i (s0 s1 : Int) (W : LA 10) (hb : ∀ i, 0 ≤ rd W.l i ∧ rd W.l i < 65536) (h0 : 1 ≤ s0 ∧ s0 ≤ 10) (h1 : 1 ≤ s1 ∧ s1 ≤ 10) (x y : Int) (hx : -128 ≤ x ∧ x ≤ 127) (hy : -128 ≤ y ∧ y ≤ 127) : impl_Room_isFree.f s0 s1 W x y = some (frC s0 s1 W x y) := by
  cases hc : isC s0 s1 x y with
  | true =>
    have hd := isC_bounds hc
    obtain ⟨n, rfl⟩ : ∃ n : Nat, x = n := ⟨x.toNat, by omega⟩
    obtain ⟨m, rfl⟩ : ∃ m : Nat, y = m := ⟨y.toNat, by omega⟩
    rw [Free_i s0 s1 W hb (by omega) (by omega) n m (by omega) (by omega)]
    unfold frC
    rw [hc]
    rfl
  | false =>
    unfold impl_Room_isFree.f frC
    rw [Is_i s0 s1 W h0 h1 x y hx hy, hc]
    rfl
def RB (s0 s1 : Int) (W : LA 10) : Prop := (-128 ≤ s0 ∧ s0 ≤ 127) ∧ (-128 ≤ s1 ∧ s1 ≤ 127) ∧ ∀ i, 0 ≤ rd W.l i ∧ rd W.l i < 65536
theorem rb_mk {s0 s1 : Int} {W : LA 10} (w0 : (Lit.int .i8 s0).wf = true) (w1 : (Lit.int .i8 s1).wf = true) (h : ∀ x ∈ W.l, (Lit.int .u16 x).wf = true) : RB s0 s1 W := ⟨wf_i8 w0, wf_i8 w1, rd_bound _ fun x hx => wf_u16 (h x hx)⟩
def SB (q : S36) : Prop := (-128 ≤ q.f0 ∧ q.f0 ≤ 127) ∧ (-128 ≤ q.f1 ∧ q.f1 ≤ 127)
end Go.Proofs.Ytanobaoaelhebaa.Q
end
section
namespace Go.Proofs.Ytanobaoaelhebaa.Q
open Go.RowKit Go.Proofs.YtanobaoaelhebaaW.PrintWords Go.Proofs.YtanobaoaelhebaaW.PrintLast Go.Proofs.YtanobaoaelhebaaW.PrintMore Go.Proofs.Ytanobaoaelhebaa.La Go.Proofs.Ytanobaoaelhebaa.PB
set_option linter.unusedVariables false
set_option linter.unusedSimpArgs false
theorem Ev.find_idx (L : Nat → Int → Option Int) (p : Nat → Bool) (n : Nat) (hyes : ∀ i : Nat, i < n → p i = true → Ev (fun k => L k (i : Int)) (i : Int))
    (hno : ∀ i : Nat, i < n → p i = false → ∀ r, Ev (fun k => L k ((i + 1 : Nat) : Int)) r → Ev (fun k => L k (i : Int)) r) (hend : Ev (fun k => L k (n : Int)) (-1)) :
    ∃ r : Int, Ev (fun k => L k 0) r ∧ decide (r ≥ 0) = (List.range n).any p := by
  have key : ∀ (m i : Nat), i + m = n → (∀ j, j < i → p j = false) → ∃ r : Int, Ev (fun k => L k (i : Int)) r ∧ decide (r ≥ 0) = (List.range n).any p := by
    intro m
    induction m with
    | zero =>
      intro i hi hf
      obtain rfl : i = n := by omega
      refine ⟨-1, hend, ?_⟩
      rw [show ((List.range i).any p) = false from ?_]
      · rfl
      · rw [List.any_eq_false]
        intro j hj
        rw [hf j (by simpa using hj)]
        exact Bool.false_ne_true
    | succ m ih =>
      intro i hi hf
      cases hp : p i with
      | true =>
        refine ⟨(i : Int), hyes i (by omega) hp, ?_⟩
        rw [show ((List.range n).any p) = true from List.any_eq_true.2 ⟨i, by simp; omega, hp⟩]
        exact decide_eq_true (by omega)
      | false =>
        obtain ⟨r, hr, hd⟩ := ih (i + 1) (by omega) (fun j hj => by
          by_cases e : j = i
          · subst e; exact hp
          · exact hf j (by omega))
        exact ⟨r, hno i (by omega) hp r hr, hd⟩
  exact key n 0 (by omega) (fun j hj => by omega)
theorem any_range {α : Type} (l : List α) (z : α) (f : α → Bool) : (List.range l.length).any (fun i => f (l.getD i z)) = l.any f := by
  rw [Bool.eq_iff_iff, List.any_eq_true, List.any_eq_true]
  constructor
  · rintro ⟨i, hi, hf⟩
    have hi' : i < l.length := by simpa using hi
    exact ⟨_, getD_mem l i z hi', hf⟩
  · rintro ⟨x, hx, hf⟩
    obtain ⟨i, hi, rfl⟩ := List.getElem_of_mem hx
    exact ⟨i, by simpa using hi, by rw [List.getD_eq_getElem?_getD, List.getElem?_eq_getElem hi]; exact hf⟩
theorem rdS_get (l : List S36) (i : Nat) : rd_T36 l (i : Int) = l.getD i z36 := by simp [rd_T36]
theorem Unless_c (b : Bool) (c : Int) : impl_unless.f b c = some (if b then 0 else c) := by
  unfold impl_unless.f
  cases b <;> rfl
def firstNZ : List Int → Int
  | [] => 0
  | c :: cs => if c = 0 then firstNZ cs else c
theorem FirstOf_ev (l : List Int) (hl : l.length ≤ 1000) : Ev (fun k => impl_firstOf.f k l) (firstNZ l) := by
  unfold impl_firstOf.f
  have key : ∀ (m i : Nat), i + m = l.length → Ev (fun k => impl_firstOf.l0 k l (l.length : Int) (i : Int)) (firstNZ (l.drop i)) := by
    intro m
    induction m with
    | zero =>
      intro i hi
      refine Ev.succ ?_
      simp only [impl_firstOf.l0]
      rw [List.drop_of_length_le (by omega)]
      exact Ev.neg (by omega) (Ev.now _)
    | succ m ih =>
      intro i hi
      refine Ev.succ ?_
      simp only [impl_firstOf.l0]
      rw [drop_get l i 0 (by omega), firstNZ, rd_nat, wnat i l.length (by omega) (by omega)]
      refine Ev.pos (by omega) (Ev.pos (by omega) (Ev.pos (by omega) ?_))
      by_cases h : l.getD i 0 = 0
      · rw [if_pos h]
        exact Ev.pos h (ih (i + 1) (by omega))
      · rw [if_neg h]
        exact Ev.neg h (Ev.now _)
  exact key l.length 0 (by omega)
def allCell (s0 s1 : Int) (l : List S36) : Bool := !(l.any fun q => !isC s0 s1 q.f0 q.f1)
def allFree (s0 s1 : Int) (W : LA 10) (l : List S36) : Bool := !(l.any fun q => !frC s0 s1 W q.f0 q.f1)
theorem NoCell_ev (s0 s1 : Int) (W : LA 10) (h0 : 1 ≤ s0 ∧ s0 ≤ 10) (h1 : 1 ≤ s1 ∧ s1 ≤ 10) (l : List S36) (hl : l.length ≤ 1073741824) (hs : ∀ q ∈ l, SB q) :
    Ev (fun k => impl_Spot_89__90.f k l s0 s1 W) (l.any fun q => !isC s0 s1 q.f0 q.f1) := by
  unfold impl_Spot_89__90.f impl_Spot_99__90.f
  obtain ⟨r, hr, hd⟩ := Ev.find_idx (fun k i => impl_Spot_99__90.l0 k l (l.length : Int) i s0 s1 W) (fun i => !isC s0 s1 (l.getD i z36).f0 (l.getD i z36).f1) l.length
    (fun i hi hp => by
      have hm := hs _ (getD_mem l i z36 hi)
      refine Ev.succ ?_
      simp only [impl_Spot_99__90.l0, impl_cellCode_1.f]
      rw [rdS_get, Is_i s0 s1 W h0 h1 _ _ hm.1 hm.2]
      simp only [Option.bind_some]
      exact Ev.pos (by omega) (Ev.pos (by omega) (Ev.pos (by omega) (Ev.pos hp (Ev.now _)))))
    (fun i hi hp r hr => by
      have hm := hs _ (getD_mem l i z36 hi)
      refine Ev.succ ?_
      simp only [impl_Spot_99__90.l0, impl_cellCode_1.f]
      rw [rdS_get, Is_i s0 s1 W h0 h1 _ _ hm.1 hm.2, wnat i l.length hi (by omega)]
      simp only [Option.bind_some]
      exact Ev.pos (by omega) (Ev.pos (by omega) (Ev.pos (by omega) (Ev.neg (by rw [hp]; exact Bool.false_ne_true) hr))))
    (by
      refine Ev.succ ?_
      simp only [impl_Spot_99__90.l0]
      exact Ev.neg (by omega) (Ev.now _))
  rw [any_range l z36 (fun q => !isC s0 s1 q.f0 q.f1)] at hd
  exact Ev.bind hr (by rw [hd]; exact Ev.now _)
theorem NoFree_ev (s0 s1 : Int) (W : LA 10) (hb : ∀ i, 0 ≤ rd W.l i ∧ rd W.l i < 65536) (h0 : 1 ≤ s0 ∧ s0 ≤ 10) (h1 : 1 ≤ s1 ∧ s1 ≤ 10) (l : List S36) (hl : l.length ≤ 1073741824) (hs : ∀ q ∈ l, SB q) :
    Ev (fun k => impl_Spot_89__92.f k l s0 s1 W) (l.any fun q => !frC s0 s1 W q.f0 q.f1) := by
  unfold impl_Spot_89__92.f impl_Spot_99__92.f
  obtain ⟨r, hr, hd⟩ := Ev.find_idx (fun k i => impl_Spot_99__92.l0 k l (l.length : Int) i s0 s1 W) (fun i => !frC s0 s1 W (l.getD i z36).f0 (l.getD i z36).f1) l.length
    (fun i hi hp => by
      have hm := hs _ (getD_mem l i z36 hi)
      refine Ev.succ ?_
      simp only [impl_Spot_99__92.l0, impl_stateCode_1.f]
      rw [rdS_get, Fr_i s0 s1 W hb h0 h1 _ _ hm.1 hm.2]
      simp only [Option.bind_some]
      exact Ev.pos (by omega) (Ev.pos (by omega) (Ev.pos (by omega) (Ev.pos hp (Ev.now _)))))
    (fun i hi hp r hr => by
      have hm := hs _ (getD_mem l i z36 hi)
      refine Ev.succ ?_
      simp only [impl_Spot_99__92.l0, impl_stateCode_1.f]
      rw [rdS_get, Fr_i s0 s1 W hb h0 h1 _ _ hm.1 hm.2, wnat i l.length hi (by omega)]
      simp only [Option.bind_some]
      exact Ev.pos (by omega) (Ev.pos (by omega) (Ev.pos (by omega) (Ev.neg (by rw [hp]; exact Bool.false_ne_true) hr))))
    (by
      refine Ev.succ ?_
      simp only [impl_Spot_99__92.l0]
      exact Ev.neg (by omega) (Ev.now _))
  rw [any_range l z36 (fun q => !frC s0 s1 W q.f0 q.f1)] at hd
  exact Ev.bind hr (by rw [hd]; exact Ev.now _)
theorem CellCode_bad (s0 s1 : Int) (W : LA 10) (l : List S36) (hv : Ev (fun k => impl_ValidRoom.f k s0 s1 W) false) : Ev (fun k => impl_cellCode.f k s0 s1 W l) 1 := by
  unfold impl_cellCode.f
  exact Ev.bind hv (Ev.neg (by simp) (Ev.now _))
theorem CellCode_ev (s0 s1 : Int) (W : LA 10) (hv : Ev (fun k => impl_ValidRoom.f k s0 s1 W) true) (h0 : 1 ≤ s0 ∧ s0 ≤ 10) (h1 : 1 ≤ s1 ∧ s1 ≤ 10) (l : List S36) (hl : l.length ≤ 1073741824) (hs : ∀ q ∈ l, SB q) :
    Ev (fun k => impl_cellCode.f k s0 s1 W l) (if allCell s0 s1 l then 0 else 2) := by
  unfold impl_cellCode.f
  refine Ev.bind hv (Ev.pos rfl (Ev.bind (NoCell_ev s0 s1 W h0 h1 l hl hs) ?_))
  rw [Unless_c]
  exact Ev.now _
theorem StateCode_ev (s0 s1 : Int) (W : LA 10) (hb : ∀ i, 0 ≤ rd W.l i ∧ rd W.l i < 65536) (h0 : 1 ≤ s0 ∧ s0 ≤ 10) (h1 : 1 ≤ s1 ∧ s1 ≤ 10) (l : List S36) (hl : l.length ≤ 1073741824) (hs : ∀ q ∈ l, SB q) :
    Ev (fun k => impl_stateCode.f k s0 s1 W l) (if allFree s0 s1 W l then 0 else 4) := by
  unfold impl_stateCode.f
  refine Ev.bind (NoFree_ev s0 s1 W hb h0 h1 l hl hs) ?_
  rw [Unless_c]
  exact Ev.now _
def isCi (s0 s1 x y : Int) : Bool := inC x 0 (mn s0 10 - 1) && inC y 0 (mn s1 10 - 1)
theorem mn_le (a : Int) : mn a 10 ≤ 10 := by unfold mn; split <;> omega
theorem mn_ge {a b : Int} (h : b ≤ a) (hb : b ≤ 10) : b ≤ mn a 10 := by unfold mn; split <;> omega
theorem Is_ig (s0 s1 : Int) (W : LA 10) (h0 : -128 ≤ s0 ∧ s0 ≤ 127) (h1 : -128 ≤ s1 ∧ s1 ≤ 127) (x y : Int) (hx : -128 ≤ x ∧ x ≤ 127) (hy : -128 ≤ y ∧ y ≤ 127) : impl_Room_isCell.f s0 s1 W x y = some (isCi s0 s1 x y) := by
  have a1 := mn_le s0
  have a2 := mn_ge h0.1 (show (-128 : Int) ≤ 10 by omega)
  have b1 := mn_le s1
  have b2 := mn_ge h1.1 (show (-128 : Int) ≤ 10 by omega)
  unfold impl_Room_isCell.f isCi
  rw [wint s0 (by omega) (by omega), wint s1 (by omega) (by omega), wint x (by omega) (by omega), wint y (by omega) (by omega), wint (mn s0 10 - 1) (by omega) (by omega), wint (mn s1 10 - 1) (by omega) (by omega), Within_c, Within_c]
  simp only [Option.bind_some]
  cases inC x 0 (mn s0 10 - 1) <;> simp
theorem Fr_ig (s0 s1 : Int) (W : LA 10) (hr : RB s0 s1 W) (x y : Int) (hx : -128 ≤ x ∧ x ≤ 127) (hy : -128 ≤ y ∧ y ≤ 127) : impl_Room_isFree.f s0 s1 W x y = some (isCi s0 s1 x y && fr W.l x y) := by
  obtain ⟨h0, h1, hb⟩ := hr
  have a1 := mn_le s0
  have b1 := mn_le s1
  unfold impl_Room_isFree.f
  rw [Is_ig s0 s1 W h0 h1 x y hx hy]
  simp only [Option.bind_some]
  cases h : isCi s0 s1 x y with
  | false => simp
  | true =>
    have hd : (0 ≤ x ∧ x ≤ mn s0 10 - 1) ∧ (0 ≤ y ∧ y ≤ mn s1 10 - 1) := by
      unfold isCi inC at h
      simp at h
      omega
    obtain ⟨n, rfl⟩ : ∃ n : Nat, x = n := ⟨x.toNat, by omega⟩
    rw [if_pos rfl, if_pos (by omega), if_pos (by omega), if_pos (by omega), shr_bit (hb _).1 (hb _).2 (by omega)]
    unfold fr
    rw [Int.toNat_natCast]
    simp
theorem StateCode_any (s0 s1 : Int) (W : LA 10) (hr : RB s0 s1 W) (l : List S36) (hl : l.length ≤ 1073741824) (hs : ∀ q ∈ l, SB q) :
    Ev (fun k => impl_stateCode.f k s0 s1 W l) (if (l.any fun q => !(isCi s0 s1 q.f0 q.f1 && fr W.l q.f0 q.f1)) then 4 else 0) := by
  unfold impl_stateCode.f
  have hN : Ev (fun k => impl_Spot_89__92.f k l s0 s1 W) (l.any fun q => !(isCi s0 s1 q.f0 q.f1 && fr W.l q.f0 q.f1)) := by
    unfold impl_Spot_89__92.f impl_Spot_99__92.f
    obtain ⟨r, hr', hd⟩ := Ev.find_idx (fun k i => impl_Spot_99__92.l0 k l (l.length : Int) i s0 s1 W) (fun i => !(isCi s0 s1 (l.getD i z36).f0 (l.getD i z36).f1 && fr W.l (l.getD i z36).f0 (l.getD i z36).f1)) l.length
      (fun i hi hp => by
        have hm := hs _ (getD_mem l i z36 hi)
        refine Ev.succ ?_
        simp only [impl_Spot_99__92.l0, impl_stateCode_1.f]
        rw [rdS_get, Fr_ig s0 s1 W hr _ _ hm.1 hm.2]
        simp only [Option.bind_some]
        exact Ev.pos (by omega) (Ev.pos (by omega) (Ev.pos (by omega) (Ev.pos hp (Ev.now _)))))
      (fun i hi hp r hr' => by
        have hm := hs _ (getD_mem l i z36 hi)
        refine Ev.succ ?_
        simp only [impl_Spot_99__92.l0, impl_stateCode_1.f]
        rw [rdS_get, Fr_ig s0 s1 W hr _ _ hm.1 hm.2, wnat i l.length hi (by omega)]
        simp only [Option.bind_some]
        exact Ev.pos (by omega) (Ev.pos (by omega) (Ev.pos (by omega) (Ev.neg (by rw [hp]; exact Bool.false_ne_true) hr'))))
      (by
        refine Ev.succ ?_
        simp only [impl_Spot_99__92.l0]
        exact Ev.neg (by omega) (Ev.now _))
    rw [any_range l z36 (fun q => !(isCi s0 s1 q.f0 q.f1 && fr W.l q.f0 q.f1))] at hd
    exact Ev.bind hr' (by rw [hd]; exact Ev.now _)
  refine Ev.bind hN ?_
  rw [Unless_c]
  cases (l.any fun q => !(isCi s0 s1 q.f0 q.f1 && fr W.l q.f0 q.f1)) <;> exact Ev.now _
end Go.Proofs.Ytanobaoaelhebaa.Q
end
section
namespace Go.Proofs.Ytanobaoaelhebaa.Q
open Go.RowKit Go.Proofs.YtanobaoaelhebaaW.PrintWords Go.Proofs.YtanobaoaelhebaaW.PrintLast Go.Proofs.YtanobaoaelhebaaW.PrintMore Go.Proofs.Ytanobaoaelhebaa.La Go.Proofs.Ytanobaoaelhebaa.Mp Go.Proofs.Ytanobaoaelhebaa.PB
set_option linter.unusedVariables false
set_option linter.unusedSimpArgs false
theorem i8_id {v : Int} (h0 : -128 ≤ v) (h1 : v ≤ 127) : IntKind.i8.wrap v = v := by simp [IntKind.wrap, IntKind.bits, IntKind.signed]; omega
def nxt (x y : Int) : Nat → S36
  | 0 => ⟨x, y - 1⟩
  | 1 => ⟨x + 1, y⟩
  | 2 => ⟨x, y + 1⟩
  | _ => ⟨x - 1, y⟩
def besL (p : Int → Int → Bool) (x y : Int) : Nat → List S36
  | 0 => []
  | d + 1 => if p (nxt x y d).f0 (nxt x y d).f1 then besL p x y d ++ [nxt x y d] else besL p x y d
def nb (s0 s1 : Int) (W : LA 10) (x y : Int) : List S36 := besL (frC s0 s1 W) x y 4
theorem besL_len (p : Int → Int → Bool) (x y : Int) : ∀ d, (besL p x y d).length ≤ d
  | 0 => by simp [besL]
  | d + 1 => by have := besL_len p x y d; rw [besL]; split <;> simp <;> omega
theorem besL_mem (p : Int → Int → Bool) (x y : Int) : ∀ d, ∀ q ∈ besL p x y d, p q.f0 q.f1 = true
  | 0 => by simp [besL]
  | d + 1 => by
    have ih := besL_mem p x y d
    rw [besL]
    split
    · rename_i hp
      intro q hq
      rcases List.mem_append.1 hq with h | h
      · exact ih q h
      · obtain rfl := List.mem_singleton.1 h
        exact hp
    · exact ih
theorem nxt_small {x y : Int} (hx : 0 ≤ x ∧ x < 10) (hy : 0 ≤ y ∧ y < 10) (d : Nat) : (-128 ≤ (nxt x y d).f0 ∧ (nxt x y d).f0 ≤ 127) ∧ (-128 ≤ (nxt x y d).f1 ∧ (nxt x y d).f1 ≤ 127) := by
  rcases d with _ | _ | _ | d <;> simp only [nxt] <;> omega
theorem Next_s {x y : Int} (hx : 0 ≤ x ∧ x < 10) (hy : 0 ≤ y ∧ y < 10) (d : Nat) (hd : d < 4) : spec_l01Next.f x y (d : Int) = some ((nxt x y d).f0, (nxt x y d).f1) := by
  unfold spec_l01Next.f
  rw [i8_id (v := y - 1) (by omega) (by omega), i8_id (v := x + 1) (by omega) (by omega), i8_id (v := y + 1) (by omega) (by omega), i8_id (v := x - 1) (by omega) (by omega)]
  rcases d with _ | _ | _ | _ | d
  · rfl
  · rfl
  · rfl
  · rfl
  · omega
theorem Next_i {x y : Int} (hx : 0 ≤ x ∧ x < 10) (hy : 0 ≤ y ∧ y < 10) (d : Nat) (hd : d < 4) : impl_NextSpot.f x y (d : Int) = some ((nxt x y d).f0, (nxt x y d).f1) := by
  unfold impl_NextSpot.f
  rw [i8_id (v := y - 1) (by omega) (by omega), i8_id (v := x + 1) (by omega) (by omega), i8_id (v := y + 1) (by omega) (by omega), i8_id (v := x - 1) (by omega) (by omega)]
  rcases d with _ | _ | _ | _ | d
  · rfl
  · rfl
  · rfl
  · rfl
  · omega
theorem Beside_s (s0 s1 : Int) (W : LA 10) (hb : ∀ i, 0 ≤ rd W.l i ∧ rd W.l i < 65536) (h0 : 1 ≤ s0 ∧ s0 ≤ 10) (h1 : 1 ≤ s1 ∧ s1 ≤ 10) (x y : Int) (hx : 0 ≤ x ∧ x < 10) (hy : 0 ≤ y ∧ y < 10) :
    Ev (fun k => spec_l01Beside.f k s0 s1 W x y) (nb s0 s1 W x y) := by
  unfold spec_l01Beside.f
  have key : ∀ n d : Nat, d + n = 4 → Ev (fun k => spec_l01Beside.l0 k (besL (frC s0 s1 W) x y d) (d : Int) s0 s1 W x y) (nb s0 s1 W x y) := by
    intro n
    induction n with
    | zero =>
      intro d hd
      obtain rfl : d = 4 := by omega
      refine Ev.succ ?_
      simp only [spec_l01Beside.l0]
      exact Ev.neg (by omega) (Ev.now _)
    | succ n ih =>
      intro d hd
      have hs := nxt_small hx hy d
      have hl := besL_len (frC s0 s1 W) x y d
      have e := ih (d + 1) (by omega)
      rw [besL] at e
      refine Ev.succ ?_
      simp only [spec_l01Beside.l0]
      refine Ev.pos (by omega) ?_
      rw [Next_s hx hy d (by omega), wnat d 4 (by omega) (by omega)]
      simp only [Option.bind_some]
      rw [Fr_s s0 s1 W hb h0 h1 _ _ hs.1 hs.2]
      simp only [Option.bind_some]
      cases hc : frC s0 s1 W (nxt x y d).f0 (nxt x y d).f1 with
      | true => rw [hc] at e; exact Ev.pos rfl (Ev.pos (by omega) e)
      | false => rw [hc] at e; exact Ev.neg Bool.false_ne_true e
  exact key 4 0 rfl
theorem Beside_i (s0 s1 : Int) (W : LA 10) (hb : ∀ i, 0 ≤ rd W.l i ∧ rd W.l i < 65536) (h0 : 1 ≤ s0 ∧ s0 ≤ 10) (h1 : 1 ≤ s1 ∧ s1 ≤ 10) (x y : Int) (hx : 0 ≤ x ∧ x < 10) (hy : 0 ≤ y ∧ y < 10) :
    Ev (fun k => impl_Room_beside.f k s0 s1 W x y) (nb s0 s1 W x y) := by
  unfold impl_Room_beside.f
  have key : ∀ n d : Nat, d + n = 4 → Ev (fun k => impl_Room_beside.l0 k (besL (frC s0 s1 W) x y d) (d : Int) s0 s1 W x y) (nb s0 s1 W x y) := by
    intro n
    induction n with
    | zero =>
      intro d hd
      obtain rfl : d = 4 := by omega
      refine Ev.succ ?_
      simp only [impl_Room_beside.l0]
      exact Ev.neg (by omega) (Ev.now _)
    | succ n ih =>
      intro d hd
      have hs := nxt_small hx hy d
      have hl := besL_len (frC s0 s1 W) x y d
      have e := ih (d + 1) (by omega)
      rw [besL] at e
      refine Ev.succ ?_
      simp only [impl_Room_beside.l0]
      refine Ev.pos (by omega) ?_
      rw [Next_i hx hy d (by omega), wnat d 4 (by omega) (by omega)]
      simp only [Option.bind_some]
      rw [Fr_i s0 s1 W hb h0 h1 _ _ hs.1 hs.2]
      simp only [Option.bind_some]
      cases hc : frC s0 s1 W (nxt x y d).f0 (nxt x y d).f1 with
      | true => rw [hc] at e; exact Ev.pos rfl (Ev.pos (by omega) e)
      | false => rw [hc] at e; exact Ev.neg Bool.false_ne_true e
  exact key 4 0 rfl
end Go.Proofs.Ytanobaoaelhebaa.Q
end
section
namespace Go.Proofs.Ytanobaoaelhebaa.Q
open Go.RowKit Go.Proofs.YtanobaoaelhebaaW.PrintWords Go.Proofs.YtanobaoaelhebaaW.PrintLast Go.Proofs.YtanobaoaelhebaaW.PrintMore Go.Proofs.Ytanobaoaelhebaa.La Go.Proofs.Ytanobaoaelhebaa.Mp Go.Proofs.Ytanobaoaelhebaa.PB
set_option linter.unusedVariables false
set_option linter.unusedSimpArgs false
theorem mget_push (x y n a b : Int) : ∀ M : MP, mget (M ++ [(x, y, n)]) a b = if (mget M a b).isSome then mget M a b else if (a == x && (b == y)) = true then some n else none
  | [] => by simp [mget]
  | e :: M => by
    have ih := mget_push x y n a b M
    simp only [List.cons_append, mget]
    split
    · simp
    · exact ih
theorem mhas_push (M : MP) (x y n a b : Int) : mhas (M ++ [(x, y, n)]) a b = (mhas M a b || (a == x && (b == y))) := by
  unfold mhas
  rw [mget_push]
  cases hg : mget M a b with
  | some v => simp
  | none => simp only [Option.isSome_none, Bool.false_eq_true, if_false, Bool.false_or]; split <;> rename_i h <;> simp_all
theorem mval_push_old (M : MP) (x y n a b : Int) (h : mhas M a b = true) : mval (M ++ [(x, y, n)]) a b = mval M a b := by
  unfold mhas at h
  unfold mval
  rw [mget_push, if_pos h]
theorem mval_push_new (M : MP) (x y n : Int) (h : mhas M x y = false) : mval (M ++ [(x, y, n)]) x y = n := by
  unfold mhas at h
  unfold mval
  rw [mget_push, if_neg (by simp [h]), if_pos (by simp)]
  rfl
theorem countP_drop {p q : Nat → Bool} (himp : ∀ i, q i = true → p i = true) : ∀ (l : List Nat) (a : Nat), a ∈ l → p a = true → q a = false → l.countP q + 1 ≤ l.countP p
  | [], a, h, _, _ => by simp at h
  | b :: l, a, h, hp, hq => by
    have mono : l.countP q ≤ l.countP p := List.countP_mono_left (fun i _ hi => himp i hi)
    rcases List.mem_cons.1 h with rfl | h
    · rw [List.countP_cons_of_neg (by simp [hq]), List.countP_cons_of_pos hp]
      omega
    · have ih := countP_drop himp l a h hp hq
      by_cases hb : q b = true
      · rw [List.countP_cons_of_pos hb, List.countP_cons_of_pos (himp b hb)]
        omega
      · rw [List.countP_cons_of_neg (by simpa using hb)]
        have : l.countP p ≤ (b :: l).countP p := by rw [List.countP_cons]; omega
        omega
def freeNo (M : MP) (i : Nat) : Bool := !mhas M ((i % 10 : Nat) : Int) ((i / 10 : Nat) : Int)
structure St (o : S36) (s0 s1 : Int) (W : LA 10) (L : List S36) (M : MP) (A : LA 100) : Prop where
  key : ∀ x y, mhas M x y = true → frC s0 s1 W x y = true
  val : ∀ x y, mhas M x y = true → 0 ≤ mval M x y ∧ mval M x y ≤ L.length
  arr : ∀ x y, 0 ≤ x ∧ x < 10 → 0 ≤ y ∧ y < 10 → rd A.l (y * 10 + x) = if mhas M x y = true then mval M x y else -1
  mem : ∀ q ∈ L, mhas M q.f0 q.f1 = true
  cnt : L.length + (List.range 100).countP (freeNo M) ≤ 100
  one : mhas M o.f0 o.f1 = true ∧ mval M o.f0 o.f1 = 0
variable {o : S36}
theorem frC_cell {s0 s1 : Int} {W : LA 10} (h0 : s0 ≤ 10) (h1 : s1 ≤ 10) {x y : Int} (h : frC s0 s1 W x y = true) : (0 ≤ x ∧ x < 10) ∧ (0 ≤ y ∧ y < 10) := by
  have : isC s0 s1 x y = true := by unfold frC at h; simp at h; exact h.1
  have := isC_bounds this
  omega
theorem St.push {s0 s1 : Int} {W : LA 10} {L : List S36} {M : MP} {A : LA 100} (h : St o s0 s1 W L M A) (h0 : s0 ≤ 10) (h1 : s1 ≤ 10) (q : S36) (hq : frC s0 s1 W q.f0 q.f1 = true) (hn : mhas M q.f0 q.f1 = false) (n : Int) (hn0 : 0 ≤ n) (hn1 : n ≤ L.length + 1) :
    St o s0 s1 W (L ++ [q]) (M ++ [(q.f0, q.f1, n)]) (LA.set A (q.f1 * 10 + q.f0) n) := by
  obtain ⟨cx, cy⟩ := frC_cell h0 h1 hq
  refine ⟨?_, ?_, ?_, ?_, ?_, ?_⟩
  · intro x y hh
    rw [mhas_push, Bool.or_eq_true] at hh
    rcases hh with hh | hh
    · exact h.key x y hh
    · simp only [Bool.and_eq_true, beq_iff_eq] at hh
      rw [hh.1, hh.2]
      exact hq
  · intro x y hh
    rw [mhas_push, Bool.or_eq_true] at hh
    rw [List.length_append, List.length_singleton]
    by_cases ho : mhas M x y = true
    · rw [mval_push_old _ _ _ _ _ _ ho]
      have := h.val x y ho
      omega
    · rcases hh with hh | hh
      · exact absurd hh ho
      · simp only [Bool.and_eq_true, beq_iff_eq] at hh
        rw [hh.1, hh.2, mval_push_new _ _ _ _ hn]
        omega
  · intro x y hx hy
    by_cases e : x = q.f0 ∧ y = q.f1
    · rw [e.1, e.2, rd_set_same _ _ _ (by omega) (by omega), mhas_push, mval_push_new _ _ _ _ hn]
      simp
    · rw [rd_set_other _ _ _ _ (by omega) (by omega) (by omega), h.arr x y hx hy, mhas_push]
      have e2 : (x == q.f0 && (y == q.f1)) = false := by
        cases hb : (x == q.f0 && (y == q.f1)) with
        | false => rfl
        | true => simp only [Bool.and_eq_true, beq_iff_eq] at hb; exact absurd hb e
      rw [e2, Bool.or_false]
      by_cases ho : mhas M x y = true
      · rw [if_pos ho, if_pos ho, mval_push_old _ _ _ _ _ _ ho]
      · rw [if_neg ho, if_neg ho]
  · intro p hp
    rw [mhas_push, Bool.or_eq_true]
    rcases List.mem_append.1 hp with hp | hp
    · exact .inl (h.mem p hp)
    · obtain rfl := List.mem_singleton.1 hp
      right
      simp
  · have hc : (q.f1 * 10 + q.f0).toNat < 100 := by omega
    have e1 : ((((q.f1 * 10 + q.f0).toNat % 10 : Nat)) : Int) = q.f0 := by omega
    have e2 : ((((q.f1 * 10 + q.f0).toNat / 10 : Nat)) : Int) = q.f1 := by omega
    have hd := countP_drop (p := freeNo M) (q := freeNo (M ++ [(q.f0, q.f1, n)])) (fun i hi => by
      unfold freeNo at hi ⊢
      rw [mhas_push] at hi
      simp only [Bool.not_eq_true', Bool.or_eq_false_iff] at hi
      rw [hi.1]
      rfl) (List.range 100) (q.f1 * 10 + q.f0).toNat (List.mem_range.2 hc) (by unfold freeNo; rw [e1, e2, hn]; rfl) (by unfold freeNo; rw [e1, e2, mhas_push]; simp)
    have := h.cnt
    rw [List.length_append, List.length_singleton]
    omega
  · exact ⟨by rw [mhas_push, h.one.1]; rfl, by rw [mval_push_old _ _ _ _ _ _ h.one.1]; exact h.one.2⟩
theorem getD_app {α : Type} (l l2 : List α) (i : Nat) (d : α) (h : i < l.length) : (l ++ l2).getD i d = l.getD i d := by
  rw [List.getD_eq_getElem?_getD, List.getElem?_append_left h, List.getD_eq_getElem?_getD]
theorem Steps_in (s0 s1 : Int) (W : LA 10) (h0 : 1 ≤ s0 ∧ s0 ≤ 10) (h1 : 1 ≤ s1 ∧ s1 ≤ 10) (i : Nat) (N : List S36) (hN : N.length ≤ 4) (hf : ∀ q ∈ N, frC s0 s1 W q.f0 q.f1 = true) : ∀ (n j : Nat), j + n = N.length → ∀ (L : List S36) (M : MP) (A : LA 100), St o s0 s1 W L M A → i < L.length →
    ∃ L' M' A', St o s0 s1 W L' M' A' ∧ L.length ≤ L'.length ∧ (∀ r, Ev (fun k => impl_Room_steps.l0 k L' ((i + 1 : Nat) : Int) s0 s1 W M') r → Ev (fun k => impl_Room_steps.l1 k L (i : Int) N (N.length : Int) (j : Int) s0 s1 W M) r) ∧
      (∀ r, Ev (fun k => spec_l01Steps.l2 k L' ((i + 1 : Nat) : Int) s0 s1 W A') r → Ev (fun k => spec_l01Steps.l3 k L (i : Int) N (j : Int) s0 s1 W A) r) := by
  intro n
  induction n with
  | zero =>
    intro j hj L M A hS hi
    have hc := hS.cnt
    refine ⟨L, M, A, hS, Nat.le_refl _, fun r hr => ?_, fun r hr => ?_⟩
    · refine Ev.succ ?_
      simp only [impl_Room_steps.l1]
      rw [wnat i 200 (by omega) (by omega)]
      exact Ev.neg (by omega) hr
    · refine Ev.succ ?_
      simp only [spec_l01Steps.l3]
      rw [wnat i 200 (by omega) (by omega)]
      exact Ev.neg (by omega) hr
  | succ n ih =>
    intro j hj L M A hS hi
    have hc := hS.cnt
    have hjl : j < N.length := by omega
    have hq := hf _ (getD_mem N j z36 hjl)
    obtain ⟨cx, cy⟩ := frC_cell h0.2 h1.2 hq
    have hp := hS.mem _ (getD_mem L i z36 hi)
    obtain ⟨px, py⟩ := frC_cell h0.2 h1.2 (hS.key _ _ hp)
    have hv := hS.val _ _ hp
    have ha := hS.arr _ _ cx cy
    have hap := hS.arr _ _ px py
    rw [if_pos hp] at hap
    by_cases hh : mhas M (N.getD j z36).f0 (N.getD j z36).f1 = true
    · obtain ⟨L', M', A', hS', hle, hI, hX⟩ := ih (j + 1) (by omega) L M A hS hi
      rw [if_pos hh] at ha
      have hvq := hS.val _ _ hh
      refine ⟨L', M', A', hS', hle, fun r hr => ?_, fun r hr => ?_⟩
      · refine Ev.succ ?_
        simp only [impl_Room_steps.l1]
        rw [rdS_get, wnat j 4 (by omega) (by omega)]
        exact Ev.pos (by omega) (Ev.pos (by omega) (Ev.pos (by omega) (Ev.pos hh (hI r hr))))
      · refine Ev.succ ?_
        simp only [spec_l01Steps.l3]
        rw [rdS_get, wnat j 4 (by omega) (by omega)]
        exact Ev.pos (by omega) (Ev.pos (by omega) (Ev.pos cy.1 (Ev.pos cy.2 (Ev.pos cx.1 (Ev.pos cx.2 (Ev.neg (by rw [ha]; omega) (hX r hr)))))))
    · have hh' : mhas M (N.getD j z36).f0 (N.getD j z36).f1 = false := by simpa using hh
      rw [if_neg hh] at ha
      have hS2 := hS.push h0.2 h1.2 (N.getD j z36) hq hh' (mval M (L.getD i z36).f0 (L.getD i z36).f1 + 1) (by omega) (by omega)
      obtain ⟨L', M', A', hS', hle, hI, hX⟩ := ih (j + 1) (by omega) _ _ _ hS2 (by rw [List.length_append]; omega)
      rw [List.length_append, List.length_singleton] at hle
      have hw : wrap64 (mval M (L.getD i z36).f0 (L.getD i z36).f1 + 1) = mval M (L.getD i z36).f0 (L.getD i z36).f1 + 1 := wint _ (by omega) (by omega)
      refine ⟨L', M', A', hS', by omega, fun r hr => ?_, fun r hr => ?_⟩
      · refine Ev.succ ?_
        simp only [impl_Room_steps.l1]
        rw [rdS_get, rdS_get, wnat j 4 (by omega) (by omega), hw]
        exact Ev.pos (by omega) (Ev.pos (by omega) (Ev.pos (by omega) (Ev.neg hh (Ev.pos (by omega) (Ev.pos (by omega) (Ev.pos (by omega) (hI r hr)))))))
      · refine Ev.succ ?_
        simp only [spec_l01Steps.l3]
        rw [rdS_get, rdS_get, wnat j 4 (by omega) (by omega), hap, hw]
        exact Ev.pos (by omega) (Ev.pos (by omega) (Ev.pos cy.1 (Ev.pos cy.2 (Ev.pos cx.1 (Ev.pos cx.2 (Ev.pos (by rw [ha]; omega) (Ev.pos (by omega) (Ev.pos (by omega) (Ev.pos py.1 (Ev.pos py.2 (Ev.pos px.1 (Ev.pos px.2 (Ev.pos (by omega) (hX r hr))))))))))))))
theorem Steps_out (s0 s1 : Int) (W : LA 10) (hb : ∀ i, 0 ≤ rd W.l i ∧ rd W.l i < 65536) (h0 : 1 ≤ s0 ∧ s0 ≤ 10) (h1 : 1 ≤ s1 ∧ s1 ≤ 10) : ∀ (n i : Nat), i + n = 101 → ∀ (L : List S36) (M : MP) (A : LA 100), St o s0 s1 W L M A → i ≤ L.length →
    ∃ L' M' A', St o s0 s1 W L' M' A' ∧ Ev (fun k => impl_Room_steps.l0 k L (i : Int) s0 s1 W M) M' ∧ Ev (fun k => spec_l01Steps.l2 k L (i : Int) s0 s1 W A) A' := by
  intro n
  induction n with
  | zero =>
    intro i hi L M A hS hl
    have := hS.cnt
    omega
  | succ n ih =>
    intro i hi L M A hS hl
    by_cases hil : i < L.length
    · have hp := hS.mem _ (getD_mem L i z36 hil)
      obtain ⟨px, py⟩ := frC_cell h0.2 h1.2 (hS.key _ _ hp)
      obtain ⟨L', M', A', hS', hle, hI, hX⟩ := Steps_in s0 s1 W h0 h1 i (nb s0 s1 W (L.getD i z36).f0 (L.getD i z36).f1) (besL_len _ _ _ 4) (besL_mem _ _ _ 4) _ 0 (Nat.zero_add _) L M A hS hil
      obtain ⟨L2, M2, A2, hS2, e1, e2⟩ := ih (i + 1) (by omega) L' M' A' hS' (by omega)
      refine ⟨L2, M2, A2, hS2, ?_, ?_⟩
      · refine Ev.succ ?_
        simp only [impl_Room_steps.l0]
        rw [rdS_get]
        exact Ev.pos (by omega) (Ev.pos (by omega) (Ev.bind (Beside_i s0 s1 W hb h0 h1 _ _ px py) (hI _ e1)))
      · refine Ev.succ ?_
        simp only [spec_l01Steps.l2]
        rw [rdS_get]
        exact Ev.pos (by omega) (Ev.pos (by omega) (Ev.bind (Beside_s s0 s1 W hb h0 h1 _ _ px py) (hX _ e2)))
    · refine ⟨L, M, A, hS, ?_, ?_⟩
      · refine Ev.succ ?_
        simp only [impl_Room_steps.l0]
        exact Ev.neg (by omega) (Ev.now _)
      · refine Ev.succ ?_
        simp only [spec_l01Steps.l2]
        exact Ev.neg (by omega) (Ev.now _)
def filled (A : LA 100) (y x : Int) : Prop := ∀ a b : Int, 0 ≤ a ∧ a < 10 → 0 ≤ b ∧ b < 10 → (b < y ∨ b = y ∧ a < x) → rd A.l (b * 10 + a) = -1
theorem Fill_in (s0 s1 : Int) (W : LA 10) (a0 a1 : Int) (y : Nat) (hy : y < 10) : ∀ (n x : Nat), x + n = 10 → ∀ A, filled A y x → ∃ A', filled A' ((y + 1 : Nat) : Int) 0 ∧ ∀ r, Ev (fun k => spec_l01Steps.l0 k ((y + 1 : Nat) : Int) s0 s1 W a0 a1 A') r → Ev (fun k => spec_l01Steps.l1 k (y : Int) (x : Int) s0 s1 W a0 a1 A) r := by
  intro n
  induction n with
  | zero =>
    intro x hx A hA
    refine ⟨A, fun a b ha hb hl => hA a b ha hb (by omega), fun r hr => ?_⟩
    refine Ev.succ ?_
    simp only [spec_l01Steps.l1]
    rw [wnat y 10 (by omega) (by omega)]
    exact Ev.neg (by omega) hr
  | succ n ih =>
    intro x hx A hA
    obtain ⟨A', hA', hr'⟩ := ih (x + 1) (by omega) (LA.set A ((y : Int) * 10 + (x : Int)) (-1)) (fun a b ha hb hl => by
      by_cases e : b = y ∧ a = x
      · rw [e.1, e.2, rd_set_same _ _ _ (by omega) (by omega)]
      · rw [rd_set_other _ _ _ _ (by omega) (by omega) (by omega)]
        exact hA a b ha hb (by omega))
    refine ⟨A', hA', fun r hr => ?_⟩
    refine Ev.succ ?_
    simp only [spec_l01Steps.l1]
    rw [wnat x 10 (by omega) (by omega)]
    exact Ev.pos (by omega) (Ev.pos (by omega) (Ev.pos (by omega) (Ev.pos (by omega) (hr' r hr))))
theorem Fill_out (s0 s1 : Int) (W : LA 10) (a0 a1 : Int) (hx : 0 ≤ a0 ∧ a0 < 10) (hy : 0 ≤ a1 ∧ a1 < 10) : ∀ (n y : Nat), y + n = 10 → ∀ A, filled A y 0 → ∃ A', filled A' 10 0 ∧ ∀ r, Ev (fun k => spec_l01Steps.l2 k [⟨a0, a1⟩] 0 s0 s1 W (LA.set A' (a1 * 10 + a0) 0)) r → Ev (fun k => spec_l01Steps.l0 k (y : Int) s0 s1 W a0 a1 A) r := by
  intro n
  induction n with
  | zero =>
    intro y hyy A hA
    obtain rfl : y = 10 := by omega
    refine ⟨A, hA, fun r hr => ?_⟩
    refine Ev.succ ?_
    simp only [spec_l01Steps.l0]
    exact Ev.neg (by omega) (Ev.pos hy.1 (Ev.pos hy.2 (Ev.pos hx.1 (Ev.pos hx.2 hr))))
  | succ n ih =>
    intro y hyy A hA
    obtain ⟨A1, hA1, h1⟩ := Fill_in s0 s1 W a0 a1 y (by omega) 10 0 rfl A hA
    obtain ⟨A', hA', h2⟩ := ih (y + 1) (by omega) A1 hA1
    refine ⟨A', hA', fun r hr => ?_⟩
    refine Ev.succ ?_
    simp only [spec_l01Steps.l0]
    exact Ev.pos (by omega) (h1 r (h2 r hr))
end Go.Proofs.Ytanobaoaelhebaa.Q
end
section
namespace Go.Proofs.Ytanobaoaelhebaa.Q
open Go.RowKit Go.Proofs.YtanobaoaelhebaaW.PrintWords Go.Proofs.YtanobaoaelhebaaW.PrintLast Go.Proofs.YtanobaoaelhebaaW.PrintMore Go.Proofs.Ytanobaoaelhebaa.La Go.Proofs.Ytanobaoaelhebaa.Mp Go.Proofs.Ytanobaoaelhebaa.PB
set_option linter.unusedVariables false
set_option linter.unusedSimpArgs false
inductive Conn (s0 s1 : Int) (W : LA 10) (a : S36) : S36 → Prop
  | refl : Conn s0 s1 W a a
  | step {b c : S36} : Conn s0 s1 W a b → c ∈ nb s0 s1 W b.f0 b.f1 → Conn s0 s1 W a c
structure Ex (o : S36) (s0 s1 : Int) (W : LA 10) (L : List S36) (M : MP) (i : Nat) : Prop where
  inL : ∀ x y, mhas M x y = true → (⟨x, y⟩ : S36) ∈ L
  con : ∀ q ∈ L, Conn s0 s1 W o q
  clo : ∀ t, t < i → ∀ c ∈ nb s0 s1 W (L.getD t z36).f0 (L.getD t z36).f1, mhas M c.f0 c.f1 = true
variable {o : S36}
theorem Cn_in (s0 s1 : Int) (W : LA 10) (h0 : 1 ≤ s0 ∧ s0 ≤ 10) (h1 : 1 ≤ s1 ∧ s1 ≤ 10) (i : Nat) (q0 : S36) (N : List S36) (eN : N = nb s0 s1 W q0.f0 q0.f1) (hN : N.length ≤ 4) (hf : ∀ q ∈ N, frC s0 s1 W q.f0 q.f1 = true) : ∀ (n j : Nat), j + n = N.length → ∀ (L : List S36) (M : MP) (A : LA 100), St o s0 s1 W L M A → i < L.length → L.getD i z36 = q0 → Ex o s0 s1 W L M i → (∀ t, t < j → mhas M (N.getD t z36).f0 (N.getD t z36).f1 = true) →
    ∃ L' M' A', St o s0 s1 W L' M' A' ∧ L.length ≤ L'.length ∧ Ex o s0 s1 W L' M' (i + 1) ∧ (∀ r, Ev (fun k => impl_Room_steps.l0 k L' ((i + 1 : Nat) : Int) s0 s1 W M') r → Ev (fun k => impl_Room_steps.l1 k L (i : Int) N (N.length : Int) (j : Int) s0 s1 W M) r) := by
  intro n
  induction n with
  | zero =>
    intro j hj L M A hS hi hq0 hE hd
    have hc := hS.cnt
    refine ⟨L, M, A, hS, Nat.le_refl _, ⟨hE.inL, hE.con, fun t ht c hc' => ?_⟩, fun r hr => ?_⟩
    · by_cases e : t = i
      · subst e
        rw [hq0, ← eN] at hc'
        obtain ⟨u, hu, rfl⟩ := List.getElem_of_mem hc'
        have := hd u (by omega)
        rwa [List.getD_eq_getElem?_getD, List.getElem?_eq_getElem hu, Option.getD_some] at this
      · exact hE.clo t (by omega) c hc'
    · refine Ev.succ ?_
      simp only [impl_Room_steps.l1]
      rw [wnat i 200 (by omega) (by omega)]
      exact Ev.neg (by omega) hr
  | succ n ih =>
    intro j hj L M A hS hi hq0 hE hd
    have hc := hS.cnt
    have hjl : j < N.length := by omega
    have hq := hf _ (getD_mem N j z36 hjl)
    have hp := hS.mem _ (getD_mem L i z36 hi)
    obtain ⟨px, py⟩ := frC_cell h0.2 h1.2 (hS.key _ _ hp)
    have hv := hS.val _ _ hp
    by_cases hh : mhas M (N.getD j z36).f0 (N.getD j z36).f1 = true
    · obtain ⟨L', M', A', hS', hle, hE', hI⟩ := ih (j + 1) (by omega) L M A hS hi hq0 hE (fun t ht => by
        by_cases e : t = j
        · subst e; exact hh
        · exact hd t (by omega))
      refine ⟨L', M', A', hS', hle, hE', fun r hr => ?_⟩
      refine Ev.succ ?_
      simp only [impl_Room_steps.l1]
      rw [rdS_get, wnat j 4 (by omega) (by omega)]
      exact Ev.pos (by omega) (Ev.pos (by omega) (Ev.pos (by omega) (Ev.pos hh (hI r hr))))
    · have hh' : mhas M (N.getD j z36).f0 (N.getD j z36).f1 = false := by simpa using hh
      have hS2 := hS.push h0.2 h1.2 (N.getD j z36) hq hh' (mval M (L.getD i z36).f0 (L.getD i z36).f1 + 1) (by omega) (by omega)
      have up : ∀ x y, mhas M x y = true → ∀ n, mhas (M ++ [((N.getD j z36).f0, (N.getD j z36).f1, n)]) x y = true := fun x y h n => by rw [mhas_push, h]; rfl
      have hE2 : Ex o s0 s1 W (L ++ [N.getD j z36]) (M ++ [((N.getD j z36).f0, (N.getD j z36).f1, mval M (L.getD i z36).f0 (L.getD i z36).f1 + 1)]) i := by
        refine ⟨fun x y h => ?_, fun q h => ?_, fun t ht c hc' => ?_⟩
        · rw [mhas_push, Bool.or_eq_true] at h
          rcases h with h | h
          · exact List.mem_append_left _ (hE.inL x y h)
          · simp only [Bool.and_eq_true, beq_iff_eq] at h
            rw [h.1, h.2]
            exact List.mem_append_right _ (by simp)
        · rcases List.mem_append.1 h with h | h
          · exact hE.con q h
          · obtain rfl := List.mem_singleton.1 h
            exact Conn.step (hE.con _ (getD_mem L i z36 hi)) (by rw [hq0, ← eN]; exact getD_mem N j z36 hjl)
        · rw [getD_app _ _ _ _ (by omega)] at hc'
          exact up _ _ (hE.clo t ht c hc') _
      obtain ⟨L', M', A', hS', hle, hE', hI⟩ := ih (j + 1) (by omega) _ _ _ hS2 (by rw [List.length_append]; omega) (by rw [getD_app _ _ _ _ hi]; exact hq0) hE2 (fun t ht => by
        by_cases e : t = j
        · subst e; rw [mhas_push]; simp
        · exact up _ _ (hd t (by omega)) _)
      rw [List.length_append, List.length_singleton] at hle
      have hw : wrap64 (mval M (L.getD i z36).f0 (L.getD i z36).f1 + 1) = mval M (L.getD i z36).f0 (L.getD i z36).f1 + 1 := wint _ (by omega) (by omega)
      refine ⟨L', M', A', hS', by omega, hE', fun r hr => ?_⟩
      refine Ev.succ ?_
      simp only [impl_Room_steps.l1]
      rw [rdS_get, rdS_get, wnat j 4 (by omega) (by omega), hw]
      exact Ev.pos (by omega) (Ev.pos (by omega) (Ev.pos (by omega) (Ev.neg hh (Ev.pos (by omega) (Ev.pos (by omega) (Ev.pos (by omega) (hI r hr)))))))
theorem Cn_out (s0 s1 : Int) (W : LA 10) (hb : ∀ i, 0 ≤ rd W.l i ∧ rd W.l i < 65536) (h0 : 1 ≤ s0 ∧ s0 ≤ 10) (h1 : 1 ≤ s1 ∧ s1 ≤ 10) : ∀ (n i : Nat), i + n = 101 → ∀ (L : List S36) (M : MP) (A : LA 100), St o s0 s1 W L M A → i ≤ L.length → Ex o s0 s1 W L M i →
    ∃ L' M' A', St o s0 s1 W L' M' A' ∧ Ev (fun k => impl_Room_steps.l0 k L (i : Int) s0 s1 W M) M' ∧ Ex o s0 s1 W L' M' L'.length := by
  intro n
  induction n with
  | zero =>
    intro i hi L M A hS hl hE
    have := hS.cnt
    omega
  | succ n ih =>
    intro i hi L M A hS hl hE
    by_cases hil : i < L.length
    · have hp := hS.mem _ (getD_mem L i z36 hil)
      obtain ⟨px, py⟩ := frC_cell h0.2 h1.2 (hS.key _ _ hp)
      obtain ⟨L', M', A', hS', hle, hE', hI⟩ := Cn_in s0 s1 W h0 h1 i (L.getD i z36) (nb s0 s1 W (L.getD i z36).f0 (L.getD i z36).f1) rfl (besL_len _ _ _ 4) (besL_mem _ _ _ 4) _ 0 (Nat.zero_add _) L M A hS hil rfl hE (fun t ht => absurd ht (by omega))
      obtain ⟨L2, M2, A2, hS2, e1, e2⟩ := ih (i + 1) (by omega) L' M' A' hS' (by omega) hE'
      refine ⟨L2, M2, A2, hS2, ?_, e2⟩
      refine Ev.succ ?_
      simp only [impl_Room_steps.l0]
      rw [rdS_get]
      exact Ev.pos (by omega) (Ev.pos (by omega) (Ev.bind (Beside_i s0 s1 W hb h0 h1 _ _ px py) (hI _ e1)))
    · obtain rfl : i = L.length := by omega
      refine ⟨L, M, A, hS, ?_, hE⟩
      refine Ev.succ ?_
      simp only [impl_Room_steps.l0]
      exact Ev.neg (by omega) (Ev.now _)
end Go.Proofs.Ytanobaoaelhebaa.Q
end
section
namespace Go.Proofs.Ytanobaoaelhebaa.Q
open Go.RowKit Go.Proofs.YtanobaoaelhebaaW.PrintWords Go.Proofs.YtanobaoaelhebaaW.PrintLast Go.Proofs.YtanobaoaelhebaaW.PrintMore Go.Proofs.Ytanobaoaelhebaa.La Go.Proofs.Ytanobaoaelhebaa.Mp Go.Proofs.Ytanobaoaelhebaa.PB
set_option linter.unusedVariables false
set_option linter.unusedSimpArgs false
theorem Steps_conn (s0 s1 : Int) (W : LA 10) (hb : ∀ i, 0 ≤ rd W.l i ∧ rd W.l i < 65536) (h0 : 1 ≤ s0 ∧ s0 ≤ 10) (h1 : 1 ≤ s1 ∧ s1 ≤ 10) (x y : Int) (hf : frC s0 s1 W x y = true) :
    ∃ L L2 M A A2, St ⟨x, y⟩ s0 s1 W L M A ∧ St ⟨x, y⟩ s0 s1 W L2 M A2 ∧ Ex ⟨x, y⟩ s0 s1 W L2 M L2.length ∧ Ev (fun k => impl_Room_steps.f k s0 s1 W x y) M ∧ Ev (fun k => spec_l01Steps.f k s0 s1 W x y) A := by
  obtain ⟨cx, cy⟩ := frC_cell h0.2 h1.2 hf
  obtain ⟨A', hA', h2⟩ := Fill_out s0 s1 W x y cx cy 10 0 rfl (LA.zero 100) (fun a b ha hb hl => by omega)
  have hg : ∀ a b : Int, mhas [(x, y, 0)] a b = (a == x && (b == y)) := fun a b => by
    unfold mhas mget
    cases (a == x && (b == y)) <;> rfl
  have hS : St ⟨x, y⟩ s0 s1 W [⟨x, y⟩] [(x, y, 0)] (LA.set A' (y * 10 + x) 0) := by
    refine ⟨?_, ?_, ?_, ?_, ?_, ?_⟩
    · intro a b h
      rw [hg] at h
      simp only [Bool.and_eq_true, beq_iff_eq] at h
      rw [h.1, h.2]
      exact hf
    · intro a b h
      rw [hg] at h
      simp only [Bool.and_eq_true, beq_iff_eq] at h
      rw [h.1, h.2]
      simp [mval, mget]
    · intro a b ha hb
      rw [hg]
      by_cases e : a = x ∧ b = y
      · rw [e.1, e.2, rd_set_same _ _ _ (by omega) (by omega)]
        simp [mval, mget]
      · rw [rd_set_other _ _ _ _ (by omega) (by omega) (by omega), hA' a b ha hb (by omega), if_neg (by simpa using e)]
    · intro q hq
      obtain rfl := List.mem_singleton.1 hq
      rw [hg]
      simp
    · have hc : (y * 10 + x).toNat < 100 := by omega
      have e1 : ((((y * 10 + x).toNat % 10 : Nat)) : Int) = x := by omega
      have e2 : ((((y * 10 + x).toNat / 10 : Nat)) : Int) = y := by omega
      have hd := countP_drop (p := fun _ => true) (q := freeNo [(x, y, 0)]) (fun i hi => rfl) (List.range 100) (y * 10 + x).toNat (List.mem_range.2 hc) rfl (by unfold freeNo; rw [e1, e2, hg]; simp)
      have hl : (List.range 100).countP (fun _ => true) ≤ 100 := by have := List.countP_le_length (p := fun _ : Nat => true) (l := List.range 100); rwa [List.length_range] at this
      simp only [List.length_singleton]
      omega
    · refine ⟨by rw [hg]; simp, ?_⟩
      simp [mval, mget]
  have hE : Ex ⟨x, y⟩ s0 s1 W [⟨x, y⟩] [(x, y, 0)] 0 := by
    refine ⟨fun a b h => ?_, fun q hq => ?_, fun t ht => absurd ht (by omega)⟩
    · rw [hg] at h
      simp only [Bool.and_eq_true, beq_iff_eq] at h
      rw [h.1, h.2]
      simp
    · obtain rfl := List.mem_singleton.1 hq
      exact Conn.refl
  obtain ⟨L, M, A, hS', e1, e2⟩ := Steps_out s0 s1 W hb h0 h1 101 0 rfl _ _ _ hS (Nat.zero_le _)
  obtain ⟨L2, M2, A2, hS2, e3, hE2⟩ := Cn_out s0 s1 W hb h0 h1 101 0 rfl _ _ _ hS (Nat.zero_le _) hE
  obtain rfl := Ev.uniq e1 e3
  refine ⟨L, L2, M, A, A2, hS', hS2, hE2, e1, ?_⟩
  unfold spec_l01Steps.f
  exact h2 _ e2
theorem mem_bes (p : Int → Int → Bool) (x y : Int) (q : S36) : ∀ n, q ∈ besL p x y n ↔ ∃ d, d < n ∧ q = nxt x y d ∧ p q.f0 q.f1 = true
  | 0 => by simp [besL]
  | n + 1 => by
    have ih := mem_bes p x y q n
    rw [besL]
    constructor
    · intro h
      split at h
      · rename_i hp
        rcases List.mem_append.1 h with h | h
        · obtain ⟨d, h1, h2⟩ := ih.1 h
          exact ⟨d, by omega, h2⟩
        · obtain rfl := List.mem_singleton.1 h
          exact ⟨n, by omega, rfl, hp⟩
      · obtain ⟨d, h1, h2⟩ := ih.1 h
        exact ⟨d, by omega, h2⟩
    · rintro ⟨d, h1, h2, h3⟩
      by_cases e : d = n
      · subst e
        rw [h2] at h3
        rw [if_pos h3]
        exact List.mem_append_right _ (by rw [h2]; simp)
      · have := ih.2 ⟨d, by omega, h2, h3⟩
        split
        · exact List.mem_append_left _ this
        · exact this
section
variable {s0 s1 : Int} {W : LA 10}
theorem nb_sym {b c : S36} (hb : frC s0 s1 W b.f0 b.f1 = true) (h : c ∈ nb s0 s1 W b.f0 b.f1) : b ∈ nb s0 s1 W c.f0 c.f1 := by
  unfold nb at h ⊢
  obtain ⟨d, h1, h2, h3⟩ := (mem_bes _ _ _ _ _).1 h
  refine (mem_bes _ _ _ _ _).2 ⟨(d + 2) % 4, by omega, ?_, hb⟩
  obtain ⟨b0, b1⟩ := b
  rcases (by omega : d = 0 ∨ d = 1 ∨ d = 2 ∨ d = 3) with rfl | rfl | rfl | rfl <;> rw [h2] <;> simp [nxt]
theorem nb_free {b c : S36} (h : c ∈ nb s0 s1 W b.f0 b.f1) : frC s0 s1 W c.f0 c.f1 = true := besL_mem _ _ _ 4 c h
theorem Conn.free {a b : S36} (h : Conn s0 s1 W a b) (ha : frC s0 s1 W a.f0 a.f1 = true) : frC s0 s1 W b.f0 b.f1 = true := by
  cases h with
  | refl => exact ha
  | step _ hc => exact nb_free hc
theorem Conn.trans {a b c : S36} (h : Conn s0 s1 W a b) (h' : Conn s0 s1 W b c) : Conn s0 s1 W a c := by
  induction h' with
  | refl => exact h
  | step _ hc ih => exact Conn.step ih hc
theorem Conn.symm {a b : S36} (h : Conn s0 s1 W a b) (ha : frC s0 s1 W a.f0 a.f1 = true) : Conn s0 s1 W b a := by
  induction h with
  | refl => exact Conn.refl
  | step hb hc ih => exact Conn.trans (Conn.step Conn.refl (nb_sym (hb.free ha) hc)) ih
end
structure Stp (s0 s1 : Int) (W : LA 10) (a : S36) (M : MP) (A : LA 100) : Prop where
  im : Ev (fun k => impl_Room_steps.f k s0 s1 W a.f0 a.f1) M
  sp : Ev (fun k => spec_l01Steps.f k s0 s1 W a.f0 a.f1) A
  has : ∀ b : S36, mhas M b.f0 b.f1 = true ↔ Conn s0 s1 W a b
  arr : ∀ b : S36, (0 ≤ b.f0 ∧ b.f0 < 10) → (0 ≤ b.f1 ∧ b.f1 < 10) → rd A.l (b.f1 * 10 + b.f0) = if mhas M b.f0 b.f1 = true then mval M b.f0 b.f1 else -1
  val : ∀ b : S36, mhas M b.f0 b.f1 = true → 0 ≤ mval M b.f0 b.f1 ∧ mval M b.f0 b.f1 ≤ 100
theorem Stp_ex (s0 s1 : Int) (W : LA 10) (hb : ∀ i, 0 ≤ rd W.l i ∧ rd W.l i < 65536) (h0 : 1 ≤ s0 ∧ s0 ≤ 10) (h1 : 1 ≤ s1 ∧ s1 ≤ 10) (a : S36) (hf : frC s0 s1 W a.f0 a.f1 = true) : ∃ M A, Stp s0 s1 W a M A := by
  obtain ⟨L, L2, M, A, A2, hS, hS2, hE, e1, e2⟩ := Steps_conn s0 s1 W hb h0 h1 a.f0 a.f1 hf
  refine ⟨M, A, e1, e2, fun b => ⟨fun h => hE.con _ (hE.inL _ _ h), fun h => ?_⟩, fun b hx hy => hS.arr b.f0 b.f1 hx hy, fun b h => ?_⟩
  · induction h with
    | refl => exact hS.one.1
    | @step b c hab hc ih =>
      obtain ⟨t, ht, e⟩ := List.getElem_of_mem (hE.inL _ _ ih)
      refine hE.clo t ht c ?_
      rw [List.getD_eq_getElem?_getD, List.getElem?_eq_getElem ht, Option.getD_some, e]
      exact hc
  · have h1 := hS.val _ _ h
    have h2 := hS.cnt
    omega
end Go.Proofs.Ytanobaoaelhebaa.Q
end
section
namespace Go.Proofs.Ytanobaoaelhebaa.Q
open Go.RowKit Go.Proofs.YtanobaoaelhebaaW.PrintWords Go.Proofs.YtanobaoaelhebaaW.PrintLast Go.Proofs.YtanobaoaelhebaaW.PrintMore Go.Proofs.Ytanobaoaelhebaa.La Go.Proofs.Ytanobaoaelhebaa.Mp Go.Proofs.Ytanobaoaelhebaa.PB
set_option linter.unusedVariables false
set_option linter.unusedSimpArgs false
theorem Cells_s (s0 s1 : Int) (W : LA 10) (h0 : 1 ≤ s0 ∧ s0 ≤ 10) (h1 : 1 ≤ s1 ∧ s1 ≤ 10) (l : List S36) (hl : l.length ≤ 1073741824) (hs : ∀ q ∈ l, SB q) : Ev (fun k => spec_l03Cells.f k s0 s1 W l) (allCell s0 s1 l) := by
  unfold spec_l03Cells.f
  have key : ∀ (n i : Nat), i + n = l.length → Ev (fun k => spec_l03Cells.l0 k l (i : Int) s0 s1 W) (allCell s0 s1 (l.drop i)) := by
    intro n
    induction n with
    | zero =>
      intro i hi
      obtain rfl : i = l.length := by omega
      rw [List.drop_length]
      refine Ev.succ ?_
      simp only [spec_l03Cells.l0]
      exact Ev.neg (by omega) (Ev.now _)
    | succ n ih =>
      intro i hi
      have hil : i < l.length := by omega
      have hm := hs _ (getD_mem l i z36 hil)
      refine Ev.succ ?_
      simp only [spec_l03Cells.l0]
      refine Ev.pos (by omega) (Ev.pos (by omega) ?_)
      rw [rdS_get, Is_s s0 s1 W h0 h1 _ _ hm.1 hm.2, wnat i l.length hil (by omega), drop_get l i z36 hil]
      simp only [Option.bind_some]
      cases hc : isC s0 s1 (l.getD i z36).f0 (l.getD i z36).f1 with
      | true =>
        refine Ev.pos rfl (Ev.eq (ih (i + 1) (by omega)) ?_)
        unfold allCell
        rw [List.any_cons, hc]
        rfl
      | false =>
        refine Ev.neg (by simp) (Ev.eq (Ev.now false) ?_)
        unfold allCell
        rw [List.any_cons, hc]
        rfl
  exact key l.length 0 (by omega)
theorem Asked6_bad (s0 s1 : Int) (W : LA 10) (l : List S36) (b : Bool) (hv : Ev (fun k => spec_l01Ok.f k s0 s1 W) false) : Ev (fun k => spec_l06Asked.f k s0 s1 W l b) 1 := by
  unfold spec_l06Asked.f
  exact Ev.bind hv (Ev.neg Bool.false_ne_true (Ev.now _))
theorem AskedL_ev (s0 s1 : Int) (W : LA 10) (hb : ∀ i, 0 ≤ rd W.l i ∧ rd W.l i < 65536) (h0 : 1 ≤ s0 ∧ s0 ≤ 10) (h1 : 1 ≤ s1 ∧ s1 ≤ 10) (l : List S36) (hl : l.length ≤ 1073741824) (hs : ∀ q ∈ l, SB q) :
    Ev (fun k => spec_l06Asked.l0 k l 0 s0 s1 W) (if allFree s0 s1 W l then 0 else 4) := by
  have key : ∀ (n i : Nat), i + n = l.length → Ev (fun k => spec_l06Asked.l0 k l (i : Int) s0 s1 W) (if allFree s0 s1 W (l.drop i) then 0 else 4) := by
    intro n
    induction n with
    | zero =>
      intro i hi
      obtain rfl : i = l.length := by omega
      rw [List.drop_length]
      refine Ev.succ ?_
      simp only [spec_l06Asked.l0]
      exact Ev.neg (by omega) (Ev.now _)
    | succ n ih =>
      intro i hi
      have hil : i < l.length := by omega
      have hm := hs _ (getD_mem l i z36 hil)
      refine Ev.succ ?_
      simp only [spec_l06Asked.l0]
      refine Ev.pos (by omega) (Ev.pos (by omega) ?_)
      rw [rdS_get, Fr_s s0 s1 W hb h0 h1 _ _ hm.1 hm.2, wnat i l.length hil (by omega), drop_get l i z36 hil]
      simp only [Option.bind_some]
      cases hc : frC s0 s1 W (l.getD i z36).f0 (l.getD i z36).f1 with
      | true =>
        refine Ev.pos rfl (Ev.eq (ih (i + 1) (by omega)) ?_)
        unfold allFree
        rw [List.any_cons, hc]
        rfl
      | false =>
        refine Ev.neg (by simp) (Ev.eq (Ev.now 4) ?_)
        unfold allFree
        rw [List.any_cons, hc]
        rfl
  exact key l.length 0 (by omega)
theorem Asked6_ev (s0 s1 : Int) (W : LA 10) (hb : ∀ i, 0 ≤ rd W.l i ∧ rd W.l i < 65536) (hv : Ev (fun k => spec_l01Ok.f k s0 s1 W) true) (h0 : 1 ≤ s0 ∧ s0 ≤ 10) (h1 : 1 ≤ s1 ∧ s1 ≤ 10) (l : List S36) (hl : l.length ≤ 1073741824) (hs : ∀ q ∈ l, SB q) (b : Bool) :
    Ev (fun k => spec_l06Asked.f k s0 s1 W l b) (if allCell s0 s1 l && b then (if allFree s0 s1 W l then 0 else 4) else 2) := by
  unfold spec_l06Asked.f
  refine Ev.bind hv (Ev.pos rfl (Ev.bind (Cells_s s0 s1 W h0 h1 l hl hs) ?_))
  have hj : ∀ c : Bool, Ev (fun k => spec_l06Asked.j0 k l c s0 s1 W) (if c then 2 else (if allFree s0 s1 W l then 0 else 4)) := fun c => by
    refine Ev.succ ?_
    simp only [spec_l06Asked.j0]
    cases c with
    | true => exact Ev.pos rfl (Ev.now _)
    | false => exact Ev.neg Bool.false_ne_true (AskedL_ev s0 s1 W hb h0 h1 l hl hs)
  cases hc : allCell s0 s1 l with
  | false =>
    exact Ev.neg Bool.false_ne_true (Ev.eq (hj true) (by simp))
  | true =>
    refine Ev.pos rfl (Ev.eq (hj (!b)) ?_)
    cases b <;> simp
end Go.Proofs.Ytanobaoaelhebaa.Q
end
section
namespace Go.Proofs.Ytanobaoaelhebaa.Q
open Go.RowKit Go.Proofs.YtanobaoaelhebaaW.PrintWords Go.Proofs.YtanobaoaelhebaaW.PrintLast Go.Proofs.YtanobaoaelhebaaW.PrintMore Go.Proofs.Ytanobaoaelhebaa.La Go.Proofs.Ytanobaoaelhebaa.Mp Go.Proofs.Ytanobaoaelhebaa.PB
set_option linter.unusedVariables false
set_option linter.unusedSimpArgs false
theorem sub_len : ∀ (r l : List Int), r.Nodup → (∀ x ∈ r, x ∈ l) → r.length ≤ l.length
  | [], l, _, _ => by simp
  | x :: r, l, hd, hs => by
    have hx := hs x (by simp)
    have h := sub_len r (l.erase x) (List.nodup_cons.1 hd).2 (fun y hy => by
      have hne : y ≠ x := fun e => (List.nodup_cons.1 hd).1 (e ▸ hy)
      exact (List.mem_erase_of_ne hne).2 (hs y (by simp [hy])))
    rw [List.length_erase_of_mem hx] at h
    have := List.length_pos_of_mem hx
    simp only [List.length_cons]
    omega
def upI (n : Nat) : List Int := (List.range n).map fun (j : Nat) => (j : Int)
theorem upI_nodup (n : Nat) : (upI n).Nodup := by
  unfold upI
  rw [List.Nodup, List.pairwise_map]
  exact (List.nodup_range (n := n)).imp (fun h e => h (by omega))
theorem mem_upI (n : Nat) (x : Int) : x ∈ upI n ↔ 0 ≤ x ∧ x < n := by
  simp only [upI, List.mem_map, List.mem_range]
  constructor
  · rintro ⟨j, hj, rfl⟩; omega
  · intro h; exact ⟨x.toNat, by omega, by omega⟩
theorem upI_len (n : Nat) : (upI n).length = n := by simp [upI]
def okOrder (n : Nat) (l : List Int) : Bool := decide (l.length = n) && (List.range n).all fun j => decide ((j : Int) ∈ l)
theorem okOrder_iff (n : Nat) (l : List Int) : okOrder n l = true ↔ (l.length = n ∧ ∀ i, i < l.length → (0 ≤ l.getD i 0 ∧ l.getD i 0 < n) ∧ l.getD i 0 ∉ l.take i) := by
  unfold okOrder
  simp only [Bool.and_eq_true, decide_eq_true_eq, List.all_eq_true, List.mem_range]
  constructor
  · rintro ⟨hl, hall⟩
    refine ⟨hl, fun i hi => ?_⟩
    have hsp : l = l.take i ++ l.getD i 0 :: l.drop (i + 1) := by rw [← drop_get l i 0 hi, List.take_append_drop]
    refine Classical.byContradiction fun hbad => ?_
    have hsub : ∀ x ∈ upI n, x ∈ l.take i ++ l.drop (i + 1) := by
      intro x hx
      have hx' := (mem_upI n x).1 hx
      have hm := hall x.toNat (by omega)
      rw [show ((x.toNat : Nat) : Int) = x by omega] at hm
      have hm0 := hm
      rw [hsp] at hm
      simp only [List.mem_append, List.mem_cons] at hm ⊢
      rcases hm with hm | hm | hm
      · exact .inl hm
      · refine Classical.byContradiction fun hno => hbad ⟨by rw [← hm]; exact hx', fun h => hno (.inl (by rw [hm]; exact h))⟩
      · exact .inr hm
    have := sub_len _ _ (upI_nodup n) hsub
    rw [upI_len] at this
    simp only [List.length_append, List.length_take, List.length_drop] at this
    omega
  · rintro ⟨hl, hall⟩
    refine ⟨hl, fun j hj => ?_⟩
    refine Classical.byContradiction fun hno => ?_
    have hnd : l.Nodup := by
      rw [List.Nodup, List.pairwise_iff_getElem]
      intro a b ha hb hab e
      have h := (hall b hb).2
      apply h
      rw [List.mem_take_iff_getElem]
      refine ⟨a, by omega, ?_⟩
      rw [List.getD_eq_getElem?_getD, List.getElem?_eq_getElem hb]
      exact e
    have hsub : ∀ x ∈ (j : Int) :: l, x ∈ upI n := by
      intro x hx
      rw [mem_upI]
      rcases List.mem_cons.1 hx with rfl | hx
      · omega
      · obtain ⟨i, hi, rfl⟩ := List.mem_iff_getElem.1 hx
        have := (hall i hi).1
        rw [List.getD_eq_getElem?_getD, List.getElem?_eq_getElem hi] at this
        exact this
    have := sub_len _ _ (List.nodup_cons.2 ⟨hno, hnd⟩) hsub
    rw [upI_len] at this
    simp only [List.length_cons] at this
    omega
theorem Has_ev (l : List Int) (a : Int) (h : l.length ≤ 9223372036854775806) : Ev (fun k => spec_l00Has.f k l a) (decide (a ∈ l)) := by
  unfold spec_l00Has.f
  have key : ∀ (m i : Nat), i + m = l.length → Ev (fun k => spec_l00Has.l0 k l a (i : Int)) (decide (a ∈ l.drop i)) := by
    intro m
    induction m with
    | zero =>
      intro i hi
      obtain rfl : i = l.length := by omega
      refine Ev.round (Ev.now _) fun k => ?_
      simp only [spec_l00Has.l0]
      rw [if_neg (by omega)]
      simp
    | succ m ih =>
      intro i hi
      have hx := drop_get l i 0 (by omega)
      by_cases he : l.getD i 0 = a
      · refine Ev.round (Ev.now _) fun k => ?_
        simp only [spec_l00Has.l0, rd_nat]
        rw [if_pos (by omega), if_pos (by omega), if_pos he, hx, he]
        simp
      · refine Ev.eq (Ev.round (ih (i + 1) (by omega)) fun k => ?_) ?_
        · simp only [spec_l00Has.l0, rd_nat]
          rw [if_pos (by omega), if_pos (by omega), if_neg he, wnat i l.length (by omega) (by omega)]
        · have hne : ¬ a = l.getD i 0 := fun e => he e.symm
          rw [hx]
          simp only [List.mem_cons, hne, false_or]
  simpa using key l.length 0 (by omega)
theorem Contains_ev (l : List Int) (a : Int) (h : l.length ≤ 9223372036854775806) : Ev (fun k => slices_Contains_int64_int64.f k l a) (decide (a ∈ l)) := by
  unfold slices_Contains_int64_int64.f slices_Index_int64_int64.f
  have key : ∀ (m i : Nat), i + m = l.length → ∃ r, Ev (fun k => slices_Index_int64_int64.l0 k l a (l.length : Int) (i : Int)) r ∧ decide (r ≥ 0) = decide (a ∈ l.drop i) := by
    intro m
    induction m with
    | zero =>
      intro i hi
      obtain rfl : i = l.length := by omega
      refine ⟨-1, Ev.round (Ev.now _) fun k => ?_, by simp⟩
      simp only [slices_Index_int64_int64.l0]
      rw [if_neg (by omega)]
    | succ m ih =>
      intro i hi
      have hx := drop_get l i 0 (by omega)
      by_cases he : a = l.getD i 0
      · refine ⟨i, Ev.round (Ev.now _) fun k => ?_, ?_⟩
        · simp only [slices_Index_int64_int64.l0, rd_nat]
          rw [if_pos (by omega), if_pos (by omega), if_pos (by omega), if_pos he]
        · rw [hx, ← he]
          simp
      · obtain ⟨r, hr, hd⟩ := ih (i + 1) (by omega)
        refine ⟨r, Ev.round hr fun k => ?_, ?_⟩
        · simp only [slices_Index_int64_int64.l0, rd_nat]
          rw [if_pos (by omega), if_pos (by omega), if_pos (by omega), if_neg he, wnat i l.length (by omega) (by omega)]
        · rw [hd, hx]
          simp only [List.mem_cons, he, false_or]
  obtain ⟨r, hr, hd⟩ := key l.length 0 (by omega)
  refine Ev.eq (Ev.bind hr (Ev.now _)) ?_
  simpa using hd
theorem isOrder_ev (n : Nat) (l : List Int) (hn : n ≤ 1073741824) (h : l.length ≤ 9223372036854775806) : Ev (fun k => impl_isOrder.f k l (n : Int)) (okOrder n l) := by
  unfold impl_isOrder.f okOrder
  by_cases hl : l.length = n
  · rw [decide_eq_true hl, Bool.true_and]
    refine Ev.pos (by omega) (Ev.eq (Ev.all_upto (fun k i => impl_isOrder.l0 k l (n : Int) i) (fun j => decide ((j : Int) ∈ l)) true n (fun i hi ho r hr => ?_) (fun i hi ho => ?_) ?_) (by simp))
    · have hc := Contains_ev l (i : Int) h
      rw [ho] at hc
      have hx : Ev (fun k => (slices_Contains_int64_int64.f k l (i : Int)).bind fun t => if t = true then impl_isOrder.l0 k l (n : Int) ((i + 1 : Nat) : Int) else some false) r := Ev.bind hc (Ev.pos rfl hr)
      refine Ev.round hx fun k => ?_
      simp only [impl_isOrder.l0]
      rw [if_pos (by omega), wnat i n hi (by omega)]
    · have hc := Contains_ev l (i : Int) h
      rw [ho] at hc
      have hx : Ev (fun k => (slices_Contains_int64_int64.f k l (i : Int)).bind fun t => if t = true then impl_isOrder.l0 k l (n : Int) ((i + 1 : Nat) : Int) else some false) false := Ev.bind hc (Ev.neg (by simp) (Ev.now _))
      refine Ev.round hx fun k => ?_
      simp only [impl_isOrder.l0]
      rw [if_pos (by omega), wnat i n hi (by omega)]
    · refine Ev.round (Ev.now _) fun k => ?_
      simp only [impl_isOrder.l0]
      rw [if_neg (by omega)]
  · rw [decide_eq_false hl, Bool.false_and]
    exact Ev.neg (by omega) (Ev.now _)
end Go.Proofs.Ytanobaoaelhebaa.Q
end
section
namespace Go.Proofs.Ytanobaoaelhebaa.Q
open Go.RowKit Go.Proofs.YtanobaoaelhebaaW.PrintWords Go.Proofs.YtanobaoaelhebaaW.PrintLast Go.Proofs.YtanobaoaelhebaaW.PrintMore Go.Proofs.Ytanobaoaelhebaa.La Go.Proofs.Ytanobaoaelhebaa.Mp Go.Proofs.Ytanobaoaelhebaa.PB
set_option linter.unusedVariables false
set_option linter.unusedSimpArgs false
section
variable (s0 s1 : Int) (W : LA 10)
open Classical in
noncomputable def mp (a : S36) : MP × LA 100 := if h : ∃ p : MP × LA 100, Stp s0 s1 W a p.1 p.2 then Classical.choose h else ([], LA.zero 100)
noncomputable def dv (a b : S36) : Int := rd (mp s0 s1 W a).2.l (b.f1 * 10 + b.f0)
end
theorem mp_spec (s0 s1 : Int) (W : LA 10) (hb : ∀ i, 0 ≤ rd W.l i ∧ rd W.l i < 65536) (h0 : 1 ≤ s0 ∧ s0 ≤ 10) (h1 : 1 ≤ s1 ∧ s1 ≤ 10) (a : S36) (hf : frC s0 s1 W a.f0 a.f1 = true) : Stp s0 s1 W a (mp s0 s1 W a).1 (mp s0 s1 W a).2 := by
  obtain ⟨M, A, h⟩ := Stp_ex s0 s1 W hb h0 h1 a hf
  have he : ∃ p : MP × LA 100, Stp s0 s1 W a p.1 p.2 := ⟨(M, A), h⟩
  unfold mp
  rw [dif_pos he]
  exact Classical.choose_spec he
theorem dv_is (s0 s1 : Int) (W : LA 10) (hb : ∀ i, 0 ≤ rd W.l i ∧ rd W.l i < 65536) (h0 : 1 ≤ s0 ∧ s0 ≤ 10) (h1 : 1 ≤ s1 ∧ s1 ≤ 10) (a b : S36) (ha : frC s0 s1 W a.f0 a.f1 = true) (hbf : frC s0 s1 W b.f0 b.f1 = true) : dv s0 s1 W a b = if mhas (mp s0 s1 W a).1 b.f0 b.f1 = true then mval (mp s0 s1 W a).1 b.f0 b.f1 else -1 := by
  obtain ⟨cx, cy⟩ := frC_cell h0.2 h1.2 hbf
  exact (mp_spec s0 s1 W hb h0 h1 a ha).arr b cx cy
noncomputable def rowsF (s0 s1 : Int) (W : LA 10) (l L : List S36) : List (List Int) := L.map fun a => l.map (dv s0 s1 W a)
theorem Sought_in (s0 s1 : Int) (W : LA 10) (h0 : 1 ≤ s0 ∧ s0 ≤ 10) (h1 : 1 ≤ s1 ∧ s1 ≤ 10) (l L : List S36) (hl : l.length ≤ 7) (hf : ∀ q ∈ l, frC s0 s1 W q.f0 q.f1 = true) (a : S36) (acc : List (List Int)) (hacc : acc.length ≤ 100) (i : Nat) (hi : i ≤ 100) (v : List (List Int) × Int)
    (hr : Ev (fun k => spec_l06Sought.l0 k l L (acc ++ [l.map (dv s0 s1 W a)]) ((i + 1 : Nat) : Int) s0 s1 W) v) : ∀ n j : Nat, j + n = l.length → Ev (fun k => spec_l06Sought.l1 k l L acc (i : Int) ((l.take j).map (dv s0 s1 W a)) (j : Int) s0 s1 W (mp s0 s1 W a).2) v := by
  intro n
  induction n with
  | zero =>
    intro j hj
    obtain rfl : j = l.length := by omega
    rw [List.take_length]
    have w := wnat i 1000 (by omega) (by omega)
    have c1 : ¬ ((l.length : Int) < (l.length : Int)) := by omega
    have c2 : acc.length + 1 < 5864062014805 := by omega
    refine Ev.succ ?_
    simp only [spec_l06Sought.l1]
    rw [w]
    exact Ev.neg c1 (Ev.bind (Ev.now _) (Ev.pos c2 hr))
  | succ n ih =>
    intro j hj
    have hjl : j < l.length := by omega
    obtain ⟨cx, cy⟩ := frC_cell h0.2 h1.2 (hf _ (getD_mem l j z36 hjl))
    have e := ih (j + 1) (by omega)
    rw [take_get l j z36 hjl, List.map_append] at e
    have c1 : (j : Int) < (l.length : Int) := by omega
    have c2 : 0 ≤ (j : Int) := by omega
    have c3 : ((l.take j).map (dv s0 s1 W a)).length + 1 < 17592186044416 := by rw [List.length_map, List.length_take]; omega
    have w := wnat j 1000 (by omega) (by omega)
    refine Ev.succ ?_
    simp only [spec_l06Sought.l1]
    rw [w, rdS_get]
    exact Ev.pos c1 (Ev.pos c2 (Ev.pos cy.1 (Ev.pos cy.2 (Ev.pos cx.1 (Ev.pos cx.2 (Ev.bind (Ev.now _) (Ev.pos c3 e)))))))
theorem Sought_out (s0 s1 : Int) (W : LA 10) (hb : ∀ i, 0 ≤ rd W.l i ∧ rd W.l i < 65536) (h0 : 1 ≤ s0 ∧ s0 ≤ 10) (h1 : 1 ≤ s1 ∧ s1 ≤ 10) (l L : List S36) (hl : l.length ≤ 7) (hL : L.length ≤ 8) (hf : ∀ q ∈ l, frC s0 s1 W q.f0 q.f1 = true) (hfL : ∀ q ∈ L, frC s0 s1 W q.f0 q.f1 = true) : ∀ n i : Nat, i + n = L.length → Ev (fun k => spec_l06Sought.l0 k l L (rowsF s0 s1 W l (L.take i)) (i : Int) s0 s1 W) (rowsF s0 s1 W l L, 0) := by
  intro n
  induction n with
  | zero =>
    intro i hi
    obtain rfl : i = L.length := by omega
    rw [List.take_length]
    refine Ev.succ ?_
    simp only [spec_l06Sought.l0]
    exact Ev.neg (by omega) (Ev.now _)
  | succ n ih =>
    intro i hi
    have hil : i < L.length := by omega
    have e := ih (i + 1) (by omega)
    have e2 : rowsF s0 s1 W l (L.take (i + 1)) = rowsF s0 s1 W l (L.take i) ++ [l.map (dv s0 s1 W (L.getD i z36))] := by unfold rowsF; rw [take_get L i z36 hil, List.map_append]; rfl
    rw [e2] at e
    have hs := mp_spec s0 s1 W hb h0 h1 _ (hfL _ (getD_mem L i z36 hil))
    have e3 := Sought_in s0 s1 W h0 h1 l L hl hf (L.getD i z36) (rowsF s0 s1 W l (L.take i)) (by unfold rowsF; rw [List.length_map, List.length_take]; omega) i (by omega) _ e l.length 0 (Nat.zero_add _)
    refine Ev.succ ?_
    simp only [spec_l06Sought.l0]
    rw [rdS_get]
    exact Ev.pos (by omega) (Ev.pos (by omega) (Ev.bind hs.sp e3))
theorem any_swap (f : S36 → Bool) (a : S36) (l : List S36) : ([a] ++ l).any f = (l ++ [a]).any f := by
  rw [List.any_append, List.any_append, Bool.or_comm]
theorem SCode_both (s0 s1 : Int) (W : LA 10) (hr : RB s0 s1 W) (a : S36) (ha : SB a) (l : List S36) (hl : l.length ≤ 1073741823) (hs : ∀ q ∈ l, SB q) :
    ∃ c d : Int, Ev (fun k => impl_searchCode.f k s0 s1 W a.f0 a.f1 l) c ∧ Ev (fun k => spec_l06Asked.f k s0 s1 W (l ++ [a]) true) d ∧ c = (if d = 0 then (if (l.length : Int) > 7 then 3 else 0) else d) ∧
      (c = 0 → (1 ≤ s0 ∧ s0 ≤ 10) ∧ (1 ≤ s1 ∧ s1 ≤ 10) ∧ l.length ≤ 7 ∧ ∀ q ∈ l ++ [a], frC s0 s1 W q.f0 q.f1 = true) := by
  obtain ⟨ok, o1, o2, o3⟩ := Ok_both s0 s1 W hr.1 hr.2.1
  have hs2 : ∀ q ∈ l ++ [a], SB q := fun q hq => by
    rcases List.mem_append.1 hq with h | h
    · exact hs q h
    · obtain rfl := List.mem_singleton.1 h; exact ha
  have hs1 : ∀ q ∈ [a] ++ l, SB q := fun q hq => hs2 q (by
    rcases List.mem_append.1 hq with h | h
    · exact List.mem_append_right _ h
    · exact List.mem_append_left _ h)
  have len1 : ([a] ++ l).length ≤ 1073741824 := by simp; omega
  have len2 : (l ++ [a]).length ≤ 1073741824 := by simp; omega
  have hi : ∀ x y : Int, Ev (fun k => impl_cellCode.f k s0 s1 W ([a] ++ l)) x → Ev (fun k => impl_stateCode.f k s0 s1 W ([a] ++ l)) y → Ev (fun k => impl_searchCode.f k s0 s1 W a.f0 a.f1 l) (firstNZ [x, y, if decide ((l.length : Int) ≤ 7) = true then 0 else 3]) := fun x y hx hy => by
    unfold impl_searchCode.f
    exact Ev.bind (a := [a]) (Ev.now _) (Ev.pos (by simp; omega) (Ev.bind (a := [a] ++ l) (Ev.now _) (Ev.bind hx (Ev.bind hy (Ev.bind (Ev.const (Unless_c _ _)) (Ev.bind (FirstOf_ev _ (by simp)) (Ev.now _)))))))
  cases ok with
  | false =>
    have e1 := CellCode_bad s0 s1 W ([a] ++ l) o2
    have e2 := StateCode_any s0 s1 W hr ([a] ++ l) len1 hs1
    refine ⟨_, 1, hi _ _ e1 e2, Asked6_bad s0 s1 W _ true o1, by simp [firstNZ], fun h => by simp [firstNZ] at h⟩
  | true =>
    obtain ⟨h0, h1⟩ := o3 rfl
    have e1 := CellCode_ev s0 s1 W o2 h0 h1 ([a] ++ l) len1 hs1
    have e2 := StateCode_ev s0 s1 W hr.2.2 h0 h1 ([a] ++ l) len1 hs1
    have e3 := Asked6_ev s0 s1 W hr.2.2 o1 h0 h1 (l ++ [a]) len2 hs2 true
    have p1 : allCell s0 s1 ([a] ++ l) = allCell s0 s1 (l ++ [a]) := by unfold allCell; rw [any_swap]
    have p2 : allFree s0 s1 W ([a] ++ l) = allFree s0 s1 W (l ++ [a]) := by unfold allFree; rw [any_swap]
    refine ⟨_, _, hi _ _ e1 e2, e3, ?_, fun h => ?_⟩
    · rw [p1, p2]
      cases allCell s0 s1 (l ++ [a]) <;> cases allFree s0 s1 W (l ++ [a]) <;> by_cases h7 : (l.length : Int) ≤ 7 <;> simp [firstNZ, h7] <;> omega
    · rw [p1, p2] at h
      refine ⟨h0, h1, ?_, ?_⟩
      · by_cases h7 : (l.length : Int) ≤ 7
        · omega
        · exfalso
          revert h
          cases allCell s0 s1 (l ++ [a]) <;> cases allFree s0 s1 W (l ++ [a]) <;> simp [firstNZ, h7]
      · have : allFree s0 s1 W (l ++ [a]) = true := by
          revert h
          cases allCell s0 s1 (l ++ [a]) <;> cases hf : allFree s0 s1 W (l ++ [a]) <;> simp [firstNZ]
        unfold allFree at this
        simp only [Bool.not_eq_true', List.any_eq_false, Bool.not_eq_true] at this
        intro q hq
        have := this q hq
        simpa using this
theorem Sought_ev (s0 s1 : Int) (W : LA 10) (hb : ∀ i, 0 ≤ rd W.l i ∧ rd W.l i < 65536) (a : S36) (l : List S36) (hl : l.length ≤ 1073741823) (d : Int) (hd : Ev (fun k => spec_l06Asked.f k s0 s1 W (l ++ [a]) true) d)
    (hok : d = 0 → l.length ≤ 7 → (1 ≤ s0 ∧ s0 ≤ 10) ∧ (1 ≤ s1 ∧ s1 ≤ 10) ∧ ∀ q ∈ l ++ [a], frC s0 s1 W q.f0 q.f1 = true) :
    Ev (fun k => spec_l06Sought.f k s0 s1 W a.f0 a.f1 l) (if d = 0 then (if (l.length : Int) > 7 then ([], 3) else (rowsF s0 s1 W l (l ++ [a]), 0)) else ([], d)) := by
  unfold spec_l06Sought.f
  refine Ev.bind (a := []) (Ev.now _) (Ev.pos (by simp; omega) (Ev.bind (a := l) (Ev.eq (Ev.now _) (by simp)) (Ev.bind (a := [a]) (Ev.now _) (Ev.pos (by simp; omega) (Ev.bind (a := l ++ [a]) (Ev.now _) (Ev.bind hd ?_))))))
  by_cases h0 : d = 0
  · rw [if_pos h0]
    refine Ev.pos h0 ?_
    by_cases h7 : (l.length : Int) > 7
    · rw [if_pos h7, decide_eq_true h7]
      refine Ev.succ ?_
      simp only [spec_l06Sought.j0]
      refine Ev.pos trivial (Ev.succ ?_)
      simp only [spec_l06Sought.j1]
      exact Ev.neg (by decide) (Ev.now _)
    · rw [if_neg h7, decide_eq_false h7]
      obtain ⟨g0, g1, gf⟩ := hok h0 (by omega)
      have e := Sought_out s0 s1 W hb g0 g1 l (l ++ [a]) (by omega) (by simp; omega) (fun q hq => gf q (List.mem_append_left _ hq)) gf (l ++ [a]).length 0 (Nat.zero_add _)
      refine Ev.succ ?_
      simp only [spec_l06Sought.j0]
      refine Ev.neg Bool.false_ne_true (Ev.succ ?_)
      simp only [spec_l06Sought.j1]
      exact Ev.pos h0 e
  · rw [if_neg h0]
    refine Ev.neg h0 (Ev.succ ?_)
    simp only [spec_l06Sought.j0]
    refine Ev.neg Bool.false_ne_true (Ev.succ ?_)
    simp only [spec_l06Sought.j1]
    exact Ev.neg h0 (Ev.now _)
end Go.Proofs.Ytanobaoaelhebaa.Q
end
section
namespace Go.Proofs.Ytanobaoaelhebaa.Q
open Go.RowKit Go.Proofs.YtanobaoaelhebaaW.PrintWords Go.Proofs.YtanobaoaelhebaaW.PrintLast Go.Proofs.YtanobaoaelhebaaW.PrintMore Go.Proofs.Ytanobaoaelhebaa.La Go.Proofs.Ytanobaoaelhebaa.Mp Go.Proofs.Ytanobaoaelhebaa.PB
set_option linter.unusedVariables false
set_option linter.unusedSimpArgs false
theorem rowsF_get (s0 s1 : Int) (W : LA 10) (l L : List S36) (i : Nat) (hi : i < L.length) : rd_L4 (rowsF s0 s1 W l L) (i : Int) = l.map (dv s0 s1 W (L.getD i z36)) := by
  unfold rd_L4 rowsF
  rw [Int.toNat_natCast, List.getD_eq_getElem?_getD, List.getElem?_map, List.getElem?_eq_getElem hi, List.getD_eq_getElem?_getD, List.getElem?_eq_getElem hi]
  rfl
theorem rd_map (f : S36 → Int) (l : List S36) (j : Nat) (hj : j < l.length) : rd (l.map f) (j : Int) = f (l.getD j z36) := by
  rw [rd_nat, List.getD_eq_getElem?_getD, List.getElem?_map, List.getElem?_eq_getElem hj, List.getD_eq_getElem?_getD, List.getElem?_eq_getElem hj]
  rfl
theorem last_get (l : List S36) (a : S36) : (l ++ [a]).getD l.length z36 = a := by simp [List.getD_eq_getElem?_getD]
theorem Reach_ev (s0 s1 : Int) (W : LA 10) (a : S36) (l : List S36) (hl : l.length ≤ 7) : Ev (fun k => spec_l06Reach.f k (rowsF s0 s1 W l (l ++ [a]))) (if l.all (fun q => decide (0 ≤ dv s0 s1 W a q)) = true then 0 else 6) := by
  have hlen : (rowsF s0 s1 W l (l ++ [a])).length = l.length + 1 := by unfold rowsF; simp
  have hw : wrap64 (((rowsF s0 s1 W l (l ++ [a])).length : Int) - 1) = (l.length : Int) := by rw [hlen]; unfold wrap64; omega
  have hrow : rd_L4 (rowsF s0 s1 W l (l ++ [a])) (l.length : Int) = l.map (dv s0 s1 W a) := by rw [rowsF_get _ _ _ _ _ _ (by simp), last_get]
  have key : ∀ n i : Nat, i + n = l.length → Ev (fun k => spec_l06Reach.l0 k (rowsF s0 s1 W l (l ++ [a])) (l.length : Int) (i : Int)) (if (l.drop i).all (fun q => decide (0 ≤ dv s0 s1 W a q)) = true then 0 else 6) := by
    intro n
    induction n with
    | zero =>
      intro i hi
      obtain rfl : i = l.length := by omega
      refine Ev.succ ?_
      simp only [spec_l06Reach.l0]
      rw [List.drop_length]
      exact Ev.neg (by omega) (Ev.now _)
    | succ n ih =>
      intro i hi
      have hil : i < l.length := by omega
      have e := ih (i + 1) (by omega)
      have c1 : (i : Int) < (l.length : Int) := by omega
      have c2 : 0 ≤ (l.length : Int) := by omega
      have c3 : (l.length : Int) < (((rowsF s0 s1 W l (l ++ [a])).length : Nat) : Int) := by rw [hlen]; omega
      have c4 : 0 ≤ (i : Int) := by omega
      have c5 : (i : Int) < ((l.map (dv s0 s1 W a)).length : Int) := by rw [List.length_map]; omega
      have w := wnat i 1000 (by omega) (by omega)
      rw [drop_get l i z36 hil, List.all_cons]
      refine Ev.succ ?_
      simp only [spec_l06Reach.l0]
      rw [hrow, rd_map _ _ _ hil, w]
      refine Ev.pos c1 (Ev.pos c2 (Ev.pos c3 (Ev.pos c4 (Ev.pos c5 ?_))))
      by_cases h : dv s0 s1 W a (l.getD i z36) < 0
      · refine Ev.pos h (Ev.eq (Ev.now _) ?_)
        rw [decide_eq_false (by omega), Bool.false_and]
        rfl
      · refine Ev.neg h (Ev.eq e ?_)
        rw [decide_eq_true (by omega), Bool.true_and]
  unfold spec_l06Reach.f
  rw [hw]
  exact key l.length 0 (Nat.zero_add _)
section
variable (s0 s1 : Int) (W : LA 10)
noncomputable def mps (l : List S36) : List MP := l.map fun q => (mp s0 s1 W q).1
end
theorem searchOf_ev (s0 s1 : Int) (W : LA 10) (hb : ∀ i, 0 ≤ rd W.l i ∧ rd W.l i < 65536) (h0 : 1 ≤ s0 ∧ s0 ≤ 10) (h1 : 1 ≤ s1 ∧ s1 ≤ 10) (a : S36) (ha : frC s0 s1 W a.f0 a.f1 = true) (l : List S36) (hl : l.length ≤ 7) (hf : ∀ q ∈ l, frC s0 s1 W q.f0 q.f1 = true) :
    Ev (fun k => impl_Room_searchOf.f k s0 s1 W a.f0 a.f1 l) (if l.all (fun q => mhas (mp s0 s1 W a).1 q.f0 q.f1) = true then some ((mp s0 s1 W a).1, mps s0 s1 W l) else none) := by
  have key : ∀ n i : Nat, i + n = l.length → Ev (fun k => impl_Room_searchOf.l0 k (mp s0 s1 W a).1 l (i : Int) (mps s0 s1 W (l.take i)) s0 s1 W) (if (l.drop i).all (fun q => mhas (mp s0 s1 W a).1 q.f0 q.f1) = true then some ((mp s0 s1 W a).1, mps s0 s1 W l) else none) := by
    intro n
    induction n with
    | zero =>
      intro i hi
      obtain rfl : i = l.length := by omega
      refine Ev.succ ?_
      simp only [impl_Room_searchOf.l0]
      rw [List.drop_length, List.take_length]
      exact Ev.neg (by omega) (Ev.now _)
    | succ n ih =>
      intro i hi
      have hil : i < l.length := by omega
      have e := ih (i + 1) (by omega)
      have e2 : mps s0 s1 W (l.take (i + 1)) = mps s0 s1 W (l.take i) ++ [(mp s0 s1 W (l.getD i z36)).1] := by unfold mps; rw [take_get l i z36 hil, List.map_append]; rfl
      rw [e2] at e
      have hs := mp_spec s0 s1 W hb h0 h1 _ (hf _ (getD_mem l i z36 hil))
      have c1 : (i : Int) < (l.length : Int) := by omega
      have c2 : 0 ≤ (i : Int) := by omega
      have c3 : (mps s0 s1 W (l.take i)).length < 17592186044415 := by unfold mps; rw [List.length_map, List.length_take]; omega
      have w := wnat i 1000 (by omega) (by omega)
      rw [drop_get l i z36 hil, List.all_cons]
      refine Ev.succ ?_
      simp only [impl_Room_searchOf.l0]
      rw [rdS_get, w]
      refine Ev.pos c1 (Ev.pos c2 ?_)
      by_cases h : mhas (mp s0 s1 W a).1 (l.getD i z36).f0 (l.getD i z36).f1 = true
      · rw [h, Bool.true_and]
        exact Ev.pos rfl (Ev.bind hs.im (Ev.pos c3 e))
      · have h' : mhas (mp s0 s1 W a).1 (l.getD i z36).f0 (l.getD i z36).f1 = false := by simpa using h
        rw [h', Bool.false_and]
        exact Ev.neg Bool.false_ne_true (Ev.now _)
  unfold impl_Room_searchOf.f
  exact Ev.bind (mp_spec s0 s1 W hb h0 h1 a ha).im (key l.length 0 (Nat.zero_add _))
section
variable (s0 s1 : Int) (W : LA 10) (a : S36) (l : List S36) (o : List Int)
noncomputable def legV (i : Nat) : Int := if i = 0 then mval (mp s0 s1 W a).1 (l.getD (o.getD i 0).toNat z36).f0 (l.getD (o.getD i 0).toNat z36).f1 else mval (mp s0 s1 W (l.getD (o.getD (i - 1) 0).toNat z36)).1 (l.getD (o.getD i 0).toNat z36).f0 (l.getD (o.getD i 0).toNat z36).f1
noncomputable def legsV : List Int := (List.range o.length).map (legV s0 s1 W a l o)
end
theorem legs_ev (s0 s1 : Int) (W : LA 10) (a : S36) (l : List S36) (hl : l.length ≤ 7) (o : List Int) (ho : o.length ≤ 7) (hr : ∀ i : Nat, i < o.length → 0 ≤ o.getD i 0 ∧ o.getD i 0 < (l.length : Int)) : Ev (fun k => impl_search_legs.f k (mp s0 s1 W a).1 (mps s0 s1 W l) l o) (legsV s0 s1 W a l o) := by
  have hml : (mps s0 s1 W l).length = l.length := by unfold mps; simp
  have hm : ∀ j : Nat, j < l.length → rdM (mps s0 s1 W l) (j : Int) = (mp s0 s1 W (l.getD j z36)).1 := fun j hj => by
    unfold rdM mps
    rw [Int.toNat_natCast, List.getD_eq_getElem?_getD, List.getElem?_map, List.getElem?_eq_getElem hj, List.getD_eq_getElem?_getD, List.getElem?_eq_getElem hj]
    rfl
  have key : ∀ n i : Nat, i + n = o.length → Ev (fun k => impl_search_legs.l0 k (mp s0 s1 W a).1 (mps s0 s1 W l) l o (i : Int) ((List.range i).map (legV s0 s1 W a l o))) (legsV s0 s1 W a l o) := by
    intro n
    induction n with
    | zero =>
      intro i hi
      obtain rfl : i = o.length := by omega
      refine Ev.succ ?_
      simp only [impl_search_legs.l0]
      exact Ev.neg (by omega) (Ev.now _)
    | succ n ih =>
      intro i hi
      have hil : i < o.length := by omega
      have e := ih (i + 1) (by omega)
      rw [List.range_succ, List.map_append, List.map_singleton] at e
      have hri := hr i hil
      obtain ⟨u, hu⟩ : ∃ u : Nat, o.getD i 0 = (u : Int) := ⟨(o.getD i 0).toNat, by omega⟩
      have c1 : (i : Int) < (o.length : Int) := by omega
      have c2 : 0 ≤ (i : Int) := by omega
      have c3 : 0 ≤ (u : Int) := by omega
      have c4 : (u : Int) < (l.length : Int) := by omega
      have c5 : ((List.range i).map (legV s0 s1 W a l o)).length < 17592186044415 := by simp; omega
      have w := wnat i 1000 (by omega) (by omega)
      refine Ev.succ ?_
      simp only [impl_search_legs.l0]
      rw [rd_nat, hu, rdS_get, w]
      refine Ev.pos c1 (Ev.pos c2 (Ev.pos c3 (Ev.pos c4 ?_)))
      by_cases h : i = 0
      · subst h
        have hv : legV s0 s1 W a l o 0 = mval (mp s0 s1 W a).1 (l.getD u z36).f0 (l.getD u z36).f1 := by unfold legV; rw [if_pos rfl, hu, Int.toNat_natCast]
        rw [hv] at e
        exact Ev.pos rfl (Ev.pos c5 e)
      · obtain ⟨j, rfl⟩ : ∃ j, i = j + 1 := ⟨i - 1, by omega⟩
        have hrj := hr j (by omega)
        obtain ⟨v, hv⟩ : ∃ v : Nat, o.getD j 0 = (v : Int) := ⟨(o.getD j 0).toNat, by omega⟩
        have wm : wrap64 (((j + 1 : Nat) : Int) - 1) = (j : Int) := by clear w e; unfold wrap64; omega
        have hvv : legV s0 s1 W a l o (j + 1) = mval (mp s0 s1 W (l.getD v z36)).1 (l.getD u z36).f0 (l.getD u z36).f1 := by unfold legV; rw [if_neg (by omega), hu, Nat.add_sub_cancel, hv, Int.toNat_natCast, Int.toNat_natCast]
        rw [hvv] at e
        have d0 : ¬ (((j + 1 : Nat) : Int) = 0) := by omega
        have d1 : 0 ≤ (j : Int) := by omega
        have d2 : (j : Int) < (o.length : Int) := by omega
        have d3 : 0 ≤ (v : Int) := by omega
        have d4 : (v : Int) < ((mps s0 s1 W l).length : Int) := by rw [hml]; omega
        rw [wm, rd_nat, hv, hm v (by omega)]
        exact Ev.neg d0 (Ev.pos d1 (Ev.pos d2 (Ev.pos d3 (Ev.pos d4 (Ev.pos c5 e)))))
  unfold impl_search_legs.f
  exact key o.length 0 (Nat.zero_add _)
theorem leg_row (s0 s1 : Int) (W : LA 10) (hb : ∀ i, 0 ≤ rd W.l i ∧ rd W.l i < 65536) (h0 : 1 ≤ s0 ∧ s0 ≤ 10) (h1 : 1 ≤ s1 ∧ s1 ≤ 10) (a : S36) (ha : frC s0 s1 W a.f0 a.f1 = true) (l : List S36) (hf : ∀ q ∈ l, frC s0 s1 W q.f0 q.f1 = true) (hreach : ∀ q ∈ l, mhas (mp s0 s1 W a).1 q.f0 q.f1 = true) (b : S36) (hbl : b ∈ l ++ [a]) (q : S36) (hq : q ∈ l) :
    dv s0 s1 W b q = mval (mp s0 s1 W b).1 q.f0 q.f1 := by
  have sa := mp_spec s0 s1 W hb h0 h1 a ha
  have hfb : frC s0 s1 W b.f0 b.f1 = true := by
    rcases List.mem_append.1 hbl with h | h
    · exact hf b h
    · obtain rfl := List.mem_singleton.1 h; exact ha
  have sb := mp_spec s0 s1 W hb h0 h1 b hfb
  rw [dv_is s0 s1 W hb h0 h1 b q hfb (hf q hq), if_pos]
  refine (sb.has q).2 (Conn.trans ?_ ((sa.has q).1 (hreach q hq)))
  rcases List.mem_append.1 hbl with h | h
  · exact Conn.symm ((sa.has b).1 (hreach b h)) ha
  · obtain rfl := List.mem_singleton.1 h; exact Conn.refl
end Go.Proofs.Ytanobaoaelhebaa.Q
end
section
namespace Go.Proofs.Ytanobaoaelhebaa.Q
open Go.RowKit Go.Proofs.YtanobaoaelhebaaW.PrintWords Go.Proofs.YtanobaoaelhebaaW.PrintLast Go.Proofs.YtanobaoaelhebaaW.PrintMore Go.Proofs.Ytanobaoaelhebaa.La Go.Proofs.Ytanobaoaelhebaa.Mp Go.Proofs.Ytanobaoaelhebaa.PB
set_option linter.unusedVariables false
set_option linter.unusedSimpArgs false
theorem legsV_get (s0 s1 : Int) (W : LA 10) (a : S36) (l : List S36) (o : List Int) (i : Nat) (hi : i < o.length) : rd (legsV s0 s1 W a l o) (i : Int) = legV s0 s1 W a l o i := by
  unfold legsV
  rw [rd_nat, List.getD_eq_getElem?_getD, List.getElem?_map, List.getElem?_range hi]
  rfl
theorem Sum_both (s0 s1 : Int) (W : LA 10) (hb : ∀ i, 0 ≤ rd W.l i ∧ rd W.l i < 65536) (h0 : 1 ≤ s0 ∧ s0 ≤ 10) (h1 : 1 ≤ s1 ∧ s1 ≤ 10) (a : S36) (ha : frC s0 s1 W a.f0 a.f1 = true) (l : List S36) (hl : l.length ≤ 7) (hf : ∀ q ∈ l, frC s0 s1 W q.f0 q.f1 = true) (hreach : ∀ q ∈ l, mhas (mp s0 s1 W a).1 q.f0 q.f1 = true) (o : List Int) (ho : o.length ≤ 7) (hr : ∀ i : Nat, i < o.length → 0 ≤ o.getD i 0 ∧ o.getD i 0 < (l.length : Int)) :
    ∀ (n i : Nat) (all now : Int) (cur : Nat), i + n = o.length → (if i = 0 then cur = l.length else (cur : Int) = o.getD (i - 1) 0) →
      ∃ v : Int × Int, Ev (fun k => spec_LateBy.l1 k o (rowsF s0 s1 W l (l ++ [a])) now all (cur : Int) (i : Int)) v ∧ Ev (fun k => impl_LateBy.l0 k (legsV s0 s1 W a l o) (i : Int) all now) v := by
  have hlen : (rowsF s0 s1 W l (l ++ [a])).length = l.length + 1 := by unfold rowsF; simp
  have hll : (legsV s0 s1 W a l o).length = o.length := by unfold legsV; simp
  intro n
  induction n with
  | zero =>
    intro i all now cur hi hc
    refine ⟨(all, 0), Ev.succ ?_, Ev.succ ?_⟩
    · simp only [spec_LateBy.l1]
      exact Ev.neg (by omega) (Ev.now _)
    · simp only [impl_LateBy.l0]
      exact Ev.neg (by rw [hll]; omega) (Ev.now _)
  | succ n ih =>
    intro i all now cur hi hc
    have hil : i < o.length := by omega
    have hri := hr i hil
    obtain ⟨u, hu⟩ : ∃ u : Nat, o.getD i 0 = (u : Int) := ⟨(o.getD i 0).toNat, by omega⟩
    have hul : u < l.length := by omega
    have hcur : cur < l.length + 1 := by
      by_cases h : i = 0
      · rw [if_pos h] at hc; omega
      · rw [if_neg h] at hc
        have := hr (i - 1) (by omega)
        omega
    have hcl : cur < (l ++ [a]).length := by simp; omega
    have hrow := rowsF_get s0 s1 W l (l ++ [a]) cur hcl
    have hleg : dv s0 s1 W ((l ++ [a]).getD cur z36) (l.getD u z36) = legV s0 s1 W a l o i := by
      rw [leg_row s0 s1 W hb h0 h1 a ha l hf hreach _ (getD_mem _ cur z36 hcl) _ (getD_mem l u z36 hul)]
      unfold legV
      by_cases h : i = 0
      · rw [if_pos h] at hc ⊢
        rw [hc, last_get, hu, Int.toNat_natCast]
      · rw [if_neg h] at hc ⊢
        have := hr (i - 1) (by omega)
        rw [hu, Int.toNat_natCast, ← hc, Int.toNat_natCast, getD_app _ _ _ _ (by omega)]
    obtain ⟨v, v1, v2⟩ := ih (i + 1) (wrap64 (all + wrap64 (now + legV s0 s1 W a l o i))) (wrap64 (now + legV s0 s1 W a l o i)) u (by omega) (by rw [if_neg (by omega), Nat.add_sub_cancel]; exact hu.symm)
    have c1 : (i : Int) < (o.length : Int) := by omega
    have c2 : 0 ≤ (cur : Int) := by omega
    have c3 : (cur : Int) < ((rowsF s0 s1 W l (l ++ [a])).length : Int) := by rw [hlen]; omega
    have c4 : 0 ≤ (i : Int) := by omega
    have c5 : 0 ≤ (u : Int) := by omega
    have c6 : (u : Int) < ((l.map (dv s0 s1 W ((l ++ [a]).getD cur z36))).length : Int) := by rw [List.length_map]; omega
    have c7 : (i : Int) < ((legsV s0 s1 W a l o).length : Int) := by rw [hll]; omega
    have w := wnat i 1000 (by omega) (by omega)
    refine ⟨v, Ev.succ ?_, Ev.succ ?_⟩
    · simp only [spec_LateBy.l1]
      rw [rd_nat o i, hu, hrow, rd_map _ _ _ hul, hleg, w]
      exact Ev.pos c1 (Ev.pos c2 (Ev.pos c3 (Ev.pos c4 (Ev.pos c5 (Ev.pos c6 v1)))))
    · simp only [impl_LateBy.l0]
      rw [legsV_get _ _ _ _ _ _ _ hil, w]
      exact Ev.pos c7 (Ev.pos c4 v2)
theorem Order_s (l : List S36) (o : List Int) (R : List (List Int)) (hl : l.length ≤ 1073741824) (ho : o.length ≤ 1073741824) (v : Int × Int) (hv : (∀ j, j < o.length → (0 ≤ o.getD j 0 ∧ o.getD j 0 < (l.length : Int)) ∧ o.getD j 0 ∉ o.take j) → Ev (fun k => spec_LateBy.j3 k l o R 0 (o.length : Int) false) v) :
    ∀ n i : Nat, i + n = o.length → (∀ j, j < i → (0 ≤ o.getD j 0 ∧ o.getD j 0 < (l.length : Int)) ∧ o.getD j 0 ∉ o.take j) → ∃ b : Bool, Ev (fun k => spec_LateBy.l0 k l o R 0 (i : Int)) (if b then v else (0, 4)) ∧ (b = true ↔ ∀ j, i ≤ j → j < o.length → (0 ≤ o.getD j 0 ∧ o.getD j 0 < (l.length : Int)) ∧ o.getD j 0 ∉ o.take j) := by
  have bad : ∀ i : Int, Ev (fun k => spec_LateBy.l0 k l o R 4 i) (0, 4) := fun i => by
    have h : Ev (fun k => spec_LateBy.j3 k l o R 4 i false) (0, 4) := by
      refine Ev.succ ?_
      simp only [spec_LateBy.j3]
      refine Ev.neg Bool.false_ne_true (Ev.neg (by decide) (Ev.succ ?_))
      simp only [spec_LateBy.j4]
      exact Ev.neg (by decide) (Ev.now _)
    refine Ev.succ ?_
    simp only [spec_LateBy.l0]
    by_cases c : i < (o.length : Int)
    · exact Ev.pos c h
    · exact Ev.neg c h
  intro n
  induction n with
  | zero =>
    intro i hi hpre
    obtain rfl : i = o.length := by omega
    refine ⟨true, ?_, ⟨fun _ j h1 h2 => absurd h1 (by omega), fun _ => rfl⟩⟩
    refine Ev.succ ?_
    simp only [spec_LateBy.l0]
    exact Ev.neg (by omega) (hv hpre)
  | succ n ih =>
    intro i hi hpre
    have hil : i < o.length := by omega
    have hh := Has_ev (o.take i) (o.getD i 0) (by rw [List.length_take]; omega)
    have c1 : (i : Int) < (o.length : Int) := by omega
    have c2 : 0 ≤ (i : Int) := by omega
    have c3 : (i : Int) ≤ (o.length : Int) := by omega
    have w := wnat i 1073741826 (by omega) (by omega)
    have wl : wrap64 ((l.length : Int) - 1) = (l.length : Int) - 1 := by clear w; unfold wrap64; omega
    by_cases hin : inC (o.getD i 0) 0 ((l.length : Int) - 1) = true
    · have hr : 0 ≤ o.getD i 0 ∧ o.getD i 0 < (l.length : Int) := by
        unfold inC at hin
        simp only [Bool.and_eq_true, decide_eq_true_eq] at hin
        omega
      by_cases hm : o.getD i 0 ∈ o.take i
      · rw [decide_eq_true hm] at hh
        refine ⟨false, ?_, ⟨fun h => absurd h Bool.false_ne_true, fun h => absurd hm (h i (Nat.le_refl _) hil).2⟩⟩
        refine Ev.succ ?_
        simp only [spec_LateBy.l0]
        refine Ev.pos c1 (Ev.succ ?_)
        simp only [spec_LateBy.j3]
        rw [rd_nat, wl, w, Int.toNat_natCast]
        exact Ev.pos rfl (Ev.pos c2 (Ev.pos c1 (Ev.bind (Ev.const (In_c _ _ _)) (Ev.pos hin (Ev.pos c3 (Ev.bind hh (Ev.pos rfl (bad _))))))))
      · rw [decide_eq_false hm] at hh
        obtain ⟨b, b1, b2⟩ := ih (i + 1) (by omega) (fun j hj => by
          by_cases e : j = i
          · subst e; exact ⟨hr, hm⟩
          · exact hpre j (by omega))
        refine ⟨b, ?_, ⟨fun h j h1 h2 => ?_, fun h => b2.2 fun j h1 h2 => h j (by omega) h2⟩⟩
        · refine Ev.succ ?_
          simp only [spec_LateBy.l0]
          refine Ev.pos c1 (Ev.succ ?_)
          simp only [spec_LateBy.j3]
          rw [rd_nat, wl, w, Int.toNat_natCast]
          exact Ev.pos rfl (Ev.pos c2 (Ev.pos c1 (Ev.bind (Ev.const (In_c _ _ _)) (Ev.pos hin (Ev.pos c3 (Ev.bind hh (Ev.neg Bool.false_ne_true b1)))))))
        · by_cases e : j = i
          · subst e; exact ⟨hr, hm⟩
          · exact b2.1 h j (by omega) h2
    · refine ⟨false, ?_, ⟨fun h => absurd h Bool.false_ne_true, fun h => ?_⟩⟩
      · refine Ev.succ ?_
        simp only [spec_LateBy.l0]
        refine Ev.pos c1 (Ev.succ ?_)
        simp only [spec_LateBy.j3]
        rw [rd_nat, wl, w]
        exact Ev.pos rfl (Ev.pos c2 (Ev.pos c1 (Ev.bind (Ev.const (In_c _ _ _)) (Ev.neg hin (bad _)))))
      · exfalso
        have := (h i (Nat.le_refl _) hil).1
        apply hin
        unfold inC
        simp only [Bool.and_eq_true, decide_eq_true_eq]
        omega
theorem LateBy_both (s0 s1 : Int) (W : LA 10) (hr : RB s0 s1 W) (a : S36) (ha : SB a) (l : List S36) (hl : l.length ≤ 1073741823) (hs : ∀ q ∈ l, SB q) (o : List Int) (ho : o.length ≤ 1073741823) :
    ∃ v : Int × Int, Ev (fun k => spec_LateBy.f k s0 s1 W a.f0 a.f1 l o) v ∧ Ev (fun k => impl_LateBy.f k s0 s1 W a.f0 a.f1 l o) v := by
  obtain ⟨c, d, i1, i2, hcd, hok⟩ := SCode_both s0 s1 W hr a ha l hl hs
  have so := Sought_ev s0 s1 W hr.2.2 a l hl d i2 (fun hd h7 => by
    have := hok (by rw [hcd, if_pos hd, if_neg (by omega)])
    exact ⟨this.1, this.2.1, this.2.2.2⟩)
  have quit : ∀ (R : List (List Int)) (e : Int), e ≠ 0 → Ev (fun k => spec_LateBy.j0 k l o R e false) (0, e) := fun R e he => by
    have hj : Ev (fun k => spec_LateBy.j3 k l o R e 0 false) (0, e) := by
      refine Ev.succ ?_
      simp only [spec_LateBy.j3]
      refine Ev.neg Bool.false_ne_true (Ev.neg he (Ev.succ ?_))
      simp only [spec_LateBy.j4]
      exact Ev.neg he (Ev.now _)
    refine Ev.succ ?_
    simp only [spec_LateBy.j0]
    refine Ev.neg Bool.false_ne_true (Ev.succ ?_)
    simp only [spec_LateBy.j1]
    refine Ev.succ ?_
    simp only [spec_LateBy.l0]
    by_cases c0 : (0 : Int) < (o.length : Int)
    · rw [beq_eq_false_iff_ne.2 he]
      exact Ev.pos c0 hj
    · exact Ev.neg c0 hj
  by_cases hc : c = 0
  rotate_left
  · -- the code of the search is no 0
    refine ⟨(0, c), ?_, ?_⟩
    · unfold spec_LateBy.f
      by_cases hd : d = 0
      · rw [if_pos hd] at so hcd
        by_cases h7 : (l.length : Int) > 7
        · rw [if_pos h7] at so hcd
          subst hcd
          exact Ev.bind so (Ev.neg (by decide) (quit [] 3 (by decide)))
        · rw [if_neg h7] at hcd
          exact absurd hcd hc
      · rw [if_neg hd] at so hcd
        subst hcd
        exact Ev.bind so (Ev.neg hd (quit [] c hd))
    · unfold impl_LateBy.f
      refine Ev.bind i1 (Ev.bind (isOrder_ev l.length o (by omega) (by omega)) (Ev.bind (Ev.const (Unless_c _ _)) (Ev.bind (FirstOf_ev _ (by simp)) ?_)))
      rw [show firstNZ [c, if okOrder l.length o = true then 0 else 4] = c by simp [firstNZ, hc]]
      exact Ev.neg hc (Ev.now _)
  obtain ⟨h0, h1, h7, hfr⟩ := hok hc
  have hd : d = 0 := by
    by_cases hd : d = 0
    · exact hd
    · rw [if_neg hd] at hcd; omega
  rw [if_pos hd, if_neg (by omega)] at so
  have hf : ∀ q ∈ l, frC s0 s1 W q.f0 q.f1 = true := fun q hq => hfr q (List.mem_append_left _ hq)
  have haf : frC s0 s1 W a.f0 a.f1 = true := hfr a (List.mem_append_right _ (by simp))
  have io := isOrder_ev l.length o (by omega) (by omega)
  have code : Ev (fun k => impl_firstOf.f k [c, if okOrder l.length o = true then 0 else 4]) (firstNZ [c, if okOrder l.length o = true then 0 else 4]) := FirstOf_ev _ (by simp)
  have hiL : ∀ v : Int × Int, Ev (fun k => if (firstNZ [c, if okOrder l.length o = true then 0 else 4] : Int) = 0 then ((impl_Room_searchOf.f k s0 s1 W a.f0 a.f1 l).bind fun s => impl_LateBy.go k l o s) else some (0, firstNZ [c, if okOrder l.length o = true then 0 else 4])) v → Ev (fun k => impl_LateBy.f k s0 s1 W a.f0 a.f1 l o) v := fun v hv => by
    unfold impl_LateBy.f
    exact Ev.bind i1 (Ev.bind io (Ev.bind (Ev.const (Unless_c _ _)) (Ev.bind code hv)))
  by_cases hor : okOrder l.length o = true
  rotate_left
  · -- no order
    refine ⟨(0, 4), ?_, hiL _ ?_⟩
    · unfold spec_LateBy.f
      refine Ev.bind so (Ev.pos rfl ?_)
      have bad : ∀ i : Int, Ev (fun k => spec_LateBy.l0 k l o (rowsF s0 s1 W l (l ++ [a])) 4 i) (0, 4) := fun i => by
        have h : Ev (fun k => spec_LateBy.j3 k l o (rowsF s0 s1 W l (l ++ [a])) 4 i false) (0, 4) := by
          refine Ev.succ ?_
          simp only [spec_LateBy.j3]
          refine Ev.neg Bool.false_ne_true (Ev.neg (by decide) (Ev.succ ?_))
          simp only [spec_LateBy.j4]
          exact Ev.neg (by decide) (Ev.now _)
        refine Ev.succ ?_
        simp only [spec_LateBy.l0]
        by_cases c : i < (o.length : Int)
        · exact Ev.pos c h
        · exact Ev.neg c h
      by_cases hlen : (o.length : Int) = (l.length : Int)
      · -- equal lengths
        obtain ⟨b, b1, b2⟩ := Order_s l o (rowsF s0 s1 W l (l ++ [a])) (by omega) (by omega) (0, 0) (fun h => absurd ((okOrder_iff _ _).2 ⟨by omega, h⟩) hor) o.length 0 (Nat.zero_add _) (fun j hj => absurd hj (by omega))
        have hb : b = false := by
          cases b with
          | false => rfl
          | true =>
            exfalso
            apply hor
            rw [okOrder_iff]
            exact ⟨by omega, fun i hi => b2.1 rfl i (Nat.zero_le _) hi⟩
        subst hb
        rw [show ((o.length : Int) != (l.length : Int)) = false by simp [hlen]]
        refine Ev.succ ?_
        simp only [spec_LateBy.j0]
        refine Ev.neg Bool.false_ne_true (Ev.succ ?_)
        simp only [spec_LateBy.j1]
        exact b1
      · rw [show ((o.length : Int) != (l.length : Int)) = true by simpa using hlen]
        refine Ev.succ ?_
        simp only [spec_LateBy.j0]
        refine Ev.pos trivial (Ev.succ ?_)
        simp only [spec_LateBy.j1]
        exact bad 0
    · refine Ev.neg ?_ (Ev.eq (Ev.now _) ?_)
      · rw [hc, if_neg hor]; decide
      · rw [hc, if_neg hor]; rfl
  · obtain ⟨hlen, hall⟩ := (okOrder_iff _ _).1 hor
    have hri : ∀ i : Nat, i < o.length → 0 ≤ o.getD i 0 ∧ o.getD i 0 < (l.length : Int) := fun i hi => (hall i hi).1
    have re := Reach_ev s0 s1 W a l h7
    have se := searchOf_ev s0 s1 W hr.2.2 h0 h1 a haf l h7 hf
    have eq : l.all (fun q => mhas (mp s0 s1 W a).1 q.f0 q.f1) = l.all (fun q => decide (0 ≤ dv s0 s1 W a q)) := by
      rw [Bool.eq_iff_iff, List.all_eq_true, List.all_eq_true]
      refine forall_congr' fun q => forall_congr' fun hq => ?_
      rw [decide_eq_true_eq, dv_is s0 s1 W hr.2.2 h0 h1 a q haf (hf q hq)]
      by_cases hm : mhas (mp s0 s1 W a).1 q.f0 q.f1 = true
      · rw [if_pos hm]
        exact ⟨fun _ => ((mp_spec s0 s1 W hr.2.2 h0 h1 a haf).val q hm).1, fun _ => hm⟩
      · rw [if_neg hm]
        exact ⟨fun h => absurd h hm, fun h => absurd h (by decide)⟩
    rw [eq] at se
    have fz : firstNZ [c, if okOrder l.length o = true then 0 else 4] = 0 := by rw [hc, if_pos hor]; rfl
    have spec : ∀ v : Int × Int, Ev (fun k => spec_LateBy.j3 k l o (rowsF s0 s1 W l (l ++ [a])) 0 (o.length : Int) false) v → Ev (fun k => spec_LateBy.f k s0 s1 W a.f0 a.f1 l o) v := fun v hv => by
      obtain ⟨b, b1, b2⟩ := Order_s l o (rowsF s0 s1 W l (l ++ [a])) (by omega) (by omega) v (fun _ => hv) o.length 0 (Nat.zero_add _) (fun j hj => absurd hj (by omega))
      have hb : b = true := b2.2 (fun j _ h2 => hall j h2)
      subst hb
      unfold spec_LateBy.f
      refine Ev.bind so (Ev.pos rfl ?_)
      rw [show ((o.length : Int) != (l.length : Int)) = false by simp [hlen]]
      refine Ev.succ ?_
      simp only [spec_LateBy.j0]
      refine Ev.neg Bool.false_ne_true (Ev.succ ?_)
      simp only [spec_LateBy.j1]
      exact b1
    by_cases hre : l.all (fun q => decide (0 ≤ dv s0 s1 W a q)) = true
    · rw [if_pos hre] at re se
      have hreach : ∀ q ∈ l, mhas (mp s0 s1 W a).1 q.f0 q.f1 = true := fun q hq => (List.all_eq_true.1 (eq.trans hre)) q hq
      obtain ⟨v, v1, v2⟩ := Sum_both s0 s1 W hr.2.2 h0 h1 a haf l h7 hf hreach o (by omega) hri o.length 0 0 0 l.length (Nat.zero_add _) (by simp)
      refine ⟨v, spec v ?_, hiL v ?_⟩
      · have hw : wrap64 (((rowsF s0 s1 W l (l ++ [a])).length : Int) - 1) = (l.length : Int) := by
          rw [show (rowsF s0 s1 W l (l ++ [a])).length = l.length + 1 by unfold rowsF; simp]
          unfold wrap64
          omega
        refine Ev.succ ?_
        simp only [spec_LateBy.j3]
        refine Ev.neg Bool.false_ne_true (Ev.pos trivial (Ev.bind re (Ev.succ ?_)))
        simp only [spec_LateBy.j4]
        rw [hw]
        exact Ev.pos trivial v1
      · rw [fz]
        refine Ev.pos rfl (Ev.bind se ?_)
        show Ev (fun k => (impl_search_legs.f k (mp s0 s1 W a).1 (mps s0 s1 W l) l o).bind fun L => impl_LateBy.l0 k L 0 0 0) v
        exact Ev.bind (legs_ev s0 s1 W a l h7 o (by omega) hri) v2
    · rw [if_neg hre] at re se
      refine ⟨(0, 6), spec _ ?_, hiL _ ?_⟩
      · refine Ev.succ ?_
        simp only [spec_LateBy.j3]
        refine Ev.neg Bool.false_ne_true (Ev.pos trivial (Ev.bind re (Ev.succ ?_)))
        simp only [spec_LateBy.j4]
        exact Ev.neg (by decide) (Ev.now _)
      · rw [fz]
        refine Ev.pos rfl (Ev.bind se ?_)
        show Ev (fun k => some (0, 6)) (0, 6)
        exact Ev.now _
end Go.Proofs.Ytanobaoaelhebaa.Q
end
section
namespace Go.Proofs.Ytanobaoaelhebaa.Q
open Go.RowKit Go.Proofs.YtanobaoaelhebaaW.PrintWords Go.Proofs.YtanobaoaelhebaaW.PrintLast Go.Proofs.YtanobaoaelhebaaW.PrintMore Go.Proofs.Ytanobaoaelhebaa.La Go.Proofs.Ytanobaoaelhebaa.PB
set_option linter.unusedVariables false
set_option linter.unusedSimpArgs false
theorem ext_rd {n : Nat} {A B : LA n} (h : ∀ j : Nat, j < n → rd A.l (j : Int) = rd B.l (j : Int)) : A = B := by
  apply LA.ext_l
  apply List.ext_getElem (by rw [A.h, B.h])
  intro j h1 h2
  have hj : j < n := by rw [A.h] at h1; exact h1
  have := h j hj
  rw [rd_nat, rd_nat, List.getD_eq_getElem?_getD, List.getD_eq_getElem?_getD, List.getElem?_eq_getElem h1, List.getElem?_eq_getElem h2] at this
  exact this
theorem toU_ev (W : LA 10) : Ev (fun k => laws_toUint16A10.f k W) W := by
  unfold laws_toUint16A10.f
  have key : ∀ (m i : Nat) (X : LA 10), i + m = 10 → (∀ j : Nat, j < i → rd X.l (j : Int) = rd W.l (j : Int)) → Ev (fun k => laws_toUint16A10.l0 k (i : Int) W X) W := by
    intro m
    induction m with
    | zero =>
      intro i X hi hX
      obtain rfl : i = 10 := by omega
      refine Ev.succ ?_
      simp only [laws_toUint16A10.l0]
      rw [ext_rd hX]
      exact Ev.neg (by omega) (Ev.now _)
    | succ m ih =>
      intro i X hi hX
      refine Ev.succ ?_
      simp only [laws_toUint16A10.l0]
      rw [wnat i 10 (by omega) (by omega)]
      refine Ev.pos (by omega) (Ev.pos (by omega) (ih (i + 1) _ (by omega) (fun j hj => ?_)))
      by_cases e : j = i
      · subst e
        exact rd_set_same X _ _ (by omega) (by omega)
      · rw [rd_set_other X _ _ _ (by omega) (by omega) (by omega)]
        exact hX j (by omega)
  exact key 10 0 _ rfl (fun j hj => by omega)
theorem toRoom_ev (s0 s1 : Int) (W : LA 10) : Ev (fun k => laws_toRoom.f k s0 s1 W) (s0, s1, W) := by
  unfold laws_toRoom.f
  exact Ev.bind (toU_ev W) (Ev.now _)
theorem toSpot_c (x y : Int) : laws_toSpot.f x y = some (x, y) := rfl
end Go.Proofs.Ytanobaoaelhebaa.Q
end
section
namespace Go.Proofs.Ytanobaoaelhebaa.Q
open Go.RowKit Go.Proofs.YtanobaoaelhebaaW.PrintWords Go.Proofs.YtanobaoaelhebaaW.PrintLast Go.Proofs.YtanobaoaelhebaaW.PrintMore Go.Proofs.Ytanobaoaelhebaa.La Go.Proofs.Ytanobaoaelhebaa.PB
set_option linter.unusedVariables false
set_option linter.unusedSimpArgs false
def cSpot (x : S28) : S36 := ⟨x.f0, x.f1⟩
theorem toSpotS_ev (l : List S28) (h : l.length ≤ 1048576) : Ev (fun k => laws_toSpotS.f k l) (l.map cSpot) := by
  unfold laws_toSpotS.f
  refine Ev.pos (by omega) (Ev.pos (by omega) ?_)
  refine Ev.map_loop (fun k x3 i => laws_toSpotS.l0 k l x3 i) cSpot z28 l (by omega) ?_ ?_ (List.replicate ((l.length : Int)).toNat z36) (by simp)
  · intro i x3 r hi hl hr
    refine Ev.round hr fun k => ?_
    simp only [laws_toSpotS.l0, laws_toSpot.f, Option.bind_some]
    rw [if_pos (by omega), if_pos (by omega), if_pos (by omega), wnat i l.length hi (by omega)]
    simp [rd_T28, cSpot]
  · intro x3 hl
    refine Ev.round (Ev.now x3) fun k => ?_
    simp only [laws_toSpotS.l0]
    rw [if_neg (by omega)]
theorem szSpotS_small (l : List S28) (h : l.length ≤ 1048576) : laws_szSpotS.f l 1048576 = some (1048576 - (l.length : Int)) := by
  unfold laws_szSpotS.f
  rw [wint _ (by omega) (by omega), if_neg (by omega)]
theorem szSpotS_big (l : List S28) (h : 1048576 < l.length) (hm : l.length ≤ maxLen) : laws_szSpotS.f l 1048576 = some (-1) := by
  unfold maxLen at hm
  unfold laws_szSpotS.f
  rw [wint _ (by omega) (by omega), if_pos (by omega)]
end Go.Proofs.Ytanobaoaelhebaa.Q
end
section
namespace Go.Proofs.Ytanobaoaelhebaa.Q
open Go.RowKit Go.Proofs.YtanobaoaelhebaaW.PrintWords Go.Proofs.YtanobaoaelhebaaW.PrintLast Go.Proofs.YtanobaoaelhebaaW.PrintMore Go.Proofs.Ytanobaoaelhebaa.La Go.Proofs.Ytanobaoaelhebaa.Mp Go.Proofs.Ytanobaoaelhebaa.PB
set_option linter.unusedVariables false
set_option linter.unusedSimpArgs false
theorem eqSpot_self (a b : Int) : laws_eqSpot.f a b a b = some true := by unfold laws_eqSpot.f; rw [if_pos rfl, if_pos rfl]
theorem eqSpotS_ev (l : List S36) (h : l.length ≤ 1048576) : Ev (fun k => laws_eqSpotS.f k l l) true := by
  unfold laws_eqSpotS.f
  refine Ev.pos rfl ?_
  have key : ∀ (m i : Nat), i + m = l.length → Ev (fun k => laws_eqSpotS.l0 k l l (i : Int)) true := by
    intro m
    induction m with
    | zero =>
      intro i hi
      obtain rfl : i = l.length := by omega
      refine Ev.round (Ev.now _) fun k => ?_
      simp only [laws_eqSpotS.l0]
      rw [if_neg (by omega)]
    | succ m ih =>
      intro i hi
      refine Ev.round (ih (i + 1) (by omega)) fun k => ?_
      simp only [laws_eqSpotS.l0]
      rw [if_pos (by omega), if_pos (by omega), if_pos (by omega), eqSpot_self]
      simp only [Option.bind_some, if_true]
      rw [wnat i l.length (by omega) (by omega)]
  exact key l.length 0 (by omega)
theorem toInt64S_ev (l : List Int) (h : l.length ≤ 1048576) : Ev (fun k => laws_toInt64S.f k l) l := by
  unfold laws_toInt64S.f
  refine Ev.pos (by omega) (Ev.pos (by omega) ?_)
  have := Ev.map_loop (fun k x3 i => laws_toInt64S.l0 k l x3 i) (fun x => x) 0 l (by omega) ?_ ?_ (List.replicate ((l.length : Int)).toNat 0) (by simp)
  · simpa using this
  · intro i x3 r hi hl hr
    refine Ev.round hr fun k => ?_
    simp only [laws_toInt64S.l0]
    rw [if_pos (by omega), if_pos (by omega), if_pos (by omega), wnat i l.length hi (by omega)]
    simp [rd]
  · intro x3 hl
    refine Ev.round (Ev.now x3) fun k => ?_
    simp only [laws_toInt64S.l0]
    rw [if_neg (by omega)]
theorem eqInt64S_ev (l : List Int) (h : l.length ≤ 1048576) : Ev (fun k => laws_eqInt64S.f k l l) true := by
  unfold laws_eqInt64S.f
  refine Ev.pos rfl ?_
  refine Ev.all_loop (fun k i => laws_eqInt64S.l0 k l l i) l.length true (fun i hi hr => ?_) ?_
  · refine Ev.round hr fun k => ?_
    simp only [laws_eqInt64S.l0]
    rw [if_pos (by omega), if_pos (by omega), if_pos (by omega), if_pos trivial, wnat i l.length hi (by omega)]
  · refine Ev.round (Ev.now true) fun k => ?_
    simp only [laws_eqInt64S.l0]
    rw [if_neg (by omega)]
end Go.Proofs.Ytanobaoaelhebaa.Q
end
section
namespace Go.Proofs.Ytanobaoaelhebaa.Q
open Go.RowKit Go.Proofs.YtanobaoaelhebaaW.PrintWords Go.Proofs.YtanobaoaelhebaaW.PrintLast Go.Proofs.YtanobaoaelhebaaW.PrintMore Go.Proofs.Ytanobaoaelhebaa.La Go.Proofs.Ytanobaoaelhebaa.Mp Go.Proofs.Ytanobaoaelhebaa.PB
set_option linter.unusedVariables false
set_option linter.unusedSimpArgs false
theorem FnExactLateBy (s0 s1 : Int) (W : LA 10) (x y : Int) (l2 : List S28) (l3 : List Int) (hr : RB s0 s1 W) (hx : (Lit.int .i8 x).wf = true) (hy : (Lit.int .i8 y).wf = true) (hm2 : l2.length ≤ maxLen) (hw2 : ∀ x ∈ l2, (Lit.int .i8 x.f0).wf = true ∧ (Lit.int .i8 x.f1).wf = true) (hm3 : l3.length ≤ maxLen) (hw3 : ∀ x ∈ l3, (Lit.int .i64 x).wf = true) : Ev (fun k => laws_FnExactLateBy.f k s0 s1 W x y l2 l3) true := by
  unfold laws_FnExactLateBy.f
  by_cases h3 : (l3.length : Int) > 1048576
  · exact Ev.pos h3 (Ev.now _)
  refine Ev.neg h3 ?_
  have hl3 : l3.length ≤ 1048576 := by omega
  by_cases hl2 : l2.length ≤ 1048576
  rotate_left
  · exact Ev.bind (Ev.const (szSpotS_big l2 (by omega) hm2)) (Ev.pos (by decide) (Ev.now _))
  refine Ev.bind (Ev.const (szSpotS_small l2 hl2)) (Ev.neg (by omega) ?_)
  have hsb : ∀ q ∈ l2.map cSpot, SB q := fun q hq => by
    obtain ⟨x, hx, rfl⟩ := List.mem_map.1 hq
    exact ⟨wf_i8 (hw2 x hx).1, wf_i8 (hw2 x hx).2⟩
  have hlm : (l2.map cSpot).length ≤ 1048576 := by simpa using hl2
  obtain ⟨v, v1, v2⟩ := LateBy_both s0 s1 W hr ⟨x, y⟩ ⟨wf_i8 hx, wf_i8 hy⟩ (l2.map cSpot) (by omega) hsb l3 (by omega)
  have er := toRoom_ev s0 s1 W
  have es := toSpot_c x y
  have e2 := toSpotS_ev l2 hl2
  have e3 := toInt64S_ev l3 hl3
  have q2 := eqSpotS_ev (l2.map cSpot) hlm
  have q3 := eqInt64S_ev l3 hl3
  refine Ev.bind er (Ev.bind (Ev.const es) (Ev.bind e2 (Ev.bind e3 (Ev.bind v1 (Ev.bind e2 (Ev.bind e3 (Ev.bind er (Ev.bind (Ev.const es) (Ev.bind v2 (Ev.pos rfl ?_))))))))))
  refine Ev.succ ?_
  simp only [laws_FnExactLateBy.j0]
  rw [show (v.2 != v.2) = false by simp]
  exact Ev.neg Bool.false_ne_true (Ev.bind e2 (Ev.bind q2 (Ev.pos rfl (Ev.bind e3 (Ev.bind q3 (Ev.pos rfl (Ev.now _)))))))
end Go.Proofs.Ytanobaoaelhebaa.Q
end
section
namespace Go.Proofs.Ytanobaoaelhebaa.fnExactLateBy
open Go.ChangeShapes Go.WideShapes Go.ChangeAt Go.RowKit Go.Proofs.YtanobaoaelhebaaW.PrintWords Go.Proofs.YtanobaoaelhebaaW.PrintLast Go.Proofs.Ytanobaoaelhebaa.La Go.Proofs.Ytanobaoaelhebaa.Rw Go.Proofs.Ytanobaoaelhebaa.PB
open Go.ChangeMaps (open_string shut_string)
set_option linter.unusedVariables false
set_option maxRecDepth 100000 in
set_option maxHeartbeats 1000000 in
theorem lifted (os : Os) (started : os.Started) (H : Type) (enc : TypeId × Value → H) :
    ReturnsInHanded {} Try.checked os 5 .any (Rows.fnExactLateBySpec.pre6 enc Try.prog Try.f5 Rows.fnExactLateByRow.domain false) (Rows.fnExactLateBySpec.post enc Try.prog Try.f5 false true false false) := by
  refine returnsInHanded_of_change_sized (C := Try.checked) own started (by kernel_rfl) Try.func5
    (ChangeSpec.witness6 (enc := enc) (C := Try.checked) false ⟨#[], #[.agg #[.int .i8 0, .int .i8 0, .int .u16 0, .int .u16 0, .int .u16 0, .int .u16 0, .int .u16 0, .int .u16 0, .int .u16 0, .int .u16 0, .int .u16 0, .int .u16 0], .agg #[.int .i8 0, .int .i8 0], .slice none 0 0, .slice none 0 0], []⟩ 8 (by kernel_rfl) (by kernel_rfl) (by kernel_rfl) (by kernel_rfl)) ?_
  intro W base args ds gs before hval0 hW hcnd hsz0 _
  have hval : ∀ (j : Nat) t v, Try.f5.params[j]? = some t → args[j]? = some v → Value.okWide Try.prog W .any base t v := hval0
  have hW' := hW
  obtain ⟨p, q, hA0, hV, rfl, hfz, hnd⟩ := hW
  have hA : DataW.TrodAll enc Try.prog W 0 (fun _ => true) true Try.f5.params.toList args.toList ds p := hA0
  rw [Try.params5] at hA hval
  obtain ⟨v0, vs0, d0, ds0, p0, q0, hargs, rfl, rfl, h0, r0⟩ := trodAll_cons hA
  obtain ⟨v1, vs1, d1, ds1, p1, q1, rfl, rfl, rfl, h1, r1⟩ := trodAll_cons r0
  obtain ⟨v2, vs2, d2, ds2, p2, q2, rfl, rfl, rfl, h2, r2⟩ := trodAll_cons r1
  obtain ⟨v3, vs3, d3, ds3, p3, q3, rfl, rfl, rfl, h3, r3⟩ := trodAll_cons r2
  obtain ⟨rfl, rfl, rfl⟩ := trodAll_nil r3
  obtain rfl : args = #[v0, v1, v2, v3] := by cases args; simp_all
  obtain ⟨rfl, rfl⟩ := trodVars_none hV
  have k0 := h0
  have lt0 : ∀ x ∈ p0, x.block < W.heap.size := by obtain ⟨m, hm⟩ := k0; exact DataW.trod_lt m _ _ _ hm
  obtain ⟨a0_0, a0_1, a0_2, rfl, w0_0, w0_1, w0_2⟩ := openV26 (hval 0 26 v0 rfl rfl) h0
  have k1 := h1
  have lt1 : ∀ x ∈ p1, x.block < W.heap.size := by obtain ⟨m, hm⟩ := k1; exact DataW.trod_lt m _ _ _ hm
  obtain ⟨a1_0, a1_1, rfl, w1_0, w1_1⟩ := openV28 (hval 1 28 v1 rfl rfl) h1
  have k2 := h2
  have lt2 : ∀ x ∈ p2, x.block < W.heap.size := by obtain ⟨m, hm⟩ := k2; exact DataW.trod_lt m _ _ _ hm
  obtain ⟨a2, len2, cap2, rfl⟩ := okWide_slice Try.underlying29 (hval 2 29 v2 rfl rfl)
  obtain ⟨l2, rfl, hc2, hm2, hr2, hw2⟩ := openS28 h2
  have k3 := h3
  have lt3 : ∀ x ∈ p3, x.block < W.heap.size := by obtain ⟨m, hm⟩ := k3; exact DataW.trod_lt m _ _ _ hm
  obtain ⟨a3, len3, cap3, rfl⟩ := okWide_slice Try.underlying31 (hval 3 31 v3 rfl rfl)
  obtain ⟨l3, rfl, hr3, hm3, hw3, hc3⟩ := openI31 h3
  clear hA0 hval0 hsz0
  obtain ⟨k, hk⟩ := Ev.rounds (Q.FnExactLateBy a0_0 a0_1 a0_2 a1_0 a1_1 l2 l3 (Q.rb_mk w0_0 w0_1 w0_2) w1_0 w1_1 hm2 hw2 hm3 hw3)
  refine (laws_FnExactLateBy.calls k a0_0 a0_1 a0_2 a1_0 a1_1 _ _ l2 _ _ l3 true W hr2 hc2 hr3 hc3 hk).mono fun e W' ⟨he, bel0⟩ => ?_
  subst he
  have bel : Below W.heap.size W W' := by first | exact bel0 | exact bel0.below
  exact ⟨_, rfl, _, _, _, [], _, [], hW', trodAll_mk1 (shut_bool Try.underlying4 _), (trodAll_cons_mk (Below.trod laidOut (by kernel_rfl) (of_decide_eq_true (by kernel_rfl)) k0 bel lt0) (trodAll_cons_mk (Below.trod laidOut (by kernel_rfl) (of_decide_eq_true (by kernel_rfl)) k1 bel lt1) (trodAll_cons_mk (Below.trod laidOut (by kernel_rfl) (of_decide_eq_true (by kernel_rfl)) k2 bel lt2) (trodAll_cons_mk (Below.trod laidOut (by kernel_rfl) (of_decide_eq_true (by kernel_rfl)) k3 bel lt3) trodAll_mk0)))), rfl, bel.frame _, fun h => by cases h⟩
theorem over : Rows.fnExactLateByRow.holds Try.pinned (OpenSpec.ofChange Rows.fnExactLateBySpec) :=
  OpenClaim.holds_of_wide 5 Try.f5 rfl rfl rfl rfl rfl rfl rfl ⟨rfl, rfl, rfl, rfl, rfl⟩ rfl rfl rfl rfl rfl (by kernel_rfl) Try.func5 (by kernel_rfl)
    (of_decide_eq_true (by kernel_rfl)) (by unfold Func.isWrapper; first | (rw [if_pos (by decide +kernel)]; kernel_rfl) | (rw [if_neg (by decide +kernel)]; exact ⟨rfl, rfl⟩))
    (fun os started H enc _ => lifted os started H enc)
end Go.Proofs.Ytanobaoaelhebaa.fnExactLateBy
namespace Go.Proofs.Ytanobaoaelhebaa
theorem fnExactLateBy_holds : Rows.FnExactLateBySaid := fnExactLateBy.over
end Go.Proofs.Ytanobaoaelhebaa
end
