/- The statement FnExactWhereNow of this program: what its proof uses, part 12 of 13. The call returns true for all arguments. No condition of its own. -/
import Derived.IntWalk
import Derived.Test.YtdedijjbdkoekaaDoorZFnExactWhereNow10
section
namespace Go.Proofs.YtdedijjbdkoekaaDoor.Q
open Go.RowKit Go.Proofs.YtdedijjbdkoekaaDoorW.PrintWords Go.Proofs.YtdedijjbdkoekaaDoorW.PrintLast
set_option linter.unusedVariables false
set_option linter.unusedSimpArgs false
theorem wnat (i n : Nat) (h : i < n) (hn : n ≤ 9223372036854775807) : wrap64 ((i : Int) + 1) = ((i + 1 : Nat) : Int) := by unfold wrap64; omega
theorem wint (a : Int) (h0 : -9223372036854775808 ≤ a) (h1 : a ≤ 9223372036854775807) : wrap64 a = a := by unfold wrap64; omega
theorem rd_nat (xs : List Int) (i : Nat) : rd xs (i : Int) = xs.getD i 0 := by simp [rd]
theorem Ev.round {α : Type} {g f : Nat → Option α} {r : α} (k : Ev f r) (h : ∀ k, g (k + 1) = f k) : Ev g r := Ev.step h k
theorem Ev.eq {α : Type} {g : Nat → Option α} {r r' : α} (h : Ev g r) (e : r = r') : Ev g r' := e ▸ h
theorem Ev.ite {α : Type} {c : Prop} [Decidable c] {f g : Nat → Option α} {r : α} (h : c → Ev f r) (h' : ¬ c → Ev g r) : Ev (fun k => if c then f k else g k) r := by
  by_cases hc : c
  · simp only [hc, if_true]; exact h hc
  · simp only [hc, if_false]; exact h' hc
theorem Ev.pos {α : Type} {c : Prop} [Decidable c] {f g : Nat → Option α} {r : α} (hc : c) (h : Ev f r) : Ev (fun k => if c then f k else g k) r := by simp only [hc, if_true]; exact h
theorem Ev.neg {α : Type} {c : Prop} [Decidable c] {f g : Nat → Option α} {r : α} (hc : ¬ c) (h : Ev g r) : Ev (fun k => if c then f k else g k) r := by simp only [hc, if_false]; exact h
end Go.Proofs.YtdedijjbdkoekaaDoor.Q
end
section
namespace Go.Proofs.YtdedijjbdkoekaaDoor.Q
open Go.RowKit Go.Proofs.YtdedijjbdkoekaaDoorW.PrintWords Go.Proofs.YtdedijjbdkoekaaDoorW.PrintLast Go.Proofs.YtdedijjbdkoekaaDoor.PB
set_option linter.unusedVariables false
set_option linter.unusedSimpArgs false
def inC (a lo hi : Int) : Bool := decide (lo ≤ a) && decide (a ≤ hi)
theorem In_c (a lo hi : Int) : spec_l00In.f a lo hi = some (inC a lo hi) := by
  unfold spec_l00In.f inC
  split
  · rename_i h; simp [h]
  · rename_i h; simp [h]
theorem Ev.const {α : Type} {x : Option α} {a : α} (h : x = some a) : Ev (fun _ => x) a := by subst h; exact Ev.now a
theorem Ev.succ {α : Type} {g : Nat → Option α} {r : α} (h : Ev (fun k => g (k + 1)) r) : Ev g r := Ev.step (fun _ => rfl) h
theorem getD_mem {α : Type} (l : List α) (i : Nat) (d : α) (h : i < l.length) : l.getD i d ∈ l := by
  simp [List.getD_eq_getElem?_getD, List.getElem?_eq_getElem h]
theorem drop_get {α : Type} (xs : List α) (i : Nat) (d : α) (h : i < xs.length) : xs.drop i = xs.getD i d :: xs.drop (i + 1) := by
  rw [List.drop_eq_getElem_cons h]
  simp [List.getD_eq_getElem?_getD, List.getElem?_eq_getElem h]
end Go.Proofs.YtdedijjbdkoekaaDoor.Q
end
section
namespace Go.Proofs.YtdedijjbdkoekaaDoor.Q
open Go.RowKit Go.Proofs.YtdedijjbdkoekaaDoorW.PrintWords Go.Proofs.YtdedijjbdkoekaaDoorW.PrintLast Go.Proofs.YtdedijjbdkoekaaDoorW.PrintMore Go.Proofs.YtdedijjbdkoekaaDoor.PB
set_option linter.unusedVariables false
set_option linter.unusedSimpArgs false
def sumN (f : Nat → Int) : Nat → Int
  | 0 => 0
  | n + 1 => sumN f n + f n
theorem sumN_congr {f g : Nat → Int} : ∀ n, (∀ i, i < n → f i = g i) → sumN f n = sumN g n
  | 0, _ => rfl
  | n + 1, h => by rw [sumN, sumN, sumN_congr n (fun i hi => h i (by omega)), h n (by omega)]
theorem sumN_add (f g : Nat → Int) : ∀ n, sumN (fun i => f i + g i) n = sumN f n + sumN g n
  | 0 => rfl
  | n + 1 => by rw [sumN, sumN, sumN, sumN_add f g n]; omega
theorem sumN_zero : ∀ n, sumN (fun _ => 0) n = 0
  | 0 => rfl
  | n + 1 => by rw [sumN, sumN_zero n]; rfl
theorem sumN_comm (f : Nat → Nat → Int) (m : Nat) : ∀ n, sumN (fun i => sumN (fun j => f i j) m) n = sumN (fun j => sumN (fun i => f i j) n) m
  | 0 => (sumN_zero m).symm
  | n + 1 => by rw [sumN, sumN_comm f m n, ← sumN_add]; exact sumN_congr m fun j _ => rfl
theorem sumN_split (f : Nat → Int) (a : Nat) : ∀ b, sumN f (a + b) = sumN f a + sumN (fun j => f (a + j)) b
  | 0 => by simp [sumN]
  | b + 1 => by rw [← Nat.add_assoc, sumN, sumN_split f a b, sumN]; omega
theorem sumN_mul (f : Nat → Int) (m : Nat) : ∀ n, sumN f (m * n) = sumN (fun y => sumN (fun x => f (m * y + x)) m) n
  | 0 => rfl
  | n + 1 => by rw [Nat.mul_succ, sumN_split, sumN_mul f m n, sumN]
theorem sumN_bd {f : Nat → Int} (hf : ∀ d, 0 ≤ f d ∧ f d ≤ 16) : ∀ n, 0 ≤ sumN f n ∧ sumN f n ≤ 16 * n
  | 0 => by simp [sumN]
  | n + 1 => by have := sumN_bd hf n; have := hf n; rw [sumN]; omega
theorem Ev.sum2 (N M : Nat) (hNM : N * M ≤ 1000) (f : Nat → Nat → Int) (hf : ∀ x d, 0 ≤ f x d ∧ f x d ≤ 16) (S0 : Nat → Int → Int → Option Int) (S1 : Nat → Int → Int → Int → Option Int)
    (e0 : ∀ (x : Nat) s r, x < N → Ev (fun k => S1 k s x 0) r → Ev (fun k => S0 k s x) r) (e0' : ∀ s, Ev (fun k => S0 k s (N : Int)) s)
    (e1 : ∀ (x d : Nat) s r, x < N → d < M → 0 ≤ s → s ≤ 100000 → Ev (fun k => S1 k (s + f x d) x ((d + 1 : Nat) : Int)) r → Ev (fun k => S1 k s x (d : Int)) r)
    (e1' : ∀ (x : Nat) s r, x < N → Ev (fun k => S0 k s ((x + 1 : Nat) : Int)) r → Ev (fun k => S1 k s x (M : Int)) r) :
    Ev (fun k => S0 k 0 0) (sumN (fun x => sumN (f x) M) N) := by
  have inner : ∀ (n d x : Nat) (s r : Int), d + n = M → x < N → 0 ≤ s → s + 16 * (n : Int) ≤ 16000 → Ev (fun k => S0 k (s + (sumN (f x) M - sumN (f x) d)) ((x + 1 : Nat) : Int)) r → Ev (fun k => S1 k s x (d : Int)) r := by
    intro n
    induction n with
    | zero =>
      intro d x s r hd hx hs hb h
      obtain rfl : d = M := by omega
      refine e1' x s r hx ?_
      simpa using h
    | succ n ih =>
      intro d x s r hd hx hs hb h
      have hfd := hf x d
      refine e1 x d s r hx (by omega) hs (by omega) (ih (d + 1) x _ r (by omega) hx (by omega) (by omega) ?_)
      rw [show s + f x d + (sumN (f x) M - sumN (f x) (d + 1)) = s + (sumN (f x) M - sumN (f x) d) by rw [sumN]; omega]
      exact h
  have hM : ∀ x, 0 ≤ sumN (f x) M ∧ sumN (f x) M ≤ 16 * M := fun x => sumN_bd (hf x) M
  have outer : ∀ (n x : Nat) (s : Int), x + n = N → 0 ≤ s → s ≤ 16 * (M : Int) * x → Ev (fun k => S0 k s (x : Int)) (s + (sumN (fun x => sumN (f x) M) N - sumN (fun x => sumN (f x) M) x)) := by
    intro n
    induction n with
    | zero =>
      intro x s hx _ _
      obtain rfl : x = N := by omega
      rw [Int.sub_self, Int.add_zero]
      exact e0' s
    | succ n ih =>
      intro x s hx hs hb
      have hx' : x < N := by omega
      have hle : (M : Int) * x + M ≤ 1000 := by
        have h1 : (x + 1) * M ≤ N * M := Nat.mul_le_mul_right M (by omega)
        have h2 : (x + 1) * M ≤ 1000 := Nat.le_trans h1 hNM
        have h3 : (((x + 1) * M : Nat) : Int) ≤ ((1000 : Nat) : Int) := Int.ofNat_le.2 h2
        rw [Int.natCast_mul, Int.natCast_add, Int.add_mul] at h3
        have : (x : Int) * M = M * x := Int.mul_comm _ _
        omega
      have hb' : s ≤ 16 * ((M : Int) * x) := by rw [← Int.mul_assoc]; exact hb
      have hMx := hM x
      refine e0 x s _ hx' (inner M 0 x s _ (by omega) hx' hs (by omega) ?_)
      rw [show sumN (f x) 0 = 0 from rfl, Int.sub_zero]
      have h := ih (x + 1) (s + sumN (f x) M) (by omega) (by omega) (by
        rw [Int.natCast_add, Int.mul_add, Int.mul_assoc]
        omega)
      rw [show s + sumN (f x) M + (sumN (fun x => sumN (f x) M) N - sumN (fun x => sumN (f x) M) (x + 1)) = s + (sumN (fun x => sumN (f x) M) N - sumN (fun x => sumN (f x) M) x) by rw [sumN]; omega] at h
      exact h
  have h := outer N 0 0 (by omega) (by omega) (by simp)
  rw [show sumN (fun x => sumN (f x) M) 0 = 0 from rfl, Int.sub_zero, Int.zero_add] at h
  exact h
set_option maxRecDepth 100000 in
theorem wrap_u16 (n : Int) : IntKind.u16.wrap n = n % 65536 := by simp [IntKind.wrap, IntKind.bits, IntKind.signed]
theorem wraps_u16 (n : Int) (h₀ : 0 ≤ n) (h₁ : n < 2 ^ 16) : IntKind.u16.wrap n = n := by rw [wrap_u16]; omega
theorem u16_and1023 {x : Int} (h₀ : 0 ≤ x) (h₁ : x < 65536) : Go.bits .and .u16 x 1023 = x % 1024 := bits_mask .u16 16 (by decide) wraps_u16 10 (by decide) x h₀ h₁
theorem u16_and1 {x : Int} (h₀ : 0 ≤ x) (h₁ : x < 65536) : Go.bits .and .u16 x 1 = x % 2 := bits_mask .u16 16 (by decide) wraps_u16 1 (by decide) x h₀ h₁
def bitV (v : Int) (x : Nat) : Int := v / 2 ^ x % 2
theorem bitV_01 (v : Int) (x : Nat) : 0 ≤ bitV v x ∧ bitV v x ≤ 1 := by unfold bitV; omega
theorem pow_facts : (2 : Int) ^ 0 = 1 ∧ (2 : Int) ^ 1 = 2 ∧ (2 : Int) ^ 2 = 4 ∧ (2 : Int) ^ 3 = 8 ∧ (2 : Int) ^ 4 = 16 ∧ (2 : Int) ^ 5 = 32 ∧ (2 : Int) ^ 6 = 64 ∧ (2 : Int) ^ 7 = 128 ∧ (2 : Int) ^ 8 = 256 ∧ (2 : Int) ^ 9 = 512 := by decide
theorem bitV_mod {v : Int} (h₀ : 0 ≤ v) {x : Nat} (hx : x < 10) : bitV (v % 1024) x = bitV v x := by
  unfold bitV
  obtain ⟨p0, p1, p2, p3, p4, p5, p6, p7, p8, p9⟩ := pow_facts
  rcases (show x = 0 ∨ x = 1 ∨ x = 2 ∨ x = 3 ∨ x = 4 ∨ x = 5 ∨ x = 6 ∨ x = 7 ∨ x = 8 ∨ x = 9 by omega) with rfl | rfl | rfl | rfl | rfl | rfl | rfl | rfl | rfl | rfl
  all_goals first | rw [p0] | rw [p1] | rw [p2] | rw [p3] | rw [p4] | rw [p5] | rw [p6] | rw [p7] | rw [p8] | rw [p9]
  all_goals omega
theorem shr_bit {v : Int} (h₀ : 0 ≤ v) (h₁ : v < 65536) {x : Nat} (hx : x < 10) : Go.bits .and .u16 (shr .u16 v (x : Int)) 1 = bitV v x := by
  have hs : shr .u16 v (x : Int) = v / 2 ^ x := by
    unfold shr
    rw [Int.toNat_natCast, Nat.min_eq_left (show x ≤ IntKind.u16.bits by unfold IntKind.bits; dsimp only; omega)]
  have hp : (0 : Int) < 2 ^ x := Int.pow_pos (by omega)
  have h2 : v / 2 ^ x ≤ v := Int.ediv_le_self _ h₀
  rw [hs, u16_and1 (Int.ediv_nonneg h₀ (by omega)) (by omega)]
  rfl
theorem i8_small (x : Nat) (h : x < 128) : IntKind.i8.wrap (x : Int) = x := by simp [IntKind.wrap, IntKind.bits, IntKind.signed]; omega
theorem u64_small (x : Nat) (h : x < 128) : IntKind.u64.wrap (x : Int) = x := by simp [IntKind.wrap, IntKind.bits, IntKind.signed]; omega
theorem wf_u16 {n : Int} (h : (Lit.int .u16 n).wf = true) : 0 ≤ n ∧ n < 65536 := by
  simp [Lit.wf, IntKind.min, IntKind.max, IntKind.signed, IntKind.bits] at h
  omega
theorem wf_i8 {n : Int} (h : (Lit.int .i8 n).wf = true) : -128 ≤ n ∧ n ≤ 127 := by
  simp [Lit.wf, IntKind.min, IntKind.max, IntKind.signed, IntKind.bits] at h
  omega
theorem rd_bound (l : List Int) (h : ∀ x ∈ l, 0 ≤ x ∧ x < 65536) (i : Int) : 0 ≤ rd l i ∧ rd l i < 65536 := by
  unfold rd
  by_cases hi : i.toNat < l.length
  · exact h _ (getD_mem l _ 0 hi)
  · rw [List.getD_eq_getElem?_getD, List.getElem?_eq_none (by omega)]
    show (0:Int) ≤ 0 ∧ (0:Int) < 65536
    omega
end Go.Proofs.YtdedijjbdkoekaaDoor.Q
end
section
namespace Go.Proofs.YtdedijjbdkoekaaDoor.Q
open Go.RowKit Go.Proofs.YtdedijjbdkoekaaDoorW.PrintWords Go.Proofs.YtdedijjbdkoekaaDoorW.PrintLast Go.Proofs.YtdedijjbdkoekaaDoorW.PrintMore Go.Proofs.YtdedijjbdkoekaaDoor.La Go.Proofs.YtdedijjbdkoekaaDoor.PB
set_option linter.unusedVariables false
set_option linter.unusedSimpArgs false
theorem Within_c (a lo hi : Int) : impl_within.f a lo hi = some (inC a lo hi) := by
  unfold impl_within.f inC
  split
  · rename_i h; simp [h]
  · rename_i h; simp [h]
theorem u64_int {a : Int} (h0 : 0 ≤ a) (h1 : a < 128) : IntKind.u64.wrap a = a := by
  obtain ⟨n, rfl⟩ : ∃ n : Nat, a = n := ⟨a.toNat, by omega⟩
  exact u64_small n (by omega)
theorem mn_small {a : Int} (h : a ≤ 10) : mn a 10 = a := by unfold mn; split <;> omega
theorem Ok_loop (s0 s1 : Int) (W : LA 10) (h0 : 1 ≤ s0 ∧ s0 ≤ 10) : ∀ n x : Nat, x + n = 10 → ∃ b, Ev (fun k => spec_l01Ok.l0 k (x : Int) s0 s1 W) b ∧ Ev (fun k => impl_ValidRoom.l0 k W (x : Int) s0 s1 W) b := by
  have hu : IntKind.u64.wrap s0 = s0 := u64_int (by omega) (by omega)
  intro n
  induction n with
  | zero =>
    intro x hx
    obtain rfl : x = 10 := by omega
    refine ⟨true, Ev.succ ?_, Ev.succ ?_⟩
    · simp only [spec_l01Ok.l0]
      exact Ev.neg (by omega) (Ev.now true)
    · simp only [impl_ValidRoom.l0]
      exact Ev.neg (by omega) (Ev.now true)
  | succ n ih =>
    intro x hx
    obtain ⟨b, hb1, hb2⟩ := ih (x + 1) (by omega)
    by_cases p1 : shr .u16 (rd W.l (x : Int)) s0 = 0
    · by_cases p2 : (x : Int) ≥ wrap64 s1
      · by_cases p3 : rd W.l (x : Int) = 0
        · refine ⟨b, Ev.succ ?_, Ev.succ ?_⟩
          · simp only [spec_l01Ok.l0]
            rw [hu, wnat x 10 (by omega) (by omega)]
            exact Ev.pos (by omega) (Ev.pos (by omega) (Ev.pos (by omega) (Ev.pos p1 (Ev.pos p2 (Ev.pos p3 hb1)))))
          · simp only [impl_ValidRoom.l0]
            rw [wnat x 10 (by omega) (by omega)]
            exact Ev.pos (by omega) (Ev.pos (by omega) (Ev.pos (by omega) (Ev.pos p1 (Ev.pos p2 (Ev.pos p3 hb2)))))
        · refine ⟨false, Ev.succ ?_, Ev.succ ?_⟩
          · simp only [spec_l01Ok.l0]
            rw [hu]
            exact Ev.pos (by omega) (Ev.pos (by omega) (Ev.pos (by omega) (Ev.pos p1 (Ev.pos p2 (Ev.neg p3 (Ev.now false))))))
          · simp only [impl_ValidRoom.l0]
            exact Ev.pos (by omega) (Ev.pos (by omega) (Ev.pos (by omega) (Ev.pos p1 (Ev.pos p2 (Ev.neg p3 (Ev.now false))))))
      · refine ⟨b, Ev.succ ?_, Ev.succ ?_⟩
        · simp only [spec_l01Ok.l0]
          rw [hu, wnat x 10 (by omega) (by omega)]
          exact Ev.pos (by omega) (Ev.pos (by omega) (Ev.pos (by omega) (Ev.pos p1 (Ev.neg p2 hb1))))
        · simp only [impl_ValidRoom.l0]
          rw [wnat x 10 (by omega) (by omega)]
          exact Ev.pos (by omega) (Ev.pos (by omega) (Ev.pos (by omega) (Ev.pos p1 (Ev.neg p2 hb2))))
    · refine ⟨false, Ev.succ ?_, Ev.succ ?_⟩
      · simp only [spec_l01Ok.l0]
        rw [hu]
        exact Ev.pos (by omega) (Ev.pos (by omega) (Ev.pos (by omega) (Ev.neg p1 (Ev.now false))))
      · simp only [impl_ValidRoom.l0]
        exact Ev.pos (by omega) (Ev.pos (by omega) (Ev.pos (by omega) (Ev.neg p1 (Ev.now false))))
theorem Ok_both (s0 s1 : Int) (W : LA 10) (b0 : -128 ≤ s0 ∧ s0 ≤ 127) (b1 : -128 ≤ s1 ∧ s1 ≤ 127) :
    ∃ b, Ev (fun k => spec_l01Ok.f k s0 s1 W) b ∧ Ev (fun k => impl_ValidRoom.f k s0 s1 W) b ∧ (b = true → (1 ≤ s0 ∧ s0 ≤ 10) ∧ (1 ≤ s1 ∧ s1 ≤ 10)) := by
  have e0 := wint s0 (by omega) (by omega)
  have e1 := wint s1 (by omega) (by omega)
  have spec0 : ∀ b1 : Bool, Ev (fun k => spec_l01Ok.j0 k true s0 s1 W) false := fun _ => Ev.succ (by simp only [spec_l01Ok.j0]; exact Ev.pos trivial (Ev.now false))
  have impl0 : ∀ b1 : Bool, Ev (fun k => impl_ValidRoom.j0 k true s0 s1 W) false := fun _ => Ev.succ (by simp only [impl_ValidRoom.j0]; exact Ev.pos trivial (Ev.now false))
  by_cases h0 : inC s0 1 10 = true
  · by_cases h1 : inC s1 1 10 = true
    · have h0' : 1 ≤ s0 ∧ s0 ≤ 10 := by unfold inC at h0; simpa using h0
      have h1' : 1 ≤ s1 ∧ s1 ≤ 10 := by unfold inC at h1; simpa using h1
      obtain ⟨b, hb1, hb2⟩ := Ok_loop s0 s1 W h0' 10 0 rfl
      refine ⟨b, ?_, ?_, fun _ => ⟨h0', h1'⟩⟩
      · unfold spec_l01Ok.f
        rw [e0, e1, In_c, In_c, h0, h1]
        simp only [Option.bind_some, if_true, Bool.not_true]
        refine Ev.succ ?_
        simp only [spec_l01Ok.j0]
        exact Ev.neg (by simp) hb1
      · unfold impl_ValidRoom.f
        rw [e0, e1, Within_c, Within_c, h0, h1]
        simp only [Option.bind_some, if_true, Bool.not_true]
        refine Ev.succ ?_
        simp only [impl_ValidRoom.j0]
        exact Ev.neg (by simp) hb2
    · have h1' : inC s1 1 10 = false := by simpa using h1
      refine ⟨false, ?_, ?_, fun h => by cases h⟩
      · unfold spec_l01Ok.f
        rw [e0, e1, In_c, In_c, h0, h1']
        simp only [Option.bind_some, if_true, Bool.not_false]
        exact spec0 true
      · unfold impl_ValidRoom.f
        rw [e0, e1, Within_c, Within_c, h0, h1']
        simp only [Option.bind_some, if_true, Bool.not_false]
        exact impl0 true
  · have h0' : inC s0 1 10 = false := by simpa using h0
    refine ⟨false, ?_, ?_, fun h => by cases h⟩
    · unfold spec_l01Ok.f
      rw [e0, In_c, h0']
      simp only [Option.bind_some, Bool.false_eq_true, if_false]
      exact spec0 true
    · unfold impl_ValidRoom.f
      rw [e0, Within_c, h0']
      simp only [Option.bind_some, Bool.false_eq_true, if_false]
      exact impl0 true
def fr (W : List Int) (x y : Int) : Bool := bitV (rd W y) x.toNat == 0
theorem shr_div {v : Int} {x : Nat} (hx : x < 10) : shr .u16 v (x : Int) = v / 2 ^ x := by
  unfold shr
  rw [Int.toNat_natCast, Nat.min_eq_left (show x ≤ IntKind.u16.bits by unfold IntKind.bits; dsimp only; omega)]
theorem Free_s (s0 s1 : Int) (W : LA 10) (hb : ∀ i, 0 ≤ rd W.l i ∧ rd W.l i < 65536) (h0 : s0 ≤ 10) (h1 : s1 ≤ 10) (x y : Nat) (hx : (x : Int) < s0) (hy : (y : Int) < s1) :
    spec_l01Free.f s0 s1 W (x : Int) (y : Int) = some (fr W.l (x : Int) (y : Int)) := by
  unfold spec_l01Free.f spec_l01Is.f
  rw [wint s0 (by omega) (by omega), wint s1 (by omega) (by omega), wint (x : Int) (by omega) (by omega), wint (y : Int) (by omega) (by omega), wint (s0 - 1) (by omega) (by omega), wint (s1 - 1) (by omega) (by omega), In_c, In_c]
  rw [show inC (x : Int) 0 (s0 - 1) = true by unfold inC; simp; omega, show inC (y : Int) 0 (s1 - 1) = true by unfold inC; simp; omega]
  simp only [Option.bind_some, if_true]
  rw [if_pos (by omega), if_pos (by omega), u64_int (by omega) (by omega), if_pos (by omega), shr_div (by omega)]
  have hn : 0 ≤ rd W.l (y : Int) / 2 ^ x := Int.ediv_nonneg (hb _).1 (Int.le_of_lt (Int.pow_pos (by omega)))
  rw [Int.tmod_eq_emod_of_nonneg hn]
  unfold fr bitV
  rw [Int.toNat_natCast]
theorem Free_i (s0 s1 : Int) (W : LA 10) (hb : ∀ i, 0 ≤ rd W.l i ∧ rd W.l i < 65536) (h0 : s0 ≤ 10) (h1 : s1 ≤ 10) (x y : Nat) (hx : (x : Int) < s0) (hy : (y : Int) < s1) :
    impl_Room_isFree.f s0 s1 W (x : Int) (y : Int) = some (fr W.l (x : Int) (y : Int)) := by
  unfold impl_Room_isFree.f impl_Room_isCell.f
  rw [wint s0 (by omega) (by omega), wint s1 (by omega) (by omega), wint (x : Int) (by omega) (by omega), wint (y : Int) (by omega) (by omega), mn_small h0, mn_small h1, wint (s0 - 1) (by omega) (by omega), wint (s1 - 1) (by omega) (by omega), Within_c, Within_c]
  rw [show inC (x : Int) 0 (s0 - 1) = true by unfold inC; simp; omega, show inC (y : Int) 0 (s1 - 1) = true by unfold inC; simp; omega]
  simp only [Option.bind_some, if_true]
  rw [if_pos (by omega), if_pos (by omega), if_pos (by omega), shr_bit (hb _).1 (hb _).2 (by omega)]
  unfold fr
  rw [Int.toNat_natCast]
def rowL (p : Int → Int → Bool) (y : Int) (acc : List S41) : Nat → List S41
  | 0 => acc
  | x + 1 => if p (x : Int) y then rowL p y acc x ++ [⟨(x : Int), y⟩] else rowL p y acc x
def cellsL (p : Int → Int → Bool) (w : Nat) : Nat → List S41
  | 0 => []
  | y + 1 => rowL p (y : Int) (cellsL p w y) w
theorem rowL_len (p : Int → Int → Bool) (y : Int) (acc : List S41) : ∀ x, (rowL p y acc x).length ≤ acc.length + x
  | 0 => by simp [rowL]
  | x + 1 => by have := rowL_len p y acc x; rw [rowL]; split <;> simp <;> omega
theorem cellsL_len (p : Int → Int → Bool) (w : Nat) : ∀ y, (cellsL p w y).length ≤ w * y
  | 0 => by simp [cellsL]
  | y + 1 => by
    have h1 := cellsL_len p w y
    have h2 := rowL_len p (y : Int) (cellsL p w y) w
    rw [cellsL, Nat.mul_succ]
    omega
theorem rowL_mem (p : Int → Int → Bool) (w : Nat) (y : Int) (acc : List S41) (P : S41 → Prop) (ha : ∀ q ∈ acc, P q) (hp : ∀ x : Nat, x < w → P ⟨(x : Int), y⟩) : ∀ x, x ≤ w → ∀ q ∈ rowL p y acc x, P q
  | 0, _ => ha
  | x + 1, hx => by
    have ih := rowL_mem p w y acc P ha hp x (by omega)
    rw [rowL]
    split
    · intro q hq
      rcases List.mem_append.1 hq with h | h
      · exact ih q h
      · obtain rfl := List.mem_singleton.1 h
        exact hp x (by omega)
    · exact ih
theorem cellsL_mem (p : Int → Int → Bool) (w h : Nat) : ∀ y, y ≤ h → ∀ q ∈ cellsL p w y, (0 ≤ q.f0 ∧ q.f0 < w) ∧ (0 ≤ q.f1 ∧ q.f1 < h)
  | 0, _ => fun q hq => by simp [cellsL] at hq
  | y + 1, hy => rowL_mem p w (y : Int) _ _ (cellsL_mem p w h y (by omega)) (fun x hx => ⟨⟨by simp, by dsimp only; omega⟩, ⟨by simp, by dsimp only; omega⟩⟩) w (Nat.le_refl _)
theorem Ev.cells (p : Int → Int → Bool) (w h : Nat) (hw : w ≤ 10) (hh : h ≤ 10) (L0 : Nat → List S41 → Int → Option (List S41)) (L1 : Nat → List S41 → Int → Int → Option (List S41))
    (e0 : ∀ acc (y : Nat) r, y < h → Ev (fun k => L1 k acc (y : Int) 0) r → Ev (fun k => L0 k acc (y : Int)) r) (e0' : ∀ acc, Ev (fun k => L0 k acc (h : Int)) acc)
    (e1 : ∀ acc (y x : Nat) r, y < h → x < w → acc.length ≤ 1000 → Ev (fun k => L1 k (if p (x : Int) (y : Int) then acc ++ [⟨(x : Int), (y : Int)⟩] else acc) (y : Int) ((x + 1 : Nat) : Int)) r → Ev (fun k => L1 k acc (y : Int) (x : Int)) r)
    (e1' : ∀ acc (y : Nat) r, y < h → Ev (fun k => L0 k acc ((y + 1 : Nat) : Int)) r → Ev (fun k => L1 k acc (y : Int) (w : Int)) r) :
    Ev (fun k => L0 k [] 0) (cellsL p w h) := by
  have inner : ∀ (n x y : Nat) (acc : List S41) r, x + n = w → y < h → acc.length ≤ 900 → Ev (fun k => L0 k (rowL p (y : Int) acc w) ((y + 1 : Nat) : Int)) r → Ev (fun k => L1 k (rowL p (y : Int) acc x) (y : Int) (x : Int)) r := by
    intro n
    induction n with
    | zero =>
      intro x y acc r hx hy hl hr
      obtain rfl : x = w := by omega
      exact e1' _ y r hy hr
    | succ n ih =>
      intro x y acc r hx hy hl hr
      have := rowL_len p (y : Int) acc x
      exact e1 _ y x r hy (by omega) (by omega) (ih (x + 1) y acc r (by omega) hy hl hr)
  have outer : ∀ (n y : Nat), y + n = h → Ev (fun k => L0 k (cellsL p w y) (y : Int)) (cellsL p w h) := by
    intro n
    induction n with
    | zero =>
      intro y hy
      obtain rfl : y = h := by omega
      exact e0' _
    | succ n ih =>
      intro y hy
      have h1 := cellsL_len p w y
      have h2 : w * y ≤ 10 * 10 := Nat.mul_le_mul hw (by omega)
      exact e0 _ y _ (by omega) (inner w 0 y _ _ (by omega) (by omega) (by omega) (ih (y + 1) (by omega)))
  exact outer h 0 (by omega)
theorem i8_wnat (x : Nat) (h : x < 10) : IntKind.i8.wrap ((x : Int) + 1) = ((x + 1 : Nat) : Int) := by
  have := i8_small (x + 1) (by omega)
  rw [← this]
  congr 1
theorem All_s (s0 s1 : Int) (W : LA 10) (hb : ∀ i, 0 ≤ rd W.l i ∧ rd W.l i < 65536) (w h : Nat) (hw : w ≤ 10) (hh : h ≤ 10) (e0 : s0 = w) (e1 : s1 = h) : Ev (fun k => spec_l01All.f k s0 s1 W) (cellsL (fr W.l) w h) := by
  show Ev (fun k => spec_l01All.l0 k [] 0 s0 s1 W) _
  refine Ev.cells (fr W.l) w h hw hh (fun k acc y => spec_l01All.l0 k acc y s0 s1 W) (fun k acc y x => spec_l01All.l1 k acc y x s0 s1 W) ?_ ?_ ?_ ?_
  · intro acc y r hy hr
    refine Ev.succ ?_
    simp only [spec_l01All.l0]
    exact Ev.pos (by omega) hr
  · intro acc
    refine Ev.succ ?_
    simp only [spec_l01All.l0]
    exact Ev.neg (by omega) (Ev.now acc)
  · intro acc y x r hy hx hl hr
    refine Ev.succ ?_
    simp only [spec_l01All.l1]
    refine Ev.pos (by omega) ?_
    rw [Free_s s0 s1 W hb (by omega) (by omega) x y (by omega) (by omega), i8_wnat x (by omega)]
    simp only [Option.bind_some]
    cases hc : fr W.l (x : Int) (y : Int) with
    | true =>
      rw [hc] at hr
      simp only [if_true] at hr ⊢
      exact Ev.pos (by omega) hr
    | false =>
      rw [hc] at hr
      simp only [Bool.false_eq_true, if_false] at hr ⊢
      exact hr
  · intro acc y r hy hr
    refine Ev.succ ?_
    simp only [spec_l01All.l1]
    rw [i8_wnat y (by omega)]
    exact Ev.neg (by omega) hr
theorem All_i (s0 s1 : Int) (W : LA 10) (hb : ∀ i, 0 ≤ rd W.l i ∧ rd W.l i < 65536) (w h : Nat) (hw : w ≤ 10) (hh : h ≤ 10) (e0 : s0 = w) (e1 : s1 = h) : Ev (fun k => impl_Room_free.f k s0 s1 W) (cellsL (fr W.l) w h) := by
  unfold impl_Room_free.f
  refine Ev.bind (a := cellsL (fr W.l) w h) ?_ (Ev.now _)
  show Ev (fun k => impl_Room_cells__51.l0 k [] s1 0 s0 s1 W s0 s1 W) _
  refine Ev.cells (fr W.l) w h hw hh (fun k acc y => impl_Room_cells__51.l0 k acc s1 y s0 s1 W s0 s1 W) (fun k acc y x => impl_Room_cells__51.l1 k acc y s1 y s0 x s0 s1 W s0 s1 W) ?_ ?_ ?_ ?_
  · intro acc y r hy hr
    refine Ev.succ ?_
    simp only [impl_Room_cells__51.l0]
    exact Ev.pos (by omega) hr
  · intro acc
    refine Ev.succ ?_
    simp only [impl_Room_cells__51.l0]
    exact Ev.neg (by omega) (Ev.now acc)
  · intro acc y x r hy hx hl hr
    refine Ev.succ ?_
    simp only [impl_Room_cells__51.l1]
    refine Ev.pos (by omega) ?_
    rw [Free_i s0 s1 W hb (by omega) (by omega) x y (by omega) (by omega), i8_wnat x (by omega)]
    simp only [Option.bind_some]
    cases hc : fr W.l (x : Int) (y : Int) with
    | true =>
      rw [hc] at hr
      simp only [if_true] at hr ⊢
      exact Ev.pos (by omega) hr
    | false =>
      rw [hc] at hr
      simp only [Bool.false_eq_true, if_false] at hr ⊢
      exact hr
  · intro acc y r hy hr
    refine Ev.succ ?_
    simp only [impl_Room_cells__51.l1]
    rw [i8_wnat y (by omega)]
    exact Ev.neg (by omega) hr
def isC (s0 s1 x y : Int) : Bool := inC x 0 (s0 - 1) && inC y 0 (s1 - 1)
def frC (s0 s1 : Int) (W : LA 10) (x y : Int) : Bool := isC s0 s1 x y && fr W.l x y
theorem isC_bounds {s0 s1 x y : Int} (h : isC s0 s1 x y = true) : (0 ≤ x ∧ x < s0) ∧ (0 ≤ y ∧ y < s1) := by
  unfold isC inC at h
  simp at h
  omega
theorem Is_s (s0 s1 : Int) (W : LA 10) (h0 : 1 ≤ s0 ∧ s0 ≤ 10) (h1 : 1 ≤ s1 ∧ s1 ≤ 10) (x y : Int) (hx : -128 ≤ x ∧ x ≤ 127) (hy : -128 ≤ y ∧ y ≤ 127) : spec_l01Is.f s0 s1 W x y = some (isC s0 s1 x y) := by
  unfold spec_l01Is.f isC
  rw [wint s0 (by omega) (by omega), wint s1 (by omega) (by omega), wint x (by omega) (by omega), wint y (by omega) (by omega), wint (s0 - 1) (by omega) (by omega), wint (s1 - 1) (by omega) (by omega), In_c, In_c]
  simp only [Option.bind_some]
  cases inC x 0 (s0 - 1) <;> simp
theorem Is_i (s0 s1 : Int) (W : LA 10) (h0 : 1 ≤ s0 ∧ s0 ≤ 10) (h1 : 1 ≤ s1 ∧ s1 ≤ 10) (x y : Int) (hx : -128 ≤ x ∧ x ≤ 127) (hy : -128 ≤ y ∧ y ≤ 127) : impl_Room_isCell.f s0 s1 W x y = some (isC s0 s1 x y) := by
  unfold impl_Room_isCell.f isC
  rw [wint s0 (by omega) (by omega), wint s1 (by omega) (by omega), wint x (by omega) (by omega), wint y (by omega) (by omega), mn_small h0.2, mn_small h1.2, wint (s0 - 1) (by omega) (by omega), wint (s1 - 1) (by omega) (by omega), Within_c, Within_c]
  simp only [Option.bind_some]
  cases inC x 0 (s0 - 1) <;> simp
theorem Fr_s (s0 s1 : Int) (W : LA 10) (hb : ∀ i, 0 ≤ rd W.l i ∧ rd W.l i < 65536) (h0 : 1 ≤ s0 ∧ s0 ≤ 10) (h1 : 1 ≤ s1 ∧ s1 ≤ 10) (x y : Int) (hx : -128 ≤ x ∧ x ≤ 127) (hy : -128 ≤ y ∧ y ≤ 127) : spec_l01Free.f s0 s1 W x y = some (frC s0 s1 W x y) := by
  cases hc : isC s0 s1 x y with
  | true =>
    have hd := isC_bounds hc
    obtain ⟨n, rfl⟩ : ∃ n : Nat, x = n := ⟨x.toNat, by omega⟩
    obtain ⟨m, rfl⟩ : ∃ m : Nat, y = m := ⟨y.toNat, by omega⟩
    rw [Free_s s0 s1 W hb (by omega) (by omega) n m (by omega) (by omega)]
    unfold frC
    rw [hc]
    rfl
  | false =>
    unfold spec_l01Free.f frC
    rw [Is_s s0 s1 W h0 h1 x y hx hy, hc]
    rfl
theorem Fr_i (s0 s1 : Int) (W : LA 10) (hb : ∀ i, 0 ≤ rd W.l i ∧ rd W.l i < 65536) (h0 : 1 ≤ s0 ∧ s0 ≤ 10) (h1 : 1 ≤ s1 ∧ s1 ≤ 10) (x y : Int) (hx : -128 ≤ x ∧ x ≤ 127) (hy : -128 ≤ y ∧ y ≤ 127) : impl_Room_isFree.f s0 s1 W x y = some (frC s0 s1 W x y) := by
  cases hc : isC s0 s1 x y with
  | true =>
    have hd := isC_bounds hc
    obtain ⟨n, rfl⟩ : ∃ n : Nat, x = n := ⟨x.toNat, by omega⟩
    obtain ⟨m, rfl⟩ : ∃ m : Nat, y = m := ⟨y.toNat, by omega⟩
    rw [Free_i s0 s1 W hb (by omega) (by omega) n m (by omega) (by omega)]
    unfold frC
    rw [hc]
    rfl
  | false =>
    unfold impl_Room_isFree.f frC
    rw [Is_i s0 s1 W h0 h1 x y hx hy, hc]
    rfl
def RB (s0 s1 : Int) (W : LA 10) : Prop := (-128 ≤ s0 ∧ s0 ≤ 127) ∧ (-128 ≤ s1 ∧ s1 ≤ 127) ∧ ∀ i, 0 ≤ rd W.l i ∧ rd W.l i < 65536
theorem rb_mk {s0 s1 : Int} {W : LA 10} (w0 : (Lit.int .i8 s0).wf = true) (w1 : (Lit.int .i8 s1).wf = true) (h : ∀ x ∈ W.l, (Lit.int .u16 x).wf = true) : RB s0 s1 W := ⟨wf_i8 w0, wf_i8 w1, rd_bound _ fun x hx => wf_u16 (h x hx)⟩
def CB (C : LA 40) : Prop := ∀ i, 0 ≤ rd C.l i ∧ rd C.l i < 65536
end Go.Proofs.YtdedijjbdkoekaaDoor.Q
end
section
namespace Go.Proofs.YtdedijjbdkoekaaDoor.Q
open Go.RowKit Go.Proofs.YtdedijjbdkoekaaDoorW.PrintWords Go.Proofs.YtdedijjbdkoekaaDoorW.PrintLast Go.Proofs.YtdedijjbdkoekaaDoorW.PrintMore Go.Proofs.YtdedijjbdkoekaaDoor.La Go.Proofs.YtdedijjbdkoekaaDoor.PB
set_option linter.unusedVariables false
set_option linter.unusedSimpArgs false
def putA (C : LA 40) (x y d : Int) : LA 40 := LA.set C (d * 10 + y) (Go.bits .or .u16 (rd C.l (d * 10 + y)) (shl .u16 1 x))
theorem putA_s (C : LA 40) (x y d : Int) (hx : 0 ≤ x ∧ x < 10) (hy : 0 ≤ y ∧ y < 10) (hd : 0 ≤ d ∧ d < 4) : spec_l06Put.f C x y d = some (putA C x y d) := by
  unfold spec_l06Put.f putA
  rw [if_pos (by omega), if_pos (by omega), if_pos (by omega), if_pos (by omega), u64_int hx.1 (by omega)]
theorem putA_i (C : LA 40) (x y d : Int) (hx : 0 ≤ x ∧ x < 10) (hy : 0 ≤ y ∧ y < 10) (hd : 0 ≤ d ∧ d < 4) : impl_Crowd_set.f C x y d = some (putA C x y d) := by
  unfold impl_Crowd_set.f putA
  rw [if_pos (by omega), if_pos (by omega), if_pos (by omega), if_pos (by omega), if_pos (by omega)]
theorem ext_rd {n : Nat} {A B : LA n} (h : ∀ j : Nat, j < n → rd A.l (j : Int) = rd B.l (j : Int)) : A = B := by
  apply LA.ext_l
  apply List.ext_getElem (by rw [A.h, B.h])
  intro j h1 h2
  have hj : j < n := by rw [A.h] at h1; exact h1
  have := h j hj
  rw [rd_nat, rd_nat, List.getD_eq_getElem?_getD, List.getD_eq_getElem?_getD, List.getElem?_eq_getElem h1, List.getElem?_eq_getElem h2] at this
  exact this
theorem rdT_get (l : List S41) (i : Nat) : rd_T41 l (i : Int) = l.getD i z41 := by simp [rd_T41]
def foldA (C : LA 40) (p : S41) : Nat → LA 40
  | 0 => C
  | d + 1 => putA (foldA C p d) p.f0 p.f1 (d : Int)
def plainA : List S41 → LA 40 → LA 40
  | [], C => C
  | p :: ps, C => plainA ps (foldA C p 4)
theorem Plain_ev (l : List S41) (hm : ∀ q ∈ l, (0 ≤ q.f0 ∧ q.f0 < 10) ∧ (0 ≤ q.f1 ∧ q.f1 < 10)) (hl : l.length ≤ 1000) :
    ∀ (n i : Nat) (C : LA 40), i + n = l.length → Ev (fun k => spec_l06Plain.l0 k l (i : Int) C) (plainA (l.drop i) C) := by
  intro n
  induction n with
  | zero =>
    intro i C hi
    obtain rfl : i = l.length := by omega
    rw [List.drop_length]
    refine Ev.succ ?_
    simp only [spec_l06Plain.l0]
    exact Ev.neg (by omega) (Ev.now _)
  | succ n ih =>
    intro i C hi
    have hil : i < l.length := by omega
    have hp := hm _ (getD_mem l i z41 hil)
    refine Ev.succ ?_
    simp only [spec_l06Plain.l0]
    refine Ev.pos (by omega) ?_
    rw [drop_get l i z41 hil]
    have inner : ∀ n d : Nat, d + n = 4 → Ev (fun k => spec_l06Plain.l1 k l (i : Int) (d : Int) (foldA C (l.getD i z41) d)) (plainA (l.getD i z41 :: l.drop (i + 1)) C) := by
      intro n
      induction n with
      | zero =>
        intro d hd
        obtain rfl : d = 4 := by omega
        refine Ev.succ ?_
        simp only [spec_l06Plain.l1]
        rw [wnat i l.length hil (by omega)]
        exact Ev.neg (by omega) (ih (i + 1) _ (by omega))
      | succ n ihn =>
        intro d hd
        refine Ev.succ ?_
        simp only [spec_l06Plain.l1]
        refine Ev.pos (by omega) (Ev.pos (by omega) (Ev.pos (by omega) ?_))
        rw [rdT_get, putA_s _ _ _ (d : Int) hp.1 hp.2 ⟨by omega, by omega⟩, wnat d 4 (by omega) (by omega)]
        exact Ev.bind (Ev.now _) (ihn (d + 1) (by omega))
    exact inner 4 0 rfl
theorem Any_ev (l : List S41) (hm : ∀ q ∈ l, (0 ≤ q.f0 ∧ q.f0 < 10) ∧ (0 ≤ q.f1 ∧ q.f1 < 10)) (hl : l.length ≤ 1000) :
    ∀ (n i : Nat) (C : LA 40), i + n = l.length → Ev (fun k => impl_anywhere.l0 k l (l.length : Int) (i : Int) C) (plainA (l.drop i) C) := by
  intro n
  induction n with
  | zero =>
    intro i C hi
    obtain rfl : i = l.length := by omega
    rw [List.drop_length]
    refine Ev.succ ?_
    simp only [impl_anywhere.l0]
    exact Ev.neg (by omega) (Ev.now _)
  | succ n ih =>
    intro i C hi
    have hil : i < l.length := by omega
    have hp := hm _ (getD_mem l i z41 hil)
    refine Ev.succ ?_
    simp only [impl_anywhere.l0]
    refine Ev.pos (by omega) (Ev.pos (by omega) (Ev.pos (by omega) ?_))
    rw [drop_get l i z41 hil, rdT_get]
    have inner : ∀ n d : Nat, d + n = 4 → Ev (fun k => impl_anywhere.l1 k l (l.length : Int) (i : Int) (d : Int) (foldA C (l.getD i z41) d) (l.getD i z41).f0 (l.getD i z41).f1) (plainA (l.getD i z41 :: l.drop (i + 1)) C) := by
      intro n
      induction n with
      | zero =>
        intro d hd
        obtain rfl : d = 4 := by omega
        refine Ev.succ ?_
        simp only [impl_anywhere.l1]
        rw [wnat i l.length hil (by omega)]
        exact Ev.neg (by omega) (ih (i + 1) _ (by omega))
      | succ n ihn =>
        intro d hd
        refine Ev.succ ?_
        simp only [impl_anywhere.l1]
        refine Ev.pos (by omega) ?_
        rw [putA_i _ _ _ (d : Int) hp.1 hp.2 ⟨by omega, by omega⟩, wnat d 4 (by omega) (by omega)]
        exact Ev.bind (Ev.now _) (ihn (d + 1) (by omega))
    exact inner 4 0 rfl
def InvA (C : LA 40) (M : Nat → Nat → Nat → Bool) : Prop := ∀ d y : Nat, d < 4 → y < 10 → ∃ n : Nat, rd C.l ((d : Int) * 10 + (y : Int)) = n ∧ n < 2 ^ 16 ∧ ∀ x : Nat, n.testBit x = M d x y
theorem shl_pow (x : Nat) (hx : x < 10) : shl .u16 1 (x : Int) = ((2 ^ x : Nat) : Int) := by
  unfold shl
  rw [Int.one_mul, Int.toNat_natCast, Nat.min_eq_left (show x ≤ IntKind.u16.bits by unfold IntKind.bits; dsimp only; omega), wrap_u16]
  have h3 : 2 ^ x ≤ 2 ^ 9 := Nat.pow_le_pow_right (by omega) (by omega)
  have h2 : (2 : Int) ^ x = ((2 ^ x : Nat) : Int) := by simp
  rw [h2]
  generalize 2 ^ x = m at h3 ⊢
  omega
theorem InvA.put {C : LA 40} {M : Nat → Nat → Nat → Bool} (hb : InvA C M) (x y d : Nat) (hx : x < 10) (hy : y < 10) (hd : d < 4) : InvA (putA C (x : Int) (y : Int) (d : Int)) (fun d' x' y' => M d' x' y' || (decide (d' = d) && decide (x' = x) && decide (y' = y))) := by
  intro d' y' hd' hy'
  by_cases he : d' = d ∧ y' = y
  · obtain ⟨rfl, rfl⟩ := he
    obtain ⟨n, hn, hlt, ht⟩ := hb d' y' hd hy
    have hp : 2 ^ x < 2 ^ 16 := Nat.pow_lt_pow_right (by omega) (by omega)
    refine ⟨n ||| 2 ^ x, ?_, Nat.or_lt_two_pow hlt hp, fun x' => ?_⟩
    · rw [putA, rd_set_same _ _ _ (by omega) (by omega), hn, shl_pow x hx]
      exact (bits_nat .u16 16 (by decide) wraps_u16 n (2 ^ x) hlt hp).2
    · rw [Nat.testBit_or, Nat.testBit_two_pow, ht x']
      by_cases hxx : x' = x
      · subst hxx; simp
      · simp [hxx, Ne.symm hxx]
  · obtain ⟨n, hn, hlt, ht⟩ := hb d' y' hd' hy'
    refine ⟨n, ?_, hlt, fun x' => ?_⟩
    · rw [putA, rd_set_other _ _ _ _ (by omega) (by omega) (by omega), hn]
    · rw [ht x']
      by_cases h1 : d' = d
      · have h2 : ¬ y' = y := fun h2 => he ⟨h1, h2⟩
        simp [h2]
      · simp [h1]
theorem InvA.congr {C : LA 40} {M M' : Nat → Nat → Nat → Bool} (h : InvA C M) (e : ∀ d x y, d < 4 → M d x y = M' d x y) : InvA C M' :=
  fun d y hd hy => by obtain ⟨n, h1, h2, h3⟩ := h d y hd hy; exact ⟨n, h1, h2, fun x => (h3 x).trans (e d x y hd)⟩
theorem InvA.fold {C : LA 40} {M : Nat → Nat → Nat → Bool} (h : InvA C M) (p : S41) (x y : Nat) (hx : x < 10) (hy : y < 10) (e0 : p.f0 = x) (e1 : p.f1 = y) : ∀ d, d ≤ 4 → InvA (foldA C p d) (fun d' x' y' => M d' x' y' || (decide (d' < d) && decide (x' = x) && decide (y' = y)))
  | 0, _ => h.congr fun d' x' y' _ => by simp
  | d + 1, hd => by
    have ih := InvA.fold h p x y hx hy e0 e1 d (by omega)
    rw [foldA, e0, e1]
    refine (ih.put x y d hx hy (by omega)).congr fun d' x' y' _ => ?_
    by_cases h1 : d' < d
    · have h2 : ¬ d' = d := by omega
      have h3 : d' < d + 1 := by omega
      simp [h1, h2, h3]
    · by_cases h2 : d' = d
      · subst h2; simp
      · have h3 : ¬ d' < d + 1 := by omega
        simp [h1, h2, h3]
theorem InvA.plain : ∀ (l : List S41) {C : LA 40} {M : Nat → Nat → Nat → Bool}, InvA C M → (∀ q ∈ l, (0 ≤ q.f0 ∧ q.f0 < 10) ∧ (0 ≤ q.f1 ∧ q.f1 < 10)) → InvA (plainA l C) (fun d x y => M d x y || l.any fun q => decide (q.f0 = (x : Int)) && decide (q.f1 = (y : Int)))
  | [], _, _, h, _ => h.congr fun d x y _ => by simp
  | p :: ps, C, M, h, hm => by
    have hp := hm p (by simp)
    obtain ⟨x, hx⟩ : ∃ n : Nat, p.f0 = n := ⟨p.f0.toNat, by omega⟩
    obtain ⟨y, hy⟩ : ∃ n : Nat, p.f1 = n := ⟨p.f1.toNat, by omega⟩
    have h1 := InvA.plain ps (h.fold p x y (by omega) (by omega) hx hy 4 (by omega)) (fun q hq => hm q (by simp [hq]))
    refine h1.congr fun d x' y' hd => ?_
    have e0 : decide (p.f0 = (x' : Int)) = decide (x' = x) := by rw [hx]; exact decide_eq_decide.2 ⟨fun h => by omega, fun h => by omega⟩
    have e1 : decide (p.f1 = (y' : Int)) = decide (y' = y) := by rw [hy]; exact decide_eq_decide.2 ⟨fun h => by omega, fun h => by omega⟩
    have e2 : decide (d < 4) = true := decide_eq_true hd
    rw [List.any_cons, e0, e1, e2, Bool.true_and, Bool.or_assoc]
theorem InvA.zero : InvA (LA.zero 40) (fun _ _ _ => false) :=
  fun d y hd hy => ⟨0, rd_zero _, by omega, fun x => Nat.zero_testBit x⟩
theorem row_any (p : Int → Int → Bool) (y : Nat) (acc : List S41) (x' y' : Nat) : ∀ n : Nat, ((rowL p (y : Int) acc n).any fun q => decide (q.f0 = (x' : Int)) && decide (q.f1 = (y' : Int))) = ((acc.any fun q => decide (q.f0 = (x' : Int)) && decide (q.f1 = (y' : Int))) || (decide (x' < n) && decide (y' = y) && p (x' : Int) (y' : Int)))
  | 0 => by simp [rowL]
  | n + 1 => by
    have ih := row_any p y acc x' y' n
    rw [rowL]
    by_cases h1 : x' = n
    · subst h1
      by_cases h2 : y' = y
      · subst h2
        cases hp : p (x' : Int) (y' : Int) with
        | true => rw [if_pos rfl, List.any_append, ih]; simp
        | false => rw [if_neg (by simp), ih]; simp [hp]
      · split
        · rw [List.any_append, ih]
          have : ¬ (y : Int) = (y' : Int) := by omega
          simp [h2, this]
        · rw [ih]; simp [h2]
    · have hlt : decide (x' < n + 1) = decide (x' < n) := decide_eq_decide.2 ⟨fun h => by omega, fun h => by omega⟩
      have hne : ¬ (n : Int) = (x' : Int) := by omega
      rw [hlt]
      split
      · rw [List.any_append, ih]; simp [hne]
      · exact ih
theorem cells_any (p : Int → Int → Bool) (w : Nat) (x y : Nat) : ∀ h : Nat, ((cellsL p w h).any fun q => decide (q.f0 = (x : Int)) && decide (q.f1 = (y : Int))) = (decide (x < w) && decide (y < h) && p (x : Int) (y : Int))
  | 0 => by simp [cellsL]
  | h + 1 => by
    rw [cellsL, row_any, cells_any p w x y h]
    by_cases h1 : y < h
    · have h2 : ¬ y = h := by omega
      have h3 : y < h + 1 := by omega
      simp [h1, h2, h3]
    · by_cases h2 : y = h
      · subst h2; simp
      · have h3 : ¬ y < h + 1 := by omega
        simp [h1, h2, h3]
theorem plain_bits (W : List Int) (w h : Nat) (hw : w ≤ 10) (hh : h ≤ 10) : InvA (plainA (cellsL (fr W) w h) (LA.zero 40)) (fun d x y => decide (x < w) && decide (y < h) && fr W (x : Int) (y : Int)) := by
  have hm : ∀ q ∈ cellsL (fr W) w h, (0 ≤ q.f0 ∧ q.f0 < 10) ∧ (0 ≤ q.f1 ∧ q.f1 < 10) := fun q hq => by
    have := cellsL_mem (fr W) w h h (Nat.le_refl _) q hq
    omega
  exact (InvA.plain _ InvA.zero hm).congr fun d x y _ => by rw [cells_any, Bool.false_or]
theorem InvA.ext {C C' : LA 40} {M M' : Nat → Nat → Nat → Bool} (h : InvA C M) (h' : InvA C' M') (e : ∀ d x y, d < 4 → y < 10 → M d x y = M' d x y) : C = C' := by
  refine ext_rd fun j hj => ?_
  obtain ⟨n, h1, h2, h3⟩ := h (j / 10) (j % 10) (by omega) (by omega)
  obtain ⟨m, g1, g2, g3⟩ := h' (j / 10) (j % 10) (by omega) (by omega)
  have ej : ((j / 10 : Nat) : Int) * 10 + ((j % 10 : Nat) : Int) = (j : Int) := by omega
  rw [ej] at h1 g1
  rw [h1, g1]
  have : n = m := Nat.eq_of_testBit_eq fun x => by rw [h3, g3, e _ _ _ (by omega) (by omega)]
  rw [this]
theorem InvA.cb {C : LA 40} {M : Nat → Nat → Nat → Bool} (h : InvA C M) : CB C := by
  intro i
  refine rd_bound _ (fun x hx => ?_) i
  obtain ⟨j, hj, e⟩ := List.mem_iff_getElem.1 hx
  have hj40 : j < 40 := by rw [C.h] at hj; exact hj
  obtain ⟨n, h1, h2, h3⟩ := h (j / 10) (j % 10) (by omega) (by omega)
  have ej : ((j / 10 : Nat) : Int) * 10 + ((j % 10 : Nat) : Int) = (j : Int) := by omega
  rw [ej, rd_nat, List.getD_eq_getElem?_getD, List.getElem?_eq_getElem hj] at h1
  have h5 : x = n := by rw [← e]; exact h1
  omega
def hasA (C : LA 40) (x y d : Int) : Bool := Go.bits .and .u16 (shr .u16 (rd C.l (d * 10 + y)) x) 1 == 1
theorem has_s (C : LA 40) (x y d : Int) (hx : 0 ≤ x ∧ x < 10) (hy : 0 ≤ y ∧ y < 10) (hd : 0 ≤ d ∧ d < 4) : spec_l06Has.f C x y d = some (hasA C x y d) := by
  unfold spec_l06Has.f hasA
  rw [if_pos hd.1, if_pos hd.2, if_pos hy.1, if_pos hy.2, u64_int hx.1 (by omega), if_pos hx.1]
theorem has_i (C : LA 40) (x y d : Int) (hx : 0 ≤ x ∧ x < 10) (hy : 0 ≤ y ∧ y < 10) (hd : 0 ≤ d ∧ d < 4) : impl_Crowd_has.f C x y d = some (hasA C x y d) := by
  unfold impl_Crowd_has.f hasA
  rw [if_pos hd.1, if_pos hd.2, if_pos hy.1, if_pos hy.2, if_pos hx.1]
theorem spot_s (i : Nat) (hi : i < 100) : spec_l06Spot.f (i : Int) = some (((i % 10 : Nat) : Int), ((i / 10 : Nat) : Int)) := by
  unfold spec_l06Spot.f
  rw [Int.tmod_eq_emod_of_nonneg (by omega), Int.tdiv_eq_ediv_of_nonneg (by omega)]
  have e1 : ((i : Int) % 10) = ((i % 10 : Nat) : Int) := by omega
  have e2 : ((i : Int) / 10) = ((i / 10 : Nat) : Int) := by omega
  rw [e1, e2, i8_small _ (by omega), wint _ (by omega) (by omega), i8_small _ (by omega)]
theorem bit16 (a : Nat) (ha : a < 2 ^ 16) (x : Nat) (hx : x < 16) : (Go.bits .and .u16 (shr .u16 (a : Int) (x : Int)) 1 = 1) ↔ a.testBit x = true := by
  have hs : shr .u16 (a : Int) (x : Int) = ((a / 2 ^ x : Nat) : Int) := by
    unfold shr
    rw [Int.toNat_natCast, Nat.min_eq_left (show x ≤ IntKind.u16.bits by unfold IntKind.bits; dsimp only; omega)]
    simp
  have hle : a / 2 ^ x ≤ a := Nat.div_le_self _ _
  rw [hs, Nat.testBit_eq_decide_div_mod_eq, decide_eq_true_iff]
  generalize a / 2 ^ x = q at hle ⊢
  rw [u16_and1 (by omega) (by omega)]
  omega
theorem InvA.has {C : LA 40} {M : Nat → Nat → Nat → Bool} (h : InvA C M) (x y d : Nat) (hx : x < 16) (hy : y < 10) (hd : d < 4) : hasA C (x : Int) (y : Int) (d : Int) = M d x y := by
  obtain ⟨n, h1, h2, h3⟩ := h d y hd hy
  unfold hasA
  rw [h1, ← h3 x]
  have := bit16 n h2 x hx
  cases hb : n.testBit x with
  | true => rw [this.2 hb]; rfl
  | false =>
    rw [beq_eq_false_iff_ne]
    intro e
    rw [this.1 e] at hb
    cases hb
def crow (S : List (Nat × Nat × Nat)) : LA 40 := S.foldl (fun C p => putA C (p.1 : Int) (p.2.1 : Int) (p.2.2 : Int)) (LA.zero 40)
def inR (p : Nat × Nat × Nat) : Prop := p.1 < 10 ∧ p.2.1 < 10 ∧ p.2.2 < 4
theorem crow_snoc (S : List (Nat × Nat × Nat)) (p : Nat × Nat × Nat) : crow (S ++ [p]) = putA (crow S) (p.1 : Int) (p.2.1 : Int) (p.2.2 : Int) := by
  unfold crow
  rw [List.foldl_append]
  rfl
theorem crow_inv0 : ∀ (S : List (Nat × Nat × Nat)) (C : LA 40) (M : Nat → Nat → Nat → Bool), InvA C M → (∀ p ∈ S, inR p) → InvA (S.foldl (fun C p => putA C (p.1 : Int) (p.2.1 : Int) (p.2.2 : Int)) C) (fun d x y => M d x y || decide ((x, y, d) ∈ S))
  | [], C, M, h, _ => h.congr fun d x y _ => by simp
  | p :: S, C, M, h, hr => by
    have hp := hr p (by simp)
    have h1 := crow_inv0 S _ _ (h.put p.1 p.2.1 p.2.2 hp.1 hp.2.1 hp.2.2) (fun q hq => hr q (by simp [hq]))
    refine h1.congr fun d x y _ => ?_
    rw [Bool.or_assoc]
    congr 1
    rw [Bool.eq_iff_iff]
    obtain ⟨a, b, c⟩ := p
    simp only [Bool.or_eq_true, Bool.and_eq_true, decide_eq_true_eq, List.mem_cons, Prod.mk.injEq]
    constructor
    · rintro (⟨⟨h1, h2⟩, h3⟩ | h1)
      · exact .inl ⟨h2, h3, h1⟩
      · exact .inr h1
    · rintro (⟨h1, h2, h3⟩ | h1)
      · exact .inl ⟨⟨h3, h1⟩, h2⟩
      · exact .inr h1
theorem crow_inv (S : List (Nat × Nat × Nat)) (hr : ∀ p ∈ S, inR p) : InvA (crow S) (fun d x y => decide ((x, y, d) ∈ S)) := (crow_inv0 S _ _ InvA.zero hr).congr fun d x y _ => by rw [Bool.false_or]
theorem crow_ext {S T : List (Nat × Nat × Nat)} (hS : ∀ p ∈ S, inR p) (e : ∀ p, p ∈ S ↔ p ∈ T) : crow S = crow T :=
  (crow_inv S hS).ext (crow_inv T fun p hp => hS p ((e p).2 hp)) fun d x y _ _ => decide_eq_decide.2 (e _)
theorem crow_has (S : List (Nat × Nat × Nat)) (hr : ∀ p ∈ S, inR p) (x y d : Nat) (hx : x < 16) (hy : y < 10) (hd : d < 4) : hasA (crow S) (x : Int) (y : Int) (d : Int) = decide ((x, y, d) ∈ S) := (crow_inv S hr).has x y d hx hy hd
end Go.Proofs.YtdedijjbdkoekaaDoor.Q
end
section
namespace Go.Proofs.YtdedijjbdkoekaaDoor.Q
open Go.RowKit Go.Proofs.YtdedijjbdkoekaaDoorW.PrintWords Go.Proofs.YtdedijjbdkoekaaDoorW.PrintLast Go.Proofs.YtdedijjbdkoekaaDoorW.PrintMore Go.Proofs.YtdedijjbdkoekaaDoor.La Go.Proofs.YtdedijjbdkoekaaDoor.PB
set_option linter.unusedVariables false
set_option linter.unusedSimpArgs false
def RRe (f : Nat → Bool) (e : Bool) : Nat → Nat → Bool
  | 0, _ => e
  | n + 1, i => f i && RRe f e n (i + 1)
theorem RRe_and (f : Nat → Bool) (e : Bool) : ∀ n i, RRe f e n i = (RRe f true n i && e)
  | 0, _ => by simp [RRe]
  | n + 1, i => by rw [RRe, RRe, RRe_and f e n (i + 1), Bool.and_assoc]
theorem RRe_congr {f g : Nat → Bool} (e : Bool) : ∀ n i, (∀ j, i ≤ j → j < i + n → f j = g j) → RRe f e n i = RRe g e n i
  | 0, _, _ => rfl
  | n + 1, i, h => by rw [RRe, RRe, h i (by omega) (by omega), RRe_congr e n (i + 1) (fun j h1 h2 => h j (by omega) (by omega))]
theorem RRe_true (f : Nat → Bool) : ∀ n i, RRe f true n i = true ↔ ∀ j, i ≤ j → j < i + n → f j = true
  | 0, i => ⟨fun _ j h1 h2 => by omega, fun _ => rfl⟩
  | n + 1, i => by
    rw [RRe, Bool.and_eq_true, RRe_true f n (i + 1)]
    exact ⟨fun ⟨h1, h2⟩ j h3 h4 => by
      by_cases e : j = i
      · subst e; exact h1
      · exact h2 j (by omega) (by omega), fun h => ⟨h i (by omega) (by omega), fun j h1 h2 => h j (by omega) (by omega)⟩⟩
theorem Ev.loopB (L : Nat → Int → Option Bool) (f : Nat → Bool) (e : Bool) (N : Nat) (hstep : ∀ i : Nat, i < N → ∀ r, Ev (fun k => L k ((i + 1 : Nat) : Int)) r → Ev (fun k => L k (i : Int)) (f i && r)) (hend : Ev (fun k => L k (N : Int)) e) : Ev (fun k => L k 0) (RRe f e N 0) := by
  have key : ∀ n i : Nat, i + n = N → Ev (fun k => L k (i : Int)) (RRe f e n i) := by
    intro n
    induction n with
    | zero =>
      intro i hi
      obtain rfl : i = N := (by omega)
      exact hend
    | succ n ih => intro i hi; exact hstep i (by omega) _ (ih (i + 1) (by omega))
  exact key N 0 (by omega)
theorem andNot_zero (a b : Nat) (ha : a < 2 ^ 16) (hb : b < 2 ^ 16) : (Go.bits .andNot .u16 (a : Int) (b : Int) = 0) ↔ ∀ x, x < 16 → a.testBit x = true → b.testBit x = true := by
  have h16 : IntKind.u16.bits = 16 := rfl
  have e : Go.bits .andNot .u16 (a : Int) (b : Int) = (((BitVec.ofNat 16 a &&& ~~~ BitVec.ofNat 16 b).toNat : Nat) : Int) := by
    unfold Go.bits
    simp only [BitVec.ofInt_natCast]
    have hlt := (BitVec.ofNat 16 a &&& ~~~ BitVec.ofNat 16 b).isLt
    exact wraps_u16 _ (Int.natCast_nonneg _) (Int.lt_of_lt_of_le (Int.ofNat_lt.2 hlt) (by decide))
  rw [e]
  constructor
  · intro h x hx hax
    have h0 : (BitVec.ofNat 16 a &&& ~~~ BitVec.ofNat 16 b) = 0#16 := BitVec.toNat_eq.2 (by simpa using Int.ofNat.inj h)
    have h1 := congrArg (fun v => BitVec.getLsbD v x) h0
    simp only [BitVec.getLsbD_and, BitVec.getLsbD_not, BitVec.getLsbD_ofNat, BitVec.getLsbD_zero, hx, decide_true, Bool.true_and, hax] at h1
    simpa using h1
  · intro h
    have h0 : (BitVec.ofNat 16 a &&& ~~~ BitVec.ofNat 16 b) = 0#16 := BitVec.eq_of_getLsbD_eq (fun i hi => by
      simp only [BitVec.getLsbD_and, BitVec.getLsbD_not, BitVec.getLsbD_ofNat, BitVec.getLsbD_zero, hi, decide_true, Bool.true_and]
      cases h1 : a.testBit i with
      | false => simp
      | true => simp [h i hi h1])
    rw [h0]
    rfl
def freeB (W : List Int) (w h x y : Nat) : Bool := decide (x < w) && decide (y < h) && fr W (x : Int) (y : Int)
theorem isFree_c (s0 s1 : Int) (W : LA 10) (hb : ∀ i, 0 ≤ rd W.l i ∧ rd W.l i < 65536) (w h : Nat) (hw : w ≤ 10) (hh : h ≤ 10) (e0 : s0 = w) (e1 : s1 = h) (x y : Nat) (hx : x < 16) (hy : y < 10) : impl_Room_isFree.f s0 s1 W (x : Int) (y : Int) = some (freeB W.l w h x y) := by
  unfold freeB
  by_cases h1 : x < w
  · by_cases h2 : y < h
    · rw [Free_i s0 s1 W hb (by omega) (by omega) x y (by omega) (by omega)]
      simp [h1, h2]
    · unfold impl_Room_isFree.f impl_Room_isCell.f
      rw [wint s0 (by omega) (by omega), wint s1 (by omega) (by omega), wint (x : Int) (by omega) (by omega), wint (y : Int) (by omega) (by omega), mn_small (by omega), mn_small (by omega), wint (s0 - 1) (by omega) (by omega), wint (s1 - 1) (by omega) (by omega), Within_c, Within_c]
      rw [show inC (x : Int) 0 (s0 - 1) = true by unfold inC; simp; omega, show inC (y : Int) 0 (s1 - 1) = false by unfold inC; simp; omega]
      simp [h2]
  · unfold impl_Room_isFree.f impl_Room_isCell.f
    rw [wint s0 (by omega) (by omega), wint s1 (by omega) (by omega), wint (x : Int) (by omega) (by omega), wint (y : Int) (by omega) (by omega), mn_small (by omega), mn_small (by omega), wint (s0 - 1) (by omega) (by omega), wint (s1 - 1) (by omega) (by omega), Within_c]
    rw [show inC (x : Int) 0 (s0 - 1) = false by unfold inC; simp; omega]
    simp [h1]
theorem i8_wnat16 (x : Nat) (h : x < 16) : IntKind.i8.wrap ((x : Int) + 1) = ((x + 1 : Nat) : Int) := by
  have := i8_small (x + 1) (by omega)
  rw [← this]
  congr 1
def bitB (v : Int) (x : Nat) : Bool := decide (Go.bits .and .u16 (shr .u16 v (x : Int)) 1 = 1)
theorem isIn_ev (C : LA 40) (s0 s1 : Int) (W : LA 10) (hb : ∀ i, 0 ≤ rd W.l i ∧ rd W.l i < 65536) (w h : Nat) (hw : w ≤ 10) (hh : h ≤ 10) (e0 : s0 = w) (e1 : s1 = h) :
    Ev (fun k => impl_Crowd_isIn.f k C s0 s1 W) (RRe (fun d => RRe (fun y => RRe (fun x => !bitB (rd C.l ((d : Int) * 10 + (y : Int))) x || freeB W.l w h x y) true 16 0) true 10 0) true 4 0) := by
  show Ev (fun k => impl_Crowd_isIn.l0 k C 0 s0 s1 W) _
  refine Ev.loopB (fun k i => impl_Crowd_isIn.l0 k C i s0 s1 W) _ true 4 (fun d hd r hr => ?_) ?_
  · refine Ev.succ ?_
    simp only [impl_Crowd_isIn.l0]
    refine Ev.pos (by omega) (Ev.pos (by omega) ?_)
    rw [← RRe_and]
    refine Ev.loopB (fun k i => impl_Crowd_isIn.l1 k C (d : Int) (LA.row C 10 (d : Int)) i s0 s1 W) _ r 10 (fun y hy r2 hr2 => ?_) ?_
    · refine Ev.succ ?_
      simp only [impl_Crowd_isIn.l1]
      refine Ev.pos (by omega) (Ev.pos (by omega) ?_)
      rw [rd_row C 10 (d : Int) (y : Int) (by omega) (by omega), ← RRe_and]
      refine Ev.loopB (fun k i => impl_Crowd_isIn.l2 k (y : Int) (rd C.l ((d : Int) * ((10 : Nat) : Int) + (y : Int))) C (d : Int) (LA.row C 10 (d : Int)) (y : Int) i s0 s1 W) _ r2 16 (fun x hx r3 hr3 => ?_) ?_
      · refine Ev.succ ?_
        simp only [impl_Crowd_isIn.l2]
        refine Ev.pos (by omega) (Ev.pos (by omega) ?_)
        rw [i8_small y (by omega), isFree_c s0 s1 W hb w h hw hh e0 e1 x y hx hy, i8_wnat16 x hx]
        simp only [Option.bind_some]
        by_cases h1 : Go.bits .and .u16 (shr .u16 (rd C.l ((d : Int) * ((10 : Nat) : Int) + (y : Int))) (x : Int)) 1 = 1
        · refine Ev.pos h1 ?_
          have hbt : bitB (rd C.l ((d : Int) * 10 + (y : Int))) x = true := decide_eq_true h1
          rw [hbt, Bool.not_true, Bool.false_or]
          cases hf : freeB W.l w h x y with
          | true => exact Ev.pos rfl (by rw [Bool.true_and]; exact hr3)
          | false => exact Ev.neg (by simp) (by rw [Bool.false_and]; exact Ev.now false)
        · refine Ev.neg h1 ?_
          have hbt : bitB (rd C.l ((d : Int) * 10 + (y : Int))) x = false := decide_eq_false h1
          rw [hbt, Bool.not_false, Bool.true_or, Bool.true_and]
          exact hr3
      · refine Ev.succ ?_
        simp only [impl_Crowd_isIn.l2]
        rw [wnat y 10 hy (by omega)]
        exact Ev.neg (by omega) hr2
    · refine Ev.succ ?_
      simp only [impl_Crowd_isIn.l1]
      rw [wnat d 4 hd (by omega)]
      exact Ev.neg (by omega) hr
  · refine Ev.succ ?_
    simp only [impl_Crowd_isIn.l0]
    exact Ev.neg (by omega) (Ev.now true)
theorem okLoop_ev (C P : LA 40) :
    Ev (fun k => spec_l06Ok.l0 k 0 C P) (RRe (fun d => RRe (fun y => decide (Go.bits .andNot .u16 (rd C.l ((d : Int) * 10 + (y : Int))) (rd P.l ((d : Int) * 10 + (y : Int))) = 0)) true 10 0) true 4 0) := by
  refine Ev.loopB (fun k i => spec_l06Ok.l0 k i C P) _ true 4 (fun d hd r hr => ?_) ?_
  · refine Ev.succ ?_
    simp only [spec_l06Ok.l0]
    refine Ev.pos (by omega) ?_
    rw [← RRe_and]
    refine Ev.loopB (fun k i => spec_l06Ok.l1 k (d : Int) i C P) _ r 10 (fun y hy r2 hr2 => ?_) ?_
    · refine Ev.succ ?_
      simp only [spec_l06Ok.l1]
      refine Ev.pos (by omega) (Ev.pos (by omega) (Ev.pos (by omega) (Ev.pos (by omega) ?_)))
      rw [wnat y 10 hy (by omega)]
      by_cases h1 : Go.bits .andNot .u16 (rd C.l ((d : Int) * 10 + (y : Int))) (rd P.l ((d : Int) * 10 + (y : Int))) = 0
      · rw [decide_eq_true h1, Bool.true_and]
        exact Ev.pos h1 hr2
      · rw [decide_eq_false h1, Bool.false_and]
        exact Ev.neg h1 (Ev.now false)
    · refine Ev.succ ?_
      simp only [spec_l06Ok.l1]
      rw [wnat d 4 hd (by omega)]
      exact Ev.neg (by omega) hr
  · refine Ev.succ ?_
    simp only [spec_l06Ok.l0]
    exact Ev.neg (by omega) (Ev.now true)
def VA (w h : Nat) (W : LA 10) (C : LA 40) : Prop := ∀ x y d : Nat, x < 16 → y < 10 → d < 4 → hasA C (x : Int) (y : Int) (d : Int) = true → freeB W.l w h x y = true
theorem Valid_core (s0 s1 : Int) (W : LA 10) (C : LA 40) (hr : RB s0 s1 W) (hc : CB C) :
    ∃ r, Ev (fun k => spec_l06Ok.f k s0 s1 W C) r ∧ Ev (fun k => impl_ValidCrowd.f k s0 s1 W C) r ∧ (r = true → ∃ w h : Nat, s0 = w ∧ s1 = h ∧ (1 ≤ w ∧ w ≤ 10) ∧ (1 ≤ h ∧ h ≤ 10) ∧ VA w h W C) := by
  have hb := hr.2.2
  obtain ⟨b, h1, h2, h3⟩ := Ok_both s0 s1 W hr.1 hr.2.1
  cases b with
  | false =>
    refine ⟨false, ?_, ?_, fun h => by cases h⟩
    · unfold spec_l06Ok.f
      refine Ev.bind (a := false) h1 ?_
      exact Ev.neg (by simp) (Ev.now _)
    · unfold impl_ValidCrowd.f
      refine Ev.bind h2 ?_
      exact Ev.neg (by simp) (Ev.now _)
  | true =>
    obtain ⟨hw, hh⟩ := h3 rfl
    obtain ⟨w, e0⟩ : ∃ n : Nat, s0 = n := ⟨s0.toNat, by omega⟩
    obtain ⟨h, e1⟩ : ∃ n : Nat, s1 = n := ⟨s1.toNat, by omega⟩
    have ha := All_s s0 s1 W hb w h (by omega) (by omega) e0 e1
    have hlen := cellsL_len (fr W.l) w h
    have hm : ∀ q ∈ cellsL (fr W.l) w h, (0 ≤ q.f0 ∧ q.f0 < 10) ∧ (0 ≤ q.f1 ∧ q.f1 < 10) := fun q hq => by
      have := cellsL_mem (fr W.l) w h h (Nat.le_refl _) q hq
      omega
    have hl : (cellsL (fr W.l) w h).length ≤ 1000 := by
      have : w * h ≤ 10 * 10 := Nat.mul_le_mul (by omega) (by omega)
      omega
    have p1 := Plain_ev _ hm hl (cellsL (fr W.l) w h).length 0 (LA.zero 40) (by omega)
    have hbits := plain_bits W.l w h (by omega) (by omega)
    rw [List.drop_zero] at p1
    obtain ⟨P, hP⟩ : ∃ P, plainA (cellsL (fr W.l) w h) (LA.zero 40) = P := ⟨_, rfl⟩
    rw [hP] at p1 hbits
    have q1 : Ev (fun k => spec_l06Plain.f k s0 s1 W) P := by
      unfold spec_l06Plain.f
      exact Ev.bind ha p1
    have i1 := okLoop_ev C P
    have i2 := isIn_ev C s0 s1 W hb w h (by omega) (by omega) e0 e1
    have same : (RRe (fun d => RRe (fun y => decide (Go.bits .andNot .u16 (rd C.l ((d : Int) * 10 + (y : Int))) (rd P.l ((d : Int) * 10 + (y : Int))) = 0)) true 10 0) true 4 0) = (RRe (fun d => RRe (fun y => RRe (fun x => !bitB (rd C.l ((d : Int) * 10 + (y : Int))) x || freeB W.l w h x y) true 16 0) true 10 0) true 4 0) := by
      refine RRe_congr true 4 0 (fun d _ hd => RRe_congr true 10 0 (fun y _ hy => ?_))
      obtain ⟨n, hn, hlt, ht⟩ := hbits d y (by omega) (by omega)
      obtain ⟨m, hmm⟩ : ∃ m : Nat, rd C.l ((d : Int) * 10 + (y : Int)) = m := ⟨(rd C.l ((d : Int) * 10 + (y : Int))).toNat, by have := (hc ((d : Int) * 10 + (y : Int))).1; omega⟩
      have hmlt : m < 2 ^ 16 := by have := (hc ((d : Int) * 10 + (y : Int))).2; omega
      rw [hn, hmm]
      rw [Bool.eq_iff_iff, decide_eq_true_iff, andNot_zero m n hmlt hlt, RRe_true]
      constructor
      · intro hall x _ hx
        by_cases hbx : m.testBit x = true
        · have hf := hall x (by omega) hbx
          rw [ht x] at hf
          rw [show freeB W.l w h x y = true from hf, Bool.or_true]
        · have : bitB (m : Int) x = false := decide_eq_false (fun hh' => hbx ((bit16 m hmlt x (by omega)).1 hh'))
          rw [this]
          rfl
      · intro hall x hx hbx
        have hx2 := hall x (by omega) (by omega)
        have : bitB (m : Int) x = true := decide_eq_true ((bit16 m hmlt x hx).2 hbx)
        rw [this, Bool.not_true, Bool.false_or] at hx2
        rw [ht x]
        exact hx2
    refine ⟨_, ?_, Ev.eq ?_ same.symm, fun hr => ?_⟩
    rotate_left
    · unfold impl_ValidCrowd.f
      refine Ev.bind h2 ?_
      exact Ev.pos rfl (Ev.bind i2 (Ev.now _))
    · rw [same] at hr
      refine ⟨w, h, e0, e1, by omega, by omega, fun x y d hx hy hd hbit => ?_⟩
      have r1 := (RRe_true _ 4 0).1 hr d (by omega) (by omega)
      have r2 := (RRe_true _ 10 0).1 r1 y (by omega) (by omega)
      have r3 := (RRe_true _ 16 0).1 r2 x (by omega) (by omega)
      have hb2 : bitB (rd C.l ((d : Int) * 10 + (y : Int))) x = true := by
        unfold hasA at hbit
        unfold bitB
        simpa using hbit
      rw [hb2, Bool.not_true, Bool.false_or] at r3
      exact r3
    · unfold spec_l06Ok.f
      exact Ev.bind h1 (Ev.pos rfl (Ev.bind q1 i1))
end Go.Proofs.YtdedijjbdkoekaaDoor.Q
end
section
namespace Go.Proofs.YtdedijjbdkoekaaDoor.Q
open Go.RowKit Go.Proofs.YtdedijjbdkoekaaDoorW.PrintWords Go.Proofs.YtdedijjbdkoekaaDoorW.PrintLast Go.Proofs.YtdedijjbdkoekaaDoorW.PrintMore Go.Proofs.YtdedijjbdkoekaaDoor.La Go.Proofs.YtdedijjbdkoekaaDoor.PB
set_option linter.unusedVariables false
set_option linter.unusedSimpArgs false
def nx (x y d : Int) : Int × Int := if d = 0 then (x, y - 1) else if d = 1 then (x + 1, y) else if d = 2 then (x, y + 1) else if d = 3 then (x - 1, y) else (x, y)
theorem i8_id (a : Int) (h0 : -128 ≤ a) (h1 : a ≤ 127) : IntKind.i8.wrap a = a := by
  simp [IntKind.wrap, IntKind.bits, IntKind.signed]
  split <;> omega
theorem Next_s (x y d : Int) (hx : 0 ≤ x ∧ x < 10) (hy : 0 ≤ y ∧ y < 10) : spec_l01Next.f x y d = some (nx x y d) := by
  unfold spec_l01Next.f nx
  rw [i8_id (y - 1) (by omega) (by omega), i8_id (x + 1) (by omega) (by omega), i8_id (y + 1) (by omega) (by omega), i8_id (x - 1) (by omega) (by omega)]
  (repeat' split) <;> rfl
theorem Next_i (x y d : Int) (hx : 0 ≤ x ∧ x < 10) (hy : 0 ≤ y ∧ y < 10) : impl_NextSpot.f x y d = some (nx x y d) := by
  unfold impl_NextSpot.f nx
  rw [i8_id (y - 1) (by omega) (by omega), i8_id (x + 1) (by omega) (by omega), i8_id (y + 1) (by omega) (by omega), i8_id (x - 1) (by omega) (by omega)]
  (repeat' split) <;> rfl
theorem nx_bound (x y d : Int) (hx : 0 ≤ x ∧ x < 10) (hy : 0 ≤ y ∧ y < 10) : (-128 ≤ (nx x y d).1 ∧ (nx x y d).1 ≤ 127) ∧ (-128 ≤ (nx x y d).2 ∧ (nx x y d).2 ≤ 127) := by
  unfold nx
  (repeat' split) <;> (dsimp only; omega)
def mv (s0 s1 : Int) (W : LA 10) (m : Int) (p : Nat × Nat × Nat) : Option (Nat × Nat × Nat) :=
  if m = 102 then (if frC s0 s1 W (nx p.1 p.2.1 p.2.2).1 (nx p.1 p.2.1 p.2.2).2 then some ((nx p.1 p.2.1 p.2.2).1.toNat, (nx p.1 p.2.1 p.2.2).2.toNat, p.2.2) else none)
  else if m = 98 then (if frC s0 s1 W (nx p.1 p.2.1 p.2.2).1 (nx p.1 p.2.1 p.2.2).2 then none else some p)
  else if m = 108 then some (p.1, p.2.1, (p.2.2 + 3) % 4) else if m = 114 then some (p.1, p.2.1, (p.2.2 + 1) % 4) else some p
theorem frC_nat {s0 s1 : Int} {W : LA 10} {a b : Int} (h0 : s0 ≤ 10) (h1 : s1 ≤ 10) (h : frC s0 s1 W a b = true) : (0 ≤ a ∧ a < 10) ∧ (0 ≤ b ∧ b < 10) := by
  unfold frC at h
  simp only [Bool.and_eq_true] at h
  have := isC_bounds h.1
  omega
theorem mv_inR (s0 s1 : Int) (W : LA 10) (h0 : s0 ≤ 10) (h1 : s1 ≤ 10) (m : Int) (p q : Nat × Nat × Nat) (hp : inR p) (h : mv s0 s1 W m p = some q) : inR q := by
  obtain ⟨p1, p2, p3⟩ := hp
  unfold mv at h
  split at h
  · split at h
    · rename_i hf
      have := frC_nat h0 h1 hf
      obtain rfl := Option.some.inj h
      refine ⟨?_, ?_, p3⟩
      · show (nx p.1 p.2.1 p.2.2).1.toNat < 10
        omega
      · show (nx p.1 p.2.1 p.2.2).2.toNat < 10
        omega
    · cases h
  · split at h
    · split at h
      · cases h
      · obtain rfl := Option.some.inj h
        exact ⟨p1, p2, p3⟩
    · split at h
      · obtain rfl := Option.some.inj h
        exact ⟨p1, p2, Nat.mod_lt _ (by omega)⟩
      · split at h
        · obtain rfl := Option.some.inj h
          exact ⟨p1, p2, Nat.mod_lt _ (by omega)⟩
        · obtain rfl := Option.some.inj h
          exact ⟨p1, p2, p3⟩
theorem mv_free (s0 s1 : Int) (W : LA 10) (h0 : s0 ≤ 10) (h1 : s1 ≤ 10) (m : Int) (p q : Nat × Nat × Nat) (hp : frC s0 s1 W (p.1 : Int) (p.2.1 : Int) = true) (h : mv s0 s1 W m p = some q) : frC s0 s1 W (q.1 : Int) (q.2.1 : Int) = true := by
  unfold mv at h
  split at h
  · split at h
    · rename_i hf
      have := frC_nat h0 h1 hf
      obtain rfl := Option.some.inj h
      show frC s0 s1 W (((nx p.1 p.2.1 p.2.2).1.toNat : Nat) : Int) (((nx p.1 p.2.1 p.2.2).2.toNat : Nat) : Int) = true
      rw [Int.toNat_of_nonneg (by omega), Int.toNat_of_nonneg (by omega)]
      exact hf
    · cases h
  · split at h
    · split at h
      · cases h
      · obtain rfl := Option.some.inj h
        exact hp
    · split at h
      · obtain rfl := Option.some.inj h
        exact hp
      · split at h
        · obtain rfl := Option.some.inj h
          exact hp
        · obtain rfl := Option.some.inj h
          exact hp
theorem side3 (d : Nat) (h : d < 4) : Int.tmod (wrap64 ((d : Int) + 3)) 4 = (((d + 3) % 4 : Nat) : Int) := by
  rw [wint _ (by omega) (by omega), Int.tmod_eq_emod_of_nonneg (by omega)]
  omega
theorem side1 (d : Nat) (h : d < 4) : Int.tmod (wrap64 ((d : Int) + 1)) 4 = (((d + 1) % 4 : Nat) : Int) := by
  rw [wint _ (by omega) (by omega), Int.tmod_eq_emod_of_nonneg (by omega)]
  omega
theorem Can_s (s0 s1 : Int) (W : LA 10) (hb : ∀ i, 0 ≤ rd W.l i ∧ rd W.l i < 65536) (h0 : 1 ≤ s0 ∧ s0 ≤ 10) (h1 : 1 ≤ s1 ∧ s1 ≤ 10) (m : Int) (p : Nat × Nat × Nat) (hp : inR p) : spec_l06Can.f s0 s1 W (p.1 : Int) (p.2.1 : Int) (p.2.2 : Int) m = some ((mv s0 s1 W m p).isSome) := by
  obtain ⟨p1, p2, p3⟩ := hp
  obtain ⟨b1, b2⟩ := nx_bound (p.1 : Int) (p.2.1 : Int) (p.2.2 : Int) (by omega) (by omega)
  unfold spec_l06Can.f mv
  rw [Next_s _ _ _ (by omega) (by omega)]
  simp only [Option.bind_some]
  generalize nx (p.1 : Int) (p.2.1 : Int) (p.2.2 : Int) = a at b1 b2 ⊢
  rw [Is_s s0 s1 W h0 h1 _ _ b1 b2, Fr_s s0 s1 W hb h0 h1 _ _ b1 b2]
  simp only [Option.bind_some]
  have hfi : isC s0 s1 a.1 a.2 = false → frC s0 s1 W a.1 a.2 = false := fun h => by unfold frC; rw [h]; rfl
  by_cases m1 : m = 102
  · subst m1
    cases hi : isC s0 s1 a.1 a.2 with
    | false => rw [hfi hi]; rfl
    | true => cases frC s0 s1 W a.1 a.2 <;> rfl
  · by_cases m2 : m = 98
    · subst m2
      cases hi : isC s0 s1 a.1 a.2 with
      | false => rw [hfi hi]; rfl
      | true => cases frC s0 s1 W a.1 a.2 <;> rfl
    · have e : ∀ b : Bool, (if m = 102 then (some (b == (m == 102))) else (if m = 98 then (some (b == (m == 102))) else (some true))) = some true := fun b => by rw [if_neg m1, if_neg m2]
      rw [e, e]
      simp only [m1, m2, if_false]
      cases isC s0 s1 a.1 a.2 <;> (simp only [Bool.false_eq_true, if_false, if_true]; (repeat' split) <;> rfl)
theorem Made_s (s0 s1 : Int) (W : LA 10) (h0 : 1 ≤ s0 ∧ s0 ≤ 10) (h1 : 1 ≤ s1 ∧ s1 ≤ 10) (m : Int) (p q : Nat × Nat × Nat) (hp : inR p) (hq : mv s0 s1 W m p = some q) : spec_l06Made.f (p.1 : Int) (p.2.1 : Int) (p.2.2 : Int) m = some ((q.1 : Int), (q.2.1 : Int), (q.2.2 : Int)) := by
  obtain ⟨p1, p2, p3⟩ := hp
  unfold spec_l06Made.f
  unfold mv at hq
  rw [Next_s _ _ _ (by omega) (by omega), side3 _ p3, side1 _ p3]
  simp only [Option.bind_some]
  by_cases m1 : m = 102
  · rw [if_pos m1] at hq ⊢
    split at hq
    · rename_i hf
      have := frC_nat h0.2 h1.2 hf
      obtain rfl := Option.some.inj hq
      dsimp only
      rw [Int.toNat_of_nonneg (by omega), Int.toNat_of_nonneg (by omega)]
    · cases hq
  · rw [if_neg m1] at hq ⊢
    by_cases m2 : m = 98
    · rw [if_pos m2] at hq
      subst m2
      rw [if_neg (by decide), if_neg (by decide)]
      split at hq
      · cases hq
      · obtain rfl := Option.some.inj hq
        rfl
    · rw [if_neg m2] at hq
      by_cases m3 : m = 108
      · rw [if_pos m3] at hq ⊢
        obtain rfl := Option.some.inj hq
        rfl
      · rw [if_neg m3] at hq ⊢
        by_cases m4 : m = 114
        · rw [if_pos m4] at hq ⊢
          obtain rfl := Option.some.inj hq
          rfl
        · rw [if_neg m4] at hq ⊢
          obtain rfl := Option.some.inj hq
          rfl
theorem put_crow_s (S : List (Nat × Nat × Nat)) (q : Nat × Nat × Nat) (hq : inR q) : spec_l06Put.f (crow S) (q.1 : Int) (q.2.1 : Int) (q.2.2 : Int) = some (crow (S ++ [q])) := by
  obtain ⟨q1, q2, q3⟩ := hq
  rw [crow_snoc, putA_s _ _ _ _ (by omega) (by omega) (by omega)]
theorem put_crow_i (S : List (Nat × Nat × Nat)) (q : Nat × Nat × Nat) (hq : inR q) : impl_Crowd_set.f (crow S) (q.1 : Int) (q.2.1 : Int) (q.2.2 : Int) = some (crow (S ++ [q])) := by
  obtain ⟨q1, q2, q3⟩ := hq
  rw [crow_snoc, putA_i _ _ _ _ (by omega) (by omega) (by omega)]
def opt (s0 s1 : Int) (W : LA 10) (C : LA 40) (m : Int) (p : Nat × Nat × Nat) : Option (Nat × Nat × Nat) := if hasA C (p.1 : Int) (p.2.1 : Int) (p.2.2 : Int) then mv s0 s1 W m p else none
def genS (s0 s1 : Int) (W : LA 10) (C : LA 40) (m : Int) (x y : Nat) : Nat → Nat → List (Nat × Nat × Nat)
  | _, 0 => []
  | d, n + 1 => (opt s0 s1 W C m (x, y, d)).toList ++ genS s0 s1 W C m x y (d + 1) n
def genK (s0 s1 : Int) (W : LA 10) (C : LA 40) (m : Int) : Nat → Nat → List (Nat × Nat × Nat)
  | _, 0 => []
  | k, n + 1 => genS s0 s1 W C m (k % 10) (k / 10) 0 4 ++ genK s0 s1 W C m (k + 1) n
theorem mem_genS (s0 s1 : Int) (W : LA 10) (C : LA 40) (m : Int) (x y : Nat) (p : Nat × Nat × Nat) : ∀ n d, p ∈ genS s0 s1 W C m x y d n ↔ ∃ e, d ≤ e ∧ e < d + n ∧ opt s0 s1 W C m (x, y, e) = some p
  | 0, d => ⟨fun h => absurd h (by simp [genS]), fun ⟨e, h1, h2, _⟩ => by omega⟩
  | n + 1, d => by
    rw [genS, List.mem_append, mem_genS s0 s1 W C m x y p n (d + 1), Option.mem_toList]
    constructor
    · rintro (h | ⟨e, h1, h2, h3⟩)
      · exact ⟨d, by omega, by omega, h⟩
      · exact ⟨e, by omega, by omega, h3⟩
    · rintro ⟨e, h1, h2, h3⟩
      by_cases he : e = d
      · subst he; exact .inl h3
      · exact .inr ⟨e, by omega, by omega, h3⟩
theorem mem_genK (s0 s1 : Int) (W : LA 10) (C : LA 40) (m : Int) (p : Nat × Nat × Nat) : ∀ n k, p ∈ genK s0 s1 W C m k n ↔ ∃ j, k ≤ j ∧ j < k + n ∧ ∃ e, e < 4 ∧ opt s0 s1 W C m (j % 10, j / 10, e) = some p
  | 0, k => ⟨fun h => absurd h (by simp [genK]), fun ⟨e, h1, h2, _⟩ => by omega⟩
  | n + 1, k => by
    rw [genK, List.mem_append, mem_genK s0 s1 W C m p n (k + 1), mem_genS]
    constructor
    · rintro (⟨e, h1, h2, h3⟩ | ⟨j, h1, h2, h3⟩)
      · exact ⟨k, by omega, by omega, e, by omega, h3⟩
      · exact ⟨j, by omega, by omega, h3⟩
    · rintro ⟨j, h1, h2, e, h3, h4⟩
      by_cases he : j = k
      · subst he; exact .inl ⟨e, by omega, by omega, h4⟩
      · exact .inr ⟨j, by omega, by omega, e, h3, h4⟩
theorem opt_inR (s0 s1 : Int) (W : LA 10) (h0 : 1 ≤ s0 ∧ s0 ≤ 10) (h1 : 1 ≤ s1 ∧ s1 ≤ 10) (C : LA 40) (m : Int) (p q : Nat × Nat × Nat) (hp : inR p) (h : opt s0 s1 W C m p = some q) : inR q := by
  unfold opt at h
  split at h
  · exact mv_inR s0 s1 W h0.2 h1.2 m p q hp h
  · cases h
def moveA (s0 s1 : Int) (W : LA 10) (C : LA 40) (m : Int) : LA 40 := crow (genK s0 s1 W C m 0 100)
theorem genK_inR (s0 s1 : Int) (W : LA 10) (h0 : 1 ≤ s0 ∧ s0 ≤ 10) (h1 : 1 ≤ s1 ∧ s1 ≤ 10) (C : LA 40) (m : Int) : ∀ p ∈ genK s0 s1 W C m 0 100, inR p := fun p hp => by
  obtain ⟨j, _, h2, e, h3, h4⟩ := (mem_genK s0 s1 W C m p 100 0).1 hp
  exact opt_inR s0 s1 W h0 h1 C m _ p ⟨Nat.mod_lt _ (by omega), by show j / 10 < 10; omega, h3⟩ h4
theorem mem_moveA (s0 s1 : Int) (W : LA 10) (C : LA 40) (m : Int) (p : Nat × Nat × Nat) : p ∈ genK s0 s1 W C m 0 100 ↔ ∃ q, inR q ∧ opt s0 s1 W C m q = some p := by
  rw [mem_genK]
  constructor
  · rintro ⟨j, _, h2, e, h3, h4⟩
    exact ⟨_, ⟨Nat.mod_lt _ (by omega), by show j / 10 < 10; omega, h3⟩, h4⟩
  · rintro ⟨⟨x, y, d⟩, ⟨hx, hy, hd⟩, h⟩
    have hx' : x < 10 := hx
    have hy' : y < 10 := hy
    refine ⟨y * 10 + x, by omega, by omega, d, hd, ?_⟩
    rw [show (y * 10 + x) % 10 = x by omega, show (y * 10 + x) / 10 = y by omega]
    exact h
theorem Move_s (s0 s1 : Int) (W : LA 10) (hb : ∀ i, 0 ≤ rd W.l i ∧ rd W.l i < 65536) (h0 : 1 ≤ s0 ∧ s0 ≤ 10) (h1 : 1 ≤ s1 ∧ s1 ≤ 10) (C : LA 40) (m : Int) : Ev (fun k => spec_l06Move.f k s0 s1 W C m) (moveA s0 s1 W C m) := by
  show Ev (fun k => spec_l06Move.l0 k m 0 s0 s1 W C (LA.zero 40)) _
  have key : ∀ (n k : Nat) (S : List (Nat × Nat × Nat)), k + n = 100 → Ev (fun z => spec_l06Move.l0 z m (k : Int) s0 s1 W C (crow S)) (crow (S ++ genK s0 s1 W C m k n)) := by
    intro n
    induction n with
    | zero =>
      intro k S hk
      refine Ev.succ ?_
      simp only [spec_l06Move.l0]
      refine Ev.neg (by omega) ?_
      rw [genK, List.append_nil]
      exact Ev.now _
    | succ n ih =>
      intro k S hk
      refine Ev.succ ?_
      simp only [spec_l06Move.l0]
      refine Ev.pos (by omega) ?_
      have inner : ∀ (i d : Nat) (S : List (Nat × Nat × Nat)), d + i = 4 → Ev (fun z => spec_l06Move.l1 z m (k : Int) (d : Int) s0 s1 W C (crow S)) (crow (S ++ genS s0 s1 W C m (k % 10) (k / 10) d i ++ genK s0 s1 W C m (k + 1) n)) := by
        intro i
        induction i with
        | zero =>
          intro d S hd
          refine Ev.succ ?_
          simp only [spec_l06Move.l1]
          rw [wnat k 100 (by omega) (by omega), genS, List.append_nil]
          exact Ev.neg (by omega) (ih (k + 1) S (by omega))
        | succ i ihi =>
          intro d S hd
          have hin : inR (k % 10, k / 10, d) := ⟨Nat.mod_lt _ (by omega), by show k / 10 < 10; omega, by show d < 4; omega⟩
          refine Ev.succ ?_
          simp only [spec_l06Move.l1]
          refine Ev.pos (by omega) ?_
          rw [spot_s k (by omega)]
          refine Ev.bind (Ev.now _) ?_
          rw [has_s C _ _ (d : Int) ⟨by omega, by omega⟩ ⟨by omega, by omega⟩ ⟨by omega, by omega⟩]
          refine Ev.bind (Ev.now _) ?_
          have wd := wnat d 4 (by omega) (by omega)
          have skip : opt s0 s1 W C m (k % 10, k / 10, d) = none → Ev (fun z => spec_l06Move.j2 z m (k : Int) (d : Int) false s0 s1 W C (crow S) ((k % 10 : Nat) : Int) ((k / 10 : Nat) : Int)) (crow (S ++ genS s0 s1 W C m (k % 10) (k / 10) d (i + 1) ++ genK s0 s1 W C m (k + 1) n)) := fun ho => by
            refine Ev.succ ?_
            simp only [spec_l06Move.j2]
            rw [wd, genS, ho]
            exact Ev.neg Bool.false_ne_true (ihi (d + 1) S (by omega))
          cases hh : hasA C ((k % 10 : Nat) : Int) ((k / 10 : Nat) : Int) (d : Int) with
          | false => exact Ev.neg Bool.false_ne_true (skip (by unfold opt; dsimp only; rw [hh]; rfl))
          | true =>
            refine Ev.pos rfl ?_
            have hc := Can_s s0 s1 W hb h0 h1 m (k % 10, k / 10, d) hin
            have ho : opt s0 s1 W C m (k % 10, k / 10, d) = mv s0 s1 W m (k % 10, k / 10, d) := by unfold opt; dsimp only; rw [hh]; rfl
            cases hm : mv s0 s1 W m (k % 10, k / 10, d) with
            | none =>
              rw [hm] at hc ho
              exact Ev.bind (Ev.const hc) (skip ho)
            | some q =>
              rw [hm] at hc
              refine Ev.bind (Ev.const hc) ?_
              have hmd := Made_s s0 s1 W h0 h1 m (k % 10, k / 10, d) q hin hm
              have hq := mv_inR s0 s1 W h0.2 h1.2 m _ q hin hm
              refine Ev.succ ?_
              simp only [spec_l06Move.j2]
              refine Ev.pos rfl (Ev.bind (Ev.const hmd) ?_)
              dsimp only
              rw [put_crow_s S q hq, wd]
              refine Ev.bind (Ev.now _) ?_
              rw [genS, ho, hm]
              have := ihi (d + 1) (S ++ [q]) (by omega)
              simpa using this
      have := inner 4 0 S rfl
      rw [genK, ← List.append_assoc]
      exact this
  have := key 100 0 [] rfl
  exact this
def genF (s0 s1 : Int) (W : LA 10) (C : LA 40) (m : Int) : List S41 → List (Nat × Nat × Nat)
  | [] => []
  | q :: F => genS s0 s1 W C m q.f0.toNat q.f1.toNat 0 4 ++ genF s0 s1 W C m F
theorem mem_genF (s0 s1 : Int) (W : LA 10) (C : LA 40) (m : Int) (p : Nat × Nat × Nat) : ∀ F : List S41, p ∈ genF s0 s1 W C m F ↔ ∃ q, q ∈ F ∧ ∃ e, e < 4 ∧ opt s0 s1 W C m (q.f0.toNat, q.f1.toNat, e) = some p
  | [] => ⟨fun h => absurd h (by simp [genF]), fun ⟨q, h, _⟩ => absurd h (by simp)⟩
  | q :: F => by
    rw [genF, List.mem_append, mem_genF s0 s1 W C m p F, mem_genS]
    constructor
    · rintro (⟨e, h1, h2, h3⟩ | ⟨r, h1, h2⟩)
      · exact ⟨q, by simp, e, by omega, h3⟩
      · exact ⟨r, by simp [h1], h2⟩
    · rintro ⟨r, hr, e, h1, h2⟩
      rcases List.mem_cons.1 hr with rfl | hr
      · exact .inl ⟨e, by omega, by omega, h2⟩
      · exact .inr ⟨r, hr, e, h1, h2⟩
def isL (m : Int) : Prop := m = 98 ∨ m = 102 ∨ m = 108 ∨ m = 114
theorem Moved_F (s0 s1 : Int) (W : LA 10) (hb : ∀ i, 0 ≤ rd W.l i ∧ rd W.l i < 65536) (h0 : 1 ≤ s0 ∧ s0 ≤ 10) (h1 : 1 ≤ s1 ∧ s1 ≤ 10) (C : LA 40) (m : Int) (hm : isL m) (F : List S41) (hF : F.length ≤ 1000) (hin : ∀ q ∈ F, (0 ≤ q.f0 ∧ q.f0 < 10) ∧ (0 ≤ q.f1 ∧ q.f1 < 10)) :
    ∀ (n i : Nat) (S : List (Nat × Nat × Nat)), i + n = F.length → Ev (fun z => impl_Crowd_moved.l0 z m F (F.length : Int) (i : Int) C s0 s1 W (crow S)) (crow (S ++ genF s0 s1 W C m (F.drop i))) := by
  intro n
  induction n with
  | zero =>
    intro i S hi
    obtain rfl : i = F.length := by omega
    rw [List.drop_length, genF, List.append_nil]
    refine Ev.succ ?_
    simp only [impl_Crowd_moved.l0]
    exact Ev.neg (by omega) (Ev.now _)
  | succ n ih =>
    intro i S hi
    have hiF : i < F.length := by omega
    have hq := hin _ (getD_mem F i z41 hiF)
    refine Ev.succ ?_
    simp only [impl_Crowd_moved.l0]
    refine Ev.pos (by omega) (Ev.pos (by omega) (Ev.pos (by omega) ?_))
    rw [rdT_get, drop_get F i z41 hiF, genF]
    obtain ⟨x, hx⟩ : ∃ x : Nat, (F.getD i z41).f0 = x := ⟨_, (Int.toNat_of_nonneg hq.1.1).symm⟩
    obtain ⟨y, hy⟩ : ∃ y : Nat, (F.getD i z41).f1 = y := ⟨_, (Int.toNat_of_nonneg hq.2.1).symm⟩
    rw [hx, hy] at hq ⊢
    rw [Int.toNat_natCast, Int.toNat_natCast]
    have inner : ∀ (j d : Nat) (S : List (Nat × Nat × Nat)), d + j = 4 → Ev (fun z => impl_Crowd_moved.l1 z m F (F.length : Int) (i : Int) (d : Int) C s0 s1 W (crow S) (x : Int) (y : Int)) (crow (S ++ genS s0 s1 W C m x y d j ++ genF s0 s1 W C m (F.drop (i + 1)))) := by
      intro j
      induction j with
      | zero =>
        intro d S hd
        refine Ev.succ ?_
        simp only [impl_Crowd_moved.l1]
        rw [wnat i 1000 (by omega) (by omega), genS, List.append_nil]
        exact Ev.neg (by omega) (ih (i + 1) S (by omega))
      | succ j ihj =>
        intro d S hd
        have hd4 : d < 4 := by omega
        have hd0 : 0 ≤ (d : Int) ∧ (d : Int) < 4 := by omega
        have hp : inR (x, y, d) := ⟨by show x < 10; omega, by show y < 10; omega, hd4⟩
        have wd := wnat d 4 hd4 (by omega)
        have skip : opt s0 s1 W C m (x, y, d) = none → Ev (fun z => impl_Crowd_moved.l1 z m F (F.length : Int) (i : Int) (wrap64 ((d : Int) + 1)) C s0 s1 W (crow S) (x : Int) (y : Int)) (crow (S ++ genS s0 s1 W C m x y d (j + 1) ++ genF s0 s1 W C m (F.drop (i + 1)))) := fun ho => by
          rw [wd, genS, ho]
          exact ihj (d + 1) S (by omega)
        have take : ∀ q, opt s0 s1 W C m (x, y, d) = some q → Ev (fun z => impl_Crowd_moved.l1 z m F (F.length : Int) (i : Int) (wrap64 ((d : Int) + 1)) C s0 s1 W (crow (S ++ [q])) (x : Int) (y : Int)) (crow (S ++ genS s0 s1 W C m x y d (j + 1) ++ genF s0 s1 W C m (F.drop (i + 1)))) := fun q ho => by
          rw [wd, genS, ho]
          have := ihj (d + 1) (S ++ [q]) (by omega)
          simpa using this
        refine Ev.succ ?_
        simp only [impl_Crowd_moved.l1]
        refine Ev.pos hd0.2 ?_
        rw [has_i C _ _ (d : Int) hq.1 hq.2 hd0]
        refine Ev.bind (Ev.now _) ?_
        cases hh : hasA C (x : Int) (y : Int) (d : Int) with
        | false => exact Ev.neg Bool.false_ne_true (skip (by unfold opt; dsimp only; rw [hh]; rfl))
        | true =>
          refine Ev.pos rfl ?_
          have ho : opt s0 s1 W C m (x, y, d) = mv s0 s1 W m (x, y, d) := by unfold opt; dsimp only; rw [hh]; rfl
          rw [ho] at skip take
          have hb2 := nx_bound (x : Int) (y : Int) (d : Int) hq.1 hq.2
          rw [Next_i _ _ _ hq.1 hq.2]
          refine Ev.bind (Ev.now _) ?_
          have hfr := Fr_i s0 s1 W hb h0 h1 _ _ hb2.1 hb2.2
          have pc := put_crow_i S (x, y, d) hp
          dsimp only at pc
          rcases hm with rfl | rfl | rfl | rfl
          · refine Ev.neg (by decide) (Ev.neg (by decide) (Ev.neg (by decide) ?_))
            refine Ev.succ ?_
            simp only [impl_Crowd_moved.j2]
            rw [hfr, pc]
            refine Ev.neg Bool.false_ne_true (Ev.pos (by trivial) (Ev.bind (Ev.now _) ?_))
            cases hf : frC s0 s1 W (nx (x : Int) (y : Int) (d : Int)).1 (nx (x : Int) (y : Int) (d : Int)).2 with
            | true => exact Ev.pos rfl (skip (by unfold mv; dsimp only; rw [hf]; rfl))
            | false => exact Ev.neg Bool.false_ne_true (Ev.bind (Ev.now _) (take _ (by unfold mv; dsimp only; rw [hf]; rfl)))
          · refine Ev.neg (by decide) (Ev.neg (by decide) (Ev.pos (by trivial) ?_))
            rw [hfr]
            refine Ev.bind (Ev.now _) ?_
            refine Ev.succ ?_
            simp only [impl_Crowd_moved.j2]
            cases hf : frC s0 s1 W (nx (x : Int) (y : Int) (d : Int)).1 (nx (x : Int) (y : Int) (d : Int)).2 with
            | true =>
              have hn := frC_nat h0.2 h1.2 hf
              have hq2 : inR ((nx (x : Int) (y : Int) (d : Int)).1.toNat, (nx (x : Int) (y : Int) (d : Int)).2.toNat, d) := ⟨by show (nx (x : Int) (y : Int) (d : Int)).1.toNat < 10; omega, by show (nx (x : Int) (y : Int) (d : Int)).2.toNat < 10; omega, hd4⟩
              have pc2 := put_crow_i S _ hq2
              dsimp only at pc2
              rw [Int.toNat_of_nonneg hn.1.1, Int.toNat_of_nonneg hn.2.1] at pc2
              rw [pc2]
              exact Ev.pos rfl (Ev.bind (Ev.now _) (take _ (by unfold mv; dsimp only; rw [hf]; rfl)))
            | false => exact Ev.neg Bool.false_ne_true (Ev.neg (by decide) (skip (by unfold mv; dsimp only; rw [hf]; rfl)))
          · refine Ev.pos (by trivial) ?_
            have pc2 := put_crow_i S (x, y, (d + 3) % 4) ⟨hp.1, hp.2.1, Nat.mod_lt _ (by omega)⟩
            dsimp only at pc2
            rw [side3 d hd4, pc2]
            exact Ev.bind (Ev.now _) (take _ rfl)
          · refine Ev.neg (by decide) (Ev.pos (by trivial) ?_)
            have pc2 := put_crow_i S (x, y, (d + 1) % 4) ⟨hp.1, hp.2.1, Nat.mod_lt _ (by omega)⟩
            dsimp only at pc2
            rw [side1 d hd4, pc2]
            exact Ev.bind (Ev.now _) (take _ rfl)
    have := inner 4 0 S rfl
    rw [List.append_assoc] at this
    exact this
theorem freeB_frC (w h : Nat) (W : LA 10) (x y : Nat) : freeB W.l w h x y = frC (w : Int) (h : Int) W (x : Int) (y : Int) := by
  unfold freeB frC isC inC
  have e1 : decide (0 ≤ (x : Int)) = true := decide_eq_true (by omega)
  have e2 : decide (0 ≤ (y : Int)) = true := decide_eq_true (by omega)
  have e3 : decide ((x : Int) ≤ (w : Int) - 1) = decide (x < w) := decide_eq_decide.2 (by omega)
  have e4 : decide ((y : Int) ≤ (h : Int) - 1) = decide (y < h) := decide_eq_decide.2 (by omega)
  rw [e1, e2, e3, e4, Bool.true_and, Bool.true_and]
theorem free_mem (w h : Nat) (W : LA 10) (x y : Nat) (hf : freeB W.l w h x y = true) : ∃ q ∈ cellsL (fr W.l) w h, q.f0 = (x : Int) ∧ q.f1 = (y : Int) := by
  have h1 := cells_any (fr W.l) w x y h
  have h2 : (decide (x < w) && decide (y < h) && fr W.l (x : Int) (y : Int)) = true := hf
  rw [h2, List.any_eq_true] at h1
  obtain ⟨q, hq, e⟩ := h1
  simp only [Bool.and_eq_true, decide_eq_true_eq] at e
  exact ⟨q, hq, e.1, e.2⟩
theorem Moved_i (w h : Nat) (W : LA 10) (hb : ∀ i, 0 ≤ rd W.l i ∧ rd W.l i < 65536) (hw : 1 ≤ w ∧ w ≤ 10) (hh : 1 ≤ h ∧ h ≤ 10) (C : LA 40) (hv : VA w h W C) (m : Int) (hm : isL m) : Ev (fun k => impl_Crowd_moved.f k C (w : Int) (h : Int) W m) (moveA (w : Int) (h : Int) W C m) := by
  have hi := All_i (w : Int) (h : Int) W hb w h (by omega) (by omega) rfl rfl
  have hlen := cellsL_len (fr W.l) w h
  have hlen2 : w * h ≤ 10 * 10 := Nat.mul_le_mul (by omega) (by omega)
  have hin : ∀ q ∈ cellsL (fr W.l) w h, (0 ≤ q.f0 ∧ q.f0 < 10) ∧ (0 ≤ q.f1 ∧ q.f1 < 10) := fun q hq => by
    have := cellsL_mem (fr W.l) w h h (Nat.le_refl _) q hq
    omega
  have e := Moved_F (w : Int) (h : Int) W hb (by omega) (by omega) C m hm (cellsL (fr W.l) w h) (by omega) hin (cellsL (fr W.l) w h).length 0 [] (by omega)
  rw [List.drop_zero, List.nil_append] at e
  have same : crow (genF (w : Int) (h : Int) W C m (cellsL (fr W.l) w h)) = moveA (w : Int) (h : Int) W C m := by
    unfold moveA
    refine (crow_ext (genK_inR (w : Int) (h : Int) W (by omega) (by omega) C m) fun p => ?_).symm
    rw [mem_moveA (w : Int) (h : Int) W, mem_genF]
    constructor
    · rintro ⟨⟨x, y, d⟩, ⟨hx, hy, hd⟩, ho⟩
      have hx' : x < 10 := hx
      have hh2 : hasA C (x : Int) (y : Int) (d : Int) = true := by
        unfold opt at ho
        dsimp only at ho
        split at ho
        · assumption
        · cases ho
      obtain ⟨q, hq, e1, e2⟩ := free_mem w h W x y (hv x y d (by omega) hy hd hh2)
      refine ⟨q, hq, d, hd, ?_⟩
      rw [e1, e2, Int.toNat_natCast, Int.toNat_natCast]
      exact ho
    · rintro ⟨q, hq, d, hd, ho⟩
      have := hin q hq
      exact ⟨_, ⟨by show q.f0.toNat < 10; omega, by show q.f1.toNat < 10; omega, hd⟩, ho⟩
  unfold impl_Crowd_moved.f
  exact Ev.bind hi (Ev.eq e same)
theorem moveA_VA (w h : Nat) (W : LA 10) (hw : 1 ≤ w ∧ w ≤ 10) (hh : 1 ≤ h ∧ h ≤ 10) (C : LA 40) (hv : VA w h W C) (m : Int) : VA w h W (moveA (w : Int) (h : Int) W C m) := by
  intro x y d hx hy hd hp
  unfold moveA at hp
  rw [crow_has _ (genK_inR (w : Int) (h : Int) W (by omega) (by omega) C m) x y d hx hy hd, decide_eq_true_eq, mem_moveA (w : Int) (h : Int) W] at hp
  obtain ⟨⟨a, b, e⟩, ⟨ha, hb, he⟩, ho⟩ := hp
  have ha' : a < 10 := ha
  unfold opt at ho
  dsimp only at ho
  split at ho
  · rename_i hh2
    have hf := hv a b e (by omega) hb he hh2
    rw [freeB_frC] at hf ⊢
    exact mv_free (w : Int) (h : Int) W (by omega) (by omega) m (a, b, e) (x, y, d) hf ho
  · cases ho
theorem moveA_cb (w h : Nat) (W : LA 10) (hw : 1 ≤ w ∧ w ≤ 10) (hh : 1 ≤ h ∧ h ≤ 10) (C : LA 40) (m : Int) : CB (moveA (w : Int) (h : Int) W C m) := (crow_inv _ (genK_inR (w : Int) (h : Int) W (by omega) (by omega) C m)).cb
end Go.Proofs.YtdedijjbdkoekaaDoor.Q
end
section
namespace Go.Proofs.YtdedijjbdkoekaaDoor.Q
open Go.RowKit Go.Proofs.YtdedijjbdkoekaaDoorW.PrintWords Go.Proofs.YtdedijjbdkoekaaDoorW.PrintLast Go.Proofs.YtdedijjbdkoekaaDoorW.PrintMore Go.Proofs.YtdedijjbdkoekaaDoor.La Go.Proofs.YtdedijjbdkoekaaDoor.PB
set_option linter.unusedVariables false
set_option linter.unusedSimpArgs false
theorem dropWhile_nil (p : UInt8 → Bool) : ∀ l : List UInt8, l.dropWhile p = [] ↔ ∀ b ∈ l, p b = true
  | [] => by simp
  | b :: l => by
    rw [List.dropWhile_cons]
    cases hb : p b with
    | true =>
      simp only [if_true]
      rw [dropWhile_nil p l]
      simp [hb]
    | false => simp [hb]
theorem dropWhile_head (p : UInt8 → Bool) : ∀ (l : List UInt8) (b : UInt8) (t : List UInt8), l.dropWhile p = b :: t → p b = false
  | [], b, t, h => by simp at h
  | c :: l, b, t, h => by
    rw [List.dropWhile_cons] at h
    cases hc : p c with
    | true => rw [hc] at h; exact dropWhile_head p l b t h
    | false =>
      rw [hc] at h
      simp only [Bool.false_eq_true, if_false, List.cons.injEq] at h
      rw [← h.1]
      exact hc
theorem trimS_nil (l cs : List UInt8) : Lib.trimS l cs = [] ↔ ∀ b ∈ l, cs.contains b = true := by
  unfold Lib.trimS Lib.trimLeftS Lib.trimRightS
  constructor
  · intro h
    have h1 := (dropWhile_nil _ _).1 h
    cases hd : l.reverse.dropWhile (cs.contains ·) with
    | nil =>
      intro b hb
      exact (dropWhile_nil _ _).1 hd b (by simpa using hb)
    | cons b t =>
      have h2 := dropWhile_head _ _ _ _ hd
      have h3 := h1 b (by rw [hd]; simp)
      have h4 : cs.contains b = false := h2
      have h5 : cs.contains b = true := h3
      rw [h5] at h4
      cases h4
  · intro h
    have : l.reverse.dropWhile (cs.contains ·) = [] := (dropWhile_nil _ _).2 fun b hb => h b (by simpa using hb)
    rw [this]
    rfl
def isLb (b : UInt8) : Bool := ([98, 102, 108, 114] : List UInt8).contains b
theorem isLb_iff (b : UInt8) : isLb b = true ↔ isL (b.toNat : Int) := by
  unfold isLb isL
  have e : ∀ n : Nat, n < 256 → (b = UInt8.ofNat n ↔ (b.toNat : Int) = n) := fun n hn => by
    constructor
    · rintro rfl
      simp
      omega
    · intro h
      have : b.toNat = n := by omega
      rw [← this]
      simp
  have e1 := e 98 (by omega)
  have e2 := e 102 (by omega)
  have e3 := e 108 (by omega)
  have e4 := e 114 (by omega)
  simp only [List.contains_cons, List.contains_nil, Bool.or_false, Bool.or_eq_true, beq_iff_eq]
  constructor
  · rintro (h | h | h | h)
    · exact .inl (e1.1 h)
    · exact .inr (.inl (e2.1 h))
    · exact .inr (.inr (.inl (e3.1 h)))
    · exact .inr (.inr (.inr (e4.1 h)))
  · rintro (h | h | h | h)
    · exact .inl (e1.2 h)
    · exact .inr (.inl (e2.2 h))
    · exact .inr (.inr (.inl (e3.2 h)))
    · exact .inr (.inr (.inr (e4.2 h)))
theorem Letter_t (v : Int) (h : isL v) : spec_l06Letter.f v = some true := by
  unfold spec_l06Letter.f
  rcases h with rfl | rfl | rfl | rfl <;> rfl
theorem Letter_f (v : Int) (h : ¬ isL v) : spec_l06Letter.f v = some false := by
  unfold spec_l06Letter.f
  unfold isL at h
  rw [if_neg (fun e => h (.inl e)), if_neg (fun e => h (.inr (.inl e))), if_neg (fun e => h (.inr (.inr (.inl e))))]
  congr 1
  rw [beq_eq_false_iff_ne]
  exact fun e => h (.inr (.inr (.inr e)))
theorem bt_get (a : ByteArray) (i : Nat) (h : i < a.data.toList.length) : bt a (i : Int) = ((a.data.toList.getD i 0).toNat : Int) := by
  have hs : ((i : Int)).toNat < a.size := by
    rw [Int.toNat_natCast]
    have := Lib.size_eq a
    omega
  rw [← bt_at a (i : Int) hs]
  simp only [Int.toNat_natCast, List.getD_eq_getElem?_getD, List.getElem?_eq_getElem h, Option.getD_some]
  rfl
theorem size_list (a : ByteArray) : a.size = a.data.toList.length := by have := Lib.size_eq a; omega
def mcode (a : ByteArray) : Int := if (a.size : Int) > 60 then 3 else if a.data.toList.all isLb then 0 else 5
theorem Moves_s (a : ByteArray) : Ev (fun k => spec_l06Moves.f k a) (mcode a) := by
  unfold spec_l06Moves.f mcode
  by_cases hs : (a.size : Int) > 60
  · rw [if_pos hs]
    exact Ev.pos hs (Ev.now _)
  rw [if_neg hs]
  refine Ev.neg hs ?_
  have hl := size_list a
  have key : ∀ n i : Nat, i + n = a.data.toList.length → Ev (fun k => spec_l06Moves.l0 k a (i : Int)) (if (a.data.toList.drop i).all isLb then 0 else 5) := by
    intro n
    induction n with
    | zero =>
      intro i hi
      obtain rfl : i = a.data.toList.length := by omega
      rw [List.drop_length]
      refine Ev.succ ?_
      simp only [spec_l06Moves.l0]
      exact Ev.neg (by omega) (Ev.now _)
    | succ n ih =>
      intro i hi
      refine Ev.succ ?_
      simp only [spec_l06Moves.l0]
      rw [bt_get a i (by omega), drop_get _ i 0 (by omega), List.all_cons, wnat i 100 (by omega) (by omega)]
      refine Ev.pos (by omega) (Ev.pos (by omega) ?_)
      have hi2 := isLb_iff (a.data.toList.getD i 0)
      cases hb : isLb (a.data.toList.getD i 0) with
      | true =>
        rw [Letter_t _ (hi2.1 hb)]
        exact Ev.bind (Ev.now _) (Ev.pos rfl (Ev.eq (ih (i + 1) (by omega)) (by rw [Bool.true_and])))
      | false =>
        rw [Letter_f _ (fun h => by rw [hi2.2 h] at hb; cases hb)]
        exact Ev.bind (Ev.now _) (Ev.neg Bool.false_ne_true (Ev.now _))
  have := key a.data.toList.length 0 (by omega)
  rw [List.drop_zero] at this
  exact this
theorem Moves_i (a : ByteArray) : impl_movesCode.f a = some (mcode a) := by
  unfold impl_movesCode.f mcode
  by_cases hs : (a.size : Int) > 60
  · rw [if_pos hs, if_pos hs]
  rw [if_neg hs, if_neg hs]
  unfold strings_Trim.f
  rw [if_pos ⟨by omega, by decide, by decide⟩]
  simp only [Option.bind_some]
  unfold impl_unless.f
  have hc : (⟨(Lib.trimS a.data.toList [98, 102, 108, 114]).toArray⟩ : ByteArray).toList = Lib.trimS a.data.toList [98, 102, 108, 114] := Lib.toList_data _
  show ((if ((⟨(Lib.trimS a.data.toList [98, 102, 108, 114]).toArray⟩ : ByteArray).toList.isEmpty) = true then some 0 else some 5) : Option Int).bind (fun t => some t) = _
  rw [hc]
  have hn := trimS_nil a.data.toList [98, 102, 108, 114]
  by_cases h : ∀ b ∈ a.data.toList, ([98, 102, 108, 114] : List UInt8).contains b = true
  · rw [hn.2 h, if_pos (show a.data.toList.all isLb = true from List.all_eq_true.2 h)]
    rfl
  · have h2 : ¬ Lib.trimS a.data.toList [98, 102, 108, 114] = [] := fun e => h (hn.1 e)
    rw [if_neg (fun e => h2 (List.isEmpty_iff.1 e)), if_neg (show ¬ a.data.toList.all isLb = true from fun e => h (List.all_eq_true.1 e))]
    rfl
def movesA (s0 s1 : Int) (W : LA 10) : LA 40 → List UInt8 → LA 40
  | C, [] => C
  | C, b :: bs => movesA s0 s1 W (moveA s0 s1 W C (b.toNat : Int)) bs
theorem Moves_ls (s0 s1 : Int) (W : LA 10) (hb : ∀ i, 0 ≤ rd W.l i ∧ rd W.l i < 65536) (h0 : 1 ≤ s0 ∧ s0 ≤ 10) (h1 : 1 ≤ s1 ∧ s1 ≤ 10) (a : ByteArray) (hs : a.data.toList.length ≤ 60) :
    ∀ (n i : Nat) (C : LA 40), i + n = a.data.toList.length → Ev (fun k => spec_MovesCrowd.l0 k a (i : Int) s0 s1 W C) (movesA s0 s1 W C (a.data.toList.drop i), 0) := by
  have hl := size_list a
  intro n
  induction n with
  | zero =>
    intro i C hi
    obtain rfl : i = a.data.toList.length := by omega
    rw [List.drop_length]
    refine Ev.succ ?_
    simp only [spec_MovesCrowd.l0]
    exact Ev.neg (by omega) (Ev.now _)
  | succ n ih =>
    intro i C hi
    refine Ev.succ ?_
    simp only [spec_MovesCrowd.l0]
    rw [bt_get a i (by omega), drop_get _ i 0 (by omega), wnat i 100 (by omega) (by omega)]
    exact Ev.pos (by omega) (Ev.pos (by omega) (Ev.bind (Move_s s0 s1 W hb h0 h1 C _) (ih (i + 1) _ (by omega))))
theorem Moved_ls (w h : Nat) (W : LA 10) (hb : ∀ i, 0 ≤ rd W.l i ∧ rd W.l i < 65536) (hw : 1 ≤ w ∧ w ≤ 10) (hh : 1 ≤ h ∧ h ≤ 10) (a : ByteArray) (hs : a.data.toList.length ≤ 60) (ha : a.data.toList.all isLb = true) :
    ∀ (n i : Nat) (C : LA 40), i + n = a.data.toList.length → VA w h W C → Ev (fun k => impl_Crowd_movedBy.l0 k a (a.size : Int) (i : Int) C (w : Int) (h : Int) W) (movesA (w : Int) (h : Int) W C (a.data.toList.drop i)) := by
  have hl := size_list a
  intro n
  induction n with
  | zero =>
    intro i C hi hv
    obtain rfl : i = a.data.toList.length := by omega
    rw [List.drop_length]
    refine Ev.succ ?_
    simp only [impl_Crowd_movedBy.l0]
    exact Ev.neg (by omega) (Ev.now _)
  | succ n ih =>
    intro i C hi hv
    refine Ev.succ ?_
    simp only [impl_Crowd_movedBy.l0]
    rw [bt_get a i (by omega), drop_get _ i 0 (by omega), wnat i 100 (by omega) (by omega)]
    have hL := (isLb_iff _).1 (List.all_eq_true.1 ha _ (getD_mem a.data.toList i 0 (by omega)))
    exact Ev.pos (by omega) (Ev.pos (by omega) (Ev.pos (by omega) (Ev.bind (Moved_i w h W hb hw hh C hv _ hL) (ih (i + 1) _ (by omega) (moveA_VA w h W hw hh C hv _)))))
theorem Moved_by (w h : Nat) (W : LA 10) (hb : ∀ i, 0 ≤ rd W.l i ∧ rd W.l i < 65536) (hw : 1 ≤ w ∧ w ≤ 10) (hh : 1 ≤ h ∧ h ≤ 10) (a : ByteArray) (hm : mcode a = 0) (C : LA 40) (hv : VA w h W C) : Ev (fun k => impl_Crowd_movedBy.f k C (w : Int) (h : Int) W a) (movesA (w : Int) (h : Int) W C a.data.toList) := by
  have hl := size_list a
  unfold mcode at hm
  split at hm
  · cases hm
  · split at hm
    · rename_i h1 h2
      have := Moved_ls w h W hb hw hh a (by omega) h2 a.data.toList.length 0 C (by omega) hv
      rw [List.drop_zero] at this
      unfold impl_Crowd_movedBy.f
      exact this
    · cases hm
theorem mcode_len (a : ByteArray) (hm : mcode a = 0) : a.data.toList.length ≤ 60 := by
  have hl := size_list a
  unfold mcode at hm
  split at hm
  · cases hm
  · omega
theorem MovesCrowd_val (s0 s1 : Int) (W : LA 10) (C : LA 40) (hr : RB s0 s1 W) (hc : CB C) (a : ByteArray) :
    (Ev (fun k => spec_MovesCrowd.f k s0 s1 W C a) (LA.zero 40, 1) ∧ Ev (fun k => impl_MovesCrowd.f k s0 s1 W C a) (LA.zero 40, 1)) ∨
    (∃ w h : Nat, s0 = w ∧ s1 = h ∧ (1 ≤ w ∧ w ≤ 10) ∧ (1 ≤ h ∧ h ≤ 10) ∧ VA w h W C ∧
      Ev (fun k => spec_MovesCrowd.f k s0 s1 W C a) (if mcode a = 0 then (movesA s0 s1 W C a.data.toList, 0) else (LA.zero 40, mcode a)) ∧ Ev (fun k => impl_MovesCrowd.f k s0 s1 W C a) (if mcode a = 0 then (movesA s0 s1 W C a.data.toList, 0) else (LA.zero 40, mcode a))) := by
  obtain ⟨b, h1, h2, h3⟩ := Valid_core s0 s1 W C hr hc
  cases b with
  | false =>
    refine .inl ⟨?_, ?_⟩
    · unfold spec_MovesCrowd.f
      exact Ev.bind h1 (Ev.neg Bool.false_ne_true (Ev.now _))
    · unfold impl_MovesCrowd.f
      exact Ev.bind h2 (Ev.neg Bool.false_ne_true (Ev.now _))
  | true =>
    obtain ⟨w, h, rfl, rfl, hw, hh, hv⟩ := h3 rfl
    refine .inr ⟨w, h, rfl, rfl, hw, hh, hv, ?_, ?_⟩
    · unfold spec_MovesCrowd.f
      refine Ev.bind h1 (Ev.pos rfl (Ev.bind (Moves_s a) ?_))
      by_cases hm : mcode a = 0
      · rw [if_pos hm]
        refine Ev.pos hm ?_
        have := Moves_ls (w : Int) (h : Int) W hr.2.2 (by omega) (by omega) a (mcode_len a hm) a.data.toList.length 0 C (by omega)
        rw [List.drop_zero] at this
        exact this
      · rw [if_neg hm]
        exact Ev.neg hm (Ev.now _)
    · unfold impl_MovesCrowd.f
      rw [Moves_i a]
      refine Ev.bind h2 (Ev.pos rfl (Ev.bind (Ev.now _) ?_))
      by_cases hm : mcode a = 0
      · rw [if_pos hm]
        exact Ev.pos hm (Ev.bind (Moved_by w h W hr.2.2 hw hh a hm C hv) (Ev.now _))
      · rw [if_neg hm]
        exact Ev.neg hm (Ev.now _)
end Go.Proofs.YtdedijjbdkoekaaDoor.Q
end
section
namespace Go.Proofs.YtdedijjbdkoekaaDoor.Q
open Go.RowKit Go.Proofs.YtdedijjbdkoekaaDoorW.PrintWords Go.Proofs.YtdedijjbdkoekaaDoorW.PrintLast Go.Proofs.YtdedijjbdkoekaaDoorW.PrintMore Go.Proofs.YtdedijjbdkoekaaDoor.La Go.Proofs.YtdedijjbdkoekaaDoor.PB
set_option linter.unusedVariables false
set_option linter.unusedSimpArgs false
set_option maxRecDepth 100000 in
theorem pop_table : ∀ m : Fin 1024, bits_OnesCount16.f ((m.val : Nat) : Int) = some (sumN (fun x => bitV ((m.val : Nat) : Int) x) 10) := by decide +kernel
theorem pop_v {v : Int} (h₀ : 0 ≤ v) (h₁ : v < 65536) : bits_OnesCount16.f (Go.bits .and .u16 v 1023) = some (sumN (bitV v) 10) := by
  rw [u16_and1023 h₀ h₁]
  have h := pop_table ⟨(v % 1024).toNat, by omega⟩
  simp only [Int.toNat_of_nonneg (show 0 ≤ v % 1024 by omega)] at h
  rw [h, sumN_congr 10 (fun x hx => bitV_mod h₀ hx)]
def cntA (C : LA 40) : Int := sumN (fun x => sumN (fun d => if hasA C ((x % 10 : Nat) : Int) ((x / 10 : Nat) : Int) (d : Int) then 1 else 0) 4) 100
theorem spec_Count_ev (C : LA 40) : Ev (fun k => spec_CountCrowd.f k C) (cntA C) := by
  show Ev (fun k => spec_CountCrowd.l0 k 0 0 C) _
  refine Ev.sum2 100 4 (by omega) (fun x d => if hasA C ((x % 10 : Nat) : Int) ((x / 10 : Nat) : Int) (d : Int) then 1 else 0) (fun x d => by split <;> omega) (fun k s x => spec_CountCrowd.l0 k s x C) (fun k s x d => spec_CountCrowd.l1 k s x d C) ?_ ?_ ?_ ?_
  · intro x s r hx h
    refine Ev.succ ?_
    simp only [spec_CountCrowd.l0]
    exact Ev.pos (by omega) h
  · intro s
    refine Ev.succ ?_
    simp only [spec_CountCrowd.l0]
    exact Ev.neg (by omega) (Ev.now s)
  · intro x d s r hx hd hs hb h
    refine Ev.succ ?_
    simp only [spec_CountCrowd.l1]
    refine Ev.pos (by omega) ?_
    rw [spot_s x hx]
    simp only [Option.bind_some]
    rw [has_s C _ _ (d : Int) ⟨by omega, by omega⟩ ⟨by omega, by omega⟩ ⟨by omega, by omega⟩]
    simp only [Option.bind_some]
    rw [wnat d 4 hd (by omega)]
    cases hc : hasA C ((x % 10 : Nat) : Int) ((x / 10 : Nat) : Int) (d : Int) with
    | true =>
      simp only [hc, if_true] at h ⊢
      rw [wint (s + 1) (by omega) (by omega)]
      exact h
    | false =>
      simp only [hc, Bool.false_eq_true, if_false, Int.add_zero] at h ⊢
      exact h
  · intro x s r hx h
    refine Ev.succ ?_
    simp only [spec_CountCrowd.l1]
    refine Ev.neg (by omega) ?_
    rw [wnat x 100 hx (by omega)]
    exact h
theorem impl_Count_ev (C : LA 40) (hb : CB C) : Ev (fun k => impl_CountCrowd.f k C) (sumN (fun i => sumN (fun j => sumN (bitV (rd C.l ((i : Int) * 10 + (j : Int)))) 10) 10) 4) := by
  show Ev (fun k => impl_CountCrowd.l0 k 0 C 0) _
  have hpb : ∀ i : Int, 0 ≤ sumN (bitV (rd C.l i)) 10 ∧ sumN (bitV (rd C.l i)) 10 ≤ 10 := by
    intro i
    have h0 := bitV_01 (rd C.l i) 0; have h1 := bitV_01 (rd C.l i) 1; have h2 := bitV_01 (rd C.l i) 2; have h3 := bitV_01 (rd C.l i) 3; have h4 := bitV_01 (rd C.l i) 4
    have h5 := bitV_01 (rd C.l i) 5; have h6 := bitV_01 (rd C.l i) 6; have h7 := bitV_01 (rd C.l i) 7; have h8 := bitV_01 (rd C.l i) 8; have h9 := bitV_01 (rd C.l i) 9
    simp only [sumN]
    omega
  refine Ev.sum2 4 10 (by omega) (fun i j => sumN (bitV (rd C.l ((i : Int) * 10 + (j : Int)))) 10) (fun x d => by have := hpb ((x : Int) * 10 + (d : Int)); omega) (fun k s x => impl_CountCrowd.l0 k s C x) (fun k s x d => impl_CountCrowd.l1 k s C x (LA.row C 10 x) d) ?_ ?_ ?_ ?_
  · intro x s r hx h
    refine Ev.succ ?_
    simp only [impl_CountCrowd.l0]
    exact Ev.pos (by omega) (Ev.pos (by omega) h)
  · intro s
    refine Ev.succ ?_
    simp only [impl_CountCrowd.l0]
    exact Ev.neg (by omega) (Ev.now s)
  · intro x d s r hx hd hs hb' h
    refine Ev.succ ?_
    simp only [impl_CountCrowd.l1]
    refine Ev.pos (by omega) (Ev.pos (by omega) ?_)
    have e := rd_row C 10 (x : Int) (d : Int) (by omega) (by omega)
    rw [show ((10 : Nat) : Int) = 10 from rfl] at e
    rw [e, pop_v (hb _).1 (hb _).2]
    simp only [Option.bind_some]
    have := hpb ((x : Int) * 10 + (d : Int))
    rw [wnat d 10 hd (by omega), wint (s + _) (by omega) (by omega)]
    exact h
  · intro x s r hx h
    refine Ev.succ ?_
    simp only [impl_CountCrowd.l1]
    refine Ev.neg (by omega) ?_
    rw [wnat x 4 hx (by omega)]
    exact h
theorem count_same (C : LA 40) (hb : CB C) : cntA C = sumN (fun i => sumN (fun j => sumN (bitV (rd C.l ((i : Int) * 10 + (j : Int)))) 10) 10) 4 := by
  have e1 : ∀ x d : Nat, x < 100 → (if hasA C ((x % 10 : Nat) : Int) ((x / 10 : Nat) : Int) (d : Int) then (1 : Int) else 0) = bitV (rd C.l ((d : Int) * 10 + ((x / 10 : Nat) : Int))) (x % 10) := by
    intro x d hx
    unfold hasA
    rw [shr_bit (hb _).1 (hb _).2 (by omega)]
    have := bitV_01 (rd C.l ((d : Int) * 10 + ((x / 10 : Nat) : Int))) (x % 10)
    by_cases h : bitV (rd C.l ((d : Int) * 10 + ((x / 10 : Nat) : Int))) (x % 10) = 1
    · rw [h]; rfl
    · rw [show bitV (rd C.l ((d : Int) * 10 + ((x / 10 : Nat) : Int))) (x % 10) = 0 by omega]; rfl
  unfold cntA
  rw [sumN_congr 100 (fun x hx => sumN_congr 4 (fun d _ => e1 x d hx)), sumN_comm]
  refine sumN_congr 4 fun d _ => ?_
  rw [show (100 : Nat) = 10 * 10 from rfl, sumN_mul]
  refine sumN_congr 10 fun y hy => sumN_congr 10 fun x hx => ?_
  rw [show (10 * y + x) / 10 = y by omega, show (10 * y + x) % 10 = x by omega]
theorem impl_Count (C : LA 40) (hb : CB C) : Ev (fun k => impl_CountCrowd.f k C) (cntA C) := Ev.eq (impl_Count_ev C hb) (count_same C hb).symm
theorem sumN_nn (f : Nat → Int) (h : ∀ i, 0 ≤ f i) : ∀ n, 0 ≤ sumN f n
  | 0 => by simp [sumN]
  | n + 1 => by have := sumN_nn f h n; have := h n; rw [sumN]; omega
theorem sumN_pos (f : Nat → Int) (h : ∀ i, 0 ≤ f i) : ∀ n, 0 < sumN f n ↔ ∃ i, i < n ∧ 0 < f i
  | 0 => by simp [sumN]
  | n + 1 => by
    have h1 := sumN_nn f h n
    have h2 := h n
    have ih := sumN_pos f h n
    rw [sumN]
    constructor
    · intro hp
      by_cases hn : 0 < f n
      · exact ⟨n, by omega, hn⟩
      · obtain ⟨i, hi, hf⟩ := ih.1 (by omega)
        exact ⟨i, by omega, hf⟩
    · rintro ⟨i, hi, hf⟩
      by_cases e : i = n
      · subst e; omega
      · have := ih.2 ⟨i, by omega, hf⟩
        omega
theorem cntA_nn (C : LA 40) : 0 ≤ cntA C := sumN_nn _ (fun x => sumN_nn _ (fun d => by split <;> omega) 4) 100
theorem cntA_pos (C : LA 40) : 0 < cntA C ↔ ∃ x y d : Nat, inR (x, y, d) ∧ hasA C (x : Int) (y : Int) (d : Int) = true := by
  unfold cntA
  rw [sumN_pos _ (fun x => sumN_nn _ (fun d => by split <;> omega) 4) 100]
  constructor
  · rintro ⟨i, hi, hp⟩
    obtain ⟨d, hd, hp2⟩ := (sumN_pos _ (fun d => by split <;> omega) 4).1 hp
    refine ⟨i % 10, i / 10, d, ⟨?_, ?_, hd⟩, ?_⟩
    · show i % 10 < 10
      omega
    · show i / 10 < 10
      omega
    · by_cases h : hasA C ((i % 10 : Nat) : Int) ((i / 10 : Nat) : Int) (d : Int) = true
      · exact h
      · rw [if_neg h] at hp2
        omega
  · rintro ⟨x, y, d, ⟨hx, hy, hd⟩, hh⟩
    have hx' : x < 10 := hx
    have hy' : y < 10 := hy
    refine ⟨10 * y + x, by omega, ?_⟩
    refine (sumN_pos _ (fun d => by split <;> omega) 4).2 ⟨d, hd, ?_⟩
    rw [show (10 * y + x) % 10 = x by omega, show (10 * y + x) / 10 = y by omega, hh]
    decide
end Go.Proofs.YtdedijjbdkoekaaDoor.Q
end
section
namespace Go.Proofs.YtdedijjbdkoekaaDoor.Q
open Go.RowKit Go.Proofs.YtdedijjbdkoekaaDoorW.PrintWords Go.Proofs.YtdedijjbdkoekaaDoorW.PrintLast Go.Proofs.YtdedijjbdkoekaaDoorW.PrintMore Go.Proofs.YtdedijjbdkoekaaDoor.La Go.Proofs.YtdedijjbdkoekaaDoor.PB
set_option linter.unusedVariables false
set_option linter.unusedSimpArgs false
def any4 (C : LA 40) (x y : Int) : Bool := hasA C x y 0 || (hasA C x y 1 || (hasA C x y 2 || hasA C x y 3))
def flatL (p : Int → Int → Bool) (i : Nat) : List S41 := rowL p ((i / 10 : Nat) : Int) (cellsL p 10 (i / 10)) (i % 10)
theorem flatL_succ (p : Int → Int → Bool) (i : Nat) : flatL p (i + 1) = if p ((i % 10 : Nat) : Int) ((i / 10 : Nat) : Int) then flatL p i ++ [⟨((i % 10 : Nat) : Int), ((i / 10 : Nat) : Int)⟩] else flatL p i := by
  unfold flatL
  by_cases h : i % 10 = 9
  · have e1 : (i + 1) / 10 = i / 10 + 1 := by omega
    have e2 : (i + 1) % 10 = 0 := by omega
    rw [e1, e2, h, rowL, cellsL, rowL]
  · have e1 : (i + 1) / 10 = i / 10 := by omega
    have e2 : (i + 1) % 10 = i % 10 + 1 := by omega
    rw [e1, e2, rowL]
theorem flatL_len (p : Int → Int → Bool) (i : Nat) (hi : i ≤ 100) : (flatL p i).length ≤ 1000 := by
  have h1 := rowL_len p ((i / 10 : Nat) : Int) (cellsL p 10 (i / 10)) (i % 10)
  have h2 := cellsL_len p 10 (i / 10)
  unfold flatL
  omega
theorem rowL_cut (p : Int → Int → Bool) (w : Nat) (y : Int) (acc : List S41) (hp : ∀ x : Nat, w ≤ x → p (x : Int) y = false) : ∀ n, w ≤ n → rowL p y acc n = rowL p y acc w
  | 0, h => by obtain rfl : w = 0 := (by omega); rfl
  | n + 1, h => by
    by_cases e : w = n + 1
    · subst e; rfl
    · rw [rowL, hp n (by omega), if_neg (by simp)]; exact rowL_cut p w y acc hp n (by omega)
theorem cellsL_cut (p : Int → Int → Bool) (w h : Nat) (hw : w ≤ 10) (hp : ∀ x y : Nat, ¬ (x < w ∧ y < h) → p (x : Int) (y : Int) = false) : ∀ n, h ≤ n → cellsL p 10 n = cellsL p w h := by
  have e1 : ∀ n, cellsL p 10 n = cellsL p w n := by
    intro n
    induction n with
    | zero => rfl
    | succ n ih => rw [cellsL, cellsL, ih]; exact rowL_cut p w (n : Int) _ (fun x hx => hp x n (by omega)) 10 hw
  have e2 : ∀ (acc : List S41) (n x : Nat), h ≤ n → rowL p (n : Int) acc x = acc := by
    intro acc n x hn
    induction x with
    | zero => rfl
    | succ x ih => rw [rowL, hp x n (by omega), if_neg (by simp)]; exact ih
  intro n
  induction n with
  | zero => intro hn; obtain rfl : h = 0 := (by omega); rfl
  | succ n ih =>
    intro hn
    by_cases e : h = n + 1
    · subst e; exact e1 _
    · rw [cellsL, e2 _ _ _ (by omega)]; exact ih (by omega)
theorem Spots_s (C : LA 40) : Ev (fun k => spec_l06Spots.f k C) (cellsL (any4 C) 10 10) := by
  unfold spec_l06Spots.f
  have key : ∀ n i : Nat, i + n = 100 → Ev (fun k => spec_l06Spots.l0 k (flatL (any4 C) i) (i : Int) C) (flatL (any4 C) 100) := by
    intro n
    induction n with
    | zero =>
      intro i hi
      obtain rfl : i = 100 := (by omega)
      refine Ev.succ ?_
      simp only [spec_l06Spots.l0]
      exact Ev.neg (by omega) (Ev.now _)
    | succ n ih =>
      intro i hi
      have hr := ih (i + 1) (by omega)
      have hl := flatL_len (any4 C) i (by omega)
      rw [flatL_succ] at hr
      generalize flatL (any4 C) i = acc at hr hl ⊢
      refine Ev.succ ?_
      simp only [spec_l06Spots.l0]
      refine Ev.pos (by omega) ?_
      rw [spot_s i (by omega), wnat i 100 (by omega) (by omega)]
      simp only [Option.bind_some]
      rw [has_s C _ _ 0 ⟨by omega, by omega⟩ ⟨by omega, by omega⟩ ⟨by omega, by omega⟩, has_s C _ _ 1 ⟨by omega, by omega⟩ ⟨by omega, by omega⟩ ⟨by omega, by omega⟩, has_s C _ _ 2 ⟨by omega, by omega⟩ ⟨by omega, by omega⟩ ⟨by omega, by omega⟩, has_s C _ _ 3 ⟨by omega, by omega⟩ ⟨by omega, by omega⟩ ⟨by omega, by omega⟩]
      simp only [Option.bind_some]
      unfold any4 at hr ⊢
      cases h0 : hasA C ((i % 10 : Nat) : Int) ((i / 10 : Nat) : Int) 0 with
      | true => rw [h0] at hr; exact Ev.pos rfl (Ev.pos (by omega) (by simpa using hr))
      | false =>
        refine Ev.neg (by simp) ?_
        cases h1 : hasA C ((i % 10 : Nat) : Int) ((i / 10 : Nat) : Int) 1 with
        | true => rw [h0, h1] at hr; exact Ev.pos rfl (Ev.pos (by omega) (by simpa using hr))
        | false =>
          refine Ev.neg (by simp) ?_
          cases h2 : hasA C ((i % 10 : Nat) : Int) ((i / 10 : Nat) : Int) 2 with
          | true => rw [h0, h1, h2] at hr; exact Ev.pos rfl (Ev.pos (by omega) (by simpa using hr))
          | false =>
            refine Ev.neg (by simp) ?_
            cases h3 : hasA C ((i % 10 : Nat) : Int) ((i / 10 : Nat) : Int) 3 with
            | true => rw [h0, h1, h2, h3] at hr; exact Ev.pos rfl (Ev.pos (by omega) (by simpa using hr))
            | false =>
              rw [h0, h1, h2, h3] at hr
              exact Ev.neg (by simp) (by simpa using hr)
  have h0 := key 100 0 rfl
  exact h0
theorem rowL_congr {p q : Int → Int → Bool} (y : Int) (acc : List S41) (w : Nat) (h : ∀ x : Nat, x < w → p (x : Int) y = q (x : Int) y) : ∀ n, n ≤ w → rowL p y acc n = rowL q y acc n
  | 0, _ => rfl
  | n + 1, hn => by rw [rowL, rowL, rowL_congr y acc w h n (by omega), h n (by omega)]
theorem cellsL_congr {p q : Int → Int → Bool} (w h : Nat) (e : ∀ x y : Nat, x < w → y < h → p (x : Int) (y : Int) = q (x : Int) (y : Int)) : ∀ n, n ≤ h → cellsL p w n = cellsL q w n
  | 0, _ => rfl
  | n + 1, hn => by rw [cellsL, cellsL, cellsL_congr w h e n (by omega)]; exact rowL_congr (n : Int) _ w (fun x hx => e x n hx (by omega)) w (Nat.le_refl _)
theorem rowL_filterM (p : Int → Int → Bool) (b : S41 → Bool) (y : Int) (acc : List S41) : ∀ x, (rowL p y acc x).filter b = rowL (fun x y => b ⟨x, y⟩ && p x y) y (acc.filter b) x
  | 0 => rfl
  | x + 1 => by
    have ih := rowL_filterM p b y acc x
    rw [rowL, rowL]
    cases hp : p (x : Int) y with
    | false => simp [ih]
    | true =>
      cases hb : b ⟨(x : Int), y⟩ with
      | false => simp [List.filter_append, ih, hb]
      | true => simp [List.filter_append, ih, hb]
theorem cellsL_filterM (p : Int → Int → Bool) (b : S41 → Bool) (w : Nat) : ∀ h, (cellsL p w h).filter b = cellsL (fun x y => b ⟨x, y⟩ && p x y) w h
  | 0 => rfl
  | h + 1 => by rw [cellsL, cellsL, rowL_filterM, cellsL_filterM p b w h]
theorem any4_iff (C : LA 40) (x y : Int) : any4 C x y = true ↔ ∃ d : Nat, d < 4 ∧ hasA C x y (d : Int) = true := by
  unfold any4
  simp only [Bool.or_eq_true]
  constructor
  · rintro (h | h | h | h)
    · exact ⟨0, by omega, h⟩
    · exact ⟨1, by omega, h⟩
    · exact ⟨2, by omega, h⟩
    · exact ⟨3, by omega, h⟩
  · rintro ⟨d, hd, h⟩
    rcases (show d = 0 ∨ d = 1 ∨ d = 2 ∨ d = 3 by omega) with rfl | rfl | rfl | rfl
    · exact .inl h
    · exact .inr (.inl h)
    · exact .inr (.inr (.inl h))
    · exact .inr (.inr (.inr h))
theorem spots_free (w h : Nat) (W : LA 10) (hw : w ≤ 10) (hh : h ≤ 10) (C : LA 40) (hv : VA w h W C) : cellsL (any4 C) 10 10 = (cellsL (fr W.l) w h).filter fun q => any4 C q.f0 q.f1 := by
  have hvf : ∀ x y : Nat, x < 10 → y < 10 → any4 C (x : Int) (y : Int) = true → freeB W.l w h x y = true := fun x y hx hy ha => by
    obtain ⟨d, hd, hh2⟩ := (any4_iff C _ _).1 ha
    exact hv x y d (by omega) hy hd hh2
  rw [cellsL_filterM]
  have e1 : cellsL (any4 C) 10 10 = cellsL (fun a b => any4 C a b && (decide (a < 10) && decide (b < 10))) 10 10 := cellsL_congr 10 10 (fun x y hx hy => by
    have h1 : decide ((x : Int) < 10) = true := decide_eq_true (by omega)
    have h2 : decide ((y : Int) < 10) = true := decide_eq_true (by omega)
    rw [h1, h2]
    simp) 10 (Nat.le_refl _)
  rw [e1, cellsL_cut _ w h hw (fun x y hxy => ?_) 10 hh]
  · refine cellsL_congr w h (fun x y hx hy => ?_) h (Nat.le_refl _)
    have h1 : decide ((x : Int) < 10) = true := decide_eq_true (by omega)
    have h2 : decide ((y : Int) < 10) = true := decide_eq_true (by omega)
    rw [h1, h2]
    cases ha : any4 C (x : Int) (y : Int) with
    | false => rfl
    | true =>
      have hf := hvf x y (by omega) (by omega) ha
      unfold freeB at hf
      simp only [Bool.and_eq_true] at hf
      rw [hf.2]
      rfl
  · by_cases hx : x < 10
    · by_cases hy : y < 10
      · cases ha : any4 C (x : Int) (y : Int) with
        | false => rfl
        | true =>
          have hf := hvf x y hx hy ha
          unfold freeB at hf
          simp only [Bool.and_eq_true, decide_eq_true_eq] at hf
          exact absurd hf.1 hxy
      · have h2 : decide ((y : Int) < 10) = false := decide_eq_false (by omega)
        rw [h2]
        simp
    · have h1 : decide ((x : Int) < 10) = false := decide_eq_false (by omega)
      rw [h1]
      simp
def fsA (C : LA 40) (x y : Int) : Int := if hasA C x y 0 then 0 else if hasA C x y 1 then 1 else if hasA C x y 2 then 2 else 3
theorem Side_s (C : LA 40) (x y : Int) (hx : 0 ≤ x ∧ x < 10) (hy : 0 ≤ y ∧ y < 10) (ha : any4 C x y = true) : Ev (fun k => spec_WhereNow.l0 k 0 C x y) (x, y, fsA C x y, 0) := by
  unfold fsA
  unfold any4 at ha
  refine Ev.succ ?_
  simp only [spec_WhereNow.l0]
  rw [has_s C x y 0 hx hy (by omega)]
  refine Ev.bind (Ev.now _) ?_
  cases h0 : hasA C x y 0 with
  | true => exact Ev.pos rfl (Ev.now _)
  | false =>
    refine Ev.neg Bool.false_ne_true ?_
    rw [show wrap64 (0 + 1) = 1 by unfold wrap64; omega]
    refine Ev.succ ?_
    simp only [spec_WhereNow.l0]
    rw [has_s C x y 1 hx hy (by omega)]
    refine Ev.bind (Ev.now _) ?_
    cases h1 : hasA C x y 1 with
    | true => exact Ev.pos rfl (Ev.now _)
    | false =>
      refine Ev.neg Bool.false_ne_true ?_
      rw [show wrap64 (1 + 1) = 2 by unfold wrap64; omega]
      refine Ev.succ ?_
      simp only [spec_WhereNow.l0]
      rw [has_s C x y 2 hx hy (by omega)]
      refine Ev.bind (Ev.now _) ?_
      cases h2 : hasA C x y 2 with
      | true => exact Ev.pos rfl (Ev.now _)
      | false =>
        refine Ev.neg Bool.false_ne_true ?_
        rw [h0, h1, h2] at ha
        have h3 : hasA C x y 3 = true := by simpa using ha
        rw [show wrap64 (2 + 1) = 3 by unfold wrap64; omega]
        refine Ev.succ ?_
        simp only [spec_WhereNow.l0]
        rw [has_s C x y 3 hx hy (by omega), h3]
        exact Ev.bind (Ev.now _) (Ev.pos rfl (Ev.now _))
def firstA (C : LA 40) : List S41 → Int × Int × Int
  | [] => (0, 0, 0)
  | q :: _ => (q.f0, q.f1, fsA C q.f0 q.f1)
theorem Only_i (C : LA 40) (F : List S41) (hF : F.length ≤ 1000) (hin : ∀ q ∈ F, (0 ≤ q.f0 ∧ q.f0 < 10) ∧ (0 ≤ q.f1 ∧ q.f1 < 10)) :
    ∀ (n i : Nat), i + n = F.length → Ev (fun k => impl_Crowd_only.l0 k F (F.length : Int) (i : Int) C) (firstA C ((F.drop i).filter fun q => any4 C q.f0 q.f1)) := by
  intro n
  induction n with
  | zero =>
    intro i hi
    obtain rfl : i = F.length := by omega
    rw [List.drop_length]
    refine Ev.succ ?_
    simp only [impl_Crowd_only.l0]
    exact Ev.neg (by omega) (Ev.now _)
  | succ n ih =>
    intro i hi
    have hiF : i < F.length := by omega
    have hq := hin _ (getD_mem F i z41 hiF)
    have e := ih (i + 1) (by omega)
    refine Ev.succ ?_
    simp only [impl_Crowd_only.l0]
    refine Ev.pos (by omega) (Ev.pos (by omega) (Ev.pos (by omega) ?_))
    rw [rdT_get, drop_get F i z41 hiF, List.filter_cons]
    have wi := wnat i 1000 (by omega) (by omega)
    obtain ⟨x, hx⟩ : ∃ x, (F.getD i z41).f0 = x := ⟨_, rfl⟩
    obtain ⟨y, hy⟩ : ∃ y, (F.getD i z41).f1 = y := ⟨_, rfl⟩
    have hfst : ∀ l, firstA C (F.getD i z41 :: l) = (x, y, fsA C x y) := fun l => by rw [firstA, hx, hy]
    rw [hx, hy] at hq ⊢
    cases ha : any4 C x y with
    | true =>
      simp only [if_true]
      rw [hfst]
      unfold fsA
      unfold any4 at ha
      refine Ev.succ ?_
      simp only [impl_Crowd_only.l1]
      rw [has_i C x y 0 hq.1 hq.2 (by omega)]
      refine Ev.pos (by decide) (Ev.bind (Ev.now _) ?_)
      cases h0 : hasA C x y 0 with
      | true => exact Ev.pos rfl (Ev.now _)
      | false =>
        refine Ev.neg Bool.false_ne_true ?_
        rw [show wrap64 (0 + 1) = 1 by unfold wrap64; omega]
        refine Ev.succ ?_
        simp only [impl_Crowd_only.l1]
        rw [has_i C x y 1 hq.1 hq.2 (by omega)]
        refine Ev.pos (by decide) (Ev.bind (Ev.now _) ?_)
        cases h1 : hasA C x y 1 with
        | true => exact Ev.pos rfl (Ev.now _)
        | false =>
          refine Ev.neg Bool.false_ne_true ?_
          rw [show wrap64 (1 + 1) = 2 by unfold wrap64; omega]
          refine Ev.succ ?_
          simp only [impl_Crowd_only.l1]
          rw [has_i C x y 2 hq.1 hq.2 (by omega)]
          refine Ev.pos (by decide) (Ev.bind (Ev.now _) ?_)
          cases h2 : hasA C x y 2 with
          | true => exact Ev.pos rfl (Ev.now _)
          | false =>
            refine Ev.neg Bool.false_ne_true ?_
            rw [h0, h1, h2] at ha
            have h3 : hasA C x y 3 = true := by simpa using ha
            rw [show wrap64 (2 + 1) = 3 by unfold wrap64; omega]
            refine Ev.succ ?_
            simp only [impl_Crowd_only.l1]
            rw [has_i C x y 3 hq.1 hq.2 (by omega), h3]
            exact Ev.pos (by decide) (Ev.bind (Ev.now _) (Ev.pos rfl (Ev.now _)))
    | false =>
      simp only [Bool.false_eq_true, if_false]
      unfold any4 at ha
      simp only [Bool.or_eq_false_iff] at ha
      obtain ⟨h0, h1, h2, h3⟩ := ha
      refine Ev.succ ?_
      simp only [impl_Crowd_only.l1]
      rw [has_i C x y 0 hq.1 hq.2 (by omega), h0]
      refine Ev.pos (by decide) (Ev.bind (Ev.now _) (Ev.neg Bool.false_ne_true ?_))
      rw [show wrap64 (0 + 1) = 1 by unfold wrap64; omega]
      refine Ev.succ ?_
      simp only [impl_Crowd_only.l1]
      rw [has_i C x y 1 hq.1 hq.2 (by omega), h1]
      refine Ev.pos (by decide) (Ev.bind (Ev.now _) (Ev.neg Bool.false_ne_true ?_))
      rw [show wrap64 (1 + 1) = 2 by unfold wrap64; omega]
      refine Ev.succ ?_
      simp only [impl_Crowd_only.l1]
      rw [has_i C x y 2 hq.1 hq.2 (by omega), h2]
      refine Ev.pos (by decide) (Ev.bind (Ev.now _) (Ev.neg Bool.false_ne_true ?_))
      rw [show wrap64 (2 + 1) = 3 by unfold wrap64; omega]
      refine Ev.succ ?_
      simp only [impl_Crowd_only.l1]
      rw [has_i C x y 3 hq.1 hq.2 (by omega), h3]
      refine Ev.pos (by decide) (Ev.bind (Ev.now _) (Ev.neg Bool.false_ne_true ?_))
      rw [show wrap64 (3 + 1) = 4 by unfold wrap64; omega]
      refine Ev.succ ?_
      simp only [impl_Crowd_only.l1]
      rw [wi]
      exact Ev.neg (by decide) e
theorem movesA_VA (w h : Nat) (W : LA 10) (hw : 1 ≤ w ∧ w ≤ 10) (hh : 1 ≤ h ∧ h ≤ 10) : ∀ (bs : List UInt8) (C : LA 40), VA w h W C → CB C → VA w h W (movesA (w : Int) (h : Int) W C bs) ∧ CB (movesA (w : Int) (h : Int) W C bs)
  | [], C, h1, h2 => ⟨h1, h2⟩
  | b :: bs, C, h1, h2 => by
    rw [movesA]
    exact movesA_VA w h W hw hh bs _ (moveA_VA w h W hw hh C h1 _) (moveA_cb w h W hw hh C _)
theorem WhereNow_both (s0 s1 : Int) (W : LA 10) (hr : RB s0 s1 W) (a : ByteArray) : ∃ r, Ev (fun k => spec_WhereNow.f k s0 s1 W a) r ∧ Ev (fun k => impl_WhereNow.f k s0 s1 W a) r := by
  obtain ⟨b, h1, h2, h3⟩ := Ok_both s0 s1 W hr.1 hr.2.1
  have hz : Ev (fun k => impl_CountCrowd.f k (LA.zero 40)) (cntA (LA.zero 40)) := impl_Count _ InvA.zero.cb
  cases b with
  | false =>
    refine ⟨(0, 0, 0, 1), ?_, ?_⟩
    · unfold spec_WhereNow.f
      exact Ev.bind h1 (Ev.neg Bool.false_ne_true (Ev.now _))
    · unfold impl_WhereNow.f impl_Anywhere.f impl_MovesCrowd.f impl_ValidCrowd.f
      exact Ev.bind (Ev.bind h2 (Ev.neg Bool.false_ne_true (Ev.now _))) (Ev.bind (Ev.bind (Ev.bind h2 (Ev.neg Bool.false_ne_true (Ev.now _))) (Ev.neg Bool.false_ne_true (Ev.now _))) (Ev.bind hz (Ev.neg (by decide) (Ev.now _))))
  | true =>
    obtain ⟨hw, hh⟩ := h3 rfl
    obtain ⟨w, rfl⟩ : ∃ n : Nat, s0 = n := ⟨s0.toNat, by omega⟩
    obtain ⟨h, rfl⟩ : ∃ n : Nat, s1 = n := ⟨s1.toNat, by omega⟩
    have hb := hr.2.2
    have ha := All_s (w : Int) (h : Int) W hb w h (by omega) (by omega) rfl rfl
    have hi := All_i (w : Int) (h : Int) W hb w h (by omega) (by omega) rfl rfl
    have hlen := cellsL_len (fr W.l) w h
    have hlen2 : w * h ≤ 10 * 10 := Nat.mul_le_mul (by omega) (by omega)
    have hin : ∀ q ∈ cellsL (fr W.l) w h, (0 ≤ q.f0 ∧ q.f0 < 10) ∧ (0 ≤ q.f1 ∧ q.f1 < 10) := fun q hq => by
      have := cellsL_mem (fr W.l) w h h (Nat.le_refl _) q hq
      omega
    have p1 := Plain_ev _ hin (by omega) (cellsL (fr W.l) w h).length 0 (LA.zero 40) (by omega)
    have p2 := Any_ev _ hin (by omega) (cellsL (fr W.l) w h).length 0 (LA.zero 40) (by omega)
    have hbits := plain_bits W.l w h (by omega) (by omega)
    rw [List.drop_zero] at p1 p2
    obtain ⟨P, hP⟩ : ∃ P, plainA (cellsL (fr W.l) w h) (LA.zero 40) = P := ⟨_, rfl⟩
    rw [hP] at p1 p2 hbits
    have q1 : Ev (fun k => spec_l06Plain.f k (w : Int) (h : Int) W) P := by
      unfold spec_l06Plain.f
      exact Ev.bind ha p1
    have q2 : Ev (fun k => impl_Anywhere.f k (w : Int) (h : Int) W) (P, 0) := by
      unfold impl_Anywhere.f impl_anywhere.f
      exact Ev.bind h2 (Ev.pos rfl (Ev.bind (Ev.bind hi p2) (Ev.now _)))
    have hPv : VA w h W P := fun x y d hx hy hd hp => by
      rw [hbits.has x y d hx hy hd] at hp
      exact hp
    rcases MovesCrowd_val (w : Int) (h : Int) W P hr hbits.cb a with ⟨m1, m2⟩ | ⟨w', h', ew, eh, _, _, _, m1, m2⟩
    · refine ⟨(0, 0, 0, 1), ?_, ?_⟩
      · unfold spec_WhereNow.f
        exact Ev.bind h1 (Ev.pos rfl (Ev.bind q1 (Ev.bind m1 (Ev.neg (by decide) (Ev.now _)))))
      · unfold impl_WhereNow.f
        exact Ev.bind q2 (Ev.bind m2 (Ev.bind hz (Ev.neg (by decide) (Ev.now _))))
    · by_cases hm : mcode a = 0
      · rw [if_pos hm] at m1 m2
        obtain ⟨hv, hc⟩ := movesA_VA w h W (by omega) (by omega) a.data.toList P hPv hbits.cb
        obtain ⟨C, hC⟩ : ∃ C, movesA (w : Int) (h : Int) W P a.data.toList = C := ⟨_, rfl⟩
        rw [hC] at m1 m2 hv hc
        have c1 := spec_Count_ev C
        have c2 := impl_Count C hc
        have hsp := spots_free w h W (by omega) (by omega) C hv
        have hnn := cntA_nn C
        by_cases hg : cntA C > 1
        · refine ⟨(0, 0, 0, 4), ?_, ?_⟩
          · unfold spec_WhereNow.f
            exact Ev.bind h1 (Ev.pos rfl (Ev.bind q1 (Ev.bind m1 (Ev.pos rfl (Ev.bind c1 (Ev.pos hg (Ev.now _)))))))
          · unfold impl_WhereNow.f
            exact Ev.bind q2 (Ev.bind m2 (Ev.bind c2 (Ev.pos rfl (Ev.pos hg (Ev.now _)))))
        · by_cases h0 : cntA C = 0
          · refine ⟨(0, 0, 0, 6), ?_, ?_⟩
            · unfold spec_WhereNow.f
              exact Ev.bind h1 (Ev.pos rfl (Ev.bind q1 (Ev.bind m1 (Ev.pos rfl (Ev.bind c1 (Ev.neg hg (Ev.pos h0 (Ev.now _))))))))
            · unfold impl_WhereNow.f
              exact Ev.bind q2 (Ev.bind m2 (Ev.bind c2 (Ev.pos rfl (Ev.neg hg (Ev.pos h0 (Ev.now _))))))
          · obtain ⟨x, y, d, ⟨hx, hy, hd⟩, hhas⟩ := (cntA_pos C).1 (by omega)
            have hx' : x < 10 := hx
            have hsome : any4 C (x : Int) (y : Int) = true := (any4_iff C _ _).2 ⟨d, hd, hhas⟩
            obtain ⟨q, hq, e0, e1⟩ := free_mem w h W x y (hv x y d (by omega) hy hd hhas)
            have hqf : q ∈ (cellsL (fr W.l) w h).filter fun q => any4 C q.f0 q.f1 := List.mem_filter.2 ⟨hq, by rw [e0, e1]; exact hsome⟩
            have ho := Only_i C _ (by omega) hin (cellsL (fr W.l) w h).length 0 (by omega)
            rw [List.drop_zero] at ho
            have hs := Spots_s C
            rw [hsp] at hs
            obtain ⟨T, hT⟩ : ∃ T, ((cellsL (fr W.l) w h).filter fun q => any4 C q.f0 q.f1) = T := ⟨_, rfl⟩
            have hTm : ∀ t ∈ T, t ∈ cellsL (fr W.l) w h ∧ any4 C t.f0 t.f1 = true := fun t ht => by
              rw [← hT] at ht
              have := List.mem_filter.1 ht
              exact ⟨this.1, this.2⟩
            rw [hT] at hs ho hqf
            cases T with
            | nil => simp at hqf
            | cons t ts =>
              obtain ⟨ht, hta⟩ := hTm t (by simp)
              have hti := hin t ht
              have hsd := Side_s C t.f0 t.f1 hti.1 hti.2 hta
              refine ⟨(t.f0, t.f1, fsA C t.f0 t.f1, 0), ?_, ?_⟩
              · unfold spec_WhereNow.f
                exact Ev.bind h1 (Ev.pos rfl (Ev.bind q1 (Ev.bind m1 (Ev.pos rfl (Ev.bind c1 (Ev.neg hg (Ev.neg h0 (Ev.bind hs (Ev.pos (by simp only [List.length_cons]; omega) hsd)))))))))
              · unfold impl_WhereNow.f impl_Crowd_only.f
                exact Ev.bind q2 (Ev.bind m2 (Ev.bind c2 (Ev.pos rfl (Ev.neg hg (Ev.neg h0 (Ev.bind (Ev.bind hi ho) (Ev.now _)))))))
      · rw [if_neg hm] at m1 m2
        refine ⟨(0, 0, 0, mcode a), ?_, ?_⟩
        · unfold spec_WhereNow.f
          exact Ev.bind h1 (Ev.pos rfl (Ev.bind q1 (Ev.bind m1 (Ev.neg hm (Ev.now _)))))
        · unfold impl_WhereNow.f
          exact Ev.bind q2 (Ev.bind m2 (Ev.bind hz (Ev.neg hm (Ev.now _))))
end Go.Proofs.YtdedijjbdkoekaaDoor.Q
end
section
namespace Go.Proofs.YtdedijjbdkoekaaDoor.PB
open Go.RowKit Go.Proofs.YtdedijjbdkoekaaDoorW.PrintWords Go.Proofs.YtdedijjbdkoekaaDoorW.PrintLast Go.Proofs.YtdedijjbdkoekaaDoorW.PrintMore Go.Proofs.YtdedijjbdkoekaaDoor.La
attribute [local go_sem] max2_int min2_int max_two min_two max_three min_three max_four min_four   -- for this text's walks alone
set_option linter.unusedVariables false
set_option linter.unusedSimpArgs false
def laws_toCrowd.l0 : Nat → Int → LA 40 → LA 40 → Option (LA 40)
 | 0, _, _, _ => none
 | k + 1, x4, x170000, x172000 => if x4 < 4 then (if 0 ≤ x4 then ((laws_toUint16A10.f k (LA.row x170000 10 x4)).bind fun t172 => (laws_toCrowd.l0 k (wrap64 (x4 + 1)) x170000 (LA.setRow x172000 10 x4 t172))) else (none)) else (some x172000)
def laws_toCrowd.f (k : Nat) (a0 : LA 40) : Option (LA 40) := laws_toCrowd.l0 k 0 a0 (LA.zero 40)
theorem laws_toCrowd.mono_l : ∀ k, (∀ y0 y1 y2, LeO (laws_toCrowd.l0 k y0 y1 y2) (laws_toCrowd.l0 (k + 1) y0 y1 y2))
 | 0 => fun _ _ _ r h => by simp [laws_toCrowd.l0] at h
 | k + 1 => by
  have ih0 := laws_toCrowd.mono_l k
  ·intro y0 y1 y2
   unfold laws_toCrowd.l0
   repeat' first
   | (with_reducible exact ih0 _ _ _)
   | (with_reducible exact laws_toUint16A10.mono _ _)
   | (with_reducible exact LeO.refl _)
   | (with_reducible exact LeO.none _)
   | (with_reducible refine LeO.ite ?_ ?_)
   | (with_reducible refine LeO.bind ?_ (fun _ => ?_))
   | exact ih0 _ _ _
   | exact laws_toUint16A10.mono _ _
   | exact LeO.none _
   | refine LeO.ite ?_ ?_
   | refine LeO.bind ?_ (fun _ => ?_)
theorem laws_toCrowd.mono : ∀ a0 k, LeO (laws_toCrowd.f k a0) (laws_toCrowd.f (k + 1) a0) := by
 intro a0 k
 have ih0 := laws_toCrowd.mono_l k
 unfold laws_toCrowd.f
 repeat' first
   | (with_reducible exact ih0 _ _ _)
   | (with_reducible exact laws_toUint16A10.mono _ _)
   | (with_reducible exact LeO.refl _)
   | (with_reducible exact LeO.none _)
   | (with_reducible refine LeO.ite ?_ ?_)
   | (with_reducible refine LeO.bind ?_ (fun _ => ?_))
   | exact ih0 _ _ _
   | exact laws_toUint16A10.mono _ _
   | exact LeO.none _
   | refine LeO.ite ?_ ?_
   | refine LeO.bind ?_ (fun _ => ?_)
end Go.Proofs.YtdedijjbdkoekaaDoor.PB
end
section
namespace Go.Proofs.YtdedijjbdkoekaaDoor.PB
open Go.RowKit Go.Proofs.YtdedijjbdkoekaaDoorW.PrintWords Go.Proofs.YtdedijjbdkoekaaDoorW.PrintLast Go.Proofs.YtdedijjbdkoekaaDoorW.PrintMore Go.Proofs.YtdedijjbdkoekaaDoor.La
attribute [local go_sem] max2_int min2_int max_two min_two max_three min_three max_four min_four   -- for this text's walks alone
set_option linter.unusedVariables false
set_option linter.unusedSimpArgs false
def laws_eqUint16A10.l0 : Nat → Int → LA 10 → LA 10 → Option (Bool)
 | 0, _, _, _ => none
 | k + 1, x5, x109000, x110000 => if x5 < 10 then (if 0 ≤ x5 then (if (rd x109000.l x5) = (rd x110000.l x5) then (laws_eqUint16A10.l0 k (wrap64 (x5 + 1)) x109000 x110000) else (some false)) else (none)) else (some true)
def laws_eqUint16A10.f (k : Nat) (a0 : LA 10) (a1 : LA 10) : Option (Bool) := laws_eqUint16A10.l0 k 0 a0 a1
theorem laws_eqUint16A10.mono_l : ∀ k, (∀ y0 y1 y2, LeO (laws_eqUint16A10.l0 k y0 y1 y2) (laws_eqUint16A10.l0 (k + 1) y0 y1 y2))
 | 0 => fun _ _ _ r h => by simp [laws_eqUint16A10.l0] at h
 | k + 1 => by
  have ih0 := laws_eqUint16A10.mono_l k
  ·intro y0 y1 y2
   unfold laws_eqUint16A10.l0
   repeat' first
   | (with_reducible exact ih0 _ _ _)
   | (with_reducible exact LeO.refl _)
   | (with_reducible exact LeO.none _)
   | (with_reducible refine LeO.ite ?_ ?_)
   | (with_reducible refine LeO.bind ?_ (fun _ => ?_))
   | exact ih0 _ _ _
   | exact LeO.none _
   | refine LeO.ite ?_ ?_
   | refine LeO.bind ?_ (fun _ => ?_)
theorem laws_eqUint16A10.mono : ∀ a0 a1 k, LeO (laws_eqUint16A10.f k a0 a1) (laws_eqUint16A10.f (k + 1) a0 a1) := by
 intro a0 a1 k
 have ih0 := laws_eqUint16A10.mono_l k
 unfold laws_eqUint16A10.f
 repeat' first
   | (with_reducible exact ih0 _ _ _)
   | (with_reducible exact LeO.refl _)
   | (with_reducible exact LeO.none _)
   | (with_reducible refine LeO.ite ?_ ?_)
   | (with_reducible refine LeO.bind ?_ (fun _ => ?_))
   | exact ih0 _ _ _
   | exact LeO.none _
   | refine LeO.ite ?_ ?_
   | refine LeO.bind ?_ (fun _ => ?_)
def laws_eqCrowd.l0 : Nat → Int → LA 40 → LA 40 → Option (Bool)
 | 0, _, _, _ => none
 | k + 1, x5, x111000, x112000 => if x5 < 4 then (if 0 ≤ x5 then ((laws_eqUint16A10.f k (LA.row x111000 10 x5) (LA.row x112000 10 x5)).bind fun t112 => (if t112 = true then (laws_eqCrowd.l0 k (wrap64 (x5 + 1)) x111000 x112000) else (some false))) else (none)) else (some true)
def laws_eqCrowd.f (k : Nat) (a0 : LA 40) (a1 : LA 40) : Option (Bool) := laws_eqCrowd.l0 k 0 a0 a1
theorem laws_eqCrowd.mono_l : ∀ k, (∀ y0 y1 y2, LeO (laws_eqCrowd.l0 k y0 y1 y2) (laws_eqCrowd.l0 (k + 1) y0 y1 y2))
 | 0 => fun _ _ _ r h => by simp [laws_eqCrowd.l0] at h
 | k + 1 => by
  have ih0 := laws_eqCrowd.mono_l k
  ·intro y0 y1 y2
   unfold laws_eqCrowd.l0
   repeat' first
   | (with_reducible exact ih0 _ _ _)
   | (with_reducible exact laws_eqUint16A10.mono _ _ _)
   | (with_reducible exact LeO.refl _)
   | (with_reducible exact LeO.none _)
   | (with_reducible refine LeO.ite ?_ ?_)
   | (with_reducible refine LeO.bind ?_ (fun _ => ?_))
   | exact ih0 _ _ _
   | exact laws_eqUint16A10.mono _ _ _
   | exact LeO.none _
   | refine LeO.ite ?_ ?_
   | refine LeO.bind ?_ (fun _ => ?_)
theorem laws_eqCrowd.mono : ∀ a0 a1 k, LeO (laws_eqCrowd.f k a0 a1) (laws_eqCrowd.f (k + 1) a0 a1) := by
 intro a0 a1 k
 have ih0 := laws_eqCrowd.mono_l k
 unfold laws_eqCrowd.f
 repeat' first
   | (with_reducible exact ih0 _ _ _)
   | (with_reducible exact laws_eqUint16A10.mono _ _ _)
   | (with_reducible exact LeO.refl _)
   | (with_reducible exact LeO.none _)
   | (with_reducible refine LeO.ite ?_ ?_)
   | (with_reducible refine LeO.bind ?_ (fun _ => ?_))
   | exact ih0 _ _ _
   | exact laws_eqUint16A10.mono _ _ _
   | exact LeO.none _
   | refine LeO.ite ?_ ?_
   | refine LeO.bind ?_ (fun _ => ?_)
end Go.Proofs.YtdedijjbdkoekaaDoor.PB
end
section
namespace Go.Proofs.YtdedijjbdkoekaaDoor.Q
open Go.RowKit Go.Proofs.YtdedijjbdkoekaaDoorW.PrintWords Go.Proofs.YtdedijjbdkoekaaDoorW.PrintLast Go.Proofs.YtdedijjbdkoekaaDoorW.PrintMore Go.Proofs.YtdedijjbdkoekaaDoor.La Go.Proofs.YtdedijjbdkoekaaDoor.PB
set_option linter.unusedVariables false
set_option linter.unusedSimpArgs false
theorem toU_ev (W : LA 10) : Ev (fun k => laws_toUint16A10.f k W) W := by
  unfold laws_toUint16A10.f
  have key : ∀ (m i : Nat) (X : LA 10), i + m = 10 → (∀ j : Nat, j < i → rd X.l (j : Int) = rd W.l (j : Int)) → Ev (fun k => laws_toUint16A10.l0 k (i : Int) W X) W := by
    intro m
    induction m with
    | zero =>
      intro i X hi hX
      obtain rfl : i = 10 := by omega
      refine Ev.succ ?_
      simp only [laws_toUint16A10.l0]
      rw [ext_rd hX]
      exact Ev.neg (by omega) (Ev.now _)
    | succ m ih =>
      intro i X hi hX
      refine Ev.succ ?_
      simp only [laws_toUint16A10.l0]
      rw [wnat i 10 (by omega) (by omega)]
      refine Ev.pos (by omega) (Ev.pos (by omega) (ih (i + 1) _ (by omega) (fun j hj => ?_)))
      by_cases e : j = i
      · subst e
        exact rd_set_same X _ _ (by omega) (by omega)
      · rw [rd_set_other X _ _ _ (by omega) (by omega) (by omega)]
        exact hX j (by omega)
  exact key 10 0 _ rfl (fun j hj => by omega)
theorem toRoom_ev (s0 s1 : Int) (W : LA 10) : Ev (fun k => laws_toRoom.f k s0 s1 W) (s0, s1, W) := by
  unfold laws_toRoom.f
  exact Ev.bind (toU_ev W) (Ev.now _)
end Go.Proofs.YtdedijjbdkoekaaDoor.Q
end
section
namespace Go.Proofs.YtdedijjbdkoekaaDoor.Q
open Go.RowKit Go.Proofs.YtdedijjbdkoekaaDoorW.PrintWords Go.Proofs.YtdedijjbdkoekaaDoorW.PrintLast Go.Proofs.YtdedijjbdkoekaaDoorW.PrintMore Go.Proofs.YtdedijjbdkoekaaDoor.La Go.Proofs.YtdedijjbdkoekaaDoor.PB
set_option linter.unusedVariables false
set_option linter.unusedSimpArgs false
theorem eqSpot_self (a b : Int) : laws_eqSpot.f a b a b = some true := by unfold laws_eqSpot.f; rw [if_pos rfl, if_pos rfl]
theorem FnExactWhereNow (a0_0 a0_1 : Int) (a0_2 : LA 10) (a1 : ByteArray) (hr : RB a0_0 a0_1 a0_2) (y1 : a1.size ≤ maxLen) : Ev (fun k => laws_FnExactWhereNow.f k a0_0 a0_1 a0_2 a1) true := by
  obtain ⟨r, h1, h2⟩ := WhereNow_both a0_0 a0_1 a0_2 hr a1
  have er := toRoom_ev a0_0 a0_1 a0_2
  unfold laws_FnExactWhereNow.f
  by_cases hs : (a1.size : Int) > 1048576
  · exact Ev.pos hs (Ev.now _)
  refine Ev.neg hs (Ev.bind er (Ev.bind h1 (Ev.bind er (Ev.bind h2 (Ev.bind (Ev.const (eqSpot_self r.1 r.2.1)) (Ev.pos rfl (Ev.pos rfl (Ev.pos rfl (Ev.now _)))))))))
end Go.Proofs.YtdedijjbdkoekaaDoor.Q
end
