/- The statement FnExactWhereBegun of this program: what its proof uses, part 11 of 12. The call returns true for all arguments. No condition of its own. -/
import Derived.IntWalk
import Derived.Test.YtdedijjbdkoekaaDoorZFnExactWhereBegun9
section
namespace Go.Proofs.YtdedijjbdkoekaaDoor.Q
open Go.RowKit Go.Proofs.YtdedijjbdkoekaaDoorW.PrintWords Go.Proofs.YtdedijjbdkoekaaDoorW.PrintLast
set_option linter.unusedVariables false
set_option linter.unusedSimpArgs false
theorem wnat (i n : Nat) (h : i < n) (hn : n ≤ 9223372036854775807) : wrap64 ((i : Int) + 1) = ((i + 1 : Nat) : Int) := by unfold wrap64; omega
theorem wint (a : Int) (h0 : -9223372036854775808 ≤ a) (h1 : a ≤ 9223372036854775807) : wrap64 a = a := by unfold wrap64; omega
theorem rd_nat (xs : List Int) (i : Nat) : rd xs (i : Int) = xs.getD i 0 := by simp [rd]
theorem Ev.round {α : Type} {g f : Nat → Option α} {r : α} (k : Ev f r) (h : ∀ k, g (k + 1) = f k) : Ev g r := Ev.step h k
theorem Ev.eq {α : Type} {g : Nat → Option α} {r r' : α} (h : Ev g r) (e : r = r') : Ev g r' := e ▸ h
theorem Ev.ite {α : Type} {c : Prop} [Decidable c] {f g : Nat → Option α} {r : α} (h : c → Ev f r) (h' : ¬ c → Ev g r) : Ev (fun k => if c then f k else g k) r := by
  by_cases hc : c
  · simp only [hc, if_true]; exact h hc
  · simp only [hc, if_false]; exact h' hc
theorem Ev.pos {α : Type} {c : Prop} [Decidable c] {f g : Nat → Option α} {r : α} (hc : c) (h : Ev f r) : Ev (fun k => if c then f k else g k) r := by simp only [hc, if_true]; exact h
theorem Ev.neg {α : Type} {c : Prop} [Decidable c] {f g : Nat → Option α} {r : α} (hc : ¬ c) (h : Ev g r) : Ev (fun k => if c then f k else g k) r := by simp only [hc, if_false]; exact h
end Go.Proofs.YtdedijjbdkoekaaDoor.Q
end
section
namespace Go.Proofs.YtdedijjbdkoekaaDoor.Q
open Go.RowKit Go.Proofs.YtdedijjbdkoekaaDoorW.PrintWords Go.Proofs.YtdedijjbdkoekaaDoorW.PrintLast Go.Proofs.YtdedijjbdkoekaaDoor.PB
set_option linter.unusedVariables false
set_option linter.unusedSimpArgs false
def inC (a lo hi : Int) : Bool := decide (lo ≤ a) && decide (a ≤ hi)
theorem In_c (a lo hi : Int) : spec_l00In.f a lo hi = some (inC a lo hi) := by
  unfold spec_l00In.f inC
  split
  · rename_i h; simp [h]
  · rename_i h; simp [h]
theorem Ev.succ {α : Type} {g : Nat → Option α} {r : α} (h : Ev (fun k => g (k + 1)) r) : Ev g r := Ev.step (fun _ => rfl) h
theorem getD_mem {α : Type} (l : List α) (i : Nat) (d : α) (h : i < l.length) : l.getD i d ∈ l := by
  simp [List.getD_eq_getElem?_getD, List.getElem?_eq_getElem h]
theorem drop_get {α : Type} (xs : List α) (i : Nat) (d : α) (h : i < xs.length) : xs.drop i = xs.getD i d :: xs.drop (i + 1) := by
  rw [List.drop_eq_getElem_cons h]
  simp [List.getD_eq_getElem?_getD, List.getElem?_eq_getElem h]
end Go.Proofs.YtdedijjbdkoekaaDoor.Q
end
section
namespace Go.Proofs.YtdedijjbdkoekaaDoor.Q
open Go.RowKit Go.Proofs.YtdedijjbdkoekaaDoorW.PrintWords Go.Proofs.YtdedijjbdkoekaaDoorW.PrintLast Go.Proofs.YtdedijjbdkoekaaDoorW.PrintMore Go.Proofs.YtdedijjbdkoekaaDoor.PB
set_option linter.unusedVariables false
set_option linter.unusedSimpArgs false
def sumN (f : Nat → Int) : Nat → Int
  | 0 => 0
  | n + 1 => sumN f n + f n
theorem sumN_congr {f g : Nat → Int} : ∀ n, (∀ i, i < n → f i = g i) → sumN f n = sumN g n
  | 0, _ => rfl
  | n + 1, h => by rw [sumN, sumN, sumN_congr n (fun i hi => h i (by omega)), h n (by omega)]
theorem sumN_add (f g : Nat → Int) : ∀ n, sumN (fun i => f i + g i) n = sumN f n + sumN g n
  | 0 => rfl
  | n + 1 => by rw [sumN, sumN, sumN, sumN_add f g n]; omega
theorem sumN_zero : ∀ n, sumN (fun _ => 0) n = 0
  | 0 => rfl
  | n + 1 => by rw [sumN, sumN_zero n]; rfl
theorem sumN_comm (f : Nat → Nat → Int) (m : Nat) : ∀ n, sumN (fun i => sumN (fun j => f i j) m) n = sumN (fun j => sumN (fun i => f i j) n) m
  | 0 => (sumN_zero m).symm
  | n + 1 => by rw [sumN, sumN_comm f m n, ← sumN_add]; exact sumN_congr m fun j _ => rfl
theorem sumN_split (f : Nat → Int) (a : Nat) : ∀ b, sumN f (a + b) = sumN f a + sumN (fun j => f (a + j)) b
  | 0 => by simp [sumN]
  | b + 1 => by rw [← Nat.add_assoc, sumN, sumN_split f a b, sumN]; omega
theorem sumN_mul (f : Nat → Int) (m : Nat) : ∀ n, sumN f (m * n) = sumN (fun y => sumN (fun x => f (m * y + x)) m) n
  | 0 => rfl
  | n + 1 => by rw [Nat.mul_succ, sumN_split, sumN_mul f m n, sumN]
theorem sumN_bd {f : Nat → Int} (hf : ∀ d, 0 ≤ f d ∧ f d ≤ 16) : ∀ n, 0 ≤ sumN f n ∧ sumN f n ≤ 16 * n
  | 0 => by simp [sumN]
  | n + 1 => by have := sumN_bd hf n; have := hf n; rw [sumN]; omega
theorem Ev.sum2 (N M : Nat) (hNM : N * M ≤ 1000) (f : Nat → Nat → Int) (hf : ∀ x d, 0 ≤ f x d ∧ f x d ≤ 16) (S0 : Nat → Int → Int → Option Int) (S1 : Nat → Int → Int → Int → Option Int)
    (e0 : ∀ (x : Nat) s r, x < N → Ev (fun k => S1 k s x 0) r → Ev (fun k => S0 k s x) r) (e0' : ∀ s, Ev (fun k => S0 k s (N : Int)) s)
    (e1 : ∀ (x d : Nat) s r, x < N → d < M → 0 ≤ s → s ≤ 100000 → Ev (fun k => S1 k (s + f x d) x ((d + 1 : Nat) : Int)) r → Ev (fun k => S1 k s x (d : Int)) r)
    (e1' : ∀ (x : Nat) s r, x < N → Ev (fun k => S0 k s ((x + 1 : Nat) : Int)) r → Ev (fun k => S1 k s x (M : Int)) r) :
    Ev (fun k => S0 k 0 0) (sumN (fun x => sumN (f x) M) N) := by
  have inner : ∀ (n d x : Nat) (s r : Int), d + n = M → x < N → 0 ≤ s → s + 16 * (n : Int) ≤ 16000 → Ev (fun k => S0 k (s + (sumN (f x) M - sumN (f x) d)) ((x + 1 : Nat) : Int)) r → Ev (fun k => S1 k s x (d : Int)) r := by
    intro n
    induction n with
    | zero =>
      intro d x s r hd hx hs hb h
      obtain rfl : d = M := by omega
      refine e1' x s r hx ?_
      simpa using h
    | succ n ih =>
      intro d x s r hd hx hs hb h
      have hfd := hf x d
      refine e1 x d s r hx (by omega) hs (by omega) (ih (d + 1) x _ r (by omega) hx (by omega) (by omega) ?_)
      rw [show s + f x d + (sumN (f x) M - sumN (f x) (d + 1)) = s + (sumN (f x) M - sumN (f x) d) by rw [sumN]; omega]
      exact h
  have hM : ∀ x, 0 ≤ sumN (f x) M ∧ sumN (f x) M ≤ 16 * M := fun x => sumN_bd (hf x) M
  have outer : ∀ (n x : Nat) (s : Int), x + n = N → 0 ≤ s → s ≤ 16 * (M : Int) * x → Ev (fun k => S0 k s (x : Int)) (s + (sumN (fun x => sumN (f x) M) N - sumN (fun x => sumN (f x) M) x)) := by
    intro n
    induction n with
    | zero =>
      intro x s hx _ _
      obtain rfl : x = N := by omega
      rw [Int.sub_self, Int.add_zero]
      exact e0' s
    | succ n ih =>
      intro x s hx hs hb
      have hx' : x < N := by omega
      have hle : (M : Int) * x + M ≤ 1000 := by
        have h1 : (x + 1) * M ≤ N * M := Nat.mul_le_mul_right M (by omega)
        have h2 : (x + 1) * M ≤ 1000 := Nat.le_trans h1 hNM
        have h3 : (((x + 1) * M : Nat) : Int) ≤ ((1000 : Nat) : Int) := Int.ofNat_le.2 h2
        rw [Int.natCast_mul, Int.natCast_add, Int.add_mul] at h3
        have : (x : Int) * M = M * x := Int.mul_comm _ _
        omega
      have hb' : s ≤ 16 * ((M : Int) * x) := by rw [← Int.mul_assoc]; exact hb
      have hMx := hM x
      refine e0 x s _ hx' (inner M 0 x s _ (by omega) hx' hs (by omega) ?_)
      rw [show sumN (f x) 0 = 0 from rfl, Int.sub_zero]
      have h := ih (x + 1) (s + sumN (f x) M) (by omega) (by omega) (by
        rw [Int.natCast_add, Int.mul_add, Int.mul_assoc]
        omega)
      rw [show s + sumN (f x) M + (sumN (fun x => sumN (f x) M) N - sumN (fun x => sumN (f x) M) (x + 1)) = s + (sumN (fun x => sumN (f x) M) N - sumN (fun x => sumN (f x) M) x) by rw [sumN]; omega] at h
      exact h
  have h := outer N 0 0 (by omega) (by omega) (by simp)
  rw [show sumN (fun x => sumN (f x) M) 0 = 0 from rfl, Int.sub_zero, Int.zero_add] at h
  exact h
set_option maxRecDepth 100000 in
theorem wrap_u16 (n : Int) : IntKind.u16.wrap n = n % 65536 := by simp [IntKind.wrap, IntKind.bits, IntKind.signed]
theorem wraps_u16 (n : Int) (h₀ : 0 ≤ n) (h₁ : n < 2 ^ 16) : IntKind.u16.wrap n = n := by rw [wrap_u16]; omega
theorem u16_and1023 {x : Int} (h₀ : 0 ≤ x) (h₁ : x < 65536) : Go.bits .and .u16 x 1023 = x % 1024 := bits_mask .u16 16 (by decide) wraps_u16 10 (by decide) x h₀ h₁
theorem u16_and1 {x : Int} (h₀ : 0 ≤ x) (h₁ : x < 65536) : Go.bits .and .u16 x 1 = x % 2 := bits_mask .u16 16 (by decide) wraps_u16 1 (by decide) x h₀ h₁
def bitV (v : Int) (x : Nat) : Int := v / 2 ^ x % 2
theorem bitV_01 (v : Int) (x : Nat) : 0 ≤ bitV v x ∧ bitV v x ≤ 1 := by unfold bitV; omega
theorem pow_facts : (2 : Int) ^ 0 = 1 ∧ (2 : Int) ^ 1 = 2 ∧ (2 : Int) ^ 2 = 4 ∧ (2 : Int) ^ 3 = 8 ∧ (2 : Int) ^ 4 = 16 ∧ (2 : Int) ^ 5 = 32 ∧ (2 : Int) ^ 6 = 64 ∧ (2 : Int) ^ 7 = 128 ∧ (2 : Int) ^ 8 = 256 ∧ (2 : Int) ^ 9 = 512 := by decide
theorem bitV_mod {v : Int} (h₀ : 0 ≤ v) {x : Nat} (hx : x < 10) : bitV (v % 1024) x = bitV v x := by
  unfold bitV
  obtain ⟨p0, p1, p2, p3, p4, p5, p6, p7, p8, p9⟩ := pow_facts
  rcases (show x = 0 ∨ x = 1 ∨ x = 2 ∨ x = 3 ∨ x = 4 ∨ x = 5 ∨ x = 6 ∨ x = 7 ∨ x = 8 ∨ x = 9 by omega) with rfl | rfl | rfl | rfl | rfl | rfl | rfl | rfl | rfl | rfl
  all_goals first | rw [p0] | rw [p1] | rw [p2] | rw [p3] | rw [p4] | rw [p5] | rw [p6] | rw [p7] | rw [p8] | rw [p9]
  all_goals omega
theorem shr_bit {v : Int} (h₀ : 0 ≤ v) (h₁ : v < 65536) {x : Nat} (hx : x < 10) : Go.bits .and .u16 (shr .u16 v (x : Int)) 1 = bitV v x := by
  have hs : shr .u16 v (x : Int) = v / 2 ^ x := by
    unfold shr
    rw [Int.toNat_natCast, Nat.min_eq_left (show x ≤ IntKind.u16.bits by unfold IntKind.bits; dsimp only; omega)]
  have hp : (0 : Int) < 2 ^ x := Int.pow_pos (by omega)
  have h2 : v / 2 ^ x ≤ v := Int.ediv_le_self _ h₀
  rw [hs, u16_and1 (Int.ediv_nonneg h₀ (by omega)) (by omega)]
  rfl
theorem i8_small (x : Nat) (h : x < 128) : IntKind.i8.wrap (x : Int) = x := by simp [IntKind.wrap, IntKind.bits, IntKind.signed]; omega
theorem u64_small (x : Nat) (h : x < 128) : IntKind.u64.wrap (x : Int) = x := by simp [IntKind.wrap, IntKind.bits, IntKind.signed]; omega
theorem wf_u16 {n : Int} (h : (Lit.int .u16 n).wf = true) : 0 ≤ n ∧ n < 65536 := by
  simp [Lit.wf, IntKind.min, IntKind.max, IntKind.signed, IntKind.bits] at h
  omega
theorem wf_i8 {n : Int} (h : (Lit.int .i8 n).wf = true) : -128 ≤ n ∧ n ≤ 127 := by
  simp [Lit.wf, IntKind.min, IntKind.max, IntKind.signed, IntKind.bits] at h
  omega
theorem rd_bound (l : List Int) (h : ∀ x ∈ l, 0 ≤ x ∧ x < 65536) (i : Int) : 0 ≤ rd l i ∧ rd l i < 65536 := by
  unfold rd
  by_cases hi : i.toNat < l.length
  · exact h _ (getD_mem l _ 0 hi)
  · rw [List.getD_eq_getElem?_getD, List.getElem?_eq_none (by omega)]
    show (0:Int) ≤ 0 ∧ (0:Int) < 65536
    omega
end Go.Proofs.YtdedijjbdkoekaaDoor.Q
end
section
namespace Go.Proofs.YtdedijjbdkoekaaDoor.Q
open Go.RowKit Go.Proofs.YtdedijjbdkoekaaDoorW.PrintWords Go.Proofs.YtdedijjbdkoekaaDoorW.PrintLast Go.Proofs.YtdedijjbdkoekaaDoorW.PrintMore Go.Proofs.YtdedijjbdkoekaaDoor.La Go.Proofs.YtdedijjbdkoekaaDoor.PB
set_option linter.unusedVariables false
set_option linter.unusedSimpArgs false
theorem Within_c (a lo hi : Int) : impl_within.f a lo hi = some (inC a lo hi) := by
  unfold impl_within.f inC
  split
  · rename_i h; simp [h]
  · rename_i h; simp [h]
theorem u64_int {a : Int} (h0 : 0 ≤ a) (h1 : a < 128) : IntKind.u64.wrap a = a := by
  obtain ⟨n, rfl⟩ : ∃ n : Nat, a = n := ⟨a.toNat, by omega⟩
  exact u64_small n (by omega)
theorem mn_small {a : Int} (h : a ≤ 10) : mn a 10 = a := by unfold mn; split <;> omega
theorem Ok_loop (s0 s1 : Int) (W : LA 10) (h0 : 1 ≤ s0 ∧ s0 ≤ 10) : ∀ n x : Nat, x + n = 10 → ∃ b, Ev (fun k => spec_l01Ok.l0 k (x : Int) s0 s1 W) b ∧ Ev (fun k => impl_ValidRoom.l0 k W (x : Int) s0 s1 W) b := by
  have hu : IntKind.u64.wrap s0 = s0 := u64_int (by omega) (by omega)
  intro n
  induction n with
  | zero =>
    intro x hx
    obtain rfl : x = 10 := by omega
    refine ⟨true, Ev.succ ?_, Ev.succ ?_⟩
    · simp only [spec_l01Ok.l0]
      exact Ev.neg (by omega) (Ev.now true)
    · simp only [impl_ValidRoom.l0]
      exact Ev.neg (by omega) (Ev.now true)
  | succ n ih =>
    intro x hx
    obtain ⟨b, hb1, hb2⟩ := ih (x + 1) (by omega)
    by_cases p1 : shr .u16 (rd W.l (x : Int)) s0 = 0
    · by_cases p2 : (x : Int) ≥ wrap64 s1
      · by_cases p3 : rd W.l (x : Int) = 0
        · refine ⟨b, Ev.succ ?_, Ev.succ ?_⟩
          · simp only [spec_l01Ok.l0]
            rw [hu, wnat x 10 (by omega) (by omega)]
            exact Ev.pos (by omega) (Ev.pos (by omega) (Ev.pos (by omega) (Ev.pos p1 (Ev.pos p2 (Ev.pos p3 hb1)))))
          · simp only [impl_ValidRoom.l0]
            rw [wnat x 10 (by omega) (by omega)]
            exact Ev.pos (by omega) (Ev.pos (by omega) (Ev.pos (by omega) (Ev.pos p1 (Ev.pos p2 (Ev.pos p3 hb2)))))
        · refine ⟨false, Ev.succ ?_, Ev.succ ?_⟩
          · simp only [spec_l01Ok.l0]
            rw [hu]
            exact Ev.pos (by omega) (Ev.pos (by omega) (Ev.pos (by omega) (Ev.pos p1 (Ev.pos p2 (Ev.neg p3 (Ev.now false))))))
          · simp only [impl_ValidRoom.l0]
            exact Ev.pos (by omega) (Ev.pos (by omega) (Ev.pos (by omega) (Ev.pos p1 (Ev.pos p2 (Ev.neg p3 (Ev.now false))))))
      · refine ⟨b, Ev.succ ?_, Ev.succ ?_⟩
        · simp only [spec_l01Ok.l0]
          rw [hu, wnat x 10 (by omega) (by omega)]
          exact Ev.pos (by omega) (Ev.pos (by omega) (Ev.pos (by omega) (Ev.pos p1 (Ev.neg p2 hb1))))
        · simp only [impl_ValidRoom.l0]
          rw [wnat x 10 (by omega) (by omega)]
          exact Ev.pos (by omega) (Ev.pos (by omega) (Ev.pos (by omega) (Ev.pos p1 (Ev.neg p2 hb2))))
    · refine ⟨false, Ev.succ ?_, Ev.succ ?_⟩
      · simp only [spec_l01Ok.l0]
        rw [hu]
        exact Ev.pos (by omega) (Ev.pos (by omega) (Ev.pos (by omega) (Ev.neg p1 (Ev.now false))))
      · simp only [impl_ValidRoom.l0]
        exact Ev.pos (by omega) (Ev.pos (by omega) (Ev.pos (by omega) (Ev.neg p1 (Ev.now false))))
theorem Ok_both (s0 s1 : Int) (W : LA 10) (b0 : -128 ≤ s0 ∧ s0 ≤ 127) (b1 : -128 ≤ s1 ∧ s1 ≤ 127) :
    ∃ b, Ev (fun k => spec_l01Ok.f k s0 s1 W) b ∧ Ev (fun k => impl_ValidRoom.f k s0 s1 W) b ∧ (b = true → (1 ≤ s0 ∧ s0 ≤ 10) ∧ (1 ≤ s1 ∧ s1 ≤ 10)) := by
  have e0 := wint s0 (by omega) (by omega)
  have e1 := wint s1 (by omega) (by omega)
  have spec0 : ∀ b1 : Bool, Ev (fun k => spec_l01Ok.j0 k true s0 s1 W) false := fun _ => Ev.succ (by simp only [spec_l01Ok.j0]; exact Ev.pos trivial (Ev.now false))
  have impl0 : ∀ b1 : Bool, Ev (fun k => impl_ValidRoom.j0 k true s0 s1 W) false := fun _ => Ev.succ (by simp only [impl_ValidRoom.j0]; exact Ev.pos trivial (Ev.now false))
  by_cases h0 : inC s0 1 10 = true
  · by_cases h1 : inC s1 1 10 = true
    · have h0' : 1 ≤ s0 ∧ s0 ≤ 10 := by unfold inC at h0; simpa using h0
      have h1' : 1 ≤ s1 ∧ s1 ≤ 10 := by unfold inC at h1; simpa using h1
      obtain ⟨b, hb1, hb2⟩ := Ok_loop s0 s1 W h0' 10 0 rfl
      refine ⟨b, ?_, ?_, fun _ => ⟨h0', h1'⟩⟩
      · unfold spec_l01Ok.f
        rw [e0, e1, In_c, In_c, h0, h1]
        simp only [Option.bind_some, if_true, Bool.not_true]
        refine Ev.succ ?_
        simp only [spec_l01Ok.j0]
        exact Ev.neg (by simp) hb1
      · unfold impl_ValidRoom.f
        rw [e0, e1, Within_c, Within_c, h0, h1]
        simp only [Option.bind_some, if_true, Bool.not_true]
        refine Ev.succ ?_
        simp only [impl_ValidRoom.j0]
        exact Ev.neg (by simp) hb2
    · have h1' : inC s1 1 10 = false := by simpa using h1
      refine ⟨false, ?_, ?_, fun h => by cases h⟩
      · unfold spec_l01Ok.f
        rw [e0, e1, In_c, In_c, h0, h1']
        simp only [Option.bind_some, if_true, Bool.not_false]
        exact spec0 true
      · unfold impl_ValidRoom.f
        rw [e0, e1, Within_c, Within_c, h0, h1']
        simp only [Option.bind_some, if_true, Bool.not_false]
        exact impl0 true
  · have h0' : inC s0 1 10 = false := by simpa using h0
    refine ⟨false, ?_, ?_, fun h => by cases h⟩
    · unfold spec_l01Ok.f
      rw [e0, In_c, h0']
      simp only [Option.bind_some, Bool.false_eq_true, if_false]
      exact spec0 true
    · unfold impl_ValidRoom.f
      rw [e0, Within_c, h0']
      simp only [Option.bind_some, Bool.false_eq_true, if_false]
      exact impl0 true
def fr (W : List Int) (x y : Int) : Bool := bitV (rd W y) x.toNat == 0
theorem shr_div {v : Int} {x : Nat} (hx : x < 10) : shr .u16 v (x : Int) = v / 2 ^ x := by
  unfold shr
  rw [Int.toNat_natCast, Nat.min_eq_left (show x ≤ IntKind.u16.bits by unfold IntKind.bits; dsimp only; omega)]
theorem Free_s (s0 s1 : Int) (W : LA 10) (hb : ∀ i, 0 ≤ rd W.l i ∧ rd W.l i < 65536) (h0 : s0 ≤ 10) (h1 : s1 ≤ 10) (x y : Nat) (hx : (x : Int) < s0) (hy : (y : Int) < s1) :
    spec_l01Free.f s0 s1 W (x : Int) (y : Int) = some (fr W.l (x : Int) (y : Int)) := by
  unfold spec_l01Free.f spec_l01Is.f
  rw [wint s0 (by omega) (by omega), wint s1 (by omega) (by omega), wint (x : Int) (by omega) (by omega), wint (y : Int) (by omega) (by omega), wint (s0 - 1) (by omega) (by omega), wint (s1 - 1) (by omega) (by omega), In_c, In_c]
  rw [show inC (x : Int) 0 (s0 - 1) = true by unfold inC; simp; omega, show inC (y : Int) 0 (s1 - 1) = true by unfold inC; simp; omega]
  simp only [Option.bind_some, if_true]
  rw [if_pos (by omega), if_pos (by omega), u64_int (by omega) (by omega), if_pos (by omega), shr_div (by omega)]
  have hn : 0 ≤ rd W.l (y : Int) / 2 ^ x := Int.ediv_nonneg (hb _).1 (Int.le_of_lt (Int.pow_pos (by omega)))
  rw [Int.tmod_eq_emod_of_nonneg hn]
  unfold fr bitV
  rw [Int.toNat_natCast]
theorem Free_i (s0 s1 : Int) (W : LA 10) (hb : ∀ i, 0 ≤ rd W.l i ∧ rd W.l i < 65536) (h0 : s0 ≤ 10) (h1 : s1 ≤ 10) (x y : Nat) (hx : (x : Int) < s0) (hy : (y : Int) < s1) :
    impl_Room_isFree.f s0 s1 W (x : Int) (y : Int) = some (fr W.l (x : Int) (y : Int)) := by
  unfold impl_Room_isFree.f impl_Room_isCell.f
  rw [wint s0 (by omega) (by omega), wint s1 (by omega) (by omega), wint (x : Int) (by omega) (by omega), wint (y : Int) (by omega) (by omega), mn_small h0, mn_small h1, wint (s0 - 1) (by omega) (by omega), wint (s1 - 1) (by omega) (by omega), Within_c, Within_c]
  rw [show inC (x : Int) 0 (s0 - 1) = true by unfold inC; simp; omega, show inC (y : Int) 0 (s1 - 1) = true by unfold inC; simp; omega]
  simp only [Option.bind_some, if_true]
  rw [if_pos (by omega), if_pos (by omega), if_pos (by omega), shr_bit (hb _).1 (hb _).2 (by omega)]
  unfold fr
  rw [Int.toNat_natCast]
def rowL (p : Int → Int → Bool) (y : Int) (acc : List S41) : Nat → List S41
  | 0 => acc
  | x + 1 => if p (x : Int) y then rowL p y acc x ++ [⟨(x : Int), y⟩] else rowL p y acc x
def cellsL (p : Int → Int → Bool) (w : Nat) : Nat → List S41
  | 0 => []
  | y + 1 => rowL p (y : Int) (cellsL p w y) w
theorem rowL_len (p : Int → Int → Bool) (y : Int) (acc : List S41) : ∀ x, (rowL p y acc x).length ≤ acc.length + x
  | 0 => by simp [rowL]
  | x + 1 => by have := rowL_len p y acc x; rw [rowL]; split <;> simp <;> omega
theorem cellsL_len (p : Int → Int → Bool) (w : Nat) : ∀ y, (cellsL p w y).length ≤ w * y
  | 0 => by simp [cellsL]
  | y + 1 => by
    have h1 := cellsL_len p w y
    have h2 := rowL_len p (y : Int) (cellsL p w y) w
    rw [cellsL, Nat.mul_succ]
    omega
theorem rowL_mem (p : Int → Int → Bool) (w : Nat) (y : Int) (acc : List S41) (P : S41 → Prop) (ha : ∀ q ∈ acc, P q) (hp : ∀ x : Nat, x < w → P ⟨(x : Int), y⟩) : ∀ x, x ≤ w → ∀ q ∈ rowL p y acc x, P q
  | 0, _ => ha
  | x + 1, hx => by
    have ih := rowL_mem p w y acc P ha hp x (by omega)
    rw [rowL]
    split
    · intro q hq
      rcases List.mem_append.1 hq with h | h
      · exact ih q h
      · obtain rfl := List.mem_singleton.1 h
        exact hp x (by omega)
    · exact ih
theorem cellsL_mem (p : Int → Int → Bool) (w h : Nat) : ∀ y, y ≤ h → ∀ q ∈ cellsL p w y, (0 ≤ q.f0 ∧ q.f0 < w) ∧ (0 ≤ q.f1 ∧ q.f1 < h)
  | 0, _ => fun q hq => by simp [cellsL] at hq
  | y + 1, hy => rowL_mem p w (y : Int) _ _ (cellsL_mem p w h y (by omega)) (fun x hx => ⟨⟨by simp, by dsimp only; omega⟩, ⟨by simp, by dsimp only; omega⟩⟩) w (Nat.le_refl _)
theorem Ev.cells (p : Int → Int → Bool) (w h : Nat) (hw : w ≤ 10) (hh : h ≤ 10) (L0 : Nat → List S41 → Int → Option (List S41)) (L1 : Nat → List S41 → Int → Int → Option (List S41))
    (e0 : ∀ acc (y : Nat) r, y < h → Ev (fun k => L1 k acc (y : Int) 0) r → Ev (fun k => L0 k acc (y : Int)) r) (e0' : ∀ acc, Ev (fun k => L0 k acc (h : Int)) acc)
    (e1 : ∀ acc (y x : Nat) r, y < h → x < w → acc.length ≤ 1000 → Ev (fun k => L1 k (if p (x : Int) (y : Int) then acc ++ [⟨(x : Int), (y : Int)⟩] else acc) (y : Int) ((x + 1 : Nat) : Int)) r → Ev (fun k => L1 k acc (y : Int) (x : Int)) r)
    (e1' : ∀ acc (y : Nat) r, y < h → Ev (fun k => L0 k acc ((y + 1 : Nat) : Int)) r → Ev (fun k => L1 k acc (y : Int) (w : Int)) r) :
    Ev (fun k => L0 k [] 0) (cellsL p w h) := by
  have inner : ∀ (n x y : Nat) (acc : List S41) r, x + n = w → y < h → acc.length ≤ 900 → Ev (fun k => L0 k (rowL p (y : Int) acc w) ((y + 1 : Nat) : Int)) r → Ev (fun k => L1 k (rowL p (y : Int) acc x) (y : Int) (x : Int)) r := by
    intro n
    induction n with
    | zero =>
      intro x y acc r hx hy hl hr
      obtain rfl : x = w := by omega
      exact e1' _ y r hy hr
    | succ n ih =>
      intro x y acc r hx hy hl hr
      have := rowL_len p (y : Int) acc x
      exact e1 _ y x r hy (by omega) (by omega) (ih (x + 1) y acc r (by omega) hy hl hr)
  have outer : ∀ (n y : Nat), y + n = h → Ev (fun k => L0 k (cellsL p w y) (y : Int)) (cellsL p w h) := by
    intro n
    induction n with
    | zero =>
      intro y hy
      obtain rfl : y = h := by omega
      exact e0' _
    | succ n ih =>
      intro y hy
      have h1 := cellsL_len p w y
      have h2 : w * y ≤ 10 * 10 := Nat.mul_le_mul hw (by omega)
      exact e0 _ y _ (by omega) (inner w 0 y _ _ (by omega) (by omega) (by omega) (ih (y + 1) (by omega)))
  exact outer h 0 (by omega)
theorem i8_wnat (x : Nat) (h : x < 10) : IntKind.i8.wrap ((x : Int) + 1) = ((x + 1 : Nat) : Int) := by
  have := i8_small (x + 1) (by omega)
  rw [← this]
  congr 1
theorem All_s (s0 s1 : Int) (W : LA 10) (hb : ∀ i, 0 ≤ rd W.l i ∧ rd W.l i < 65536) (w h : Nat) (hw : w ≤ 10) (hh : h ≤ 10) (e0 : s0 = w) (e1 : s1 = h) : Ev (fun k => spec_l01All.f k s0 s1 W) (cellsL (fr W.l) w h) := by
  show Ev (fun k => spec_l01All.l0 k [] 0 s0 s1 W) _
  refine Ev.cells (fr W.l) w h hw hh (fun k acc y => spec_l01All.l0 k acc y s0 s1 W) (fun k acc y x => spec_l01All.l1 k acc y x s0 s1 W) ?_ ?_ ?_ ?_
  · intro acc y r hy hr
    refine Ev.succ ?_
    simp only [spec_l01All.l0]
    exact Ev.pos (by omega) hr
  · intro acc
    refine Ev.succ ?_
    simp only [spec_l01All.l0]
    exact Ev.neg (by omega) (Ev.now acc)
  · intro acc y x r hy hx hl hr
    refine Ev.succ ?_
    simp only [spec_l01All.l1]
    refine Ev.pos (by omega) ?_
    rw [Free_s s0 s1 W hb (by omega) (by omega) x y (by omega) (by omega), i8_wnat x (by omega)]
    simp only [Option.bind_some]
    cases hc : fr W.l (x : Int) (y : Int) with
    | true =>
      rw [hc] at hr
      simp only [if_true] at hr ⊢
      exact Ev.pos (by omega) hr
    | false =>
      rw [hc] at hr
      simp only [Bool.false_eq_true, if_false] at hr ⊢
      exact hr
  · intro acc y r hy hr
    refine Ev.succ ?_
    simp only [spec_l01All.l1]
    rw [i8_wnat y (by omega)]
    exact Ev.neg (by omega) hr
theorem All_i (s0 s1 : Int) (W : LA 10) (hb : ∀ i, 0 ≤ rd W.l i ∧ rd W.l i < 65536) (w h : Nat) (hw : w ≤ 10) (hh : h ≤ 10) (e0 : s0 = w) (e1 : s1 = h) : Ev (fun k => impl_Room_free.f k s0 s1 W) (cellsL (fr W.l) w h) := by
  unfold impl_Room_free.f
  refine Ev.bind (a := cellsL (fr W.l) w h) ?_ (Ev.now _)
  show Ev (fun k => impl_Room_cells__51.l0 k [] s1 0 s0 s1 W s0 s1 W) _
  refine Ev.cells (fr W.l) w h hw hh (fun k acc y => impl_Room_cells__51.l0 k acc s1 y s0 s1 W s0 s1 W) (fun k acc y x => impl_Room_cells__51.l1 k acc y s1 y s0 x s0 s1 W s0 s1 W) ?_ ?_ ?_ ?_
  · intro acc y r hy hr
    refine Ev.succ ?_
    simp only [impl_Room_cells__51.l0]
    exact Ev.pos (by omega) hr
  · intro acc
    refine Ev.succ ?_
    simp only [impl_Room_cells__51.l0]
    exact Ev.neg (by omega) (Ev.now acc)
  · intro acc y x r hy hx hl hr
    refine Ev.succ ?_
    simp only [impl_Room_cells__51.l1]
    refine Ev.pos (by omega) ?_
    rw [Free_i s0 s1 W hb (by omega) (by omega) x y (by omega) (by omega), i8_wnat x (by omega)]
    simp only [Option.bind_some]
    cases hc : fr W.l (x : Int) (y : Int) with
    | true =>
      rw [hc] at hr
      simp only [if_true] at hr ⊢
      exact Ev.pos (by omega) hr
    | false =>
      rw [hc] at hr
      simp only [Bool.false_eq_true, if_false] at hr ⊢
      exact hr
  · intro acc y r hy hr
    refine Ev.succ ?_
    simp only [impl_Room_cells__51.l1]
    rw [i8_wnat y (by omega)]
    exact Ev.neg (by omega) hr
def isC (s0 s1 x y : Int) : Bool := inC x 0 (s0 - 1) && inC y 0 (s1 - 1)
def frC (s0 s1 : Int) (W : LA 10) (x y : Int) : Bool := isC s0 s1 x y && fr W.l x y
theorem isC_bounds {s0 s1 x y : Int} (h : isC s0 s1 x y = true) : (0 ≤ x ∧ x < s0) ∧ (0 ≤ y ∧ y < s1) := by
  unfold isC inC at h
  simp at h
  omega
theorem Is_s (s0 s1 : Int) (W : LA 10) (h0 : 1 ≤ s0 ∧ s0 ≤ 10) (h1 : 1 ≤ s1 ∧ s1 ≤ 10) (x y : Int) (hx : -128 ≤ x ∧ x ≤ 127) (hy : -128 ≤ y ∧ y ≤ 127) : spec_l01Is.f s0 s1 W x y = some (isC s0 s1 x y) := by
  unfold spec_l01Is.f isC
  rw [wint s0 (by omega) (by omega), wint s1 (by omega) (by omega), wint x (by omega) (by omega), wint y (by omega) (by omega), wint (s0 - 1) (by omega) (by omega), wint (s1 - 1) (by omega) (by omega), In_c, In_c]
  simp only [Option.bind_some]
  cases inC x 0 (s0 - 1) <;> simp
theorem Is_i (s0 s1 : Int) (W : LA 10) (h0 : 1 ≤ s0 ∧ s0 ≤ 10) (h1 : 1 ≤ s1 ∧ s1 ≤ 10) (x y : Int) (hx : -128 ≤ x ∧ x ≤ 127) (hy : -128 ≤ y ∧ y ≤ 127) : impl_Room_isCell.f s0 s1 W x y = some (isC s0 s1 x y) := by
  unfold impl_Room_isCell.f isC
  rw [wint s0 (by omega) (by omega), wint s1 (by omega) (by omega), wint x (by omega) (by omega), wint y (by omega) (by omega), mn_small h0.2, mn_small h1.2, wint (s0 - 1) (by omega) (by omega), wint (s1 - 1) (by omega) (by omega), Within_c, Within_c]
  simp only [Option.bind_some]
  cases inC x 0 (s0 - 1) <;> simp
theorem Fr_s (s0 s1 : Int) (W : LA 10) (hb : ∀ i, 0 ≤ rd W.l i ∧ rd W.l i < 65536) (h0 : 1 ≤ s0 ∧ s0 ≤ 10) (h1 : 1 ≤ s1 ∧ s1 ≤ 10) (x y : Int) (hx : -128 ≤ x ∧ x ≤ 127) (hy : -128 ≤ y ∧ y ≤ 127) : spec_l01Free.f s0 s1 W x y = some (frC s0 s1 W x y) := by
  cases hc : isC s0 s1 x y with
  | true =>
    have hd := isC_bounds hc
    obtain ⟨n, rfl⟩ : ∃ n : Nat, x = n := ⟨x.toNat, by omega⟩
    obtain ⟨m, rfl⟩ : ∃ m : Nat, y = m := ⟨y.toNat, by omega⟩
    rw [Free_s s0 s1 W hb (by omega) (by omega) n m (by omega) (by omega)]
    unfold frC
    rw [hc]
    rfl
  | false =>
    unfold spec_l01Free.f frC
    rw [Is_s s0 s1 W h0 h1 x y hx hy, hc]
    rfl
theorem Fr_i (s0 s1 : Int) (W : LA 10) (hb : ∀ i, 0 ≤ rd W.l i ∧ rd W.l i < 65536) (h0 : 1 ≤ s0 ∧ s0 ≤ 10) (h1 : 1 ≤ s1 ∧ s1 ≤ 10) (x y : Int) (hx : -128 ≤ x ∧ x ≤ 127) (hy : -128 ≤ y ∧ y ≤ 127) : impl_Room_isFree.f s0 s1 W x y = some (frC s0 s1 W x y) := by
  cases hc : isC s0 s1 x y with
  | true =>
    have hd := isC_bounds hc
    obtain ⟨n, rfl⟩ : ∃ n : Nat, x = n := ⟨x.toNat, by omega⟩
    obtain ⟨m, rfl⟩ : ∃ m : Nat, y = m := ⟨y.toNat, by omega⟩
    rw [Free_i s0 s1 W hb (by omega) (by omega) n m (by omega) (by omega)]
    unfold frC
    rw [hc]
    rfl
  | false =>
    unfold impl_Room_isFree.f frC
    rw [Is_i s0 s1 W h0 h1 x y hx hy, hc]
    rfl
def RB (s0 s1 : Int) (W : LA 10) : Prop := (-128 ≤ s0 ∧ s0 ≤ 127) ∧ (-128 ≤ s1 ∧ s1 ≤ 127) ∧ ∀ i, 0 ≤ rd W.l i ∧ rd W.l i < 65536
theorem rb_mk {s0 s1 : Int} {W : LA 10} (w0 : (Lit.int .i8 s0).wf = true) (w1 : (Lit.int .i8 s1).wf = true) (h : ∀ x ∈ W.l, (Lit.int .u16 x).wf = true) : RB s0 s1 W := ⟨wf_i8 w0, wf_i8 w1, rd_bound _ fun x hx => wf_u16 (h x hx)⟩
def CB (C : LA 40) : Prop := ∀ i, 0 ≤ rd C.l i ∧ rd C.l i < 65536
end Go.Proofs.YtdedijjbdkoekaaDoor.Q
end
section
namespace Go.Proofs.YtdedijjbdkoekaaDoor.Q
open Go.RowKit Go.Proofs.YtdedijjbdkoekaaDoorW.PrintWords Go.Proofs.YtdedijjbdkoekaaDoorW.PrintLast Go.Proofs.YtdedijjbdkoekaaDoorW.PrintMore Go.Proofs.YtdedijjbdkoekaaDoor.La Go.Proofs.YtdedijjbdkoekaaDoor.PB
set_option linter.unusedVariables false
set_option linter.unusedSimpArgs false
def putA (C : LA 40) (x y d : Int) : LA 40 := LA.set C (d * 10 + y) (Go.bits .or .u16 (rd C.l (d * 10 + y)) (shl .u16 1 x))
theorem putA_s (C : LA 40) (x y d : Int) (hx : 0 ≤ x ∧ x < 10) (hy : 0 ≤ y ∧ y < 10) (hd : 0 ≤ d ∧ d < 4) : spec_l06Put.f C x y d = some (putA C x y d) := by
  unfold spec_l06Put.f putA
  rw [if_pos (by omega), if_pos (by omega), if_pos (by omega), if_pos (by omega), u64_int hx.1 (by omega)]
theorem putA_i (C : LA 40) (x y d : Int) (hx : 0 ≤ x ∧ x < 10) (hy : 0 ≤ y ∧ y < 10) (hd : 0 ≤ d ∧ d < 4) : impl_Crowd_set.f C x y d = some (putA C x y d) := by
  unfold impl_Crowd_set.f putA
  rw [if_pos (by omega), if_pos (by omega), if_pos (by omega), if_pos (by omega), if_pos (by omega)]
theorem ext_rd {n : Nat} {A B : LA n} (h : ∀ j : Nat, j < n → rd A.l (j : Int) = rd B.l (j : Int)) : A = B := by
  apply LA.ext_l
  apply List.ext_getElem (by rw [A.h, B.h])
  intro j h1 h2
  have hj : j < n := by rw [A.h] at h1; exact h1
  have := h j hj
  rw [rd_nat, rd_nat, List.getD_eq_getElem?_getD, List.getD_eq_getElem?_getD, List.getElem?_eq_getElem h1, List.getElem?_eq_getElem h2] at this
  exact this
theorem rdT_get (l : List S41) (i : Nat) : rd_T41 l (i : Int) = l.getD i z41 := by simp [rd_T41]
def InvA (C : LA 40) (M : Nat → Nat → Nat → Bool) : Prop := ∀ d y : Nat, d < 4 → y < 10 → ∃ n : Nat, rd C.l ((d : Int) * 10 + (y : Int)) = n ∧ n < 2 ^ 16 ∧ ∀ x : Nat, n.testBit x = M d x y
theorem shl_pow (x : Nat) (hx : x < 10) : shl .u16 1 (x : Int) = ((2 ^ x : Nat) : Int) := by
  unfold shl
  rw [Int.one_mul, Int.toNat_natCast, Nat.min_eq_left (show x ≤ IntKind.u16.bits by unfold IntKind.bits; dsimp only; omega), wrap_u16]
  have h3 : 2 ^ x ≤ 2 ^ 9 := Nat.pow_le_pow_right (by omega) (by omega)
  have h2 : (2 : Int) ^ x = ((2 ^ x : Nat) : Int) := by simp
  rw [h2]
  generalize 2 ^ x = m at h3 ⊢
  omega
theorem InvA.put {C : LA 40} {M : Nat → Nat → Nat → Bool} (hb : InvA C M) (x y d : Nat) (hx : x < 10) (hy : y < 10) (hd : d < 4) : InvA (putA C (x : Int) (y : Int) (d : Int)) (fun d' x' y' => M d' x' y' || (decide (d' = d) && decide (x' = x) && decide (y' = y))) := by
  intro d' y' hd' hy'
  by_cases he : d' = d ∧ y' = y
  · obtain ⟨rfl, rfl⟩ := he
    obtain ⟨n, hn, hlt, ht⟩ := hb d' y' hd hy
    have hp : 2 ^ x < 2 ^ 16 := Nat.pow_lt_pow_right (by omega) (by omega)
    refine ⟨n ||| 2 ^ x, ?_, Nat.or_lt_two_pow hlt hp, fun x' => ?_⟩
    · rw [putA, rd_set_same _ _ _ (by omega) (by omega), hn, shl_pow x hx]
      exact (bits_nat .u16 16 (by decide) wraps_u16 n (2 ^ x) hlt hp).2
    · rw [Nat.testBit_or, Nat.testBit_two_pow, ht x']
      by_cases hxx : x' = x
      · subst hxx; simp
      · simp [hxx, Ne.symm hxx]
  · obtain ⟨n, hn, hlt, ht⟩ := hb d' y' hd' hy'
    refine ⟨n, ?_, hlt, fun x' => ?_⟩
    · rw [putA, rd_set_other _ _ _ _ (by omega) (by omega) (by omega), hn]
    · rw [ht x']
      by_cases h1 : d' = d
      · have h2 : ¬ y' = y := fun h2 => he ⟨h1, h2⟩
        simp [h2]
      · simp [h1]
theorem InvA.congr {C : LA 40} {M M' : Nat → Nat → Nat → Bool} (h : InvA C M) (e : ∀ d x y, d < 4 → M d x y = M' d x y) : InvA C M' :=
  fun d y hd hy => by obtain ⟨n, h1, h2, h3⟩ := h d y hd hy; exact ⟨n, h1, h2, fun x => (h3 x).trans (e d x y hd)⟩
theorem InvA.zero : InvA (LA.zero 40) (fun _ _ _ => false) :=
  fun d y hd hy => ⟨0, rd_zero _, by omega, fun x => Nat.zero_testBit x⟩
theorem row_any (p : Int → Int → Bool) (y : Nat) (acc : List S41) (x' y' : Nat) : ∀ n : Nat, ((rowL p (y : Int) acc n).any fun q => decide (q.f0 = (x' : Int)) && decide (q.f1 = (y' : Int))) = ((acc.any fun q => decide (q.f0 = (x' : Int)) && decide (q.f1 = (y' : Int))) || (decide (x' < n) && decide (y' = y) && p (x' : Int) (y' : Int)))
  | 0 => by simp [rowL]
  | n + 1 => by
    have ih := row_any p y acc x' y' n
    rw [rowL]
    by_cases h1 : x' = n
    · subst h1
      by_cases h2 : y' = y
      · subst h2
        cases hp : p (x' : Int) (y' : Int) with
        | true => rw [if_pos rfl, List.any_append, ih]; simp
        | false => rw [if_neg (by simp), ih]; simp [hp]
      · split
        · rw [List.any_append, ih]
          have : ¬ (y : Int) = (y' : Int) := by omega
          simp [h2, this]
        · rw [ih]; simp [h2]
    · have hlt : decide (x' < n + 1) = decide (x' < n) := decide_eq_decide.2 ⟨fun h => by omega, fun h => by omega⟩
      have hne : ¬ (n : Int) = (x' : Int) := by omega
      rw [hlt]
      split
      · rw [List.any_append, ih]; simp [hne]
      · exact ih
theorem cells_any (p : Int → Int → Bool) (w : Nat) (x y : Nat) : ∀ h : Nat, ((cellsL p w h).any fun q => decide (q.f0 = (x : Int)) && decide (q.f1 = (y : Int))) = (decide (x < w) && decide (y < h) && p (x : Int) (y : Int))
  | 0 => by simp [cellsL]
  | h + 1 => by
    rw [cellsL, row_any, cells_any p w x y h]
    by_cases h1 : y < h
    · have h2 : ¬ y = h := by omega
      have h3 : y < h + 1 := by omega
      simp [h1, h2, h3]
    · by_cases h2 : y = h
      · subst h2; simp
      · have h3 : ¬ y < h + 1 := by omega
        simp [h1, h2, h3]
theorem InvA.ext {C C' : LA 40} {M M' : Nat → Nat → Nat → Bool} (h : InvA C M) (h' : InvA C' M') (e : ∀ d x y, d < 4 → y < 10 → M d x y = M' d x y) : C = C' := by
  refine ext_rd fun j hj => ?_
  obtain ⟨n, h1, h2, h3⟩ := h (j / 10) (j % 10) (by omega) (by omega)
  obtain ⟨m, g1, g2, g3⟩ := h' (j / 10) (j % 10) (by omega) (by omega)
  have ej : ((j / 10 : Nat) : Int) * 10 + ((j % 10 : Nat) : Int) = (j : Int) := by omega
  rw [ej] at h1 g1
  rw [h1, g1]
  have : n = m := Nat.eq_of_testBit_eq fun x => by rw [h3, g3, e _ _ _ (by omega) (by omega)]
  rw [this]
theorem InvA.cb {C : LA 40} {M : Nat → Nat → Nat → Bool} (h : InvA C M) : CB C := by
  intro i
  refine rd_bound _ (fun x hx => ?_) i
  obtain ⟨j, hj, e⟩ := List.mem_iff_getElem.1 hx
  have hj40 : j < 40 := by rw [C.h] at hj; exact hj
  obtain ⟨n, h1, h2, h3⟩ := h (j / 10) (j % 10) (by omega) (by omega)
  have ej : ((j / 10 : Nat) : Int) * 10 + ((j % 10 : Nat) : Int) = (j : Int) := by omega
  rw [ej, rd_nat, List.getD_eq_getElem?_getD, List.getElem?_eq_getElem hj] at h1
  have h5 : x = n := by rw [← e]; exact h1
  omega
def hasA (C : LA 40) (x y d : Int) : Bool := Go.bits .and .u16 (shr .u16 (rd C.l (d * 10 + y)) x) 1 == 1
theorem has_i (C : LA 40) (x y d : Int) (hx : 0 ≤ x ∧ x < 10) (hy : 0 ≤ y ∧ y < 10) (hd : 0 ≤ d ∧ d < 4) : impl_Crowd_has.f C x y d = some (hasA C x y d) := by
  unfold impl_Crowd_has.f hasA
  rw [if_pos hd.1, if_pos hd.2, if_pos hy.1, if_pos hy.2, if_pos hx.1]
theorem bit16 (a : Nat) (ha : a < 2 ^ 16) (x : Nat) (hx : x < 16) : (Go.bits .and .u16 (shr .u16 (a : Int) (x : Int)) 1 = 1) ↔ a.testBit x = true := by
  have hs : shr .u16 (a : Int) (x : Int) = ((a / 2 ^ x : Nat) : Int) := by
    unfold shr
    rw [Int.toNat_natCast, Nat.min_eq_left (show x ≤ IntKind.u16.bits by unfold IntKind.bits; dsimp only; omega)]
    simp
  have hle : a / 2 ^ x ≤ a := Nat.div_le_self _ _
  rw [hs, Nat.testBit_eq_decide_div_mod_eq, decide_eq_true_iff]
  generalize a / 2 ^ x = q at hle ⊢
  rw [u16_and1 (by omega) (by omega)]
  omega
theorem InvA.has {C : LA 40} {M : Nat → Nat → Nat → Bool} (h : InvA C M) (x y d : Nat) (hx : x < 16) (hy : y < 10) (hd : d < 4) : hasA C (x : Int) (y : Int) (d : Int) = M d x y := by
  obtain ⟨n, h1, h2, h3⟩ := h d y hd hy
  unfold hasA
  rw [h1, ← h3 x]
  have := bit16 n h2 x hx
  cases hb : n.testBit x with
  | true => rw [this.2 hb]; rfl
  | false =>
    rw [beq_eq_false_iff_ne]
    intro e
    rw [this.1 e] at hb
    cases hb
def crow (S : List (Nat × Nat × Nat)) : LA 40 := S.foldl (fun C p => putA C (p.1 : Int) (p.2.1 : Int) (p.2.2 : Int)) (LA.zero 40)
def inR (p : Nat × Nat × Nat) : Prop := p.1 < 10 ∧ p.2.1 < 10 ∧ p.2.2 < 4
theorem crow_snoc (S : List (Nat × Nat × Nat)) (p : Nat × Nat × Nat) : crow (S ++ [p]) = putA (crow S) (p.1 : Int) (p.2.1 : Int) (p.2.2 : Int) := by
  unfold crow
  rw [List.foldl_append]
  rfl
theorem crow_inv0 : ∀ (S : List (Nat × Nat × Nat)) (C : LA 40) (M : Nat → Nat → Nat → Bool), InvA C M → (∀ p ∈ S, inR p) → InvA (S.foldl (fun C p => putA C (p.1 : Int) (p.2.1 : Int) (p.2.2 : Int)) C) (fun d x y => M d x y || decide ((x, y, d) ∈ S))
  | [], C, M, h, _ => h.congr fun d x y _ => by simp
  | p :: S, C, M, h, hr => by
    have hp := hr p (by simp)
    have h1 := crow_inv0 S _ _ (h.put p.1 p.2.1 p.2.2 hp.1 hp.2.1 hp.2.2) (fun q hq => hr q (by simp [hq]))
    refine h1.congr fun d x y _ => ?_
    rw [Bool.or_assoc]
    congr 1
    rw [Bool.eq_iff_iff]
    obtain ⟨a, b, c⟩ := p
    simp only [Bool.or_eq_true, Bool.and_eq_true, decide_eq_true_eq, List.mem_cons, Prod.mk.injEq]
    constructor
    · rintro (⟨⟨h1, h2⟩, h3⟩ | h1)
      · exact .inl ⟨h2, h3, h1⟩
      · exact .inr h1
    · rintro (⟨h1, h2, h3⟩ | h1)
      · exact .inl ⟨⟨h3, h1⟩, h2⟩
      · exact .inr h1
theorem crow_inv (S : List (Nat × Nat × Nat)) (hr : ∀ p ∈ S, inR p) : InvA (crow S) (fun d x y => decide ((x, y, d) ∈ S)) := (crow_inv0 S _ _ InvA.zero hr).congr fun d x y _ => by rw [Bool.false_or]
theorem crow_ext {S T : List (Nat × Nat × Nat)} (hS : ∀ p ∈ S, inR p) (e : ∀ p, p ∈ S ↔ p ∈ T) : crow S = crow T :=
  (crow_inv S hS).ext (crow_inv T fun p hp => hS p ((e p).2 hp)) fun d x y _ _ => decide_eq_decide.2 (e _)
theorem crow_has (S : List (Nat × Nat × Nat)) (hr : ∀ p ∈ S, inR p) (x y d : Nat) (hx : x < 16) (hy : y < 10) (hd : d < 4) : hasA (crow S) (x : Int) (y : Int) (d : Int) = decide ((x, y, d) ∈ S) := (crow_inv S hr).has x y d hx hy hd
end Go.Proofs.YtdedijjbdkoekaaDoor.Q
end
section
namespace Go.Proofs.YtdedijjbdkoekaaDoor.Q
open Go.RowKit Go.Proofs.YtdedijjbdkoekaaDoorW.PrintWords Go.Proofs.YtdedijjbdkoekaaDoorW.PrintLast Go.Proofs.YtdedijjbdkoekaaDoorW.PrintMore Go.Proofs.YtdedijjbdkoekaaDoor.La Go.Proofs.YtdedijjbdkoekaaDoor.PB
set_option linter.unusedVariables false
set_option linter.unusedSimpArgs false
def freeB (W : List Int) (w h x y : Nat) : Bool := decide (x < w) && decide (y < h) && fr W (x : Int) (y : Int)
def VA (w h : Nat) (W : LA 10) (C : LA 40) : Prop := ∀ x y d : Nat, x < 16 → y < 10 → d < 4 → hasA C (x : Int) (y : Int) (d : Int) = true → freeB W.l w h x y = true
end Go.Proofs.YtdedijjbdkoekaaDoor.Q
end
section
namespace Go.Proofs.YtdedijjbdkoekaaDoor.Q
open Go.RowKit Go.Proofs.YtdedijjbdkoekaaDoorW.PrintWords Go.Proofs.YtdedijjbdkoekaaDoorW.PrintLast Go.Proofs.YtdedijjbdkoekaaDoorW.PrintMore Go.Proofs.YtdedijjbdkoekaaDoor.La Go.Proofs.YtdedijjbdkoekaaDoor.PB
set_option linter.unusedVariables false
set_option linter.unusedSimpArgs false
def nx (x y d : Int) : Int × Int := if d = 0 then (x, y - 1) else if d = 1 then (x + 1, y) else if d = 2 then (x, y + 1) else if d = 3 then (x - 1, y) else (x, y)
theorem i8_id (a : Int) (h0 : -128 ≤ a) (h1 : a ≤ 127) : IntKind.i8.wrap a = a := by
  simp [IntKind.wrap, IntKind.bits, IntKind.signed]
  split <;> omega
theorem Next_s (x y d : Int) (hx : 0 ≤ x ∧ x < 10) (hy : 0 ≤ y ∧ y < 10) : spec_l01Next.f x y d = some (nx x y d) := by
  unfold spec_l01Next.f nx
  rw [i8_id (y - 1) (by omega) (by omega), i8_id (x + 1) (by omega) (by omega), i8_id (y + 1) (by omega) (by omega), i8_id (x - 1) (by omega) (by omega)]
  (repeat' split) <;> rfl
theorem Next_i (x y d : Int) (hx : 0 ≤ x ∧ x < 10) (hy : 0 ≤ y ∧ y < 10) : impl_NextSpot.f x y d = some (nx x y d) := by
  unfold impl_NextSpot.f nx
  rw [i8_id (y - 1) (by omega) (by omega), i8_id (x + 1) (by omega) (by omega), i8_id (y + 1) (by omega) (by omega), i8_id (x - 1) (by omega) (by omega)]
  (repeat' split) <;> rfl
theorem nx_bound (x y d : Int) (hx : 0 ≤ x ∧ x < 10) (hy : 0 ≤ y ∧ y < 10) : (-128 ≤ (nx x y d).1 ∧ (nx x y d).1 ≤ 127) ∧ (-128 ≤ (nx x y d).2 ∧ (nx x y d).2 ≤ 127) := by
  unfold nx
  (repeat' split) <;> (dsimp only; omega)
def mv (s0 s1 : Int) (W : LA 10) (m : Int) (p : Nat × Nat × Nat) : Option (Nat × Nat × Nat) :=
  if m = 102 then (if frC s0 s1 W (nx p.1 p.2.1 p.2.2).1 (nx p.1 p.2.1 p.2.2).2 then some ((nx p.1 p.2.1 p.2.2).1.toNat, (nx p.1 p.2.1 p.2.2).2.toNat, p.2.2) else none)
  else if m = 98 then (if frC s0 s1 W (nx p.1 p.2.1 p.2.2).1 (nx p.1 p.2.1 p.2.2).2 then none else some p)
  else if m = 108 then some (p.1, p.2.1, (p.2.2 + 3) % 4) else if m = 114 then some (p.1, p.2.1, (p.2.2 + 1) % 4) else some p
theorem frC_nat {s0 s1 : Int} {W : LA 10} {a b : Int} (h0 : s0 ≤ 10) (h1 : s1 ≤ 10) (h : frC s0 s1 W a b = true) : (0 ≤ a ∧ a < 10) ∧ (0 ≤ b ∧ b < 10) := by
  unfold frC at h
  simp only [Bool.and_eq_true] at h
  have := isC_bounds h.1
  omega
theorem mv_inR (s0 s1 : Int) (W : LA 10) (h0 : s0 ≤ 10) (h1 : s1 ≤ 10) (m : Int) (p q : Nat × Nat × Nat) (hp : inR p) (h : mv s0 s1 W m p = some q) : inR q := by
  obtain ⟨p1, p2, p3⟩ := hp
  unfold mv at h
  split at h
  · split at h
    · rename_i hf
      have := frC_nat h0 h1 hf
      obtain rfl := Option.some.inj h
      refine ⟨?_, ?_, p3⟩
      · show (nx p.1 p.2.1 p.2.2).1.toNat < 10
        omega
      · show (nx p.1 p.2.1 p.2.2).2.toNat < 10
        omega
    · cases h
  · split at h
    · split at h
      · cases h
      · obtain rfl := Option.some.inj h
        exact ⟨p1, p2, p3⟩
    · split at h
      · obtain rfl := Option.some.inj h
        exact ⟨p1, p2, Nat.mod_lt _ (by omega)⟩
      · split at h
        · obtain rfl := Option.some.inj h
          exact ⟨p1, p2, Nat.mod_lt _ (by omega)⟩
        · obtain rfl := Option.some.inj h
          exact ⟨p1, p2, p3⟩
theorem mv_free (s0 s1 : Int) (W : LA 10) (h0 : s0 ≤ 10) (h1 : s1 ≤ 10) (m : Int) (p q : Nat × Nat × Nat) (hp : frC s0 s1 W (p.1 : Int) (p.2.1 : Int) = true) (h : mv s0 s1 W m p = some q) : frC s0 s1 W (q.1 : Int) (q.2.1 : Int) = true := by
  unfold mv at h
  split at h
  · split at h
    · rename_i hf
      have := frC_nat h0 h1 hf
      obtain rfl := Option.some.inj h
      show frC s0 s1 W (((nx p.1 p.2.1 p.2.2).1.toNat : Nat) : Int) (((nx p.1 p.2.1 p.2.2).2.toNat : Nat) : Int) = true
      rw [Int.toNat_of_nonneg (by omega), Int.toNat_of_nonneg (by omega)]
      exact hf
    · cases h
  · split at h
    · split at h
      · cases h
      · obtain rfl := Option.some.inj h
        exact hp
    · split at h
      · obtain rfl := Option.some.inj h
        exact hp
      · split at h
        · obtain rfl := Option.some.inj h
          exact hp
        · obtain rfl := Option.some.inj h
          exact hp
theorem side3 (d : Nat) (h : d < 4) : Int.tmod (wrap64 ((d : Int) + 3)) 4 = (((d + 3) % 4 : Nat) : Int) := by
  rw [wint _ (by omega) (by omega), Int.tmod_eq_emod_of_nonneg (by omega)]
  omega
theorem side1 (d : Nat) (h : d < 4) : Int.tmod (wrap64 ((d : Int) + 1)) 4 = (((d + 1) % 4 : Nat) : Int) := by
  rw [wint _ (by omega) (by omega), Int.tmod_eq_emod_of_nonneg (by omega)]
  omega
theorem Can_s (s0 s1 : Int) (W : LA 10) (hb : ∀ i, 0 ≤ rd W.l i ∧ rd W.l i < 65536) (h0 : 1 ≤ s0 ∧ s0 ≤ 10) (h1 : 1 ≤ s1 ∧ s1 ≤ 10) (m : Int) (p : Nat × Nat × Nat) (hp : inR p) : spec_l06Can.f s0 s1 W (p.1 : Int) (p.2.1 : Int) (p.2.2 : Int) m = some ((mv s0 s1 W m p).isSome) := by
  obtain ⟨p1, p2, p3⟩ := hp
  obtain ⟨b1, b2⟩ := nx_bound (p.1 : Int) (p.2.1 : Int) (p.2.2 : Int) (by omega) (by omega)
  unfold spec_l06Can.f mv
  rw [Next_s _ _ _ (by omega) (by omega)]
  simp only [Option.bind_some]
  generalize nx (p.1 : Int) (p.2.1 : Int) (p.2.2 : Int) = a at b1 b2 ⊢
  rw [Is_s s0 s1 W h0 h1 _ _ b1 b2, Fr_s s0 s1 W hb h0 h1 _ _ b1 b2]
  simp only [Option.bind_some]
  have hfi : isC s0 s1 a.1 a.2 = false → frC s0 s1 W a.1 a.2 = false := fun h => by unfold frC; rw [h]; rfl
  by_cases m1 : m = 102
  · subst m1
    cases hi : isC s0 s1 a.1 a.2 with
    | false => rw [hfi hi]; rfl
    | true => cases frC s0 s1 W a.1 a.2 <;> rfl
  · by_cases m2 : m = 98
    · subst m2
      cases hi : isC s0 s1 a.1 a.2 with
      | false => rw [hfi hi]; rfl
      | true => cases frC s0 s1 W a.1 a.2 <;> rfl
    · have e : ∀ b : Bool, (if m = 102 then (some (b == (m == 102))) else (if m = 98 then (some (b == (m == 102))) else (some true))) = some true := fun b => by rw [if_neg m1, if_neg m2]
      rw [e, e]
      simp only [m1, m2, if_false]
      cases isC s0 s1 a.1 a.2 <;> (simp only [Bool.false_eq_true, if_false, if_true]; (repeat' split) <;> rfl)
theorem Made_s (s0 s1 : Int) (W : LA 10) (h0 : 1 ≤ s0 ∧ s0 ≤ 10) (h1 : 1 ≤ s1 ∧ s1 ≤ 10) (m : Int) (p q : Nat × Nat × Nat) (hp : inR p) (hq : mv s0 s1 W m p = some q) : spec_l06Made.f (p.1 : Int) (p.2.1 : Int) (p.2.2 : Int) m = some ((q.1 : Int), (q.2.1 : Int), (q.2.2 : Int)) := by
  obtain ⟨p1, p2, p3⟩ := hp
  unfold spec_l06Made.f
  unfold mv at hq
  rw [Next_s _ _ _ (by omega) (by omega), side3 _ p3, side1 _ p3]
  simp only [Option.bind_some]
  by_cases m1 : m = 102
  · rw [if_pos m1] at hq ⊢
    split at hq
    · rename_i hf
      have := frC_nat h0.2 h1.2 hf
      obtain rfl := Option.some.inj hq
      dsimp only
      rw [Int.toNat_of_nonneg (by omega), Int.toNat_of_nonneg (by omega)]
    · cases hq
  · rw [if_neg m1] at hq ⊢
    by_cases m2 : m = 98
    · rw [if_pos m2] at hq
      subst m2
      rw [if_neg (by decide), if_neg (by decide)]
      split at hq
      · cases hq
      · obtain rfl := Option.some.inj hq
        rfl
    · rw [if_neg m2] at hq
      by_cases m3 : m = 108
      · rw [if_pos m3] at hq ⊢
        obtain rfl := Option.some.inj hq
        rfl
      · rw [if_neg m3] at hq ⊢
        by_cases m4 : m = 114
        · rw [if_pos m4] at hq ⊢
          obtain rfl := Option.some.inj hq
          rfl
        · rw [if_neg m4] at hq ⊢
          obtain rfl := Option.some.inj hq
          rfl
theorem put_crow_s (S : List (Nat × Nat × Nat)) (q : Nat × Nat × Nat) (hq : inR q) : spec_l06Put.f (crow S) (q.1 : Int) (q.2.1 : Int) (q.2.2 : Int) = some (crow (S ++ [q])) := by
  obtain ⟨q1, q2, q3⟩ := hq
  rw [crow_snoc, putA_s _ _ _ _ (by omega) (by omega) (by omega)]
theorem put_crow_i (S : List (Nat × Nat × Nat)) (q : Nat × Nat × Nat) (hq : inR q) : impl_Crowd_set.f (crow S) (q.1 : Int) (q.2.1 : Int) (q.2.2 : Int) = some (crow (S ++ [q])) := by
  obtain ⟨q1, q2, q3⟩ := hq
  rw [crow_snoc, putA_i _ _ _ _ (by omega) (by omega) (by omega)]
def opt (s0 s1 : Int) (W : LA 10) (C : LA 40) (m : Int) (p : Nat × Nat × Nat) : Option (Nat × Nat × Nat) := if hasA C (p.1 : Int) (p.2.1 : Int) (p.2.2 : Int) then mv s0 s1 W m p else none
def genS (s0 s1 : Int) (W : LA 10) (C : LA 40) (m : Int) (x y : Nat) : Nat → Nat → List (Nat × Nat × Nat)
  | _, 0 => []
  | d, n + 1 => (opt s0 s1 W C m (x, y, d)).toList ++ genS s0 s1 W C m x y (d + 1) n
def genK (s0 s1 : Int) (W : LA 10) (C : LA 40) (m : Int) : Nat → Nat → List (Nat × Nat × Nat)
  | _, 0 => []
  | k, n + 1 => genS s0 s1 W C m (k % 10) (k / 10) 0 4 ++ genK s0 s1 W C m (k + 1) n
theorem mem_genS (s0 s1 : Int) (W : LA 10) (C : LA 40) (m : Int) (x y : Nat) (p : Nat × Nat × Nat) : ∀ n d, p ∈ genS s0 s1 W C m x y d n ↔ ∃ e, d ≤ e ∧ e < d + n ∧ opt s0 s1 W C m (x, y, e) = some p
  | 0, d => ⟨fun h => absurd h (by simp [genS]), fun ⟨e, h1, h2, _⟩ => by omega⟩
  | n + 1, d => by
    rw [genS, List.mem_append, mem_genS s0 s1 W C m x y p n (d + 1), Option.mem_toList]
    constructor
    · rintro (h | ⟨e, h1, h2, h3⟩)
      · exact ⟨d, by omega, by omega, h⟩
      · exact ⟨e, by omega, by omega, h3⟩
    · rintro ⟨e, h1, h2, h3⟩
      by_cases he : e = d
      · subst he; exact .inl h3
      · exact .inr ⟨e, by omega, by omega, h3⟩
theorem mem_genK (s0 s1 : Int) (W : LA 10) (C : LA 40) (m : Int) (p : Nat × Nat × Nat) : ∀ n k, p ∈ genK s0 s1 W C m k n ↔ ∃ j, k ≤ j ∧ j < k + n ∧ ∃ e, e < 4 ∧ opt s0 s1 W C m (j % 10, j / 10, e) = some p
  | 0, k => ⟨fun h => absurd h (by simp [genK]), fun ⟨e, h1, h2, _⟩ => by omega⟩
  | n + 1, k => by
    rw [genK, List.mem_append, mem_genK s0 s1 W C m p n (k + 1), mem_genS]
    constructor
    · rintro (⟨e, h1, h2, h3⟩ | ⟨j, h1, h2, h3⟩)
      · exact ⟨k, by omega, by omega, e, by omega, h3⟩
      · exact ⟨j, by omega, by omega, h3⟩
    · rintro ⟨j, h1, h2, e, h3, h4⟩
      by_cases he : j = k
      · subst he; exact .inl ⟨e, by omega, by omega, h4⟩
      · exact .inr ⟨j, by omega, by omega, e, h3, h4⟩
theorem opt_inR (s0 s1 : Int) (W : LA 10) (h0 : 1 ≤ s0 ∧ s0 ≤ 10) (h1 : 1 ≤ s1 ∧ s1 ≤ 10) (C : LA 40) (m : Int) (p q : Nat × Nat × Nat) (hp : inR p) (h : opt s0 s1 W C m p = some q) : inR q := by
  unfold opt at h
  split at h
  · exact mv_inR s0 s1 W h0.2 h1.2 m p q hp h
  · cases h
def moveA (s0 s1 : Int) (W : LA 10) (C : LA 40) (m : Int) : LA 40 := crow (genK s0 s1 W C m 0 100)
theorem genK_inR (s0 s1 : Int) (W : LA 10) (h0 : 1 ≤ s0 ∧ s0 ≤ 10) (h1 : 1 ≤ s1 ∧ s1 ≤ 10) (C : LA 40) (m : Int) : ∀ p ∈ genK s0 s1 W C m 0 100, inR p := fun p hp => by
  obtain ⟨j, _, h2, e, h3, h4⟩ := (mem_genK s0 s1 W C m p 100 0).1 hp
  exact opt_inR s0 s1 W h0 h1 C m _ p ⟨Nat.mod_lt _ (by omega), by show j / 10 < 10; omega, h3⟩ h4
theorem mem_moveA (s0 s1 : Int) (W : LA 10) (C : LA 40) (m : Int) (p : Nat × Nat × Nat) : p ∈ genK s0 s1 W C m 0 100 ↔ ∃ q, inR q ∧ opt s0 s1 W C m q = some p := by
  rw [mem_genK]
  constructor
  · rintro ⟨j, _, h2, e, h3, h4⟩
    exact ⟨_, ⟨Nat.mod_lt _ (by omega), by show j / 10 < 10; omega, h3⟩, h4⟩
  · rintro ⟨⟨x, y, d⟩, ⟨hx, hy, hd⟩, h⟩
    have hx' : x < 10 := hx
    have hy' : y < 10 := hy
    refine ⟨y * 10 + x, by omega, by omega, d, hd, ?_⟩
    rw [show (y * 10 + x) % 10 = x by omega, show (y * 10 + x) / 10 = y by omega]
    exact h
def genF (s0 s1 : Int) (W : LA 10) (C : LA 40) (m : Int) : List S41 → List (Nat × Nat × Nat)
  | [] => []
  | q :: F => genS s0 s1 W C m q.f0.toNat q.f1.toNat 0 4 ++ genF s0 s1 W C m F
theorem mem_genF (s0 s1 : Int) (W : LA 10) (C : LA 40) (m : Int) (p : Nat × Nat × Nat) : ∀ F : List S41, p ∈ genF s0 s1 W C m F ↔ ∃ q, q ∈ F ∧ ∃ e, e < 4 ∧ opt s0 s1 W C m (q.f0.toNat, q.f1.toNat, e) = some p
  | [] => ⟨fun h => absurd h (by simp [genF]), fun ⟨q, h, _⟩ => absurd h (by simp)⟩
  | q :: F => by
    rw [genF, List.mem_append, mem_genF s0 s1 W C m p F, mem_genS]
    constructor
    · rintro (⟨e, h1, h2, h3⟩ | ⟨r, h1, h2⟩)
      · exact ⟨q, by simp, e, by omega, h3⟩
      · exact ⟨r, by simp [h1], h2⟩
    · rintro ⟨r, hr, e, h1, h2⟩
      rcases List.mem_cons.1 hr with rfl | hr
      · exact .inl ⟨e, by omega, by omega, h2⟩
      · exact .inr ⟨r, hr, e, h1, h2⟩
def isL (m : Int) : Prop := m = 98 ∨ m = 102 ∨ m = 108 ∨ m = 114
theorem Moved_F (s0 s1 : Int) (W : LA 10) (hb : ∀ i, 0 ≤ rd W.l i ∧ rd W.l i < 65536) (h0 : 1 ≤ s0 ∧ s0 ≤ 10) (h1 : 1 ≤ s1 ∧ s1 ≤ 10) (C : LA 40) (m : Int) (hm : isL m) (F : List S41) (hF : F.length ≤ 1000) (hin : ∀ q ∈ F, (0 ≤ q.f0 ∧ q.f0 < 10) ∧ (0 ≤ q.f1 ∧ q.f1 < 10)) :
    ∀ (n i : Nat) (S : List (Nat × Nat × Nat)), i + n = F.length → Ev (fun z => impl_Crowd_moved.l0 z m F (F.length : Int) (i : Int) C s0 s1 W (crow S)) (crow (S ++ genF s0 s1 W C m (F.drop i))) := by
  intro n
  induction n with
  | zero =>
    intro i S hi
    obtain rfl : i = F.length := by omega
    rw [List.drop_length, genF, List.append_nil]
    refine Ev.succ ?_
    simp only [impl_Crowd_moved.l0]
    exact Ev.neg (by omega) (Ev.now _)
  | succ n ih =>
    intro i S hi
    have hiF : i < F.length := by omega
    have hq := hin _ (getD_mem F i z41 hiF)
    refine Ev.succ ?_
    simp only [impl_Crowd_moved.l0]
    refine Ev.pos (by omega) (Ev.pos (by omega) (Ev.pos (by omega) ?_))
    rw [rdT_get, drop_get F i z41 hiF, genF]
    obtain ⟨x, hx⟩ : ∃ x : Nat, (F.getD i z41).f0 = x := ⟨_, (Int.toNat_of_nonneg hq.1.1).symm⟩
    obtain ⟨y, hy⟩ : ∃ y : Nat, (F.getD i z41).f1 = y := ⟨_, (Int.toNat_of_nonneg hq.2.1).symm⟩
    rw [hx, hy] at hq ⊢
    rw [Int.toNat_natCast, Int.toNat_natCast]
    have inner : ∀ (j d : Nat) (S : List (Nat × Nat × Nat)), d + j = 4 → Ev (fun z => impl_Crowd_moved.l1 z m F (F.length : Int) (i : Int) (d : Int) C s0 s1 W (crow S) (x : Int) (y : Int)) (crow (S ++ genS s0 s1 W C m x y d j ++ genF s0 s1 W C m (F.drop (i + 1)))) := by
      intro j
      induction j with
      | zero =>
        intro d S hd
        refine Ev.succ ?_
        simp only [impl_Crowd_moved.l1]
        rw [wnat i 1000 (by omega) (by omega), genS, List.append_nil]
        exact Ev.neg (by omega) (ih (i + 1) S (by omega))
      | succ j ihj =>
        intro d S hd
        have hd4 : d < 4 := by omega
        have hd0 : 0 ≤ (d : Int) ∧ (d : Int) < 4 := by omega
        have hp : inR (x, y, d) := ⟨by show x < 10; omega, by show y < 10; omega, hd4⟩
        have wd := wnat d 4 hd4 (by omega)
        have skip : opt s0 s1 W C m (x, y, d) = none → Ev (fun z => impl_Crowd_moved.l1 z m F (F.length : Int) (i : Int) (wrap64 ((d : Int) + 1)) C s0 s1 W (crow S) (x : Int) (y : Int)) (crow (S ++ genS s0 s1 W C m x y d (j + 1) ++ genF s0 s1 W C m (F.drop (i + 1)))) := fun ho => by
          rw [wd, genS, ho]
          exact ihj (d + 1) S (by omega)
        have take : ∀ q, opt s0 s1 W C m (x, y, d) = some q → Ev (fun z => impl_Crowd_moved.l1 z m F (F.length : Int) (i : Int) (wrap64 ((d : Int) + 1)) C s0 s1 W (crow (S ++ [q])) (x : Int) (y : Int)) (crow (S ++ genS s0 s1 W C m x y d (j + 1) ++ genF s0 s1 W C m (F.drop (i + 1)))) := fun q ho => by
          rw [wd, genS, ho]
          have := ihj (d + 1) (S ++ [q]) (by omega)
          simpa using this
        refine Ev.succ ?_
        simp only [impl_Crowd_moved.l1]
        refine Ev.pos hd0.2 ?_
        rw [has_i C _ _ (d : Int) hq.1 hq.2 hd0]
        refine Ev.bind (Ev.now _) ?_
        cases hh : hasA C (x : Int) (y : Int) (d : Int) with
        | false => exact Ev.neg Bool.false_ne_true (skip (by unfold opt; dsimp only; rw [hh]; rfl))
        | true =>
          refine Ev.pos rfl ?_
          have ho : opt s0 s1 W C m (x, y, d) = mv s0 s1 W m (x, y, d) := by unfold opt; dsimp only; rw [hh]; rfl
          rw [ho] at skip take
          have hb2 := nx_bound (x : Int) (y : Int) (d : Int) hq.1 hq.2
          rw [Next_i _ _ _ hq.1 hq.2]
          refine Ev.bind (Ev.now _) ?_
          have hfr := Fr_i s0 s1 W hb h0 h1 _ _ hb2.1 hb2.2
          have pc := put_crow_i S (x, y, d) hp
          dsimp only at pc
          rcases hm with rfl | rfl | rfl | rfl
          · refine Ev.neg (by decide) (Ev.neg (by decide) (Ev.neg (by decide) ?_))
            refine Ev.succ ?_
            simp only [impl_Crowd_moved.j2]
            rw [hfr, pc]
            refine Ev.neg Bool.false_ne_true (Ev.pos (by trivial) (Ev.bind (Ev.now _) ?_))
            cases hf : frC s0 s1 W (nx (x : Int) (y : Int) (d : Int)).1 (nx (x : Int) (y : Int) (d : Int)).2 with
            | true => exact Ev.pos rfl (skip (by unfold mv; dsimp only; rw [hf]; rfl))
            | false => exact Ev.neg Bool.false_ne_true (Ev.bind (Ev.now _) (take _ (by unfold mv; dsimp only; rw [hf]; rfl)))
          · refine Ev.neg (by decide) (Ev.neg (by decide) (Ev.pos (by trivial) ?_))
            rw [hfr]
            refine Ev.bind (Ev.now _) ?_
            refine Ev.succ ?_
            simp only [impl_Crowd_moved.j2]
            cases hf : frC s0 s1 W (nx (x : Int) (y : Int) (d : Int)).1 (nx (x : Int) (y : Int) (d : Int)).2 with
            | true =>
              have hn := frC_nat h0.2 h1.2 hf
              have hq2 : inR ((nx (x : Int) (y : Int) (d : Int)).1.toNat, (nx (x : Int) (y : Int) (d : Int)).2.toNat, d) := ⟨by show (nx (x : Int) (y : Int) (d : Int)).1.toNat < 10; omega, by show (nx (x : Int) (y : Int) (d : Int)).2.toNat < 10; omega, hd4⟩
              have pc2 := put_crow_i S _ hq2
              dsimp only at pc2
              rw [Int.toNat_of_nonneg hn.1.1, Int.toNat_of_nonneg hn.2.1] at pc2
              rw [pc2]
              exact Ev.pos rfl (Ev.bind (Ev.now _) (take _ (by unfold mv; dsimp only; rw [hf]; rfl)))
            | false => exact Ev.neg Bool.false_ne_true (Ev.neg (by decide) (skip (by unfold mv; dsimp only; rw [hf]; rfl)))
          · refine Ev.pos (by trivial) ?_
            have pc2 := put_crow_i S (x, y, (d + 3) % 4) ⟨hp.1, hp.2.1, Nat.mod_lt _ (by omega)⟩
            dsimp only at pc2
            rw [side3 d hd4, pc2]
            exact Ev.bind (Ev.now _) (take _ rfl)
          · refine Ev.neg (by decide) (Ev.pos (by trivial) ?_)
            have pc2 := put_crow_i S (x, y, (d + 1) % 4) ⟨hp.1, hp.2.1, Nat.mod_lt _ (by omega)⟩
            dsimp only at pc2
            rw [side1 d hd4, pc2]
            exact Ev.bind (Ev.now _) (take _ rfl)
    have := inner 4 0 S rfl
    rw [List.append_assoc] at this
    exact this
theorem freeB_frC (w h : Nat) (W : LA 10) (x y : Nat) : freeB W.l w h x y = frC (w : Int) (h : Int) W (x : Int) (y : Int) := by
  unfold freeB frC isC inC
  have e1 : decide (0 ≤ (x : Int)) = true := decide_eq_true (by omega)
  have e2 : decide (0 ≤ (y : Int)) = true := decide_eq_true (by omega)
  have e3 : decide ((x : Int) ≤ (w : Int) - 1) = decide (x < w) := decide_eq_decide.2 (by omega)
  have e4 : decide ((y : Int) ≤ (h : Int) - 1) = decide (y < h) := decide_eq_decide.2 (by omega)
  rw [e1, e2, e3, e4, Bool.true_and, Bool.true_and]
theorem free_mem (w h : Nat) (W : LA 10) (x y : Nat) (hf : freeB W.l w h x y = true) : ∃ q ∈ cellsL (fr W.l) w h, q.f0 = (x : Int) ∧ q.f1 = (y : Int) := by
  have h1 := cells_any (fr W.l) w x y h
  have h2 : (decide (x < w) && decide (y < h) && fr W.l (x : Int) (y : Int)) = true := hf
  rw [h2, List.any_eq_true] at h1
  obtain ⟨q, hq, e⟩ := h1
  simp only [Bool.and_eq_true, decide_eq_true_eq] at e
  exact ⟨q, hq, e.1, e.2⟩
theorem Moved_i (w h : Nat) (W : LA 10) (hb : ∀ i, 0 ≤ rd W.l i ∧ rd W.l i < 65536) (hw : 1 ≤ w ∧ w ≤ 10) (hh : 1 ≤ h ∧ h ≤ 10) (C : LA 40) (hv : VA w h W C) (m : Int) (hm : isL m) : Ev (fun k => impl_Crowd_moved.f k C (w : Int) (h : Int) W m) (moveA (w : Int) (h : Int) W C m) := by
  have hi := All_i (w : Int) (h : Int) W hb w h (by omega) (by omega) rfl rfl
  have hlen := cellsL_len (fr W.l) w h
  have hlen2 : w * h ≤ 10 * 10 := Nat.mul_le_mul (by omega) (by omega)
  have hin : ∀ q ∈ cellsL (fr W.l) w h, (0 ≤ q.f0 ∧ q.f0 < 10) ∧ (0 ≤ q.f1 ∧ q.f1 < 10) := fun q hq => by
    have := cellsL_mem (fr W.l) w h h (Nat.le_refl _) q hq
    omega
  have e := Moved_F (w : Int) (h : Int) W hb (by omega) (by omega) C m hm (cellsL (fr W.l) w h) (by omega) hin (cellsL (fr W.l) w h).length 0 [] (by omega)
  rw [List.drop_zero, List.nil_append] at e
  have same : crow (genF (w : Int) (h : Int) W C m (cellsL (fr W.l) w h)) = moveA (w : Int) (h : Int) W C m := by
    unfold moveA
    refine (crow_ext (genK_inR (w : Int) (h : Int) W (by omega) (by omega) C m) fun p => ?_).symm
    rw [mem_moveA (w : Int) (h : Int) W, mem_genF]
    constructor
    · rintro ⟨⟨x, y, d⟩, ⟨hx, hy, hd⟩, ho⟩
      have hx' : x < 10 := hx
      have hh2 : hasA C (x : Int) (y : Int) (d : Int) = true := by
        unfold opt at ho
        dsimp only at ho
        split at ho
        · assumption
        · cases ho
      obtain ⟨q, hq, e1, e2⟩ := free_mem w h W x y (hv x y d (by omega) hy hd hh2)
      refine ⟨q, hq, d, hd, ?_⟩
      rw [e1, e2, Int.toNat_natCast, Int.toNat_natCast]
      exact ho
    · rintro ⟨q, hq, d, hd, ho⟩
      have := hin q hq
      exact ⟨_, ⟨by show q.f0.toNat < 10; omega, by show q.f1.toNat < 10; omega, hd⟩, ho⟩
  unfold impl_Crowd_moved.f
  exact Ev.bind hi (Ev.eq e same)
theorem moveA_VA (w h : Nat) (W : LA 10) (hw : 1 ≤ w ∧ w ≤ 10) (hh : 1 ≤ h ∧ h ≤ 10) (C : LA 40) (hv : VA w h W C) (m : Int) : VA w h W (moveA (w : Int) (h : Int) W C m) := by
  intro x y d hx hy hd hp
  unfold moveA at hp
  rw [crow_has _ (genK_inR (w : Int) (h : Int) W (by omega) (by omega) C m) x y d hx hy hd, decide_eq_true_eq, mem_moveA (w : Int) (h : Int) W] at hp
  obtain ⟨⟨a, b, e⟩, ⟨ha, hb, he⟩, ho⟩ := hp
  have ha' : a < 10 := ha
  unfold opt at ho
  dsimp only at ho
  split at ho
  · rename_i hh2
    have hf := hv a b e (by omega) hb he hh2
    rw [freeB_frC] at hf ⊢
    exact mv_free (w : Int) (h : Int) W (by omega) (by omega) m (a, b, e) (x, y, d) hf ho
  · cases ho
end Go.Proofs.YtdedijjbdkoekaaDoor.Q
end
section
namespace Go.Proofs.YtdedijjbdkoekaaDoor.Q
open Go.RowKit Go.Proofs.YtdedijjbdkoekaaDoorW.PrintWords Go.Proofs.YtdedijjbdkoekaaDoorW.PrintLast Go.Proofs.YtdedijjbdkoekaaDoorW.PrintMore Go.Proofs.YtdedijjbdkoekaaDoor.La Go.Proofs.YtdedijjbdkoekaaDoor.PB
set_option linter.unusedVariables false
set_option linter.unusedSimpArgs false
theorem dropWhile_nil (p : UInt8 → Bool) : ∀ l : List UInt8, l.dropWhile p = [] ↔ ∀ b ∈ l, p b = true
  | [] => by simp
  | b :: l => by
    rw [List.dropWhile_cons]
    cases hb : p b with
    | true =>
      simp only [if_true]
      rw [dropWhile_nil p l]
      simp [hb]
    | false => simp [hb]
theorem dropWhile_head (p : UInt8 → Bool) : ∀ (l : List UInt8) (b : UInt8) (t : List UInt8), l.dropWhile p = b :: t → p b = false
  | [], b, t, h => by simp at h
  | c :: l, b, t, h => by
    rw [List.dropWhile_cons] at h
    cases hc : p c with
    | true => rw [hc] at h; exact dropWhile_head p l b t h
    | false =>
      rw [hc] at h
      simp only [Bool.false_eq_true, if_false, List.cons.injEq] at h
      rw [← h.1]
      exact hc
theorem trimS_nil (l cs : List UInt8) : Lib.trimS l cs = [] ↔ ∀ b ∈ l, cs.contains b = true := by
  unfold Lib.trimS Lib.trimLeftS Lib.trimRightS
  constructor
  · intro h
    have h1 := (dropWhile_nil _ _).1 h
    cases hd : l.reverse.dropWhile (cs.contains ·) with
    | nil =>
      intro b hb
      exact (dropWhile_nil _ _).1 hd b (by simpa using hb)
    | cons b t =>
      have h2 := dropWhile_head _ _ _ _ hd
      have h3 := h1 b (by rw [hd]; simp)
      have h4 : cs.contains b = false := h2
      have h5 : cs.contains b = true := h3
      rw [h5] at h4
      cases h4
  · intro h
    have : l.reverse.dropWhile (cs.contains ·) = [] := (dropWhile_nil _ _).2 fun b hb => h b (by simpa using hb)
    rw [this]
    rfl
def isLb (b : UInt8) : Bool := ([98, 102, 108, 114] : List UInt8).contains b
theorem isLb_iff (b : UInt8) : isLb b = true ↔ isL (b.toNat : Int) := by
  unfold isLb isL
  have e : ∀ n : Nat, n < 256 → (b = UInt8.ofNat n ↔ (b.toNat : Int) = n) := fun n hn => by
    constructor
    · rintro rfl
      simp
      omega
    · intro h
      have : b.toNat = n := by omega
      rw [← this]
      simp
  have e1 := e 98 (by omega)
  have e2 := e 102 (by omega)
  have e3 := e 108 (by omega)
  have e4 := e 114 (by omega)
  simp only [List.contains_cons, List.contains_nil, Bool.or_false, Bool.or_eq_true, beq_iff_eq]
  constructor
  · rintro (h | h | h | h)
    · exact .inl (e1.1 h)
    · exact .inr (.inl (e2.1 h))
    · exact .inr (.inr (.inl (e3.1 h)))
    · exact .inr (.inr (.inr (e4.1 h)))
  · rintro (h | h | h | h)
    · exact .inl (e1.2 h)
    · exact .inr (.inl (e2.2 h))
    · exact .inr (.inr (.inl (e3.2 h)))
    · exact .inr (.inr (.inr (e4.2 h)))
theorem Letter_t (v : Int) (h : isL v) : spec_l06Letter.f v = some true := by
  unfold spec_l06Letter.f
  rcases h with rfl | rfl | rfl | rfl <;> rfl
theorem Letter_f (v : Int) (h : ¬ isL v) : spec_l06Letter.f v = some false := by
  unfold spec_l06Letter.f
  unfold isL at h
  rw [if_neg (fun e => h (.inl e)), if_neg (fun e => h (.inr (.inl e))), if_neg (fun e => h (.inr (.inr (.inl e))))]
  congr 1
  rw [beq_eq_false_iff_ne]
  exact fun e => h (.inr (.inr (.inr e)))
theorem bt_get (a : ByteArray) (i : Nat) (h : i < a.data.toList.length) : bt a (i : Int) = ((a.data.toList.getD i 0).toNat : Int) := by
  have hs : ((i : Int)).toNat < a.size := by
    rw [Int.toNat_natCast]
    have := Lib.size_eq a
    omega
  rw [← bt_at a (i : Int) hs]
  simp only [Int.toNat_natCast, List.getD_eq_getElem?_getD, List.getElem?_eq_getElem h, Option.getD_some]
  rfl
theorem size_list (a : ByteArray) : a.size = a.data.toList.length := by have := Lib.size_eq a; omega
def mcode (a : ByteArray) : Int := if (a.size : Int) > 60 then 3 else if a.data.toList.all isLb then 0 else 5
theorem Moves_s (a : ByteArray) : Ev (fun k => spec_l06Moves.f k a) (mcode a) := by
  unfold spec_l06Moves.f mcode
  by_cases hs : (a.size : Int) > 60
  · rw [if_pos hs]
    exact Ev.pos hs (Ev.now _)
  rw [if_neg hs]
  refine Ev.neg hs ?_
  have hl := size_list a
  have key : ∀ n i : Nat, i + n = a.data.toList.length → Ev (fun k => spec_l06Moves.l0 k a (i : Int)) (if (a.data.toList.drop i).all isLb then 0 else 5) := by
    intro n
    induction n with
    | zero =>
      intro i hi
      obtain rfl : i = a.data.toList.length := by omega
      rw [List.drop_length]
      refine Ev.succ ?_
      simp only [spec_l06Moves.l0]
      exact Ev.neg (by omega) (Ev.now _)
    | succ n ih =>
      intro i hi
      refine Ev.succ ?_
      simp only [spec_l06Moves.l0]
      rw [bt_get a i (by omega), drop_get _ i 0 (by omega), List.all_cons, wnat i 100 (by omega) (by omega)]
      refine Ev.pos (by omega) (Ev.pos (by omega) ?_)
      have hi2 := isLb_iff (a.data.toList.getD i 0)
      cases hb : isLb (a.data.toList.getD i 0) with
      | true =>
        rw [Letter_t _ (hi2.1 hb)]
        exact Ev.bind (Ev.now _) (Ev.pos rfl (Ev.eq (ih (i + 1) (by omega)) (by rw [Bool.true_and])))
      | false =>
        rw [Letter_f _ (fun h => by rw [hi2.2 h] at hb; cases hb)]
        exact Ev.bind (Ev.now _) (Ev.neg Bool.false_ne_true (Ev.now _))
  have := key a.data.toList.length 0 (by omega)
  rw [List.drop_zero] at this
  exact this
theorem Moves_i (a : ByteArray) : impl_movesCode.f a = some (mcode a) := by
  unfold impl_movesCode.f mcode
  by_cases hs : (a.size : Int) > 60
  · rw [if_pos hs, if_pos hs]
  rw [if_neg hs, if_neg hs]
  unfold strings_Trim.f
  rw [if_pos ⟨by omega, by decide, by decide⟩]
  simp only [Option.bind_some]
  unfold impl_unless.f
  have hc : (⟨(Lib.trimS a.data.toList [98, 102, 108, 114]).toArray⟩ : ByteArray).toList = Lib.trimS a.data.toList [98, 102, 108, 114] := Lib.toList_data _
  show ((if ((⟨(Lib.trimS a.data.toList [98, 102, 108, 114]).toArray⟩ : ByteArray).toList.isEmpty) = true then some 0 else some 5) : Option Int).bind (fun t => some t) = _
  rw [hc]
  have hn := trimS_nil a.data.toList [98, 102, 108, 114]
  by_cases h : ∀ b ∈ a.data.toList, ([98, 102, 108, 114] : List UInt8).contains b = true
  · rw [hn.2 h, if_pos (show a.data.toList.all isLb = true from List.all_eq_true.2 h)]
    rfl
  · have h2 : ¬ Lib.trimS a.data.toList [98, 102, 108, 114] = [] := fun e => h (hn.1 e)
    rw [if_neg (fun e => h2 (List.isEmpty_iff.1 e)), if_neg (show ¬ a.data.toList.all isLb = true from fun e => h (List.all_eq_true.1 e))]
    rfl
def movesA (s0 s1 : Int) (W : LA 10) : LA 40 → List UInt8 → LA 40
  | C, [] => C
  | C, b :: bs => movesA s0 s1 W (moveA s0 s1 W C (b.toNat : Int)) bs
theorem Moved_ls (w h : Nat) (W : LA 10) (hb : ∀ i, 0 ≤ rd W.l i ∧ rd W.l i < 65536) (hw : 1 ≤ w ∧ w ≤ 10) (hh : 1 ≤ h ∧ h ≤ 10) (a : ByteArray) (hs : a.data.toList.length ≤ 60) (ha : a.data.toList.all isLb = true) :
    ∀ (n i : Nat) (C : LA 40), i + n = a.data.toList.length → VA w h W C → Ev (fun k => impl_Crowd_movedBy.l0 k a (a.size : Int) (i : Int) C (w : Int) (h : Int) W) (movesA (w : Int) (h : Int) W C (a.data.toList.drop i)) := by
  have hl := size_list a
  intro n
  induction n with
  | zero =>
    intro i C hi hv
    obtain rfl : i = a.data.toList.length := by omega
    rw [List.drop_length]
    refine Ev.succ ?_
    simp only [impl_Crowd_movedBy.l0]
    exact Ev.neg (by omega) (Ev.now _)
  | succ n ih =>
    intro i C hi hv
    refine Ev.succ ?_
    simp only [impl_Crowd_movedBy.l0]
    rw [bt_get a i (by omega), drop_get _ i 0 (by omega), wnat i 100 (by omega) (by omega)]
    have hL := (isLb_iff _).1 (List.all_eq_true.1 ha _ (getD_mem a.data.toList i 0 (by omega)))
    exact Ev.pos (by omega) (Ev.pos (by omega) (Ev.pos (by omega) (Ev.bind (Moved_i w h W hb hw hh C hv _ hL) (ih (i + 1) _ (by omega) (moveA_VA w h W hw hh C hv _)))))
theorem Moved_by (w h : Nat) (W : LA 10) (hb : ∀ i, 0 ≤ rd W.l i ∧ rd W.l i < 65536) (hw : 1 ≤ w ∧ w ≤ 10) (hh : 1 ≤ h ∧ h ≤ 10) (a : ByteArray) (hm : mcode a = 0) (C : LA 40) (hv : VA w h W C) : Ev (fun k => impl_Crowd_movedBy.f k C (w : Int) (h : Int) W a) (movesA (w : Int) (h : Int) W C a.data.toList) := by
  have hl := size_list a
  unfold mcode at hm
  split at hm
  · cases hm
  · split at hm
    · rename_i h1 h2
      have := Moved_ls w h W hb hw hh a (by omega) h2 a.data.toList.length 0 C (by omega) hv
      rw [List.drop_zero] at this
      unfold impl_Crowd_movedBy.f
      exact this
    · cases hm
theorem mcode_len (a : ByteArray) (hm : mcode a = 0) : a.data.toList.length ≤ 60 := by
  have hl := size_list a
  unfold mcode at hm
  split at hm
  · cases hm
  · omega
end Go.Proofs.YtdedijjbdkoekaaDoor.Q
end
section
namespace Go.Proofs.YtdedijjbdkoekaaDoor.PB
open Go.RowKit Go.Proofs.YtdedijjbdkoekaaDoorW.PrintWords Go.Proofs.YtdedijjbdkoekaaDoorW.PrintLast Go.Proofs.YtdedijjbdkoekaaDoorW.PrintMore Go.Proofs.YtdedijjbdkoekaaDoor.La
attribute [local go_sem] max2_int min2_int max_two min_two max_three min_three max_four min_four   -- for this text's walks alone
set_option linter.unusedVariables false
set_option linter.unusedSimpArgs false
mutual
def spec_CountCrowd.l0 : Nat → Int → Int → LA 40 → Option (Int)
 | 0, _, _, _ => none
 | k + 1, x3, x4, x343000 => if x4 < 100 then (spec_CountCrowd.l1 k x3 x4 0 x343000) else (some x3)
def spec_CountCrowd.l1 : Nat → Int → Int → Int → LA 40 → Option (Int)
 | 0, _, _, _, _ => none
 | k + 1, x3, x4, x5, x343000 => if x5 < 4 then ((spec_l06Spot.f x4).bind fun bt343 => ((spec_l06Has.f x343000 bt343.1 bt343.2 x5).bind fun t345 => (if t345 = true then (spec_CountCrowd.l1 k (wrap64 (x3 + 1)) x4 (wrap64 (x5 + 1)) x343000) else (spec_CountCrowd.l1 k x3 x4 (wrap64 (x5 + 1)) x343000)))) else (spec_CountCrowd.l0 k x3 (wrap64 (x4 + 1)) x343000)
end
def spec_CountCrowd.f (k : Nat) (a0 : LA 40) : Option (Int) := spec_CountCrowd.l0 k 0 0 a0
theorem spec_CountCrowd.mono_l : ∀ k, (∀ y0 y1 y2, LeO (spec_CountCrowd.l0 k y0 y1 y2) (spec_CountCrowd.l0 (k + 1) y0 y1 y2)) ∧ (∀ y0 y1 y2 y3, LeO (spec_CountCrowd.l1 k y0 y1 y2 y3) (spec_CountCrowd.l1 (k + 1) y0 y1 y2 y3))
 | 0 => ⟨fun _ _ _ r h => by simp [spec_CountCrowd.l0] at h, fun _ _ _ _ r h => by simp [spec_CountCrowd.l1] at h⟩
 | k + 1 => by
  obtain ⟨ih0, ih1⟩ := spec_CountCrowd.mono_l k
  refine ⟨?_, ?_⟩
  ·intro y0 y1 y2
   unfold spec_CountCrowd.l0
   repeat' first
   | (with_reducible exact ih0 _ _ _)
   | (with_reducible exact ih1 _ _ _ _)
   | (with_reducible exact LeO.refl _)
   | (with_reducible exact LeO.none _)
   | (with_reducible refine LeO.ite ?_ ?_)
   | (with_reducible refine LeO.bind ?_ (fun _ => ?_))
   | exact ih0 _ _ _
   | exact ih1 _ _ _ _
   | exact LeO.none _
   | refine LeO.ite ?_ ?_
   | refine LeO.bind ?_ (fun _ => ?_)
  ·intro y0 y1 y2 y3
   unfold spec_CountCrowd.l1
   repeat' first
   | (with_reducible exact ih0 _ _ _)
   | (with_reducible exact ih1 _ _ _ _)
   | (with_reducible exact LeO.refl _)
   | (with_reducible exact LeO.none _)
   | (with_reducible refine LeO.ite ?_ ?_)
   | (with_reducible refine LeO.bind ?_ (fun _ => ?_))
   | exact ih0 _ _ _
   | exact ih1 _ _ _ _
   | exact LeO.none _
   | refine LeO.ite ?_ ?_
   | refine LeO.bind ?_ (fun _ => ?_)
theorem spec_CountCrowd.mono : ∀ a0 k, LeO (spec_CountCrowd.f k a0) (spec_CountCrowd.f (k + 1) a0) := by
 intro a0 k
 obtain ⟨ih0, ih1⟩ := spec_CountCrowd.mono_l k
 unfold spec_CountCrowd.f
 repeat' first
   | (with_reducible exact ih0 _ _ _)
   | (with_reducible exact ih1 _ _ _ _)
   | (with_reducible exact LeO.refl _)
   | (with_reducible exact LeO.none _)
   | (with_reducible refine LeO.ite ?_ ?_)
   | (with_reducible refine LeO.bind ?_ (fun _ => ?_))
   | exact ih0 _ _ _
   | exact ih1 _ _ _ _
   | exact LeO.none _
   | refine LeO.ite ?_ ?_
   | refine LeO.bind ?_ (fun _ => ?_)
def spec_l06Spots.l0 : Nat → List (S41) → Int → LA 40 → Option ((List (S41)))
 | 0, _, _, _ => none
 | k + 1, x3, x4, x1000 => if x4 < 100 then ((spec_l06Spot.f x4).bind fun bt349 => ((spec_l06Has.f x1000 bt349.1 bt349.2 0).bind fun t352 => (if t352 = true then (if x3.length < 70368744177664 then (spec_l06Spots.l0 k (x3 ++ [(⟨bt349.1, bt349.2⟩ : S41)]) (wrap64 (x4 + 1)) x1000) else (none)) else ((spec_l06Has.f x1000 bt349.1 bt349.2 1).bind fun t356 => (if t356 = true then (if x3.length < 70368744177664 then (spec_l06Spots.l0 k (x3 ++ [(⟨bt349.1, bt349.2⟩ : S41)]) (wrap64 (x4 + 1)) x1000) else (none)) else ((spec_l06Has.f x1000 bt349.1 bt349.2 2).bind fun t360 => (if t360 = true then (if x3.length < 70368744177664 then (spec_l06Spots.l0 k (x3 ++ [(⟨bt349.1, bt349.2⟩ : S41)]) (wrap64 (x4 + 1)) x1000) else (none)) else ((spec_l06Has.f x1000 bt349.1 bt349.2 3).bind fun t364 => (if t364 = true then (if x3.length < 70368744177664 then (spec_l06Spots.l0 k (x3 ++ [(⟨bt349.1, bt349.2⟩ : S41)]) (wrap64 (x4 + 1)) x1000) else (none)) else (spec_l06Spots.l0 k x3 (wrap64 (x4 + 1)) x1000)))))))))) else (some x3)
def spec_l06Spots.f (k : Nat) (s0_0 : LA 40) : Option ((List (S41))) := spec_l06Spots.l0 k (([] : List (S41))) 0 s0_0
theorem spec_l06Spots.mono_l : ∀ k, (∀ y0 y1 y2, LeO (spec_l06Spots.l0 k y0 y1 y2) (spec_l06Spots.l0 (k + 1) y0 y1 y2))
 | 0 => fun _ _ _ r h => by simp [spec_l06Spots.l0] at h
 | k + 1 => by
  have ih0 := spec_l06Spots.mono_l k
  ·intro y0 y1 y2
   unfold spec_l06Spots.l0
   repeat' first
   | (with_reducible exact ih0 _ _ _)
   | (with_reducible exact LeO.refl _)
   | (with_reducible exact LeO.none _)
   | (with_reducible refine LeO.ite ?_ ?_)
   | (with_reducible refine LeO.bind ?_ (fun _ => ?_))
   | exact ih0 _ _ _
   | exact LeO.none _
   | refine LeO.ite ?_ ?_
   | refine LeO.bind ?_ (fun _ => ?_)
theorem spec_l06Spots.mono : ∀ a0 k, LeO (spec_l06Spots.f k a0) (spec_l06Spots.f (k + 1) a0) := by
 intro a0 k
 have ih0 := spec_l06Spots.mono_l k
 unfold spec_l06Spots.f
 repeat' first
   | (with_reducible exact ih0 _ _ _)
   | (with_reducible exact LeO.refl _)
   | (with_reducible exact LeO.none _)
   | (with_reducible refine LeO.ite ?_ ?_)
   | (with_reducible refine LeO.bind ?_ (fun _ => ?_))
   | exact ih0 _ _ _
   | exact LeO.none _
   | refine LeO.ite ?_ ?_
   | refine LeO.bind ?_ (fun _ => ?_)
end Go.Proofs.YtdedijjbdkoekaaDoor.PB
end
section
namespace Go.Proofs.YtdedijjbdkoekaaDoor.Q
open Go.RowKit Go.Proofs.YtdedijjbdkoekaaDoorW.PrintWords Go.Proofs.YtdedijjbdkoekaaDoorW.PrintLast Go.Proofs.YtdedijjbdkoekaaDoorW.PrintMore Go.Proofs.YtdedijjbdkoekaaDoor.La Go.Proofs.YtdedijjbdkoekaaDoor.PB
set_option linter.unusedVariables false
set_option linter.unusedSimpArgs false
set_option maxRecDepth 100000 in
theorem pop_table : ∀ m : Fin 1024, bits_OnesCount16.f ((m.val : Nat) : Int) = some (sumN (fun x => bitV ((m.val : Nat) : Int) x) 10) := by decide +kernel
theorem pop_v {v : Int} (h₀ : 0 ≤ v) (h₁ : v < 65536) : bits_OnesCount16.f (Go.bits .and .u16 v 1023) = some (sumN (bitV v) 10) := by
  rw [u16_and1023 h₀ h₁]
  have h := pop_table ⟨(v % 1024).toNat, by omega⟩
  simp only [Int.toNat_of_nonneg (show 0 ≤ v % 1024 by omega)] at h
  rw [h, sumN_congr 10 (fun x hx => bitV_mod h₀ hx)]
def cntA (C : LA 40) : Int := sumN (fun x => sumN (fun d => if hasA C ((x % 10 : Nat) : Int) ((x / 10 : Nat) : Int) (d : Int) then 1 else 0) 4) 100
theorem impl_Count_ev (C : LA 40) (hb : CB C) : Ev (fun k => impl_CountCrowd.f k C) (sumN (fun i => sumN (fun j => sumN (bitV (rd C.l ((i : Int) * 10 + (j : Int)))) 10) 10) 4) := by
  show Ev (fun k => impl_CountCrowd.l0 k 0 C 0) _
  have hpb : ∀ i : Int, 0 ≤ sumN (bitV (rd C.l i)) 10 ∧ sumN (bitV (rd C.l i)) 10 ≤ 10 := by
    intro i
    have h0 := bitV_01 (rd C.l i) 0; have h1 := bitV_01 (rd C.l i) 1; have h2 := bitV_01 (rd C.l i) 2; have h3 := bitV_01 (rd C.l i) 3; have h4 := bitV_01 (rd C.l i) 4
    have h5 := bitV_01 (rd C.l i) 5; have h6 := bitV_01 (rd C.l i) 6; have h7 := bitV_01 (rd C.l i) 7; have h8 := bitV_01 (rd C.l i) 8; have h9 := bitV_01 (rd C.l i) 9
    simp only [sumN]
    omega
  refine Ev.sum2 4 10 (by omega) (fun i j => sumN (bitV (rd C.l ((i : Int) * 10 + (j : Int)))) 10) (fun x d => by have := hpb ((x : Int) * 10 + (d : Int)); omega) (fun k s x => impl_CountCrowd.l0 k s C x) (fun k s x d => impl_CountCrowd.l1 k s C x (LA.row C 10 x) d) ?_ ?_ ?_ ?_
  · intro x s r hx h
    refine Ev.succ ?_
    simp only [impl_CountCrowd.l0]
    exact Ev.pos (by omega) (Ev.pos (by omega) h)
  · intro s
    refine Ev.succ ?_
    simp only [impl_CountCrowd.l0]
    exact Ev.neg (by omega) (Ev.now s)
  · intro x d s r hx hd hs hb' h
    refine Ev.succ ?_
    simp only [impl_CountCrowd.l1]
    refine Ev.pos (by omega) (Ev.pos (by omega) ?_)
    have e := rd_row C 10 (x : Int) (d : Int) (by omega) (by omega)
    rw [show ((10 : Nat) : Int) = 10 from rfl] at e
    rw [e, pop_v (hb _).1 (hb _).2]
    simp only [Option.bind_some]
    have := hpb ((x : Int) * 10 + (d : Int))
    rw [wnat d 10 hd (by omega), wint (s + _) (by omega) (by omega)]
    exact h
  · intro x s r hx h
    refine Ev.succ ?_
    simp only [impl_CountCrowd.l1]
    refine Ev.neg (by omega) ?_
    rw [wnat x 4 hx (by omega)]
    exact h
theorem count_same (C : LA 40) (hb : CB C) : cntA C = sumN (fun i => sumN (fun j => sumN (bitV (rd C.l ((i : Int) * 10 + (j : Int)))) 10) 10) 4 := by
  have e1 : ∀ x d : Nat, x < 100 → (if hasA C ((x % 10 : Nat) : Int) ((x / 10 : Nat) : Int) (d : Int) then (1 : Int) else 0) = bitV (rd C.l ((d : Int) * 10 + ((x / 10 : Nat) : Int))) (x % 10) := by
    intro x d hx
    unfold hasA
    rw [shr_bit (hb _).1 (hb _).2 (by omega)]
    have := bitV_01 (rd C.l ((d : Int) * 10 + ((x / 10 : Nat) : Int))) (x % 10)
    by_cases h : bitV (rd C.l ((d : Int) * 10 + ((x / 10 : Nat) : Int))) (x % 10) = 1
    · rw [h]; rfl
    · rw [show bitV (rd C.l ((d : Int) * 10 + ((x / 10 : Nat) : Int))) (x % 10) = 0 by omega]; rfl
  unfold cntA
  rw [sumN_congr 100 (fun x hx => sumN_congr 4 (fun d _ => e1 x d hx)), sumN_comm]
  refine sumN_congr 4 fun d _ => ?_
  rw [show (100 : Nat) = 10 * 10 from rfl, sumN_mul]
  refine sumN_congr 10 fun y hy => sumN_congr 10 fun x hx => ?_
  rw [show (10 * y + x) / 10 = y by omega, show (10 * y + x) % 10 = x by omega]
theorem impl_Count (C : LA 40) (hb : CB C) : Ev (fun k => impl_CountCrowd.f k C) (cntA C) := Ev.eq (impl_Count_ev C hb) (count_same C hb).symm
theorem sumN_nn (f : Nat → Int) (h : ∀ i, 0 ≤ f i) : ∀ n, 0 ≤ sumN f n
  | 0 => by simp [sumN]
  | n + 1 => by have := sumN_nn f h n; have := h n; rw [sumN]; omega
theorem sumN_pos (f : Nat → Int) (h : ∀ i, 0 ≤ f i) : ∀ n, 0 < sumN f n ↔ ∃ i, i < n ∧ 0 < f i
  | 0 => by simp [sumN]
  | n + 1 => by
    have h1 := sumN_nn f h n
    have h2 := h n
    have ih := sumN_pos f h n
    rw [sumN]
    constructor
    · intro hp
      by_cases hn : 0 < f n
      · exact ⟨n, by omega, hn⟩
      · obtain ⟨i, hi, hf⟩ := ih.1 (by omega)
        exact ⟨i, by omega, hf⟩
    · rintro ⟨i, hi, hf⟩
      by_cases e : i = n
      · subst e; omega
      · have := ih.2 ⟨i, by omega, hf⟩
        omega
theorem cntA_nn (C : LA 40) : 0 ≤ cntA C := sumN_nn _ (fun x => sumN_nn _ (fun d => by split <;> omega) 4) 100
theorem cntA_pos (C : LA 40) : 0 < cntA C ↔ ∃ x y d : Nat, inR (x, y, d) ∧ hasA C (x : Int) (y : Int) (d : Int) = true := by
  unfold cntA
  rw [sumN_pos _ (fun x => sumN_nn _ (fun d => by split <;> omega) 4) 100]
  constructor
  · rintro ⟨i, hi, hp⟩
    obtain ⟨d, hd, hp2⟩ := (sumN_pos _ (fun d => by split <;> omega) 4).1 hp
    refine ⟨i % 10, i / 10, d, ⟨?_, ?_, hd⟩, ?_⟩
    · show i % 10 < 10
      omega
    · show i / 10 < 10
      omega
    · by_cases h : hasA C ((i % 10 : Nat) : Int) ((i / 10 : Nat) : Int) (d : Int) = true
      · exact h
      · rw [if_neg h] at hp2
        omega
  · rintro ⟨x, y, d, ⟨hx, hy, hd⟩, hh⟩
    have hx' : x < 10 := hx
    have hy' : y < 10 := hy
    refine ⟨10 * y + x, by omega, ?_⟩
    refine (sumN_pos _ (fun d => by split <;> omega) 4).2 ⟨d, hd, ?_⟩
    rw [show (10 * y + x) % 10 = x by omega, show (10 * y + x) / 10 = y by omega, hh]
    decide
end Go.Proofs.YtdedijjbdkoekaaDoor.Q
end
section
namespace Go.Proofs.YtdedijjbdkoekaaDoor.Q
open Go.RowKit Go.Proofs.YtdedijjbdkoekaaDoorW.PrintWords Go.Proofs.YtdedijjbdkoekaaDoorW.PrintLast Go.Proofs.YtdedijjbdkoekaaDoorW.PrintMore Go.Proofs.YtdedijjbdkoekaaDoor.La Go.Proofs.YtdedijjbdkoekaaDoor.PB
set_option linter.unusedVariables false
set_option linter.unusedSimpArgs false
def wk (s0 s1 : Int) (W : LA 10) : Option (Nat × Nat × Nat) → List UInt8 → Option (Nat × Nat × Nat)
  | o, [] => o
  | o, b :: bs => wk s0 s1 W (o.bind (mv s0 s1 W (b.toNat : Int))) bs
theorem wk_none (s0 s1 : Int) (W : LA 10) : ∀ bs, wk s0 s1 W none bs = none
  | [] => rfl
  | b :: bs => by rw [wk]; exact wk_none s0 s1 W bs
theorem crow_list_inR (p : Option (Nat × Nat × Nat)) (h : ∀ q, p = some q → inR q) : ∀ q ∈ p.toList, inR q := fun q hq => h q (by cases p with
  | none => simp at hq
  | some r => simp at hq; rw [hq])
theorem moveA_one (s0 s1 : Int) (W : LA 10) (h0 : 1 ≤ s0 ∧ s0 ≤ 10) (h1 : 1 ≤ s1 ∧ s1 ≤ 10) (m : Int) (p : Option (Nat × Nat × Nat)) (hp : ∀ q, p = some q → inR q) : moveA s0 s1 W (crow p.toList) m = crow (p.bind (mv s0 s1 W m)).toList := by
  unfold moveA
  refine crow_ext (genK_inR s0 s1 W h0 h1 _ m) fun q => ?_
  rw [mem_moveA s0 s1 W, Option.mem_toList, Option.bind_eq_some_iff]
  have hl := crow_list_inR p hp
  constructor
  · rintro ⟨⟨x, y, d⟩, ⟨hx, hy, hd⟩, ho⟩
    have hx' : x < 10 := hx
    unfold opt at ho
    dsimp only at ho
    rw [crow_has _ hl x y d (by omega) hy hd] at ho
    split at ho
    · rename_i hm
      have := of_decide_eq_true hm
      rw [Option.mem_toList] at this
      exact ⟨_, this, ho⟩
    · cases ho
  · rintro ⟨⟨x, y, d⟩, e, ho⟩
    obtain ⟨hx, hy, hd⟩ := hp _ e
    have hx' : x < 10 := hx
    refine ⟨(x, y, d), ⟨hx, hy, hd⟩, ?_⟩
    unfold opt
    dsimp only
    rw [crow_has _ hl x y d (by omega) hy hd, if_pos (decide_eq_true (by rw [Option.mem_toList]; exact e))]
    exact ho
theorem movesA_one (s0 s1 : Int) (W : LA 10) (h0 : 1 ≤ s0 ∧ s0 ≤ 10) (h1 : 1 ≤ s1 ∧ s1 ≤ 10) : ∀ (bs : List UInt8) (p : Option (Nat × Nat × Nat)), (∀ q, p = some q → inR q) → movesA s0 s1 W (crow p.toList) bs = crow (wk s0 s1 W p bs).toList
  | [], p, _ => rfl
  | b :: bs, p, hp => by
    rw [movesA, wk, moveA_one s0 s1 W h0 h1 _ p hp]
    refine movesA_one s0 s1 W h0 h1 bs _ (fun q hq => ?_)
    obtain ⟨r, hr, e⟩ := Option.bind_eq_some_iff.1 hq
    exact mv_inR s0 s1 W h0.2 h1.2 _ r q (hp r hr) e
theorem wk_inR (s0 s1 : Int) (W : LA 10) (h0 : s0 ≤ 10) (h1 : s1 ≤ 10) : ∀ (bs : List UInt8) (p : Option (Nat × Nat × Nat)), (∀ q, p = some q → inR q) → ∀ q, wk s0 s1 W p bs = some q → inR q
  | [], p, hp, q, h => hp q h
  | b :: bs, p, hp, q, h => by
    refine wk_inR s0 s1 W h0 h1 bs _ (fun q hq => ?_) q h
    obtain ⟨r, hr, e⟩ := Option.bind_eq_some_iff.1 hq
    exact mv_inR s0 s1 W h0 h1 _ r q (hp r hr) e
theorem cnt_one (p : Option (Nat × Nat × Nat)) (hp : ∀ q, p = some q → inR q) : 0 < cntA (crow p.toList) ↔ p.isSome = true := by
  have hl := crow_list_inR p hp
  rw [cntA_pos]
  constructor
  · rintro ⟨x, y, d, ⟨hx, hy, hd⟩, h⟩
    have hx' : x < 10 := hx
    rw [crow_has _ hl x y d (by omega) hy hd, decide_eq_true_eq, Option.mem_toList] at h
    rw [h]
    rfl
  · intro h
    obtain ⟨⟨x, y, d⟩, e⟩ := Option.isSome_iff_exists.1 h
    obtain ⟨hx, hy, hd⟩ := hp _ e
    have hx' : x < 10 := hx
    exact ⟨x, y, d, ⟨hx, hy, hd⟩, by rw [crow_has _ hl x y d (by omega) hy hd]; exact decide_eq_true (by rw [Option.mem_toList]; exact e)⟩
def begS (s0 s1 : Int) (W : LA 10) (bs : List UInt8) (x y : Nat) : Nat → Nat → List (Nat × Nat × Nat)
  | _, 0 => []
  | d, n + 1 => (if (wk s0 s1 W (some (x, y, d)) bs).isSome then [(x, y, d)] else []) ++ begS s0 s1 W bs x y (d + 1) n
def begF (s0 s1 : Int) (W : LA 10) (bs : List UInt8) : List S41 → List (Nat × Nat × Nat)
  | [] => []
  | q :: F => begS s0 s1 W bs q.f0.toNat q.f1.toNat 0 4 ++ begF s0 s1 W bs F
theorem Walk_s (s0 s1 : Int) (W : LA 10) (hb : ∀ i, 0 ≤ rd W.l i ∧ rd W.l i < 65536) (h0 : 1 ≤ s0 ∧ s0 ≤ 10) (h1 : 1 ≤ s1 ∧ s1 ≤ 10) (a : ByteArray) (hs : a.data.toList.length ≤ 60) (F : List S41) (i d : Int) (C : LA 40) (r : LA 40 × Int)
    (p0 : Nat × Nat × Nat) (hfin : ∀ o, wk s0 s1 W (some p0) a.data.toList = o → ∀ (z : Bool), z = o.isSome → ∀ (x y e k : Int), Ev (fun n => spec_WhereBegun.j3 n a F i d e z k false s0 s1 W C x y) r) :
    ∀ (n j : Nat) (p : Nat × Nat × Nat), j + n = a.data.toList.length → inR p → wk s0 s1 W (some p) (a.data.toList.drop j) = wk s0 s1 W (some p0) a.data.toList → Ev (fun k => spec_WhereBegun.l2 k a F i d (p.2.2 : Int) true (j : Int) s0 s1 W C (p.1 : Int) (p.2.1 : Int)) r := by
  have hl := size_list a
  intro n
  induction n with
  | zero =>
    intro j p hj hp hw
    obtain rfl : j = a.data.toList.length := by omega
    rw [List.drop_length] at hw
    refine Ev.succ ?_
    simp only [spec_WhereBegun.l2]
    exact Ev.neg (by omega) (hfin _ hw.symm true rfl _ _ _ _)
  | succ n ih =>
    intro j p hj hp hw
    refine Ev.succ ?_
    simp only [spec_WhereBegun.l2]
    refine Ev.pos (by omega) ?_
    refine Ev.succ ?_
    simp only [spec_WhereBegun.j3]
    rw [bt_get a j (by omega), Can_s s0 s1 W hb h0 h1 _ p hp, wnat j 100 (by omega) (by omega)]
    refine Ev.pos (by trivial) (Ev.pos (by omega) (Ev.pos (by omega) (Ev.bind (Ev.now _) ?_)))
    rw [drop_get _ j 0 (by omega), wk] at hw
    dsimp only [Option.bind_some] at hw
    cases hm : mv s0 s1 W ((a.data.toList.getD j 0).toNat : Int) p with
    | none =>
      rw [hm, wk_none] at hw
      refine Ev.neg (by simp) ?_
      refine Ev.succ ?_
      simp only [spec_WhereBegun.l2, ite_self]
      have e : ∀ k : Nat, (if ((j + 1 : Nat) : Int) < (a.size : Int) then spec_WhereBegun.j3 k a F i d (p.2.2 : Int) (none : Option (Nat × Nat × Nat)).isSome ((j + 1 : Nat) : Int) (none : Option (Nat × Nat × Nat)).isSome s0 s1 W C (p.1 : Int) (p.2.1 : Int) else spec_WhereBegun.j3 k a F i d (p.2.2 : Int) (none : Option (Nat × Nat × Nat)).isSome ((j + 1 : Nat) : Int) false s0 s1 W C (p.1 : Int) (p.2.1 : Int)) = spec_WhereBegun.j3 k a F i d (p.2.2 : Int) (none : Option (Nat × Nat × Nat)).isSome ((j + 1 : Nat) : Int) false s0 s1 W C (p.1 : Int) (p.2.1 : Int) := fun k => by split <;> rfl
      simp only [e]
      exact hfin none hw.symm _ rfl _ _ _ _
    | some q =>
      rw [hm] at hw
      have hq := mv_inR s0 s1 W h0.2 h1.2 _ p q hp hm
      refine Ev.pos (by simp) ?_
      rw [Made_s s0 s1 W h0 h1 _ p q hp hm]
      exact Ev.bind (Ev.now _) (ih (j + 1) q (by omega) hq hw)
theorem Begun_s (s0 s1 : Int) (W : LA 10) (hb : ∀ i, 0 ≤ rd W.l i ∧ rd W.l i < 65536) (h0 : 1 ≤ s0 ∧ s0 ≤ 10) (h1 : 1 ≤ s1 ∧ s1 ≤ 10) (a : ByteArray) (hs : a.data.toList.length ≤ 60) (F : List S41) (hF : F.length ≤ 1000) (hin : ∀ q ∈ F, (0 ≤ q.f0 ∧ q.f0 < 10) ∧ (0 ≤ q.f1 ∧ q.f1 < 10)) :
    ∀ (n i : Nat) (S : List (Nat × Nat × Nat)), i + n = F.length → Ev (fun k => spec_WhereBegun.l0 k a F (i : Int) s0 s1 W (crow S)) (crow (S ++ begF s0 s1 W a.data.toList (F.drop i)), 0) := by
  intro n
  induction n with
  | zero =>
    intro i S hi
    obtain rfl : i = F.length := by omega
    rw [List.drop_length, begF, List.append_nil]
    refine Ev.succ ?_
    simp only [spec_WhereBegun.l0]
    exact Ev.neg (by omega) (Ev.now _)
  | succ n ih =>
    intro i S hi
    have hiF : i < F.length := by omega
    have hq := hin _ (getD_mem F i z41 hiF)
    refine Ev.succ ?_
    simp only [spec_WhereBegun.l0]
    refine Ev.pos (by omega) ?_
    rw [drop_get F i z41 hiF, begF]
    obtain ⟨x, hx⟩ : ∃ x : Nat, (F.getD i z41).f0 = x := ⟨_, (Int.toNat_of_nonneg hq.1.1).symm⟩
    obtain ⟨y, hy⟩ : ∃ y : Nat, (F.getD i z41).f1 = y := ⟨_, (Int.toNat_of_nonneg hq.2.1).symm⟩
    rw [hx, hy] at hq
    rw [hx, hy, Int.toNat_natCast, Int.toNat_natCast]
    have hi0 : 0 ≤ (i : Int) ∧ (i : Int) < (F.length : Int) := by omega
    have wi := wnat i 1000 (by omega) (by omega)
    have inner : ∀ (m d : Nat) (S : List (Nat × Nat × Nat)), d + m = 4 → Ev (fun k => spec_WhereBegun.l1 k a F (i : Int) (d : Int) s0 s1 W (crow S)) (crow (S ++ begS s0 s1 W a.data.toList x y d m ++ begF s0 s1 W a.data.toList (F.drop (i + 1))), 0) := by
      intro m
      induction m with
      | zero =>
        intro d S hd
        refine Ev.succ ?_
        simp only [spec_WhereBegun.l1]
        rw [wi, begS, List.append_nil]
        exact Ev.neg (by omega) (ih (i + 1) S (by omega))
      | succ m ihm =>
        intro d S hd
        have hd4 : d < 4 := by omega
        have hd0 : (d : Int) < 4 := by omega
        have hp : inR (x, y, d) := ⟨by show x < 10; omega, by show y < 10; omega, hd4⟩
        have wd := wnat d 4 hd4 (by omega)
        refine Ev.succ ?_
        simp only [spec_WhereBegun.l1]
        refine Ev.pos hd0 (Ev.pos hi0.1 (Ev.pos hi0.2 ?_))
        rw [rdT_get, hx, hy]
        refine Walk_s s0 s1 W hb h0 h1 a hs F (i : Int) (d : Int) (crow S) _ (x, y, d) ?_ a.data.toList.length 0 (x, y, d) (by omega) hp (by rw [List.drop_zero])
        intro o ho z hz x' y' e' k'
        refine Ev.succ ?_
        simp only [spec_WhereBegun.j3]
        refine Ev.neg Bool.false_ne_true ?_
        rw [begS, ho, ← hz]
        cases z with
        | true =>
          refine Ev.pos rfl (Ev.pos hi0.1 (Ev.pos hi0.2 ?_))
          have pc := put_crow_s S (x, y, d) hp
          dsimp only at pc
          rw [rdT_get, hx, hy, pc, wd]
          refine Ev.bind (Ev.now _) ?_
          have := ihm (d + 1) (S ++ [(x, y, d)]) (by omega)
          simpa using this
        | false =>
          refine Ev.neg Bool.false_ne_true ?_
          rw [wd]
          have := ihm (d + 1) S (by omega)
          simpa using this
    have := inner 4 0 S rfl
    rw [List.append_assoc] at this
    exact this
theorem Begun_i (w h : Nat) (W : LA 10) (hb : ∀ i, 0 ≤ rd W.l i ∧ rd W.l i < 65536) (hw : 1 ≤ w ∧ w ≤ 10) (hh : 1 ≤ h ∧ h ≤ 10) (a : ByteArray) (hm : mcode a = 0) (F : List S41) (hF : F.length ≤ 1000) (hin : ∀ q ∈ F, (0 ≤ q.f0 ∧ q.f0 < 10) ∧ (0 ≤ q.f1 ∧ q.f1 < 10)) (hfr : ∀ q ∈ F, frC (w : Int) (h : Int) W q.f0 q.f1 = true) :
    ∀ (n i : Nat) (S : List (Nat × Nat × Nat)), i + n = F.length → Ev (fun k => impl_WhereBegun.l0 k a F (F.length : Int) (i : Int) (w : Int) (h : Int) W (crow S)) (crow (S ++ begF (w : Int) (h : Int) W a.data.toList (F.drop i)), 0) := by
  intro n
  induction n with
  | zero =>
    intro i S hi
    obtain rfl : i = F.length := by omega
    rw [List.drop_length, begF, List.append_nil]
    refine Ev.succ ?_
    simp only [impl_WhereBegun.l0]
    exact Ev.neg (by omega) (Ev.now _)
  | succ n ih =>
    intro i S hi
    have hiF : i < F.length := by omega
    have hq := hin _ (getD_mem F i z41 hiF)
    have hf := hfr _ (getD_mem F i z41 hiF)
    refine Ev.succ ?_
    simp only [impl_WhereBegun.l0]
    refine Ev.pos (by omega) (Ev.pos (by omega) (Ev.pos (by omega) ?_))
    rw [rdT_get, drop_get F i z41 hiF, begF]
    obtain ⟨x, hx⟩ : ∃ x : Nat, (F.getD i z41).f0 = x := ⟨_, (Int.toNat_of_nonneg hq.1.1).symm⟩
    obtain ⟨y, hy⟩ : ∃ y : Nat, (F.getD i z41).f1 = y := ⟨_, (Int.toNat_of_nonneg hq.2.1).symm⟩
    rw [hx, hy] at hq hf
    rw [hx, hy, Int.toNat_natCast, Int.toNat_natCast]
    have hi0 : 0 ≤ (i : Int) ∧ (i : Int) < (F.length : Int) := by omega
    have wi := wnat i 1000 (by omega) (by omega)
    have inner : ∀ (m d : Nat) (S : List (Nat × Nat × Nat)), d + m = 4 → Ev (fun k => impl_WhereBegun.l1 k a F (F.length : Int) (i : Int) (d : Int) (w : Int) (h : Int) W (crow S) (x : Int) (y : Int)) (crow (S ++ begS (w : Int) (h : Int) W a.data.toList x y d m ++ begF (w : Int) (h : Int) W a.data.toList (F.drop (i + 1))), 0) := by
      intro m
      induction m with
      | zero =>
        intro d S hd
        refine Ev.succ ?_
        simp only [impl_WhereBegun.l1]
        rw [wi, begS, List.append_nil]
        exact Ev.neg (by omega) (ih (i + 1) S (by omega))
      | succ m ihm =>
        intro d S hd
        have hd4 : d < 4 := by omega
        have hd0 : (d : Int) < 4 := by omega
        have hp : inR (x, y, d) := ⟨by show x < 10; omega, by show y < 10; omega, hd4⟩
        have wd := wnat d 4 hd4 (by omega)
        have hsm : ∀ q, some (x, y, d) = some q → inR q := fun q e => by obtain rfl := Option.some.inj e; exact hp
        have hone : impl_Crowd_set.f (LA.zero 40) (x : Int) (y : Int) (d : Int) = some (crow (some (x, y, d)).toList) := put_crow_i [] (x, y, d) hp
        have hva : VA w h W (crow (some (x, y, d)).toList) := fun x' y' d' hx' hy' hd' hh' => by
          rw [crow_has _ (crow_list_inR _ hsm) x' y' d' hx' hy' hd', decide_eq_true_eq, Option.mem_toList] at hh'
          obtain ⟨rfl, e⟩ := Prod.mk.inj (Option.some.inj hh')
          obtain ⟨rfl, rfl⟩ := Prod.mk.inj e
          rw [freeB_frC]
          exact hf
        have hmb := Moved_by w h W hb hw hh a hm _ hva
        rw [movesA_one (w : Int) (h : Int) W (by omega) (by omega) _ _ hsm] at hmb
        have hwr := wk_inR (w : Int) (h : Int) W (by omega) (by omega) a.data.toList _ hsm
        have hcb := (crow_inv _ (crow_list_inR _ hwr)).cb
        have hcnt := cnt_one _ hwr
        refine Ev.succ ?_
        simp only [impl_WhereBegun.l1]
        rw [hone, begS]
        refine Ev.pos hd0 (Ev.bind (Ev.now _) (Ev.bind hmb (Ev.bind (impl_Count _ hcb) ?_)))
        cases hz : (wk (w : Int) (h : Int) W (some (x, y, d)) a.data.toList).isSome with
        | true =>
          have pc := put_crow_i S (x, y, d) hp
          dsimp only at pc
          rw [pc, wd]
          refine Ev.pos (hcnt.2 hz) (Ev.bind (Ev.now _) ?_)
          have := ihm (d + 1) (S ++ [(x, y, d)]) (by omega)
          simpa using this
        | false =>
          refine Ev.neg (fun hgt => by rw [hcnt.1 hgt] at hz; cases hz) ?_
          rw [wd]
          have := ihm (d + 1) S (by omega)
          simpa using this
    have := inner 4 0 S rfl
    rw [List.append_assoc] at this
    exact this
theorem WhereBegun_both (s0 s1 : Int) (W : LA 10) (hr : RB s0 s1 W) (a : ByteArray) : ∃ r, Ev (fun k => spec_WhereBegun.f k s0 s1 W a) r ∧ Ev (fun k => impl_WhereBegun.f k s0 s1 W a) r := by
  obtain ⟨b, h1, h2, h3⟩ := Ok_both s0 s1 W hr.1 hr.2.1
  cases b with
  | false =>
    refine ⟨(LA.zero 40, 1), ?_, ?_⟩
    · unfold spec_WhereBegun.f
      exact Ev.bind h1 (Ev.neg Bool.false_ne_true (Ev.now _))
    · unfold impl_WhereBegun.f
      exact Ev.bind h2 (Ev.neg Bool.false_ne_true (Ev.now _))
  | true =>
    obtain ⟨hw, hh⟩ := h3 rfl
    obtain ⟨w, rfl⟩ : ∃ n : Nat, s0 = n := ⟨s0.toNat, by omega⟩
    obtain ⟨h, rfl⟩ : ∃ n : Nat, s1 = n := ⟨s1.toNat, by omega⟩
    by_cases hm : mcode a = 0
    · have hb := hr.2.2
      have ha := All_s (w : Int) (h : Int) W hb w h (by omega) (by omega) rfl rfl
      have hi := All_i (w : Int) (h : Int) W hb w h (by omega) (by omega) rfl rfl
      have hlen := cellsL_len (fr W.l) w h
      have hlen2 : w * h ≤ 10 * 10 := Nat.mul_le_mul (by omega) (by omega)
      have hcm := cellsL_mem (fr W.l) w h h (Nat.le_refl _)
      have hin : ∀ q ∈ cellsL (fr W.l) w h, (0 ≤ q.f0 ∧ q.f0 < 10) ∧ (0 ≤ q.f1 ∧ q.f1 < 10) := fun q hq => by
        have := hcm q hq
        omega
      have hfr : ∀ q ∈ cellsL (fr W.l) w h, frC (w : Int) (h : Int) W q.f0 q.f1 = true := fun q hq => by
        have hq2 := hcm q hq
        obtain ⟨x, hx⟩ : ∃ x : Nat, q.f0 = x := ⟨_, (Int.toNat_of_nonneg hq2.1.1).symm⟩
        obtain ⟨y, hy⟩ : ∃ y : Nat, q.f1 = y := ⟨_, (Int.toNat_of_nonneg hq2.2.1).symm⟩
        have hany := cells_any (fr W.l) w x y h
        have h4 : ((cellsL (fr W.l) w h).any fun q => decide (q.f0 = (x : Int)) && decide (q.f1 = (y : Int))) = true := List.any_eq_true.2 ⟨q, hq, by rw [hx, hy]; simp⟩
        rw [h4] at hany
        rw [hx, hy, ← freeB_frC]
        exact hany.symm
      have e1 := Begun_s (w : Int) (h : Int) W hb hw hh a (mcode_len a hm) (cellsL (fr W.l) w h) (by omega) hin (cellsL (fr W.l) w h).length 0 [] (by omega)
      have e2 := Begun_i w h W hb (by omega) (by omega) a hm (cellsL (fr W.l) w h) (by omega) hin hfr (cellsL (fr W.l) w h).length 0 [] (by omega)
      refine ⟨(crow ([] ++ begF (w : Int) (h : Int) W a.data.toList ((cellsL (fr W.l) w h).drop 0)), 0), ?_, ?_⟩
      · unfold spec_WhereBegun.f
        exact Ev.bind h1 (Ev.pos rfl (Ev.bind (Moves_s a) (Ev.pos hm (Ev.bind ha e1))))
      · unfold impl_WhereBegun.f
        rw [Moves_i a]
        exact Ev.bind h2 (Ev.pos rfl (Ev.bind (Ev.now _) (Ev.pos hm (Ev.bind hi e2))))
    · refine ⟨(LA.zero 40, mcode a), ?_, ?_⟩
      · unfold spec_WhereBegun.f
        exact Ev.bind h1 (Ev.pos rfl (Ev.bind (Moves_s a) (Ev.neg hm (Ev.now _))))
      · unfold impl_WhereBegun.f
        rw [Moves_i a]
        exact Ev.bind h2 (Ev.pos rfl (Ev.bind (Ev.now _) (Ev.neg hm (Ev.now _))))
end Go.Proofs.YtdedijjbdkoekaaDoor.Q
end
section
namespace Go.Proofs.YtdedijjbdkoekaaDoor.PB
open Go.RowKit Go.Proofs.YtdedijjbdkoekaaDoorW.PrintWords Go.Proofs.YtdedijjbdkoekaaDoorW.PrintLast Go.Proofs.YtdedijjbdkoekaaDoorW.PrintMore Go.Proofs.YtdedijjbdkoekaaDoor.La
attribute [local go_sem] max2_int min2_int max_two min_two max_three min_three max_four min_four   -- for this text's walks alone
set_option linter.unusedVariables false
set_option linter.unusedSimpArgs false
def laws_toCrowd.l0 : Nat → Int → LA 40 → LA 40 → Option (LA 40)
 | 0, _, _, _ => none
 | k + 1, x4, x170000, x172000 => if x4 < 4 then (if 0 ≤ x4 then ((laws_toUint16A10.f k (LA.row x170000 10 x4)).bind fun t172 => (laws_toCrowd.l0 k (wrap64 (x4 + 1)) x170000 (LA.setRow x172000 10 x4 t172))) else (none)) else (some x172000)
def laws_toCrowd.f (k : Nat) (a0 : LA 40) : Option (LA 40) := laws_toCrowd.l0 k 0 a0 (LA.zero 40)
theorem laws_toCrowd.mono_l : ∀ k, (∀ y0 y1 y2, LeO (laws_toCrowd.l0 k y0 y1 y2) (laws_toCrowd.l0 (k + 1) y0 y1 y2))
 | 0 => fun _ _ _ r h => by simp [laws_toCrowd.l0] at h
 | k + 1 => by
  have ih0 := laws_toCrowd.mono_l k
  ·intro y0 y1 y2
   unfold laws_toCrowd.l0
   repeat' first
   | (with_reducible exact ih0 _ _ _)
   | (with_reducible exact laws_toUint16A10.mono _ _)
   | (with_reducible exact LeO.refl _)
   | (with_reducible exact LeO.none _)
   | (with_reducible refine LeO.ite ?_ ?_)
   | (with_reducible refine LeO.bind ?_ (fun _ => ?_))
   | exact ih0 _ _ _
   | exact laws_toUint16A10.mono _ _
   | exact LeO.none _
   | refine LeO.ite ?_ ?_
   | refine LeO.bind ?_ (fun _ => ?_)
theorem laws_toCrowd.mono : ∀ a0 k, LeO (laws_toCrowd.f k a0) (laws_toCrowd.f (k + 1) a0) := by
 intro a0 k
 have ih0 := laws_toCrowd.mono_l k
 unfold laws_toCrowd.f
 repeat' first
   | (with_reducible exact ih0 _ _ _)
   | (with_reducible exact laws_toUint16A10.mono _ _)
   | (with_reducible exact LeO.refl _)
   | (with_reducible exact LeO.none _)
   | (with_reducible refine LeO.ite ?_ ?_)
   | (with_reducible refine LeO.bind ?_ (fun _ => ?_))
   | exact ih0 _ _ _
   | exact laws_toUint16A10.mono _ _
   | exact LeO.none _
   | refine LeO.ite ?_ ?_
   | refine LeO.bind ?_ (fun _ => ?_)
end Go.Proofs.YtdedijjbdkoekaaDoor.PB
end
section
namespace Go.Proofs.YtdedijjbdkoekaaDoor.Q
open Go.RowKit Go.Proofs.YtdedijjbdkoekaaDoorW.PrintWords Go.Proofs.YtdedijjbdkoekaaDoorW.PrintLast Go.Proofs.YtdedijjbdkoekaaDoorW.PrintMore Go.Proofs.YtdedijjbdkoekaaDoor.La Go.Proofs.YtdedijjbdkoekaaDoor.PB
set_option linter.unusedVariables false
set_option linter.unusedSimpArgs false
theorem toU_ev (W : LA 10) : Ev (fun k => laws_toUint16A10.f k W) W := by
  unfold laws_toUint16A10.f
  have key : ∀ (m i : Nat) (X : LA 10), i + m = 10 → (∀ j : Nat, j < i → rd X.l (j : Int) = rd W.l (j : Int)) → Ev (fun k => laws_toUint16A10.l0 k (i : Int) W X) W := by
    intro m
    induction m with
    | zero =>
      intro i X hi hX
      obtain rfl : i = 10 := by omega
      refine Ev.succ ?_
      simp only [laws_toUint16A10.l0]
      rw [ext_rd hX]
      exact Ev.neg (by omega) (Ev.now _)
    | succ m ih =>
      intro i X hi hX
      refine Ev.succ ?_
      simp only [laws_toUint16A10.l0]
      rw [wnat i 10 (by omega) (by omega)]
      refine Ev.pos (by omega) (Ev.pos (by omega) (ih (i + 1) _ (by omega) (fun j hj => ?_)))
      by_cases e : j = i
      · subst e
        exact rd_set_same X _ _ (by omega) (by omega)
      · rw [rd_set_other X _ _ _ (by omega) (by omega) (by omega)]
        exact hX j (by omega)
  exact key 10 0 _ rfl (fun j hj => by omega)
theorem toRoom_ev (s0 s1 : Int) (W : LA 10) : Ev (fun k => laws_toRoom.f k s0 s1 W) (s0, s1, W) := by
  unfold laws_toRoom.f
  exact Ev.bind (toU_ev W) (Ev.now _)
theorem rd_setRow {n : Nat} (W : LA n) (m : Nat) (a : Int) (R : LA m) (j : Nat) (hj : j < n) : rd (W.setRow m a R).l (j : Int) = if a * m ≤ (j : Int) ∧ (j : Int) < a * m + m then rd R.l ((j : Int) - a * m) else rd W.l (j : Int) := by
  show ((List.range n).map (fun j : Nat => if a * m ≤ (j : Int) ∧ (j : Int) < a * m + m then rd R.l ((j : Int) - a * m) else rd W.l (j : Int))).getD ((j : Int)).toNat 0 = _
  rw [show ((j : Int)).toNat = j by omega, List.getD_eq_getElem?_getD, List.getElem?_map, List.getElem?_range hj]
  rfl
theorem toCrowd_ev (C : LA 40) : Ev (fun k => laws_toCrowd.f k C) C := by
  unfold laws_toCrowd.f
  have key : ∀ (m i : Nat) (X : LA 40), i + m = 4 → (∀ j : Nat, j < i * 10 → rd X.l (j : Int) = rd C.l (j : Int)) → Ev (fun k => laws_toCrowd.l0 k (i : Int) C X) C := by
    intro m
    induction m with
    | zero =>
      intro i X hi hX
      obtain rfl : i = 4 := by omega
      refine Ev.succ ?_
      simp only [laws_toCrowd.l0]
      rw [ext_rd hX]
      exact Ev.neg (by omega) (Ev.now _)
    | succ m ih =>
      intro i X hi hX
      refine Ev.succ ?_
      simp only [laws_toCrowd.l0]
      rw [wnat i 4 (by omega) (by omega)]
      refine Ev.pos (by omega) (Ev.pos (by omega) (Ev.bind (toU_ev _) (ih (i + 1) _ (by omega) (fun j hj => ?_))))
      rw [rd_setRow _ _ _ _ j (by omega)]
      by_cases e : i * 10 ≤ j
      · rw [if_pos (by omega), rd_row C 10 _ _ (by omega) (by omega)]
        congr 1
        omega
      · rw [if_neg (by omega)]
        exact hX j (by omega)
  exact key 4 0 _ rfl (fun j hj => by omega)
theorem eqU_ev (W : LA 10) : Ev (fun k => laws_eqUint16A10.f k W W) true := by
  unfold laws_eqUint16A10.f
  have key : ∀ (m i : Nat), i + m = 10 → Ev (fun k => laws_eqUint16A10.l0 k (i : Int) W W) true := by
    intro m
    induction m with
    | zero =>
      intro i hi
      obtain rfl : i = 10 := by omega
      refine Ev.succ ?_
      simp only [laws_eqUint16A10.l0]
      exact Ev.neg (by omega) (Ev.now _)
    | succ m ih =>
      intro i hi
      refine Ev.succ ?_
      simp only [laws_eqUint16A10.l0]
      rw [wnat i 10 (by omega) (by omega)]
      exact Ev.pos (by omega) (Ev.pos (by omega) (Ev.pos (by trivial) (ih (i + 1) (by omega))))
  exact key 10 0 rfl
theorem eqC_ev (C : LA 40) : Ev (fun k => laws_eqCrowd.f k C C) true := by
  unfold laws_eqCrowd.f
  have key : ∀ (m i : Nat), i + m = 4 → Ev (fun k => laws_eqCrowd.l0 k (i : Int) C C) true := by
    intro m
    induction m with
    | zero =>
      intro i hi
      obtain rfl : i = 4 := by omega
      refine Ev.succ ?_
      simp only [laws_eqCrowd.l0]
      exact Ev.neg (by omega) (Ev.now _)
    | succ m ih =>
      intro i hi
      refine Ev.succ ?_
      simp only [laws_eqCrowd.l0]
      rw [wnat i 4 (by omega) (by omega)]
      exact Ev.pos (by omega) (Ev.pos (by omega) (Ev.bind (eqU_ev _) (Ev.pos rfl (ih (i + 1) (by omega)))))
  exact key 4 0 rfl
end Go.Proofs.YtdedijjbdkoekaaDoor.Q
end
section
namespace Go.Proofs.YtdedijjbdkoekaaDoor.Q
open Go.RowKit Go.Proofs.YtdedijjbdkoekaaDoorW.PrintWords Go.Proofs.YtdedijjbdkoekaaDoorW.PrintLast Go.Proofs.YtdedijjbdkoekaaDoorW.PrintMore Go.Proofs.YtdedijjbdkoekaaDoor.La Go.Proofs.YtdedijjbdkoekaaDoor.PB
set_option linter.unusedVariables false
set_option linter.unusedSimpArgs false
theorem FnExactWhereBegun (a0_0 a0_1 : Int) (a0_2 : LA 10) (a1 : ByteArray) (hr : RB a0_0 a0_1 a0_2) (y1 : a1.size ≤ maxLen) : Ev (fun k => laws_FnExactWhereBegun.f k a0_0 a0_1 a0_2 a1) true := by
  obtain ⟨r, h1, h2⟩ := WhereBegun_both a0_0 a0_1 a0_2 hr a1
  have er := toRoom_ev a0_0 a0_1 a0_2
  unfold laws_FnExactWhereBegun.f
  by_cases hs : (a1.size : Int) > 1048576
  · exact Ev.pos hs (Ev.now _)
  refine Ev.neg hs (Ev.bind er (Ev.bind h1 (Ev.bind er (Ev.bind h2 (Ev.bind (eqC_ev r.1) (Ev.pos rfl (Ev.pos rfl (Ev.now _))))))))
end Go.Proofs.YtdedijjbdkoekaaDoor.Q
end
