/- The statement FnExactLeadAll of this program: what its proof uses, part 9 of 15. The call returns true for all arguments. No condition of its own. -/
import Derived.Deep.Strs
import Derived.Test.YtjpponjekcemjaaZFnExactLeadAll7
section
namespace Go.Proofs.Ytjpponjekcemjaa.Rw
open Go.RowKit Go.Proofs.YtjpponjekcemjaaW.PrintWords Go.Proofs.YtjpponjekcemjaaW.PrintLast Go.Proofs.Ytjpponjekcemjaa.La Go.Proofs.Ytjpponjekcemjaa.PB
open Go.ChangeShapes Go.WideShapes Go.Deep
set_option linter.unusedVariables false
set_option linter.unusedSimpArgs false
def IntV (k : IntKind) (v : Value) : Prop := ∃ q, v = .int k q ∧ (Lit.int k q).wf = true
section
variable {H : Type} {enc : TypeId × Value → H} {P : Program} {w : World} {base : Nat} {spare : Nat → Bool} {held : Bool} {fuel : Nat} {t : TypeId} {cs : List Value} {x : DataW H × List MemPlace}
theorem arr_ints {n : Nat} {e : TypeId} {k : IntKind} (ht : P.underlying t = some (.array n e)) (he : P.underlying e = some (.int k)) (hc : P.cellsOf e = 1) (hn : P.cellsOf t = n) (h : DataW.trod enc P w base spare held fuel t cs = some x) : cs.length = n ∧ ∀ v ∈ cs, IntV k v := by
  obtain ⟨xs, m, _, _, hl, hx, hi⟩ := DataW.trod_array ht h
  refine ⟨hl.trans hn, fun v hv => ?_⟩
  obtain ⟨i, hil, rfl⟩ := List.getElem_of_mem hv
  have h1 := hi i (by omega)
  rw [hc, List.getElem?_eq_getElem (by omega)] at h1
  obtain ⟨q, hq, _, hw⟩ := DataW.trod_int he h1
  rw [Nat.mul_one, List.drop_eq_getElem_cons hil] at hq
  simp only [List.take_succ_cons, List.take_zero, List.cons.injEq, and_true] at hq
  exact ⟨q, hq, hw⟩
end
theorem nums_of {k : IntKind} : ∀ {l : List Value}, (∀ v ∈ l, IntV k v) → ∃ xs : List Int, l = xs.map (Value.int k) ∧ ∀ x ∈ xs, (Lit.int k x).wf = true
  | [], _ => ⟨[], rfl, fun x h => by simp at h⟩
  | v :: t, h => by
    obtain ⟨q, rfl, hq⟩ := h v (by simp)
    obtain ⟨xs, rfl, hx⟩ := nums_of (l := t) (fun v hv => h v (by simp [hv]))
    exact ⟨q :: xs, rfl, fun x hm => by
      rcases List.mem_cons.1 hm with rfl | hm
      · exact hq
      · exact hx x hm⟩
set_option maxRecDepth 100000 in
theorem openV26 {H : Type} {enc : TypeId × Value → H} {W : World} {b0 base : Nat} {v : Value} {d : DataW H} {p : List MemPlace} (hval : Value.okWide Try.prog W .any b0 26 v) (h : DataW.Trod enc Try.prog W base (fun _ => true) true 26 v d p) :
    ∃ (n0 n1 : Int) (R : LA 10), v = .agg (mixA (Value.int .u16) [.int .i8 n0, .int .i8 n1] R) ∧ (Lit.int .i8 n0).wf = true ∧ (Lit.int .i8 n1).wf = true ∧ ∀ x ∈ R.l, (Lit.int .u16 x).wf = true := by
  obtain ⟨⟨l⟩, rfl, hsz⟩ := okWide_struct Try.underlying26 hval
  obtain ⟨fuel, hf⟩ := h
  have hf' : DataW.trod enc Try.prog W base (fun _ => true) true fuel 26 l = some (d, p) := hf
  obtain ⟨y0, y1, y2, n, hx, hl, h0, h1, h2⟩ := trod_struct3 Try.underlying26 hf'
  have e1 : Try.prog.cellsOf 22 = 1 := by kernel_rfl
  have e2 : Try.prog.cellsOf 24 = 10 := by kernel_rfl
  have e3 : Try.prog.cellsOf 26 = 12 := by kernel_rfl
  dsimp only at h0 h1 h2
  rw [e1] at h0 h1
  rw [e2] at h2
  rw [e3] at hl
  obtain ⟨c0, l, rfl, hl⟩ : ∃ c t, l = c :: t ∧ t.length = 11 := by
    cases l with
    | nil => simp at hl
    | cons c t => exact ⟨c, t, rfl, by simpa using hl⟩
  obtain ⟨c1, l, rfl, hl⟩ : ∃ c t, l = c :: t ∧ t.length = 10 := by
    cases l with
    | nil => simp at hl
    | cons c t => exact ⟨c, t, rfl, by simpa using hl⟩
  obtain ⟨n0, hq0, _, w0⟩ := DataW.trod_int Try.underlying22 h0
  obtain ⟨n1, hq1, _, w1⟩ := DataW.trod_int Try.underlying22 h1
  simp only [List.drop_zero, List.drop_succ_cons, List.take_succ_cons, List.take_zero, List.cons.injEq, and_true] at hq0 hq1 h2
  subst hq0 hq1
  rw [List.take_of_length_le (by omega)] at h2
  obtain ⟨hl2, hv2⟩ := arr_ints Try.underlying24 Try.underlying23 (by kernel_rfl) (by kernel_rfl) h2
  obtain ⟨xs, rfl, hx2⟩ := nums_of hv2
  exact ⟨n0, n1, ⟨xs, by simpa using hl2⟩, rfl, w0, w1, hx2⟩
theorem one29 : ∃ fs : Array Field, Try.prog.underlying 29 = some (.struct fs) ∧ oneCellFields Try.prog fs = true ∧ Try.prog.cellsOf 29 = fs.size ∧ fs.size = 2 ∧ ∀ (j : Nat) (f : Field), fs[j]? = some f → ∃ k, ([.i8, .i8] : List IntKind)[j]? = some k ∧ Try.prog.underlying f.type = some (.int k) := by
  refine ⟨_, Try.underlying29, by kernel_rfl, by kernel_rfl, rfl, fun j f hj => ?_⟩
  match j, hj with
  | 0, hj => cases hj; exact ⟨.i8, rfl, Try.underlying22⟩
  | 1, hj => cases hj; exact ⟨.i8, rfl, Try.underlying22⟩
  | j + 2, hj => simp at hj
theorem openS29 {H : Type} {enc : TypeId × Value → H} {W : World} {a : Option Addr} {len cap : Nat} {d : DataW H} {p : List MemPlace} (h : DataW.Trod enc Try.prog W 0 (fun _ => true) true 27 (.slice a len cap) d p) :
    ∃ l : List S29, l.length = len ∧ len ≤ cap ∧ len ≤ maxLen ∧ Kd.C k29 W a len l ∧ ∀ x ∈ l, (Lit.int .i8 x.f0).wf = true ∧ (Lit.int .i8 x.f1).wf = true := by
  obtain ⟨fuel, hf⟩ := h
  obtain ⟨fs, hu, hone, hC, hsz, hk⟩ := one29
  have hf' : DataW.trod enc Try.prog W 0 (fun _ => true) true fuel 27 [.slice a len cap] = some (d, p) := by simpa [Value.cells] using hf
  rcases open_structs Try.underlying27 hu hone hC hk hf' with ⟨rfl, rfl, rfl⟩ | ⟨ad, rfl, hl, hm, hc⟩
  · exact ⟨[], rfl, Nat.le_refl _, by unfold maxLen; omega, ⟨rfl, by omega, fun h => absurd h (by omega)⟩, fun x hx => by simp at hx⟩
  · have hfield : ∀ j, j < 2 → ∃ f, fs[j]? = some f := fun j hj => ⟨_, Array.getElem?_eq_getElem (by omega)⟩
    have c0 : ∀ i, i < len → ∃ n, W.cell? (ad.add (i * 2 + 0)) = some (.int .i8 n) ∧ (Lit.int .i8 n).wf = true := fun i hi => by
      obtain ⟨f, hfj⟩ := hfield 0 (by omega)
      obtain ⟨k, n, hk', hcell, hwf⟩ := hc i hi 0 f hfj
      cases hk'
      rw [hsz] at hcell
      exact ⟨n, hcell, hwf⟩
    have c1 : ∀ i, i < len → ∃ n, W.cell? (ad.add (i * 2 + 1)) = some (.int .i8 n) ∧ (Lit.int .i8 n).wf = true := fun i hi => by
      obtain ⟨f, hfj⟩ := hfield 1 (by omega)
      obtain ⟨k, n, hk', hcell, hwf⟩ := hc i hi 1 f hfj
      cases hk'
      rw [hsz] at hcell
      exact ⟨n, hcell, hwf⟩
    refine ⟨(List.range len).map fun i => (⟨numOf (W.cell? (ad.add (i * 2 + 0))), numOf (W.cell? (ad.add (i * 2 + 1)))⟩ : S29), by simp, hl, by omega, ⟨by simp, by unfold maxLen at hm; omega, fun _ => ⟨ad, rfl, fun j p hj => ?_⟩⟩, fun x hx => ?_⟩
    · have hjl : j < len := by have := (List.getElem?_eq_some_iff.1 hj).1; simpa using this
      have hp : p = (⟨numOf (W.cell? (ad.add (j * 2 + 0))), numOf (W.cell? (ad.add (j * 2 + 1)))⟩ : S29) := by
        rw [List.getElem?_map, List.getElem?_range hjl] at hj
        exact (Option.some.inj hj).symm
      refine ⟨[.int .i8 p.f0, .int .i8 p.f1], rfl, k29_mk W p, fun i u hu => ?_⟩
      match i, hu with
      | 0, hu => obtain ⟨n, hn, _⟩ := c0 j hjl; cases hu; rw [hp]; show W.cell? (ad.add (j * 2 + 0)) = _; rw [hn]; simp [numOf, hn]
      | 1, hu => obtain ⟨n, hn, _⟩ := c1 j hjl; cases hu; rw [hp]; show W.cell? (ad.add (j * 2 + 1)) = _; rw [hn]; simp [numOf, hn]
      | i + 2, hu => simp at hu
    · rw [List.mem_map] at hx
      obtain ⟨i, hi, rfl⟩ := hx
      have hil : i < len := by simpa using hi
      obtain ⟨n0, hn0, hw0⟩ := c0 i hil
      obtain ⟨n1, hn1, hw1⟩ := c1 i hil
      simp only [hn0, hn1, numOf]
      exact ⟨hw0, hw1⟩
end Go.Proofs.Ytjpponjekcemjaa.Rw
end
section
namespace Go.Proofs.Ytjpponjekcemjaa.PB
open Go.RowKit Go.Proofs.YtjpponjekcemjaaW.PrintWords Go.Proofs.YtjpponjekcemjaaW.PrintLast Go.Proofs.YtjpponjekcemjaaW.PrintMore Go.Proofs.Ytjpponjekcemjaa.La
attribute [local go_sem] max2_int min2_int max_two min_two max_three min_three max_four min_four   -- for this text's walks alone
set_option linter.unusedVariables false
set_option linter.unusedSimpArgs false
def laws_markFile.l0 : Nat → List (S39) → Int → Int → Option (Int × (List (S39)))
 | 0, _, _, _ => none
 | k + 1, x0, x1, x5 => if x5 < (x0.length : Int) then (if 0 ≤ x5 then ((some (x0.set (x5 : Int).toNat (⟨IntKind.i8.wrap (x1), (rd_T39 x0 x5).f1⟩ : S39) : List (S39))).bind fun y361 => (laws_markFile.l0 k (y361.set (x5 : Int).toNat (⟨(rd_T39 y361 x5).f0, IntKind.i8.wrap (wrap64 (x1 + 1))⟩ : S39)) (wrap64 ((wrap64 (x1 + 1)) + 1)) (wrap64 (x5 + 1)))) else (none)) else (some (x1, x0))
def laws_markFile.f (k : Nat) (l0 : List (S39)) (a1 : Int) : Option (Int × (List (S39))) := laws_markFile.l0 k l0 a1 0
theorem laws_markFile.mono_l : ∀ k, (∀ y0 y1 y2, LeO (laws_markFile.l0 k y0 y1 y2) (laws_markFile.l0 (k + 1) y0 y1 y2))
 | 0 => fun _ _ _ r h => by simp [laws_markFile.l0] at h
 | k + 1 => by
  have ih0 := laws_markFile.mono_l k
  ·intro y0 y1 y2
   unfold laws_markFile.l0
   repeat' first
   | (with_reducible exact ih0 _ _ _)
   | (with_reducible exact LeO.refl _)
   | (with_reducible exact LeO.none _)
   | (with_reducible refine LeO.ite ?_ ?_)
   | (with_reducible refine LeO.bind ?_ (fun _ => ?_))
   | exact ih0 _ _ _
   | exact LeO.none _
   | refine LeO.ite ?_ ?_
   | refine LeO.bind ?_ (fun _ => ?_)
theorem laws_markFile.mono : ∀ a0 a1 k, LeO (laws_markFile.f k a0 a1) (laws_markFile.f (k + 1) a0 a1) := by
 intro a0 a1 k
 have ih0 := laws_markFile.mono_l k
 unfold laws_markFile.f
 repeat' first
   | (with_reducible exact ih0 _ _ _)
   | (with_reducible exact LeO.refl _)
   | (with_reducible exact LeO.none _)
   | (with_reducible refine LeO.ite ?_ ?_)
   | (with_reducible refine LeO.bind ?_ (fun _ => ?_))
   | exact ih0 _ _ _
   | exact LeO.none _
   | refine LeO.ite ?_ ?_
   | refine LeO.bind ?_ (fun _ => ?_)
set_option maxHeartbeats 8000000 in
set_option maxRecDepth 100000 in
theorem laws_markFile.calls (k : Nat) (P0_ : Nat → Prop) (u9000_ : Value) (l0 : List (S39)) (a1 : Int) (r1 : Int) (r2 : List (S39)) (w0 w : World) (hB : Below w0.heap.size w0 w) (ho0 : Kd.R k39 39 w w0.heap.size P0_ u9000_ l0) (h : laws_markFile.f k l0 a1 = some (r1, r2)) :
  Calls Try.prog 14 #[u9000_, .int .i64 a1] w fun e w' => e = .returned (.int .i64 r1) ∧ Kd.R k39 39 w' w0.heap.size (fun k_ => (P0_ k_ ∨ w.heap.size ≤ k_)) u9000_ r2 ∧ Below w0.heap.size w0 w' ∧ Kept w w' (fun k_ => P0_ k_) := by
 have HO0 := Aside0.mk (show Kd.R k39 39 w w0.heap.size (fun k_ => (P0_ k_ ∨ w.heap.size ≤ k_)) u9000_ l0 from Kd.R_mono ho0 (fun k_ hk => (.inl hk)))
 have HK := Aside0.mk (Kept.refl w (fun k_ => P0_ k_))
 have HW0 := Aside0.mk hB.size
 have HB := Aside0.mk hB
 clear hB
 have H : (laws_markFile.l0 k l0 a1 0) = some (r1, r2) := h
 clear h
 have H' := Aside0.mk H
 clear H
 go_enter Try.func14, Try.ntmps14
 go_wp2
 go_loopg [1, 5] k (fun kq v1 v5 w' => ∃ (x0_1 : List (S39)) (x1_1 : Int) (x5_1 : Int), v1 = .int .i64 x1_1 ∧ v5 = .int .i64 x5_1 ∧ Aside0 (laws_markFile.l0 kq x0_1 x1_1 x5_1 = some (r1, r2)) ∧ Aside0 (kq ≤ k) ∧ Aside0 (Kd.R k39 39 w' w0.heap.size (fun k_ => (P0_ k_ ∨ w.heap.size ≤ k_)) u9000_ x0_1) ∧ Aside0 (Kept w w' (fun k_ => P0_ k_)) ∧ Aside0 (Below w0.heap.size w0 w'))
 case atStart => exact ⟨(l0), (a1), (0), (by first | rfl | (simp; done) | (simp [*]; done)), (by first | rfl | (simp; done) | (simp [*]; done)), H', ⟨Nat.le_refl _⟩, ⟨by (with_reducible repeat (first | apply Kd.R_alloc | apply Kd.R_drewN | apply Kd.R_drew)); exact HO0.out⟩, ⟨by repeat (first | (with_reducible first | exact HK.out | apply Kept.alloc | apply Kept.drewN | apply Kept.drew) | exact HK.out)⟩, ⟨pb HB⟩⟩
 case round =>
  clear H'
  try clear c1
  try clear p2
  obtain ⟨x0_1, x1_1, x5_1, rfl, rfl, HA, HK1, HO_0, HK, HB⟩ := hrel
  cases gk with
  | zero => exact absurd HA.out (by simp [laws_markFile.l0])
  | succ k1 =>
   have H := HA.out; clear HA; simp only [laws_markFile.l0] at H
   by_cases c3 : x5_1 < (x0_1.length : Int)
   ·rw [if_pos c3] at H
    have c3b0 : decide (x5_1 < (x0_1.length : Int)) = true := decide_eq_true c3; clear c3
    by_cases c4 : 0 ≤ x5_1
    ·rw [if_pos c4] at H
     have c4b0 : decide (0 ≤ x5_1) = true := decide_eq_true c4; clear c4; obtain ⟨y361, hy361⟩ : ∃ y_ : List (S39), y_ = (x0_1.set (x5_1 : Int).toNat (⟨IntKind.i8.wrap (x1_1), (rd_T39 x0_1 x5_1).f1⟩ : S39)) := ⟨_, rfl⟩
     replace H : (laws_markFile.l0 k1 (y361.set (x5_1 : Int).toNat (⟨(rd_T39 y361 x5_1).f0, IntKind.i8.wrap (wrap64 (x1_1 + 1))⟩ : S39)) (wrap64 ((wrap64 (x1_1 + 1)) + 1)) (wrap64 (x5_1 + 1))) = some (r1, r2) := by first | (rw [hy361]; with_reducible exact H) | (have H2_ := (Option.bind_some _ _).symm.trans H; rw [hy361]; with_reducible exact H2_) | (have H2_ := (Option.bind_some _ _).symm.trans H; with_reducible exact H2_) | with_reducible exact H | (rw [hy361]; exact H) | exact H
     have Ny361 := Aside0.mk hy361; clear hy361; obtain ⟨y362, hy362⟩ : ∃ y_ : List (S39), y_ = (y361.set (x5_1 : Int).toNat (⟨(rd_T39 y361 x5_1).f0, IntKind.i8.wrap (wrap64 (x1_1 + 1))⟩ : S39)) := ⟨_, rfl⟩
     replace H : (laws_markFile.l0 k1 y362 (wrap64 ((wrap64 (x1_1 + 1)) + 1)) (wrap64 (x5_1 + 1))) = some (r1, r2) := by first | (rw [hy362]; with_reducible exact H) | (have H2_ := (Option.bind_some _ _).symm.trans H; rw [hy362]; with_reducible exact H2_) | (have H2_ := (Option.bind_some _ _).symm.trans H; with_reducible exact H2_) | with_reducible exact H | (rw [hy362]; exact H) | exact H
     have Ny362 := Aside0.mk hy362; clear hy362; have H' := Aside0.mk H; clear H; obtain ⟨Ao7, co7, eo7⟩ := Kd.R_slice HO_0.out; subst eo7; have p5 : 0 ≤ (x5_1 : Int) := oda; have q5 : (x5_1 : Int) < ((x0_1.length : Int) : Int) := oda; obtain ⟨go5, co5, eo5, gb5, gl5, cl5, HG5⟩ := Kd.R_form HO_0.out (by omega); (first | cases eo5 | (injection eo5 with ea_ en_ ec_; (first | subst ea_ | (injection ea_ with ea_; subst ea_)); subst ec_; clear en_)); have GB5 := Aside0.mk gb5; have GG5 := Aside0.mk HG5; clear gb5 gl5 HG5; have HMgo5 := Aside0.mk (show (P0_ go5 ∨ w.heap.size ≤ go5) from (HO_0.out.1 _ rfl)); obtain ⟨ce5, hcl5, hM5, hcc5, hfr5⟩ := Kd.R_elem HO_0.out z39 (x5_1 : Int) p5 q5; obtain rfl := k39_openM hM5; have hx5_0 : wr.cell? ⟨go5, (x5_1 : Int).toNat * 2, none⟩ = some (.int .i8 ((rd_T39 x0_1 x5_1).f0)) := hcc5 0 _ rfl; have hx5_1 : wr.cell? ⟨go5, (x5_1 : Int).toNat * 2 + 1, none⟩ = some (.int .i8 ((rd_T39 x0_1 x5_1).f1)) := hcc5 1 _ rfl; have hf5_0 : wr.frozen? ⟨go5, (x5_1 : Int).toNat * 2, none⟩ = false := hfr5 0; have hf5_1 : wr.frozen? ⟨go5, (x5_1 : Int).toNat * 2 + 1, none⟩ = false := hfr5 1; clear hcl5 hcc5 hfr5 hM5; replace p5 := eq_true p5; replace q5 := eq_true q5; have HX8 := Aside0.mk (show Kd.R k39 39 wr w0.heap.size (fun k_ => (P0_ k_ ∨ w.heap.size ≤ k_)) (.slice (some ⟨go5, 0, none⟩) x0_1.length co7) x0_1 from (by (with_reducible repeat (first | apply Kd.R_alloc | apply Kd.R_drewN | apply Kd.R_drew)); exact HO_0.out)); obtain ⟨ce8, hcl8, hM8, hcc8, hfr8⟩ := Kd.R_elem HX8.out z39 (x5_1 : Int) (oda) (by have h_ : (x5_1 : Int) < ((x0_1.length : Int) : Int) := oda; first | exact h_ | (have e_ := (Kd.R_reads' HO_0.out).1; omega) | simpa using h_); obtain rfl := k39_openM hM8; have HP8 := Kd.R_seg HX8.out (x5_1 : Int) (oda) (by have h_ : (x5_1 : Int) < ((x0_1.length : Int) : Int) := oda; first | exact h_ | (have e_ := (Kd.R_reads' HO_0.out).1; omega) | simpa using h_) (seg := [.int .i8 (IntKind.i8.wrap (x1_1))]) (j := 0) hcl8 hcc8 (show 1 ≤ 2 from by decide) (x' := (⟨IntKind.i8.wrap (x1_1), (rd_T39 x0_1 x5_1).f1⟩ : S39)) (k39_mkM _ _ _ (⟨IntKind.i8.wrap (x1_1), (rd_T39 x0_1 x5_1).f1⟩ : S39) ) (fun _ hk => hk); have hx8_0 := hcc8 0 _ rfl; (try simp only [show (k39).sz = 2 from rfl, Nat.mul_one, Nat.add_zero] at hx8_0); have hf8_0 := hfr8 0; (try simp only [show (k39).sz = 2 from rfl, Nat.mul_one, Nat.add_zero] at hf8_0); clear hcl8 hcc8 hfr8 hM8
     go_wp2_with (first | ((with_reducible refine gate_store (t := 22) (p := 17) rfl ?_); refine store_event (t := 22) (p := 17) (v := ?vo_w9) (w1 := (wr.setCell ⟨go5, (x5_1 : Int).toNat * 2, none⟩ (.int .i8 (IntKind.i8.wrap (x1_1))))) ?hg ?ho ?hn ?hr ?_; (case ho => rfl); (case hg => rfl); (case hn => rfl); (case hr => first | (go_simp; done) | (go_simp; rfl)); intro w9 hw; have hg : wr.grownBy w9 (some go5) := (by rw [hw]; exact HP8.2); have hp_ : Kd.R k39 39 w9 w0.heap.size (fun k_ => (P0_ k_ ∨ w.heap.size ≤ k_)) (.slice (some ⟨go5, 0, none⟩) x0_1.length co7) y361 := (by rw [hw, Ny361.out]; exact HP8.1); clear HP8; have n0_ := Aside0.mk (hp_); have n1_ := Aside0.mk ((by rw [hw]; exact below_set (HB.out) GB5.out : Below w0.heap.size w0 w9)); have n2_ := Aside0.mk (Kept.of_grown (S := (fun k_ => P0_ k_)) hg (by repeat (first | (with_reducible first | exact HK.out | apply Kept.alloc | apply Kept.drewN | apply Kept.drew) | exact HK.out)) (fun k_ e_ => (HO_0.out.1 k_ e_))); clear HO_0; clear HB; clear HK; have HO_0 := n0_; have HB := n1_; have HK := n2_; clear n0_ n1_ n2_; clear hg hw hp_; have p6 : 0 ≤ (x5_1 : Int) := oda; have q6 : (x5_1 : Int) < ((x0_1.length : Int) : Int) := oda; obtain ⟨ce6, hcl6, hM6, hcc6, hfr6⟩ := Kd.R_elem HO_0.out z39 (x5_1 : Int) p6 q6; obtain rfl := k39_openM hM6; have hx6_0 : w9.cell? ⟨go5, (x5_1 : Int).toNat * 2, none⟩ = some (.int .i8 ((rd_T39 y361 x5_1).f0)) := hcc6 0 _ rfl; have hx6_1 : w9.cell? ⟨go5, (x5_1 : Int).toNat * 2 + 1, none⟩ = some (.int .i8 ((rd_T39 y361 x5_1).f1)) := hcc6 1 _ rfl; have hf6_0 : w9.frozen? ⟨go5, (x5_1 : Int).toNat * 2, none⟩ = false := hfr6 0; have hf6_1 : w9.frozen? ⟨go5, (x5_1 : Int).toNat * 2 + 1, none⟩ = false := hfr6 1; clear hcl6 hcc6 hfr6 hM6; replace p6 := eq_true p6; replace q6 := eq_true q6; have HX10 := Aside0.mk (show Kd.R k39 39 w9 w0.heap.size (fun k_ => (P0_ k_ ∨ w.heap.size ≤ k_)) (.slice (some ⟨go5, 0, none⟩) x0_1.length co7) y361 from (by (with_reducible repeat (first | apply Kd.R_alloc | apply Kd.R_drewN | apply Kd.R_drew)); exact HO_0.out)); obtain ⟨ce10, hcl10, hM10, hcc10, hfr10⟩ := Kd.R_elem HX10.out z39 (x5_1 : Int) (oda) (by have h_ : (x5_1 : Int) < ((x0_1.length : Int) : Int) := oda; first | exact h_ | (have e_ := (Kd.R_reads' HO_0.out).1; omega) | simpa using h_); obtain rfl := k39_openM hM10; have HP10 := Kd.R_seg HX10.out (x5_1 : Int) (oda) (by have h_ : (x5_1 : Int) < ((x0_1.length : Int) : Int) := oda; first | exact h_ | (have e_ := (Kd.R_reads' HO_0.out).1; omega) | simpa using h_) (seg := [.int .i8 (IntKind.i8.wrap (wrap64 (x1_1 + 1)))]) (j := 1) hcl10 hcc10 (show 2 ≤ 2 from by decide) (x' := (⟨(rd_T39 y361 x5_1).f0, IntKind.i8.wrap (wrap64 (x1_1 + 1))⟩ : S39)) (k39_mkM _ _ _ (⟨(rd_T39 y361 x5_1).f0, IntKind.i8.wrap (wrap64 (x1_1 + 1))⟩ : S39) ) (fun _ hk => hk); have hx10_1 := hcc10 1 _ rfl; (try simp only [show (k39).sz = 2 from rfl, Nat.mul_one, Nat.add_zero] at hx10_1); have hf10_1 := hfr10 1; (try simp only [show (k39).sz = 2 from rfl, Nat.mul_one, Nat.add_zero] at hf10_1); clear hcl10 hcc10 hfr10 hM10) | ((with_reducible refine gate_store (t := 22) (p := 25) rfl ?_); refine store_event (t := 22) (p := 25) (v := ?vo_w11) (w1 := (w9.setCell ⟨go5, (x5_1 : Int).toNat * 2 + 1, none⟩ (.int .i8 (IntKind.i8.wrap (wrap64 (x1_1 + 1)))))) ?hg ?ho ?hn ?hr ?_; (case ho => rfl); (case hg => rfl); (case hn => rfl); (case hr => first | (go_simp; done) | (go_simp; rfl)); intro w11 hw; have hg : w9.grownBy w11 (some go5) := (by rw [hw]; exact HP10.2); have hp_ : Kd.R k39 39 w11 w0.heap.size (fun k_ => (P0_ k_ ∨ w.heap.size ≤ k_)) (.slice (some ⟨go5, 0, none⟩) x0_1.length co7) y362 := (by rw [hw, Ny362.out]; exact HP10.1); clear HP10; have n0_ := Aside0.mk (hp_); have n1_ := Aside0.mk ((by rw [hw]; exact below_set (HB.out) GB5.out : Below w0.heap.size w0 w11)); have n2_ := Aside0.mk (Kept.of_grown (S := (fun k_ => P0_ k_)) hg (by repeat (first | (with_reducible first | exact HK.out | apply Kept.alloc | apply Kept.drewN | apply Kept.drew) | exact HK.out)) (fun k_ e_ => (HO_0.out.1 k_ e_))); clear HO_0; clear HB; clear HK; have HO_0 := n0_; have HB := n1_; have HK := n2_; clear n0_ n1_ n2_; clear hg hw hp_))
     go_roundg k1
     case measure => have := HK1.out; omega
     case rel => exact ⟨(y362), (wrap64 ((wrap64 (x1_1 + 1)) + 1)), (wrap64 (x5_1 + 1)), (by first | rfl | (simp; done) | (simp [*]; done)), (by first | rfl | (simp; done) | (simp [*]; done)), H', ⟨by have := HK1.out; omega⟩, ⟨by (with_reducible repeat (first | apply Kd.R_alloc | apply Kd.R_drewN | apply Kd.R_drew)); exact HO_0.out⟩, ⟨by repeat (first | (with_reducible first | exact HK.out | apply Kept.alloc | apply Kept.drewN | apply Kept.drew) | exact HK.out)⟩, ⟨pb HB⟩⟩
    ·rw [if_neg c4] at H
     exact absurd H (by simp)
   ·rw [if_neg c3] at H
    have c3b0 : decide (x5_1 < (x0_1.length : Int)) = false := decide_eq_false c3; clear c3; simp only [Option.some.injEq, Prod.mk.injEq] at H; obtain ⟨rfl, rfl⟩ := H; obtain ⟨Ao12, co12, eo12⟩ := Kd.R_slice HO_0.out; subst eo12
    go_wp2
    go_ret
    exact ⟨by first | rfl | (simp [errW_none, errW_some] <;> rfl) | (simp [*, errW_none, errW_some] <;> rfl), by (with_reducible repeat (first | apply Kd.R_alloc | apply Kd.R_drewN | apply Kd.R_drew)); exact HO_0.out, by repeat (first | (with_reducible first | exact HB.out | apply below_alloc | apply pw_below_drewN | apply below_drew1) | exact HB.out), by repeat (first | (with_reducible first | exact HK.out | apply Kept.alloc | apply Kept.drewN | apply Kept.drew) | exact HK.out)⟩
def laws_markInt64S.l0 : Nat → List Int → Int → Int → Option (Int × List Int)
 | 0, _, _, _ => none
 | k + 1, x0, x1, x5 => if x5 < (x0.length : Int) then (if 0 ≤ x5 then (laws_markInt64S.l0 k (x0.set (x5 : Int).toNat x1) (wrap64 (x1 + 1)) (wrap64 (x5 + 1))) else (none)) else (some (x1, x0))
def laws_markInt64S.f (k : Nat) (l0 : List Int) (a1 : Int) : Option (Int × List Int) := laws_markInt64S.l0 k l0 a1 0
theorem laws_markInt64S.mono_l : ∀ k, (∀ y0 y1 y2, LeO (laws_markInt64S.l0 k y0 y1 y2) (laws_markInt64S.l0 (k + 1) y0 y1 y2))
 | 0 => fun _ _ _ r h => by simp [laws_markInt64S.l0] at h
 | k + 1 => by
  have ih0 := laws_markInt64S.mono_l k
  ·intro y0 y1 y2
   unfold laws_markInt64S.l0
   repeat' first
   | (with_reducible exact ih0 _ _ _)
   | (with_reducible exact LeO.refl _)
   | (with_reducible exact LeO.none _)
   | (with_reducible refine LeO.ite ?_ ?_)
   | (with_reducible refine LeO.bind ?_ (fun _ => ?_))
   | exact ih0 _ _ _
   | exact LeO.none _
   | refine LeO.ite ?_ ?_
   | refine LeO.bind ?_ (fun _ => ?_)
theorem laws_markInt64S.mono : ∀ a0 a1 k, LeO (laws_markInt64S.f k a0 a1) (laws_markInt64S.f (k + 1) a0 a1) := by
 intro a0 a1 k
 have ih0 := laws_markInt64S.mono_l k
 unfold laws_markInt64S.f
 repeat' first
   | (with_reducible exact ih0 _ _ _)
   | (with_reducible exact LeO.refl _)
   | (with_reducible exact LeO.none _)
   | (with_reducible refine LeO.ite ?_ ?_)
   | (with_reducible refine LeO.bind ?_ (fun _ => ?_))
   | exact ih0 _ _ _
   | exact LeO.none _
   | refine LeO.ite ?_ ?_
   | refine LeO.bind ?_ (fun _ => ?_)
set_option maxHeartbeats 8000000 in
set_option maxRecDepth 100000 in
theorem laws_markInt64S.calls (k : Nat) (P0_ : Nat → Prop) (u9000_ : Value) (l0 : List Int) (a1 : Int) (r1 : Int) (r2 : List Int) (w0 w : World) (hB : Below w0.heap.size w0 w) (ho0 : Kd.R (Kd.int .i64) 2 w w0.heap.size P0_ u9000_ l0) (h : laws_markInt64S.f k l0 a1 = some (r1, r2)) :
  Calls Try.prog 15 #[u9000_, .int .i64 a1] w fun e w' => e = .returned (.int .i64 r1) ∧ Kd.R (Kd.int .i64) 2 w' w0.heap.size (fun k_ => (P0_ k_ ∨ w.heap.size ≤ k_)) u9000_ r2 ∧ Below w0.heap.size w0 w' ∧ Kept w w' (fun k_ => P0_ k_) := by
 have HO0 := Aside0.mk (show Kd.R (Kd.int .i64) 2 w w0.heap.size (fun k_ => (P0_ k_ ∨ w.heap.size ≤ k_)) u9000_ l0 from Kd.R_mono ho0 (fun k_ hk => (.inl hk)))
 have HK := Aside0.mk (Kept.refl w (fun k_ => P0_ k_))
 have HW0 := Aside0.mk hB.size
 have HB := Aside0.mk hB
 clear hB
 have H : (laws_markInt64S.l0 k l0 a1 0) = some (r1, r2) := h
 clear h
 have H' := Aside0.mk H
 clear H
 go_enter Try.func15, Try.ntmps15
 go_wp2
 go_loopg [1, 5] k (fun kq v1 v5 w' => ∃ (x0_1 : List Int) (x1_1 : Int) (x5_1 : Int), v1 = .int .i64 x1_1 ∧ v5 = .int .i64 x5_1 ∧ Aside0 (laws_markInt64S.l0 kq x0_1 x1_1 x5_1 = some (r1, r2)) ∧ Aside0 (kq ≤ k) ∧ Aside0 (Kd.R (Kd.int .i64) 2 w' w0.heap.size (fun k_ => (P0_ k_ ∨ w.heap.size ≤ k_)) u9000_ x0_1) ∧ Aside0 (Kept w w' (fun k_ => P0_ k_)) ∧ Aside0 (Below w0.heap.size w0 w'))
 case atStart => exact ⟨(l0), (a1), (0), (by first | rfl | (simp; done) | (simp [*]; done)), (by first | rfl | (simp; done) | (simp [*]; done)), H', ⟨Nat.le_refl _⟩, ⟨by (with_reducible repeat (first | apply Kd.R_alloc | apply Kd.R_drewN | apply Kd.R_drew)); exact HO0.out⟩, ⟨by repeat (first | (with_reducible first | exact HK.out | apply Kept.alloc | apply Kept.drewN | apply Kept.drew) | exact HK.out)⟩, ⟨pb HB⟩⟩
 case round =>
  clear H'
  try clear c1
  try clear p2
  obtain ⟨x0_1, x1_1, x5_1, rfl, rfl, HA, HK1, HO_0, HK, HB⟩ := hrel
  cases gk with
  | zero => exact absurd HA.out (by simp [laws_markInt64S.l0])
  | succ k1 =>
   have H := HA.out; clear HA; simp only [laws_markInt64S.l0] at H
   by_cases c3 : x5_1 < (x0_1.length : Int)
   ·rw [if_pos c3] at H
    have c3b0 : decide (x5_1 < (x0_1.length : Int)) = true := decide_eq_true c3; clear c3
    by_cases c4 : 0 ≤ x5_1
    ·rw [if_pos c4] at H
     have c4b0 : decide (0 ≤ x5_1) = true := decide_eq_true c4; clear c4; obtain ⟨y363, hy363⟩ : ∃ y_ : List Int, y_ = (x0_1.set (x5_1 : Int).toNat x1_1) := ⟨_, rfl⟩
     replace H : (laws_markInt64S.l0 k1 y363 (wrap64 (x1_1 + 1)) (wrap64 (x5_1 + 1))) = some (r1, r2) := by first | (rw [hy363]; with_reducible exact H) | (have H2_ := (Option.bind_some _ _).symm.trans H; rw [hy363]; with_reducible exact H2_) | (have H2_ := (Option.bind_some _ _).symm.trans H; with_reducible exact H2_) | with_reducible exact H | (rw [hy363]; exact H) | exact H
     have Ny363 := Aside0.mk hy363; clear hy363; have H' := Aside0.mk H; clear H; obtain ⟨Ao6, co6, eo6⟩ := Kd.R_slice HO_0.out; subst eo6; have p5 : 0 ≤ (x5_1 : Int) := oda; have q5 : (x5_1 : Int) < ((x0_1.length : Int) : Int) := oda; obtain ⟨go5, co5, eo5, gb5, gl5, cl5, HG5⟩ := Kd.R_form HO_0.out (by omega); (first | cases eo5 | (injection eo5 with ea_ en_ ec_; (first | subst ea_ | (injection ea_ with ea_; subst ea_)); subst ec_; clear en_)); have GB5 := Aside0.mk gb5; have GG5 := Aside0.mk HG5; clear gb5 gl5 HG5; have HMgo5 := Aside0.mk (show (P0_ go5 ∨ w.heap.size ≤ go5) from (HO_0.out.1 _ rfl)); obtain ⟨hx5_0, hf5_0⟩ := Kd.R_celln 0 HO_0.out (x5_1 : Int) p5 q5; replace p5 := eq_true p5; replace q5 := eq_true q5; have HP7 := Kd.R_putg HO_0.out (x5_1 : Int) x1_1
     go_wp2_with (first | ((with_reducible refine gate_store (t := 2) (p := 15) rfl ?_); refine store_event (t := 2) (p := 15) (v := ?vo_w8) (w1 := (wr.setCell ⟨go5, (x5_1 : Int).toNat, none⟩ (.int .i64 x1_1))) ?hg ?ho ?hn ?hr ?_; (case ho => rfl); (case hg => rfl); (case hn => rfl); (case hr => first | (go_simp; done) | (go_simp; rfl)); intro w8 hw; have hg : wr.grownBy w8 (some go5) := (by rw [hw]; exact HP7.2); have hp_ : Kd.R (Kd.int .i64) 2 w8 w0.heap.size (fun k_ => (P0_ k_ ∨ w.heap.size ≤ k_)) (.slice (some ⟨go5, 0, none⟩) x0_1.length co6) y363 := (by rw [hw, Ny363.out]; exact HP7.1); clear HP7; have n0_ := Aside0.mk (hp_); have n1_ := Aside0.mk ((by rw [hw]; exact below_set (HB.out) GB5.out : Below w0.heap.size w0 w8)); have n2_ := Aside0.mk (Kept.of_grown (S := (fun k_ => P0_ k_)) hg (by repeat (first | (with_reducible first | exact HK.out | apply Kept.alloc | apply Kept.drewN | apply Kept.drew) | exact HK.out)) (fun k_ e_ => (HO_0.out.1 k_ e_))); clear HO_0; clear HB; clear HK; have HO_0 := n0_; have HB := n1_; have HK := n2_; clear n0_ n1_ n2_; clear hg hw hp_))
     go_roundg k1
     case measure => have := HK1.out; omega
     case rel => exact ⟨(y363), (wrap64 (x1_1 + 1)), (wrap64 (x5_1 + 1)), (by first | rfl | (simp; done) | (simp [*]; done)), (by first | rfl | (simp; done) | (simp [*]; done)), H', ⟨by have := HK1.out; omega⟩, ⟨by (with_reducible repeat (first | apply Kd.R_alloc | apply Kd.R_drewN | apply Kd.R_drew)); exact HO_0.out⟩, ⟨by repeat (first | (with_reducible first | exact HK.out | apply Kept.alloc | apply Kept.drewN | apply Kept.drew) | exact HK.out)⟩, ⟨pb HB⟩⟩
    ·rw [if_neg c4] at H
     exact absurd H (by simp)
   ·rw [if_neg c3] at H
    have c3b0 : decide (x5_1 < (x0_1.length : Int)) = false := decide_eq_false c3; clear c3; simp only [Option.some.injEq, Prod.mk.injEq] at H; obtain ⟨rfl, rfl⟩ := H; obtain ⟨Ao9, co9, eo9⟩ := Kd.R_slice HO_0.out; subst eo9
    go_wp2
    go_ret
    exact ⟨by first | rfl | (simp [errW_none, errW_some] <;> rfl) | (simp [*, errW_none, errW_some] <;> rfl), by (with_reducible repeat (first | apply Kd.R_alloc | apply Kd.R_drewN | apply Kd.R_drew)); exact HO_0.out, by repeat (first | (with_reducible first | exact HB.out | apply below_alloc | apply pw_below_drewN | apply below_drew1) | exact HB.out), by repeat (first | (with_reducible first | exact HK.out | apply Kept.alloc | apply Kept.drewN | apply Kept.drew) | exact HK.out)⟩
def laws_heldInt64S.l0 : Nat → List Int → Int → Int → Option (Int)
 | 0, _, _, _ => none
 | k + 1, x0, x1, x5 => if x5 < (x0.length : Int) then (if 0 ≤ x5 then (if (rd x0 x5) = x1 then (laws_heldInt64S.l0 k x0 (wrap64 (x1 + 1)) (wrap64 (x5 + 1))) else (some (-1))) else (none)) else (some x1)
def laws_heldInt64S.f (k : Nat) (l0 : List Int) (a1 : Int) : Option (Int) := laws_heldInt64S.l0 k l0 a1 0
theorem laws_heldInt64S.mono_l : ∀ k, (∀ y0 y1 y2, LeO (laws_heldInt64S.l0 k y0 y1 y2) (laws_heldInt64S.l0 (k + 1) y0 y1 y2))
 | 0 => fun _ _ _ r h => by simp [laws_heldInt64S.l0] at h
 | k + 1 => by
  have ih0 := laws_heldInt64S.mono_l k
  ·intro y0 y1 y2
   unfold laws_heldInt64S.l0
   repeat' first
   | (with_reducible exact ih0 _ _ _)
   | (with_reducible exact LeO.refl _)
   | (with_reducible exact LeO.none _)
   | (with_reducible refine LeO.ite ?_ ?_)
   | (with_reducible refine LeO.bind ?_ (fun _ => ?_))
   | exact ih0 _ _ _
   | exact LeO.none _
   | refine LeO.ite ?_ ?_
   | refine LeO.bind ?_ (fun _ => ?_)
theorem laws_heldInt64S.mono : ∀ a0 a1 k, LeO (laws_heldInt64S.f k a0 a1) (laws_heldInt64S.f (k + 1) a0 a1) := by
 intro a0 a1 k
 have ih0 := laws_heldInt64S.mono_l k
 unfold laws_heldInt64S.f
 repeat' first
   | (with_reducible exact ih0 _ _ _)
   | (with_reducible exact LeO.refl _)
   | (with_reducible exact LeO.none _)
   | (with_reducible refine LeO.ite ?_ ?_)
   | (with_reducible refine LeO.bind ?_ (fun _ => ?_))
   | exact ih0 _ _ _
   | exact LeO.none _
   | refine LeO.ite ?_ ?_
   | refine LeO.bind ?_ (fun _ => ?_)
set_option maxHeartbeats 8000000 in
set_option maxRecDepth 100000 in
theorem laws_heldInt64S.calls (k : Nat) (A0 : Option Addr) (c0 : Nat) (l0 : List Int) (a1 : Int) (r : Int) (w : World) (hr0 : Kd.C (Kd.int .i64) w A0 l0.length l0) (hc0 : l0.length ≤ c0) (h : laws_heldInt64S.f k l0 a1 = some r) :
  Calls Try.prog 16 #[.slice A0 l0.length c0, .int .i64 a1] w fun e w' => e = .returned (.int .i64 r) ∧ Drawn0 w w' := by
 have HR0 := Aside0.mk hr0
 have HC0 := Aside0.mk hc0
 clear hr0 hc0
 have H : (laws_heldInt64S.l0 k l0 a1 0) = some r := h
 clear h
 have H' := Aside0.mk H
 clear H
 go_enter Try.func16, Try.ntmps16
 go_wp2
 go_loopg [1, 5] k (fun kq v1 v5 w' => ∃ (x1_1 : Int) (x5_1 : Int), v1 = .int .i64 x1_1 ∧ v5 = .int .i64 x5_1 ∧ Aside0 (laws_heldInt64S.l0 kq l0 x1_1 x5_1 = some r) ∧ Aside0 (kq ≤ k) ∧ Drawn0 w w')
 case atStart => exact ⟨(a1), (0), (by first | rfl | (simp; done) | (simp [*]; done)), (by first | rfl | (simp; done) | (simp [*]; done)), H', ⟨Nat.le_refl _⟩, by repeat (first | exact Drawn0.refl _ | apply Drawn0.step)⟩
 case round =>
  clear H'
  try clear c1
  try clear p2
  obtain ⟨x1_1, x5_1, rfl, rfl, HA, HK1, ⟨m1, rfl⟩⟩ := hrel
  cases gk with
  | zero => exact absurd HA.out (by simp [laws_heldInt64S.l0])
  | succ k1 =>
   have H := HA.out; clear HA; simp only [laws_heldInt64S.l0] at H
   by_cases c3 : x5_1 < (l0.length : Int)
   ·rw [if_pos c3] at H
    have c3b0 : decide (x5_1 < (l0.length : Int)) = true := decide_eq_true c3; clear c3
    by_cases c4 : 0 ≤ x5_1
    ·rw [if_pos c4] at H
     have c4b0 : decide (0 ≤ x5_1) = true := decide_eq_true c4; clear c4
     by_cases c5 : (rd l0 x5_1) = x1_1
     ·rw [if_pos c5] at H
      have c5b0 : ((rd l0 x5_1) == x1_1) = true := beq_iff_eq.mpr c5; have c5b1 : ((rd l0 x5_1) != x1_1) = false := bne_eq_false_iff_eq.mpr c5; clear c5; have H' := Aside0.mk H; clear H; have p364 : 0 ≤ (x5_1 : Int) := oda; have q364 : x5_1 < (l0.length : Int) := oda; obtain ⟨ad364, e364, hx364_0⟩ := Kd.at_int HR0.out x5_1 p364 q364; cases e364; replace p364 := eq_true p364; replace q364 := eq_true q364
      go_wp2
      go_roundg k1
      case measure => have := HK1.out; omega
      case rel => exact ⟨(wrap64 (x1_1 + 1)), (wrap64 (x5_1 + 1)), (by first | rfl | (simp; done) | (simp [*]; done)), (by first | rfl | (simp; done) | (simp [*]; done)), H', ⟨by have := HK1.out; omega⟩, by repeat (first | exact Drawn0.refl _ | apply Drawn0.step)⟩
     ·rw [if_neg c5] at H
      have c5b0 : ((rd l0 x5_1) == x1_1) = false := beq_eq_false_iff_ne.mpr c5; have c5b1 : ((rd l0 x5_1) != x1_1) = true := bne_iff_ne.mpr c5; obtain rfl := Option.some.inj H; have p364 : 0 ≤ (x5_1 : Int) := oda; have q364 : x5_1 < (l0.length : Int) := oda; obtain ⟨ad364, e364, hx364_0⟩ := Kd.at_int HR0.out x5_1 p364 q364; cases e364; replace p364 := eq_true p364; replace q364 := eq_true q364
      go_wp2
      go_ret
      exact ⟨by first | rfl | (simp; done) | (simp [*]; done), by repeat (first | exact Drawn0.refl _ | apply Drawn0.step)⟩
    ·rw [if_neg c4] at H
     exact absurd H (by simp)
   ·rw [if_neg c3] at H
    have c3b0 : decide (x5_1 < (l0.length : Int)) = false := decide_eq_false c3; clear c3; obtain rfl := Option.some.inj H
    go_wp2
    go_ret
    exact ⟨by first | rfl | (simp; done) | (simp [*]; done), by repeat (first | exact Drawn0.refl _ | apply Drawn0.step)⟩
end Go.Proofs.Ytjpponjekcemjaa.PB
end
section
namespace Go.Proofs.Ytjpponjekcemjaa.PB
open Go.RowKit Go.Proofs.YtjpponjekcemjaaW.PrintWords Go.Proofs.YtjpponjekcemjaaW.PrintLast Go.Proofs.YtjpponjekcemjaaW.PrintMore Go.Proofs.Ytjpponjekcemjaa.La
attribute [local go_sem] max2_int min2_int max_two min_two max_three min_three max_four min_four   -- for this text's walks alone
set_option linter.unusedVariables false
set_option linter.unusedSimpArgs false
def laws_szFile.f (l0 : List (S29)) (a1 : Int) : Option (Int) := if (wrap64 (a1 - (l0.length : Int))) < 0 then (some (-1)) else (some (wrap64 (a1 - (l0.length : Int))))
set_option maxHeartbeats 8000000 in
set_option maxRecDepth 100000 in
theorem laws_szFile.calls (A0 : Option Addr) (c0 : Nat) (l0 : List (S29)) (a1 : Int) (r : Int) (w : World) (hr0 : Kd.C k29 w A0 l0.length l0) (hc0 : l0.length ≤ c0) (h : laws_szFile.f l0 a1 = some r) :
  Calls Try.prog 6 #[.slice A0 l0.length c0, .int .i64 a1] w fun e w' => e = .returned (.int .i64 r) ∧ Drawn0 w w' := by
 have HR0 := Aside0.mk hr0
 have HC0 := Aside0.mk hc0
 clear hr0 hc0
 have H : (if (wrap64 (a1 - (l0.length : Int))) < 0 then (some (-1)) else (some (wrap64 (a1 - (l0.length : Int))))) = some r := h
 clear h
 by_cases c3 : (wrap64 (a1 - (l0.length : Int))) < 0
 ·rw [if_pos c3] at H
  have c3b0 : decide ((wrap64 (a1 - (l0.length : Int))) < 0) = true := decide_eq_true c3; clear c3; obtain rfl := Option.some.inj H
  go_enter Try.func6, Try.ntmps6
  go_wp2
  go_ret
  exact ⟨by first | rfl | (simp; done) | (simp [*]; done), by repeat (first | exact Drawn0.refl _ | apply Drawn0.step)⟩
 ·rw [if_neg c3] at H
  have c3b0 : decide ((wrap64 (a1 - (l0.length : Int))) < 0) = false := decide_eq_false c3; clear c3; obtain rfl := Option.some.inj H
  go_enter Try.func6, Try.ntmps6
  go_wp2
  go_ret
  exact ⟨by first | rfl | (simp; done) | (simp [*]; done), by repeat (first | exact Drawn0.refl _ | apply Drawn0.step)⟩
def spec_l00In.f (a0 : Int) (a1 : Int) (a2 : Int) : Option (Bool) := if a0 ≥ a1 then (some (decide (a0 ≤ a2))) else (some false)
set_option maxHeartbeats 8000000 in
set_option maxRecDepth 100000 in
theorem spec_l00In.calls (a0 : Int) (a1 : Int) (a2 : Int) (r : Bool) (w : World) (h : spec_l00In.f a0 a1 a2 = some r) :
  Calls Try.prog 31 #[.int .i64 a0, .int .i64 a1, .int .i64 a2] w fun e w' => e = .returned (.bool r) ∧ Drawn0 w w' := by
 have H : (if a0 ≥ a1 then (some (decide (a0 ≤ a2))) else (some false)) = some r := h
 clear h
 by_cases c4 : a0 ≥ a1
 ·rw [if_pos c4] at H
  have c4b0 : decide (a1 ≤ a0) = true := decide_eq_true c4; clear c4; obtain rfl := Option.some.inj H
  go_enter Try.func31, Try.ntmps31
  go_wp2
  go_ret
  exact ⟨by first | rfl | (simp; done) | (simp [*]; done), by repeat (first | exact Drawn0.refl _ | apply Drawn0.step)⟩
 ·rw [if_neg c4] at H
  have c4b0 : decide (a1 ≤ a0) = false := decide_eq_false c4; clear c4; obtain rfl := Option.some.inj H
  go_enter Try.func31, Try.ntmps31
  go_wp2
  go_ret
  exact ⟨by first | rfl | (simp; done) | (simp [*]; done), by repeat (first | exact Drawn0.refl _ | apply Drawn0.step)⟩
mutual
def spec_l01Ok.j0 : Nat → Bool → Int → Int → LA 10 → Option (Bool)
 | 0, _, _, _, _ => none
 | k + 1, x19, x1000, x1001, x1002 => if x19 = true then (some false) else (spec_l01Ok.l0 k 0 x1000 x1001 x1002)
def spec_l01Ok.l0 : Nat → Int → Int → Int → LA 10 → Option (Bool)
 | 0, _, _, _, _ => none
 | k + 1, x3, x1000, x1001, x1002 => if x3 < 10 then (if 0 ≤ x3 then (if 0 ≤ (IntKind.u64.wrap (x1000)) then (if (shr .u16 (rd x1002.l x3) (IntKind.u64.wrap (x1000))) = 0 then (if x3 ≥ (wrap64 (x1001)) then (if (rd x1002.l x3) = 0 then (spec_l01Ok.l0 k (wrap64 (x3 + 1)) x1000 x1001 x1002) else (some false)) else (spec_l01Ok.l0 k (wrap64 (x3 + 1)) x1000 x1001 x1002)) else (some false)) else (none)) else (none)) else (some true)
end
def spec_l01Ok.f (k : Nat) (s0_0 : Int) (s0_1 : Int) (s0_2 : LA 10) : Option (Bool) := (spec_l00In.f (wrap64 (s0_0)) 1 10).bind fun t101 => (if t101 = true then ((spec_l00In.f (wrap64 (s0_1)) 1 10).bind fun t102 => (spec_l01Ok.j0 k (!t102) s0_0 s0_1 s0_2)) else (spec_l01Ok.j0 k true s0_0 s0_1 s0_2))
theorem spec_l01Ok.mono_l : ∀ k, (∀ y0 y1 y2 y3, LeO (spec_l01Ok.j0 k y0 y1 y2 y3) (spec_l01Ok.j0 (k + 1) y0 y1 y2 y3)) ∧ (∀ y0 y1 y2 y3, LeO (spec_l01Ok.l0 k y0 y1 y2 y3) (spec_l01Ok.l0 (k + 1) y0 y1 y2 y3))
 | 0 => ⟨fun _ _ _ _ r h => by simp [spec_l01Ok.j0] at h, fun _ _ _ _ r h => by simp [spec_l01Ok.l0] at h⟩
 | k + 1 => by
  obtain ⟨ih0, ih1⟩ := spec_l01Ok.mono_l k; refine ⟨?_, ?_⟩
  ·intro y0 y1 y2 y3
   unfold spec_l01Ok.j0
   repeat' first
   | (with_reducible exact ih0 _ _ _ _)
   | (with_reducible exact ih1 _ _ _ _)
   | (with_reducible exact LeO.refl _)
   | (with_reducible exact LeO.none _)
   | (with_reducible refine LeO.ite ?_ ?_)
   | (with_reducible refine LeO.bind ?_ (fun _ => ?_))
   | exact ih0 _ _ _ _
   | exact ih1 _ _ _ _
   | exact LeO.none _
   | refine LeO.ite ?_ ?_
   | refine LeO.bind ?_ (fun _ => ?_)
  ·intro y0 y1 y2 y3
   unfold spec_l01Ok.l0
   repeat' first
   | (with_reducible exact ih0 _ _ _ _)
   | (with_reducible exact ih1 _ _ _ _)
   | (with_reducible exact LeO.refl _)
   | (with_reducible exact LeO.none _)
   | (with_reducible refine LeO.ite ?_ ?_)
   | (with_reducible refine LeO.bind ?_ (fun _ => ?_))
   | exact ih0 _ _ _ _
   | exact ih1 _ _ _ _
   | exact LeO.none _
   | refine LeO.ite ?_ ?_
   | refine LeO.bind ?_ (fun _ => ?_)
theorem spec_l01Ok.mono : ∀ a0 a1 a2 k, LeO (spec_l01Ok.f k a0 a1 a2) (spec_l01Ok.f (k + 1) a0 a1 a2) := by
 intro a0 a1 a2 k
 obtain ⟨ih0, ih1⟩ := spec_l01Ok.mono_l k
 unfold spec_l01Ok.f
 repeat' first
   | (with_reducible exact ih0 _ _ _ _)
   | (with_reducible exact ih1 _ _ _ _)
   | (with_reducible exact LeO.refl _)
   | (with_reducible exact LeO.none _)
   | (with_reducible refine LeO.ite ?_ ?_)
   | (with_reducible refine LeO.bind ?_ (fun _ => ?_))
   | exact ih0 _ _ _ _
   | exact ih1 _ _ _ _
   | exact LeO.none _
   | refine LeO.ite ?_ ?_
   | refine LeO.bind ?_ (fun _ => ?_)
set_option maxHeartbeats 8000000 in
set_option maxRecDepth 100000 in
theorem spec_l01Ok.calls (k : Nat) (g0 : Nat) (s0_0 : Int) (s0_1 : Int) (s0_2 : LA 10) (r : Bool) (w : World) (hb0 : w.heap[g0]? = some (.cells (mixA (Value.int .u16) [.int .i8 s0_0, .int .i8 s0_1] s0_2) 34 (0, 0))) (h : spec_l01Ok.f k s0_0 s0_1 s0_2 = some r) :
  Calls Try.prog 50 #[.pointer (some ⟨g0, 0, none⟩)] w fun e w' => e = .returned (.bool r) ∧ Below w.heap.size w w' := by
 have BK0 := Aside0.mk hb0
 clear hb0
 have HB := Aside0.mk (Below.refl w.heap.size w)
 have H : ((spec_l00In.f (wrap64 (s0_0)) 1 10).bind fun t101 => (if t101 = true then ((spec_l00In.f (wrap64 (s0_1)) 1 10).bind fun t102 => (spec_l01Ok.j0 k (!t102) s0_0 s0_1 s0_2)) else (spec_l01Ok.j0 k true s0_0 s0_1 s0_2))) = some r := h
 clear h
 have HC2 := Aside0.mk H
 clear H
 go_enter Try.func50, Try.ntmps50
 go_upto_region 1 with (fail)
 repeat (go_quiet (fail); go_upto_region 1 with (fail))
 go_cut [19] (fun v19 wc => ∃ (kq : Nat) (x19_1 : Bool), v19 = .bool x19_1 ∧ Aside0 (spec_l01Ok.j0 kq x19_1 s0_0 s0_1 s0_2 = some r) ∧ Aside0 (kq ≤ k) ∧ Aside0 (wc.heap[g0]? = some (.cells (mixA (Value.int .u16) [.int .i8 s0_0, .int .i8 s0_1] s0_2) 34 (0, 0))) ∧ Aside0 (Below w.heap.size w wc))
 case first =>
  have H := HC2.out; clear HC2; obtain ⟨t101, A3, H⟩ := obn H
  by_cases c4 : t101 = true
  ·subst c4
   have H1 : ((spec_l00In.f (wrap64 (s0_1)) 1 10).bind fun t102 => (spec_l01Ok.j0 k (!t102) s0_0 s0_1 s0_2)) = some r := by rw [if_pos rfl] at H; exact H
   clear H; have H := H1; clear H1; obtain ⟨t102, A5, H⟩ := obn H; have H' := Aside0.mk H; clear H; have hcz6_0 : w.cell? ⟨g0, 0, none⟩ = some (.int .i8 s0_0) := mix_cell0 BK0.out 0; have hcz6_1 : w.cell? ⟨g0, 1, none⟩ = some (.int .i8 s0_1) := mix_cell0 BK0.out 1; have hfz6_0 := blk_frozen BK0.out 0; have hfz6_1 := blk_frozen BK0.out 1
   go_wp2_with (first | (go_at_call 31; (with_reducible refine (spec_l00In.calls (wrap64 (s0_0)) 1 10 true _ A3.out).mono ?_); rintro e w' ⟨rfl, ⟨nd, rfl⟩⟩; (try first | exact ⟨rfl, _, World.drewN_drewN _ _ _⟩ | exact ⟨rfl, _, Eq.trans (World.drewN_drewN _ _ _) (congrArg (World.drewN _) (Nat.add_assoc _ _ _))⟩)) | (go_at_call 31; (with_reducible refine (spec_l00In.calls (wrap64 (s0_1)) 1 10 t102 _ A5.out).mono ?_); rintro e w' ⟨rfl, ⟨nd, rfl⟩⟩; (try first | exact ⟨rfl, _, World.drewN_drewN _ _ _⟩ | exact ⟨rfl, _, Eq.trans (World.drewN_drewN _ _ _) (congrArg (World.drewN _) (Nat.add_assoc _ _ _))⟩)))
   repeat (go_quiet (first | (go_at_call 31; (with_reducible refine (spec_l00In.calls (wrap64 (s0_0)) 1 10 true _ A3.out).mono ?_); rintro e w' ⟨rfl, ⟨nd, rfl⟩⟩; (try first | exact ⟨rfl, _, World.drewN_drewN _ _ _⟩ | exact ⟨rfl, _, Eq.trans (World.drewN_drewN _ _ _) (congrArg (World.drewN _) (Nat.add_assoc _ _ _))⟩)) | (go_at_call 31; (with_reducible refine (spec_l00In.calls (wrap64 (s0_1)) 1 10 t102 _ A5.out).mono ?_); rintro e w' ⟨rfl, ⟨nd, rfl⟩⟩; (try first | exact ⟨rfl, _, World.drewN_drewN _ _ _⟩ | exact ⟨rfl, _, Eq.trans (World.drewN_drewN _ _ _) (congrArg (World.drewN _) (Nat.add_assoc _ _ _))⟩))); try go_wp2_with (first | (go_at_call 31; (with_reducible refine (spec_l00In.calls (wrap64 (s0_0)) 1 10 true _ A3.out).mono ?_); rintro e w' ⟨rfl, ⟨nd, rfl⟩⟩; (try first | exact ⟨rfl, _, World.drewN_drewN _ _ _⟩ | exact ⟨rfl, _, Eq.trans (World.drewN_drewN _ _ _) (congrArg (World.drewN _) (Nat.add_assoc _ _ _))⟩)) | (go_at_call 31; (with_reducible refine (spec_l00In.calls (wrap64 (s0_1)) 1 10 t102 _ A5.out).mono ?_); rintro e w' ⟨rfl, ⟨nd, rfl⟩⟩; (try first | exact ⟨rfl, _, World.drewN_drewN _ _ _⟩ | exact ⟨rfl, _, Eq.trans (World.drewN_drewN _ _ _) (congrArg (World.drewN _) (Nat.add_assoc _ _ _))⟩))))
   go_meet
   case rel => exact ⟨_, (!t102), (by first | rfl | (simp; done) | (simp [*]; done)), H', ⟨by first | omega | exact Nat.le_refl _⟩, ⟨pk BK0⟩, ⟨pbs HB⟩⟩
  ·replace c4 := Bool.eq_false_iff.mpr c4
   subst c4
   have H1 : (spec_l01Ok.j0 k true s0_0 s0_1 s0_2) = some r := by rw [if_neg (show ¬ (false = true) by decide)] at H; exact H
   clear H; have H := H1; clear H1; have H' := Aside0.mk H; clear H; have hcz7_0 : w.cell? ⟨g0, 0, none⟩ = some (.int .i8 s0_0) := mix_cell0 BK0.out 0; have hcz7_1 : w.cell? ⟨g0, 1, none⟩ = some (.int .i8 s0_1) := mix_cell0 BK0.out 1; have hfz7_0 := blk_frozen BK0.out 0; have hfz7_1 := blk_frozen BK0.out 1
   go_wp2_with (first | (go_at_call 31; (with_reducible refine (spec_l00In.calls (wrap64 (s0_0)) 1 10 false _ A3.out).mono ?_); rintro e w' ⟨rfl, ⟨nd, rfl⟩⟩; (try first | exact ⟨rfl, _, World.drewN_drewN _ _ _⟩ | exact ⟨rfl, _, Eq.trans (World.drewN_drewN _ _ _) (congrArg (World.drewN _) (Nat.add_assoc _ _ _))⟩)))
   repeat (go_quiet (first | (go_at_call 31; (with_reducible refine (spec_l00In.calls (wrap64 (s0_0)) 1 10 false _ A3.out).mono ?_); rintro e w' ⟨rfl, ⟨nd, rfl⟩⟩; (try first | exact ⟨rfl, _, World.drewN_drewN _ _ _⟩ | exact ⟨rfl, _, Eq.trans (World.drewN_drewN _ _ _) (congrArg (World.drewN _) (Nat.add_assoc _ _ _))⟩))); try go_wp2_with (first | (go_at_call 31; (with_reducible refine (spec_l00In.calls (wrap64 (s0_0)) 1 10 false _ A3.out).mono ?_); rintro e w' ⟨rfl, ⟨nd, rfl⟩⟩; (try first | exact ⟨rfl, _, World.drewN_drewN _ _ _⟩ | exact ⟨rfl, _, Eq.trans (World.drewN_drewN _ _ _) (congrArg (World.drewN _) (Nat.add_assoc _ _ _))⟩))))
   go_meet
   case rel => exact ⟨_, (true), (by first | rfl | (simp; done) | (simp [*]; done)), H', ⟨by first | omega | exact Nat.le_refl _⟩, ⟨pk BK0⟩, ⟨pbs HB⟩⟩
 case rest =>
  clear HC2
  try clear p2
  try clear c4
  try clear c5
  try clear p6
  try clear hcz6_0
  try clear hcz6_1
  try clear hcz7_0
  try clear hcz7_1
  try clear hfz6_0
  try clear hfz6_1
  try clear hfz7_0
  try clear hfz7_1
  obtain ⟨kq, x19_1, rfl, HA, HJ1, BK0, HB⟩ := hcut
  cases kq with
  | zero => exact absurd HA.out (by simp [spec_l01Ok.j0])
  | succ kj1 =>
   have H := HA.out; clear HA; simp only [spec_l01Ok.j0] at H
   by_cases c8 : x19_1 = true
   ·subst c8
    have H1 : (some false) = some r := by rw [if_pos rfl] at H; exact H
    clear H; have H := H1; clear H1; obtain rfl := Option.some.inj H
    go_wp2
    repeat (go_quiet (fail); try go_wp2)
    go_ret
    exact ⟨by first | rfl | (simp [errW_none, errW_some] <;> rfl) | (simp [*, errW_none, errW_some] <;> rfl), pbs HB⟩
   ·replace c8 := Bool.eq_false_iff.mpr c8
    subst c8
    have H1 : (spec_l01Ok.l0 kj1 0 s0_0 s0_1 s0_2) = some r := by rw [if_neg (show ¬ (false = true) by decide)] at H; exact H
    clear H; have H := H1; clear H1; have H' := Aside0.mk H; clear H
    go_wp2
    repeat (go_quiet (fail); try go_wp2)
    go_loopg [3] kj1 (fun kq v3 w' => ∃ (x3_2 : Int), v3 = .int .i64 x3_2 ∧ Aside0 (spec_l01Ok.l0 kq x3_2 s0_0 s0_1 s0_2 = some r) ∧ Aside0 (kq ≤ kj1) ∧ Aside0 (w'.heap[g0]? = some (.cells (mixA (Value.int .u16) [.int .i8 s0_0, .int .i8 s0_1] s0_2) 34 (0, 0))) ∧ Aside0 (Below w.heap.size w w'))
    case atStart => exact ⟨(0), (by first | rfl | (simp; done) | (simp [*]; done)), H', ⟨Nat.le_refl _⟩, ⟨pk BK0⟩, ⟨pbs HB⟩⟩
    case round =>
     clear H'
     try clear p2
     try clear c4
     try clear c5
     try clear p6
     try clear c8
     try clear hcz6_0
     try clear hcz6_1
     try clear hcz7_0
     try clear hcz7_1
     try clear hfz6_0
     try clear hfz6_1
     try clear hfz7_0
     try clear hfz7_1
     try clear p2
     try clear p6
     obtain ⟨x3_2, rfl, HA, HK2, BK0, HB⟩ := hrel
     cases gk with
     | zero => exact absurd HA.out (by simp [spec_l01Ok.l0])
     | succ k2 =>
      have H := HA.out; clear HA; simp only [spec_l01Ok.l0] at H
      by_cases c9 : x3_2 < 10
      ·rw [if_pos c9] at H
       have c9b0 : decide (x3_2 < 10) = true := decide_eq_true c9; clear c9
       by_cases c10 : 0 ≤ x3_2
       ·rw [if_pos c10] at H
        have c10b0 : decide (0 ≤ x3_2) = true := decide_eq_true c10; clear c10; obtain ⟨ji11, hji11⟩ : ∃ j_ : Int, (IntKind.u64.wrap (s0_0)) = j_ := ⟨_, rfl⟩
        replace H : (if 0 ≤ (ji11) then (if (shr .u16 (rd s0_2.l x3_2) (ji11)) = 0 then (if x3_2 ≥ (wrap64 (s0_1)) then (if (rd s0_2.l x3_2) = 0 then (spec_l01Ok.l0 k2 (wrap64 (x3_2 + 1)) s0_0 s0_1 s0_2) else (some false)) else (spec_l01Ok.l0 k2 (wrap64 (x3_2 + 1)) s0_0 s0_1 s0_2)) else (some false)) else (none)) = some r := by first | (rw [hji11] at H; exact H) | (simp only [hji11] at H ⊢; exact H)
        by_cases c12 : 0 ≤ (ji11)
        ·rw [if_pos c12] at H
         have c12b0 := eq_true c12; have c12b1 : decide (0 ≤ (ji11)) = true := decide_eq_true c12; clear c12; obtain ⟨ji13, hji13⟩ : ∃ j_ : Int, (shr .u16 (rd s0_2.l x3_2) (ji11)) = j_ := ⟨_, rfl⟩
         replace H : (if (ji13) = 0 then (if x3_2 ≥ (wrap64 (s0_1)) then (if (rd s0_2.l x3_2) = 0 then (spec_l01Ok.l0 k2 (wrap64 (x3_2 + 1)) s0_0 s0_1 s0_2) else (some false)) else (spec_l01Ok.l0 k2 (wrap64 (x3_2 + 1)) s0_0 s0_1 s0_2)) else (some false)) = some r := by first | (rw [hji13] at H; exact H) | (simp only [hji13] at H ⊢; exact H)
         have hji13_ : ((rd s0_2.l x3_2) / 2 ^ min (ji11).toNat 16) = ji13 := hji13; have hji13z : (ji11) ≤ 16 → ((rd s0_2.l x3_2) / 2 ^ (ji11).toNat) = ji13 := shr_small hji13
         by_cases c14 : (ji13) = 0
         ·rw [if_pos c14] at H
          have c14b0 : ((ji13) == 0) = true := beq_iff_eq.mpr c14; have c14b1 : ((ji13) != 0) = false := bne_eq_false_iff_eq.mpr c14; clear c14
          by_cases c15 : x3_2 ≥ (wrap64 (s0_1))
          ·rw [if_pos c15] at H
           have c15b0 : decide ((wrap64 (s0_1)) ≤ x3_2) = true := decide_eq_true c15; clear c15
           by_cases c16 : (rd s0_2.l x3_2) = 0
           ·rw [if_pos c16] at H
            have c16b0 : ((rd s0_2.l x3_2) == 0) = true := beq_iff_eq.mpr c16; have c16b1 : ((rd s0_2.l x3_2) != 0) = false := bne_eq_false_iff_eq.mpr c16; clear c16; have H' := Aside0.mk H; clear H; have hcz17_0 : wr.cell? ⟨g0, 0, none⟩ = some (.int .i8 s0_0) := mix_cell0 BK0.out 0; have hcz17_1 : wr.cell? ⟨g0, 1, none⟩ = some (.int .i8 s0_1) := mix_cell0 BK0.out 1; have hfz17_0 := blk_frozen BK0.out 0; have hfz17_1 := blk_frozen BK0.out 1; have hpd18 : (0 ≤ x3_2) = True := eq_true (by first | omega | exact oda); have hqd18 : (x3_2 < 10) = True := eq_true (by first | omega | exact oda); have hrd18 : (x3_2 < ((10 : Nat) : Int)) = True := eq_true (by first | omega | exact oda); have hdd18 : wr.cell? ⟨g0, 2 + x3_2.toNat, none⟩ = some (.int .u16 (rd s0_2.l x3_2)) := mix_at BK0.out 2 rfl x3_2 (of_eq_true hpd18) (of_eq_true hqd18); have hfdd18 := blk_frozen BK0.out (2 + x3_2.toNat); have hpd19 : (0 ≤ x3_2) = True := eq_true (by first | omega | exact oda); have hqd19 : (x3_2 < 10) = True := eq_true (by first | omega | exact oda); have hrd19 : (x3_2 < ((10 : Nat) : Int)) = True := eq_true (by first | omega | exact oda); have hdd19 : wr.cell? ⟨g0, 2 + x3_2.toNat, none⟩ = some (.int .u16 (rd s0_2.l x3_2)) := mix_at BK0.out 2 rfl x3_2 (of_eq_true hpd19) (of_eq_true hqd19); have hfdd19 := blk_frozen BK0.out (2 + x3_2.toNat)
            go_wp2
            repeat (go_quiet (fail); try go_wp2)
            go_roundg k2
            case measure => have := HJ1.out; have := HK2.out; omega
            case rel => exact ⟨(wrap64 (x3_2 + 1)), (by first | rfl | (simp; done) | (simp [*]; done)), H', ⟨by have := HJ1.out; have := HK2.out; omega⟩, ⟨pk BK0⟩, ⟨pbs HB⟩⟩
           ·rw [if_neg c16] at H
            have c16b0 : ((rd s0_2.l x3_2) == 0) = false := beq_eq_false_iff_ne.mpr c16; have c16b1 : ((rd s0_2.l x3_2) != 0) = true := bne_iff_ne.mpr c16; obtain rfl := Option.some.inj H; have hcz20_0 : wr.cell? ⟨g0, 0, none⟩ = some (.int .i8 s0_0) := mix_cell0 BK0.out 0; have hcz20_1 : wr.cell? ⟨g0, 1, none⟩ = some (.int .i8 s0_1) := mix_cell0 BK0.out 1; have hfz20_0 := blk_frozen BK0.out 0; have hfz20_1 := blk_frozen BK0.out 1; have hpd21 : (0 ≤ x3_2) = True := eq_true (by first | omega | exact oda); have hqd21 : (x3_2 < 10) = True := eq_true (by first | omega | exact oda); have hrd21 : (x3_2 < ((10 : Nat) : Int)) = True := eq_true (by first | omega | exact oda); have hdd21 : wr.cell? ⟨g0, 2 + x3_2.toNat, none⟩ = some (.int .u16 (rd s0_2.l x3_2)) := mix_at BK0.out 2 rfl x3_2 (of_eq_true hpd21) (of_eq_true hqd21); have hfdd21 := blk_frozen BK0.out (2 + x3_2.toNat); have hpd22 : (0 ≤ x3_2) = True := eq_true (by first | omega | exact oda); have hqd22 : (x3_2 < 10) = True := eq_true (by first | omega | exact oda); have hrd22 : (x3_2 < ((10 : Nat) : Int)) = True := eq_true (by first | omega | exact oda); have hdd22 : wr.cell? ⟨g0, 2 + x3_2.toNat, none⟩ = some (.int .u16 (rd s0_2.l x3_2)) := mix_at BK0.out 2 rfl x3_2 (of_eq_true hpd22) (of_eq_true hqd22); have hfdd22 := blk_frozen BK0.out (2 + x3_2.toNat)
            go_wp2
            repeat (go_quiet (fail); try go_wp2)
            go_ret
            exact ⟨by first | rfl | (simp [errW_none, errW_some] <;> rfl) | (simp only [← hji11, ← hji13]; first | rfl | (simp [errW_none, errW_some] <;> rfl)) | (simp [*, errW_none, errW_some] <;> rfl), pbs HB⟩
          ·rw [if_neg c15] at H
           have c15b0 : decide ((wrap64 (s0_1)) ≤ x3_2) = false := decide_eq_false c15; clear c15; have H' := Aside0.mk H; clear H; have hcz23_0 : wr.cell? ⟨g0, 0, none⟩ = some (.int .i8 s0_0) := mix_cell0 BK0.out 0; have hcz23_1 : wr.cell? ⟨g0, 1, none⟩ = some (.int .i8 s0_1) := mix_cell0 BK0.out 1; have hfz23_0 := blk_frozen BK0.out 0; have hfz23_1 := blk_frozen BK0.out 1; have hpd24 : (0 ≤ x3_2) = True := eq_true (by first | omega | exact oda); have hqd24 : (x3_2 < 10) = True := eq_true (by first | omega | exact oda); have hrd24 : (x3_2 < ((10 : Nat) : Int)) = True := eq_true (by first | omega | exact oda); have hdd24 : wr.cell? ⟨g0, 2 + x3_2.toNat, none⟩ = some (.int .u16 (rd s0_2.l x3_2)) := mix_at BK0.out 2 rfl x3_2 (of_eq_true hpd24) (of_eq_true hqd24); have hfdd24 := blk_frozen BK0.out (2 + x3_2.toNat)
           go_wp2
           repeat (go_quiet (fail); try go_wp2)
           go_roundg k2
           case measure => have := HJ1.out; have := HK2.out; omega
           case rel => exact ⟨(wrap64 (x3_2 + 1)), (by first | rfl | (simp; done) | (simp [*]; done)), H', ⟨by have := HJ1.out; have := HK2.out; omega⟩, ⟨pk BK0⟩, ⟨pbs HB⟩⟩
         ·rw [if_neg c14] at H
          have c14b0 : ((ji13) == 0) = false := beq_eq_false_iff_ne.mpr c14; have c14b1 : ((ji13) != 0) = true := bne_iff_ne.mpr c14; obtain rfl := Option.some.inj H; have hcz25_0 : wr.cell? ⟨g0, 0, none⟩ = some (.int .i8 s0_0) := mix_cell0 BK0.out 0; have hcz25_1 : wr.cell? ⟨g0, 1, none⟩ = some (.int .i8 s0_1) := mix_cell0 BK0.out 1; have hfz25_0 := blk_frozen BK0.out 0; have hfz25_1 := blk_frozen BK0.out 1; have hpd26 : (0 ≤ x3_2) = True := eq_true (by first | omega | exact oda); have hqd26 : (x3_2 < 10) = True := eq_true (by first | omega | exact oda); have hrd26 : (x3_2 < ((10 : Nat) : Int)) = True := eq_true (by first | omega | exact oda); have hdd26 : wr.cell? ⟨g0, 2 + x3_2.toNat, none⟩ = some (.int .u16 (rd s0_2.l x3_2)) := mix_at BK0.out 2 rfl x3_2 (of_eq_true hpd26) (of_eq_true hqd26); have hfdd26 := blk_frozen BK0.out (2 + x3_2.toNat)
          go_wp2
          repeat (go_quiet (fail); try go_wp2)
          go_ret
          exact ⟨by first | rfl | (simp [errW_none, errW_some] <;> rfl) | (simp only [← hji11, ← hji13]; first | rfl | (simp [errW_none, errW_some] <;> rfl)) | (simp [*, errW_none, errW_some] <;> rfl), pbs HB⟩
        ·rw [if_neg c12] at H
         exact absurd H (by simp)
       ·rw [if_neg c10] at H
        exact absurd H (by simp)
      ·rw [if_neg c9] at H
       have c9b0 : decide (x3_2 < 10) = false := decide_eq_false c9; clear c9; obtain rfl := Option.some.inj H
       go_wp2
       repeat (go_quiet (fail); try go_wp2)
       go_ret
       exact ⟨by first | rfl | (simp [errW_none, errW_some] <;> rfl) | (simp [*, errW_none, errW_some] <;> rfl), pbs HB⟩
def spec_l01Is.f (s0_0 : Int) (s0_1 : Int) (s0_2 : LA 10) (a1_0 : Int) (a1_1 : Int) : Option (Bool) := (spec_l00In.f (wrap64 (a1_0)) 0 (wrap64 ((wrap64 (s0_0)) - 1))).bind fun t104 => (if t104 = true then ((spec_l00In.f (wrap64 (a1_1)) 0 (wrap64 ((wrap64 (s0_1)) - 1))).bind fun t105 => (some t105)) else (some false))
set_option maxHeartbeats 8000000 in
set_option maxRecDepth 100000 in
theorem spec_l01Is.calls (g0 : Nat) (s0_0 : Int) (s0_1 : Int) (s0_2 : LA 10) (a1_0 : Int) (a1_1 : Int) (r : Bool) (w : World) (hb0 : w.heap[g0]? = some (.cells (mixA (Value.int .u16) [.int .i8 s0_0, .int .i8 s0_1] s0_2) 34 (0, 0))) (h : spec_l01Is.f s0_0 s0_1 s0_2 a1_0 a1_1 = some r) :
  Calls Try.prog 30 #[.pointer (some ⟨g0, 0, none⟩), .agg #[.int .i8 a1_0, .int .i8 a1_1]] w fun e w' => e = .returned (.bool r) ∧ Below w.heap.size w w' := by
 have hu39 := Try.underlying39
 have BK0 := Aside0.mk hb0
 clear hb0
 have HB := Aside0.mk (Below.refl w.heap.size w)
 have H : ((spec_l00In.f (wrap64 (a1_0)) 0 (wrap64 ((wrap64 (s0_0)) - 1))).bind fun t104 => (if t104 = true then ((spec_l00In.f (wrap64 (a1_1)) 0 (wrap64 ((wrap64 (s0_1)) - 1))).bind fun t105 => (some t105)) else (some false))) = some r := h
 clear h
 obtain ⟨t104, A3, H⟩ := obn H
 by_cases c4 : t104 = true
 ·subst c4
  have H1 : ((spec_l00In.f (wrap64 (a1_1)) 0 (wrap64 ((wrap64 (s0_1)) - 1))).bind fun t105 => (some t105)) = some r := by rw [if_pos rfl] at H; exact H
  clear H; have H := H1; clear H1; obtain ⟨t105, A5, H⟩ := obn H; obtain rfl := Option.some.inj H
  go_enter Try.func30, Try.ntmps30
  go_wp2_with (first | ((with_reducible refine gate_dst (N := 3) rfl ?_); refine box_event ?hg (N := 3) ?hd (cs := #[.int .i8 a1_0, .int .i8 a1_1]) (t := 39) ?hr ?_; (case hd => rfl); (case hg => rfl); (case hr => first | (go_simp; done) | (go_simp; rfl)); intro gb103 hg w6 hbox hb; have n0_ := bkb BK0 hb; have n1_ := bst HB hb; have n2_ := Aside0.mk (hbox); have n3_ := gwl HB hg; have n4_ := gwl HB hg; have n5_ := nbl BK0 hg; have n6_ := nbg BK0 hg; clear BK0; clear HB; have BK0 := n0_; have HB := n1_; have BK103 := n2_; have GW103 := n3_; have GE103 := n4_; have NB0_103 := n5_; have NB103_0 := n6_; clear n0_ n1_ n2_ n3_ n4_ n5_ n6_; clear hb hbox hg; have hnb7 := NB103_0.out; have hnc7 := NB0_103.out; have hcz8_0 : w6.cell? ⟨gb103, 0, none⟩ = some (.int .i8 a1_0) := (blk_cell BK103.out 0).trans rfl; have hcz8_1 : w6.cell? ⟨gb103, 1, none⟩ = some (.int .i8 a1_1) := (blk_cell BK103.out 1).trans rfl; have hfz8_0 := blk_frozen BK103.out 0; have hfz8_1 := blk_frozen BK103.out 1; have hcz9_0 : w6.cell? ⟨g0, 0, none⟩ = some (.int .i8 s0_0) := mix_cell0 BK0.out 0; have hcz9_1 : w6.cell? ⟨g0, 1, none⟩ = some (.int .i8 s0_1) := mix_cell0 BK0.out 1; have hfz9_0 := blk_frozen BK0.out 0; have hfz9_1 := blk_frozen BK0.out 1) | (go_at_call 31; (with_reducible refine (spec_l00In.calls (wrap64 (a1_0)) 0 (wrap64 ((wrap64 (s0_0)) - 1)) true _ A3.out).mono ?_); rintro e w' ⟨rfl, ⟨nd, rfl⟩⟩; (try first | exact ⟨rfl, _, World.drewN_drewN _ _ _⟩ | exact ⟨rfl, _, Eq.trans (World.drewN_drewN _ _ _) (congrArg (World.drewN _) (Nat.add_assoc _ _ _))⟩)) | (go_at_call 31; (with_reducible refine (spec_l00In.calls (wrap64 (a1_1)) 0 (wrap64 ((wrap64 (s0_1)) - 1)) t105 _ A5.out).mono ?_); rintro e w' ⟨rfl, ⟨nd, rfl⟩⟩; (try first | exact ⟨rfl, _, World.drewN_drewN _ _ _⟩ | exact ⟨rfl, _, Eq.trans (World.drewN_drewN _ _ _) (congrArg (World.drewN _) (Nat.add_assoc _ _ _))⟩)))
  repeat (go_quiet (first | ((with_reducible refine gate_dst (N := 3) rfl ?_); refine box_event ?hg (N := 3) ?hd (cs := #[.int .i8 a1_0, .int .i8 a1_1]) (t := 39) ?hr ?_; (case hd => rfl); (case hg => rfl); (case hr => first | (go_simp; done) | (go_simp; rfl)); intro gb103 hg w6 hbox hb; have n0_ := bkb BK0 hb; have n1_ := bst HB hb; have n2_ := Aside0.mk (hbox); have n3_ := gwl HB hg; have n4_ := gwl HB hg; have n5_ := nbl BK0 hg; have n6_ := nbg BK0 hg; clear BK0; clear HB; have BK0 := n0_; have HB := n1_; have BK103 := n2_; have GW103 := n3_; have GE103 := n4_; have NB0_103 := n5_; have NB103_0 := n6_; clear n0_ n1_ n2_ n3_ n4_ n5_ n6_; clear hb hbox hg; have hnb7 := NB103_0.out; have hnc7 := NB0_103.out; have hcz8_0 : w6.cell? ⟨gb103, 0, none⟩ = some (.int .i8 a1_0) := (blk_cell BK103.out 0).trans rfl; have hcz8_1 : w6.cell? ⟨gb103, 1, none⟩ = some (.int .i8 a1_1) := (blk_cell BK103.out 1).trans rfl; have hfz8_0 := blk_frozen BK103.out 0; have hfz8_1 := blk_frozen BK103.out 1; have hcz9_0 : w6.cell? ⟨g0, 0, none⟩ = some (.int .i8 s0_0) := mix_cell0 BK0.out 0; have hcz9_1 : w6.cell? ⟨g0, 1, none⟩ = some (.int .i8 s0_1) := mix_cell0 BK0.out 1; have hfz9_0 := blk_frozen BK0.out 0; have hfz9_1 := blk_frozen BK0.out 1) | (go_at_call 31; (with_reducible refine (spec_l00In.calls (wrap64 (a1_0)) 0 (wrap64 ((wrap64 (s0_0)) - 1)) true _ A3.out).mono ?_); rintro e w' ⟨rfl, ⟨nd, rfl⟩⟩; (try first | exact ⟨rfl, _, World.drewN_drewN _ _ _⟩ | exact ⟨rfl, _, Eq.trans (World.drewN_drewN _ _ _) (congrArg (World.drewN _) (Nat.add_assoc _ _ _))⟩)) | (go_at_call 31; (with_reducible refine (spec_l00In.calls (wrap64 (a1_1)) 0 (wrap64 ((wrap64 (s0_1)) - 1)) t105 _ A5.out).mono ?_); rintro e w' ⟨rfl, ⟨nd, rfl⟩⟩; (try first | exact ⟨rfl, _, World.drewN_drewN _ _ _⟩ | exact ⟨rfl, _, Eq.trans (World.drewN_drewN _ _ _) (congrArg (World.drewN _) (Nat.add_assoc _ _ _))⟩))); try go_wp2_with (first | ((with_reducible refine gate_dst (N := 3) rfl ?_); refine box_event ?hg (N := 3) ?hd (cs := #[.int .i8 a1_0, .int .i8 a1_1]) (t := 39) ?hr ?_; (case hd => rfl); (case hg => rfl); (case hr => first | (go_simp; done) | (go_simp; rfl)); intro gb103 hg w6 hbox hb; have n0_ := bkb BK0 hb; have n1_ := bst HB hb; have n2_ := Aside0.mk (hbox); have n3_ := gwl HB hg; have n4_ := gwl HB hg; have n5_ := nbl BK0 hg; have n6_ := nbg BK0 hg; clear BK0; clear HB; have BK0 := n0_; have HB := n1_; have BK103 := n2_; have GW103 := n3_; have GE103 := n4_; have NB0_103 := n5_; have NB103_0 := n6_; clear n0_ n1_ n2_ n3_ n4_ n5_ n6_; clear hb hbox hg; have hnb7 := NB103_0.out; have hnc7 := NB0_103.out; have hcz8_0 : w6.cell? ⟨gb103, 0, none⟩ = some (.int .i8 a1_0) := (blk_cell BK103.out 0).trans rfl; have hcz8_1 : w6.cell? ⟨gb103, 1, none⟩ = some (.int .i8 a1_1) := (blk_cell BK103.out 1).trans rfl; have hfz8_0 := blk_frozen BK103.out 0; have hfz8_1 := blk_frozen BK103.out 1; have hcz9_0 : w6.cell? ⟨g0, 0, none⟩ = some (.int .i8 s0_0) := mix_cell0 BK0.out 0; have hcz9_1 : w6.cell? ⟨g0, 1, none⟩ = some (.int .i8 s0_1) := mix_cell0 BK0.out 1; have hfz9_0 := blk_frozen BK0.out 0; have hfz9_1 := blk_frozen BK0.out 1) | (go_at_call 31; (with_reducible refine (spec_l00In.calls (wrap64 (a1_0)) 0 (wrap64 ((wrap64 (s0_0)) - 1)) true _ A3.out).mono ?_); rintro e w' ⟨rfl, ⟨nd, rfl⟩⟩; (try first | exact ⟨rfl, _, World.drewN_drewN _ _ _⟩ | exact ⟨rfl, _, Eq.trans (World.drewN_drewN _ _ _) (congrArg (World.drewN _) (Nat.add_assoc _ _ _))⟩)) | (go_at_call 31; (with_reducible refine (spec_l00In.calls (wrap64 (a1_1)) 0 (wrap64 ((wrap64 (s0_1)) - 1)) t105 _ A5.out).mono ?_); rintro e w' ⟨rfl, ⟨nd, rfl⟩⟩; (try first | exact ⟨rfl, _, World.drewN_drewN _ _ _⟩ | exact ⟨rfl, _, Eq.trans (World.drewN_drewN _ _ _) (congrArg (World.drewN _) (Nat.add_assoc _ _ _))⟩))))
  go_ret
  exact ⟨by first | rfl | (simp [errW_none, errW_some] <;> rfl) | (simp [*, errW_none, errW_some] <;> rfl), pbs HB⟩
 ·replace c4 := Bool.eq_false_iff.mpr c4
  subst c4
  have H1 : (some false) = some r := by rw [if_neg (show ¬ (false = true) by decide)] at H; exact H
  clear H; have H := H1; clear H1; obtain rfl := Option.some.inj H
  go_enter Try.func30, Try.ntmps30
  go_wp2_with (first | ((with_reducible refine gate_dst (N := 3) rfl ?_); refine box_event ?hg (N := 3) ?hd (cs := #[.int .i8 a1_0, .int .i8 a1_1]) (t := 39) ?hr ?_; (case hd => rfl); (case hg => rfl); (case hr => first | (go_simp; done) | (go_simp; rfl)); intro gb103 hg w10 hbox hb; have n0_ := bkb BK0 hb; have n1_ := bst HB hb; have n2_ := Aside0.mk (hbox); have n3_ := gwl HB hg; have n4_ := gwl HB hg; have n5_ := nbl BK0 hg; have n6_ := nbg BK0 hg; clear BK0; clear HB; have BK0 := n0_; have HB := n1_; have BK103 := n2_; have GW103 := n3_; have GE103 := n4_; have NB0_103 := n5_; have NB103_0 := n6_; clear n0_ n1_ n2_ n3_ n4_ n5_ n6_; clear hb hbox hg; have hnb11 := NB103_0.out; have hnc11 := NB0_103.out; have hcz12_0 : w10.cell? ⟨gb103, 0, none⟩ = some (.int .i8 a1_0) := (blk_cell BK103.out 0).trans rfl; have hcz12_1 : w10.cell? ⟨gb103, 1, none⟩ = some (.int .i8 a1_1) := (blk_cell BK103.out 1).trans rfl; have hfz12_0 := blk_frozen BK103.out 0; have hfz12_1 := blk_frozen BK103.out 1; have hcz13_0 : w10.cell? ⟨g0, 0, none⟩ = some (.int .i8 s0_0) := mix_cell0 BK0.out 0; have hcz13_1 : w10.cell? ⟨g0, 1, none⟩ = some (.int .i8 s0_1) := mix_cell0 BK0.out 1; have hfz13_0 := blk_frozen BK0.out 0; have hfz13_1 := blk_frozen BK0.out 1) | (go_at_call 31; (with_reducible refine (spec_l00In.calls (wrap64 (a1_0)) 0 (wrap64 ((wrap64 (s0_0)) - 1)) false _ A3.out).mono ?_); rintro e w' ⟨rfl, ⟨nd, rfl⟩⟩; (try first | exact ⟨rfl, _, World.drewN_drewN _ _ _⟩ | exact ⟨rfl, _, Eq.trans (World.drewN_drewN _ _ _) (congrArg (World.drewN _) (Nat.add_assoc _ _ _))⟩)))
  repeat (go_quiet (first | ((with_reducible refine gate_dst (N := 3) rfl ?_); refine box_event ?hg (N := 3) ?hd (cs := #[.int .i8 a1_0, .int .i8 a1_1]) (t := 39) ?hr ?_; (case hd => rfl); (case hg => rfl); (case hr => first | (go_simp; done) | (go_simp; rfl)); intro gb103 hg w10 hbox hb; have n0_ := bkb BK0 hb; have n1_ := bst HB hb; have n2_ := Aside0.mk (hbox); have n3_ := gwl HB hg; have n4_ := gwl HB hg; have n5_ := nbl BK0 hg; have n6_ := nbg BK0 hg; clear BK0; clear HB; have BK0 := n0_; have HB := n1_; have BK103 := n2_; have GW103 := n3_; have GE103 := n4_; have NB0_103 := n5_; have NB103_0 := n6_; clear n0_ n1_ n2_ n3_ n4_ n5_ n6_; clear hb hbox hg; have hnb11 := NB103_0.out; have hnc11 := NB0_103.out; have hcz12_0 : w10.cell? ⟨gb103, 0, none⟩ = some (.int .i8 a1_0) := (blk_cell BK103.out 0).trans rfl; have hcz12_1 : w10.cell? ⟨gb103, 1, none⟩ = some (.int .i8 a1_1) := (blk_cell BK103.out 1).trans rfl; have hfz12_0 := blk_frozen BK103.out 0; have hfz12_1 := blk_frozen BK103.out 1; have hcz13_0 : w10.cell? ⟨g0, 0, none⟩ = some (.int .i8 s0_0) := mix_cell0 BK0.out 0; have hcz13_1 : w10.cell? ⟨g0, 1, none⟩ = some (.int .i8 s0_1) := mix_cell0 BK0.out 1; have hfz13_0 := blk_frozen BK0.out 0; have hfz13_1 := blk_frozen BK0.out 1) | (go_at_call 31; (with_reducible refine (spec_l00In.calls (wrap64 (a1_0)) 0 (wrap64 ((wrap64 (s0_0)) - 1)) false _ A3.out).mono ?_); rintro e w' ⟨rfl, ⟨nd, rfl⟩⟩; (try first | exact ⟨rfl, _, World.drewN_drewN _ _ _⟩ | exact ⟨rfl, _, Eq.trans (World.drewN_drewN _ _ _) (congrArg (World.drewN _) (Nat.add_assoc _ _ _))⟩))); try go_wp2_with (first | ((with_reducible refine gate_dst (N := 3) rfl ?_); refine box_event ?hg (N := 3) ?hd (cs := #[.int .i8 a1_0, .int .i8 a1_1]) (t := 39) ?hr ?_; (case hd => rfl); (case hg => rfl); (case hr => first | (go_simp; done) | (go_simp; rfl)); intro gb103 hg w10 hbox hb; have n0_ := bkb BK0 hb; have n1_ := bst HB hb; have n2_ := Aside0.mk (hbox); have n3_ := gwl HB hg; have n4_ := gwl HB hg; have n5_ := nbl BK0 hg; have n6_ := nbg BK0 hg; clear BK0; clear HB; have BK0 := n0_; have HB := n1_; have BK103 := n2_; have GW103 := n3_; have GE103 := n4_; have NB0_103 := n5_; have NB103_0 := n6_; clear n0_ n1_ n2_ n3_ n4_ n5_ n6_; clear hb hbox hg; have hnb11 := NB103_0.out; have hnc11 := NB0_103.out; have hcz12_0 : w10.cell? ⟨gb103, 0, none⟩ = some (.int .i8 a1_0) := (blk_cell BK103.out 0).trans rfl; have hcz12_1 : w10.cell? ⟨gb103, 1, none⟩ = some (.int .i8 a1_1) := (blk_cell BK103.out 1).trans rfl; have hfz12_0 := blk_frozen BK103.out 0; have hfz12_1 := blk_frozen BK103.out 1; have hcz13_0 : w10.cell? ⟨g0, 0, none⟩ = some (.int .i8 s0_0) := mix_cell0 BK0.out 0; have hcz13_1 : w10.cell? ⟨g0, 1, none⟩ = some (.int .i8 s0_1) := mix_cell0 BK0.out 1; have hfz13_0 := blk_frozen BK0.out 0; have hfz13_1 := blk_frozen BK0.out 1) | (go_at_call 31; (with_reducible refine (spec_l00In.calls (wrap64 (a1_0)) 0 (wrap64 ((wrap64 (s0_0)) - 1)) false _ A3.out).mono ?_); rintro e w' ⟨rfl, ⟨nd, rfl⟩⟩; (try first | exact ⟨rfl, _, World.drewN_drewN _ _ _⟩ | exact ⟨rfl, _, Eq.trans (World.drewN_drewN _ _ _) (congrArg (World.drewN _) (Nat.add_assoc _ _ _))⟩))))
  go_ret
  exact ⟨by first | rfl | (simp [errW_none, errW_some] <;> rfl) | (simp [*, errW_none, errW_some] <;> rfl), pbs HB⟩
end Go.Proofs.Ytjpponjekcemjaa.PB
end
section
namespace Go.Proofs.Ytjpponjekcemjaa.PB
open Go.RowKit Go.Proofs.YtjpponjekcemjaaW.PrintWords Go.Proofs.YtjpponjekcemjaaW.PrintLast Go.Proofs.YtjpponjekcemjaaW.PrintMore Go.Proofs.Ytjpponjekcemjaa.La
attribute [local go_sem] max2_int min2_int max_two min_two max_three min_three max_four min_four   -- for this text's walks alone
set_option linter.unusedVariables false
set_option linter.unusedSimpArgs false
def spec_l01Free.f (s0_0 : Int) (s0_1 : Int) (s0_2 : LA 10) (a1_0 : Int) (a1_1 : Int) : Option (Bool) := (spec_l01Is.f s0_0 s0_1 s0_2 a1_0 a1_1).bind fun t107 => (if t107 = true then (if 0 ≤ a1_1 then (if a1_1 < 10 then (if 0 ≤ (IntKind.u64.wrap (a1_0)) then (some ((Int.tmod (shr .u16 (rd s0_2.l a1_1) (IntKind.u64.wrap (a1_0))) 2) == 0)) else (none)) else (none)) else (none)) else (some false))
def spec_l01Free.T1 : Bool × List (List Nat × List Nat) := (true, [([], []), ([], []), ([0, 1], [0, 1]), ([2, 2], [2]), ([3], [3]), ([3], [3]), ([5, 3], [3, 5]), ([4, 3], [3, 4]), ([7, 3], [3, 7]), ([8, 6, 3], [3, 6, 8]), ([9, 3], [3, 9]), ([3], [3]), ([11, 3], [3, 11]), ([12, 3], [3, 12]), ([10, 13, 3], [3, 10, 13]), ([14, 3], [3, 14]), ([15, 3], [3, 15]), ([3, 16], [3, 16]), ([17, 3, 0, 1, 2, 3, 4, 5, 6, 7, 8, 9, 10, 11, 12, 13, 14, 15, 16, 17], [17])])
def spec_l01Free.B1 : List Nat := [0, 0, 3, 7, 15, 15, 47, 31, 159, 511, 1023, 15, 2063, 6159, 16383, 32767, 65535, 131071, 262143]
theorem spec_l01Free.tab1 : rtab .any (opsOf Try.f32 1) = spec_l01Free.T1 := by kernel_rfl
theorem spec_l01Free.bits1 : waitsOk spec_l01Free.T1.2 spec_l01Free.B1 = true := by kernel_rfl
set_option maxHeartbeats 8000000 in
set_option maxRecDepth 100000 in
theorem spec_l01Free.calls (g0 : Nat) (s0_0 : Int) (s0_1 : Int) (s0_2 : LA 10) (a1_0 : Int) (a1_1 : Int) (r : Bool) (w : World) (hb0 : w.heap[g0]? = some (.cells (mixA (Value.int .u16) [.int .i8 s0_0, .int .i8 s0_1] s0_2) 34 (0, 0))) (h : spec_l01Free.f s0_0 s0_1 s0_2 a1_0 a1_1 = some r) :
  Calls Try.prog 32 #[.pointer (some ⟨g0, 0, none⟩), .agg #[.int .i8 a1_0, .int .i8 a1_1]] w fun e w' => e = .returned (.bool r) ∧ Below w.heap.size w w' := by
 have hu39 := Try.underlying39
 have BK0 := Aside0.mk hb0
 clear hb0
 have HB := Aside0.mk (Below.refl w.heap.size w)
 have H : ((spec_l01Is.f s0_0 s0_1 s0_2 a1_0 a1_1).bind fun t107 => (if t107 = true then (if 0 ≤ a1_1 then (if a1_1 < 10 then (if 0 ≤ (IntKind.u64.wrap (a1_0)) then (some ((Int.tmod (shr .u16 (rd s0_2.l a1_1) (IntKind.u64.wrap (a1_0))) 2) == 0)) else (none)) else (none)) else (none)) else (some false))) = some r := h
 clear h
 obtain ⟨t107, A3, H⟩ := obn H
 by_cases c4 : t107 = true
 ·subst c4
  have H1 : (if 0 ≤ a1_1 then (if a1_1 < 10 then (if 0 ≤ (IntKind.u64.wrap (a1_0)) then (some ((Int.tmod (shr .u16 (rd s0_2.l a1_1) (IntKind.u64.wrap (a1_0))) 2) == 0)) else (none)) else (none)) else (none)) = some r := by rw [if_pos rfl] at H; exact H
  clear H; have H := H1; clear H1
  by_cases c5 : 0 ≤ a1_1
  ·rw [if_pos c5] at H
   have c5b0 : decide (0 ≤ a1_1) = true := decide_eq_true c5; clear c5
   by_cases c6 : a1_1 < 10
   ·rw [if_pos c6] at H
    have c6b0 : decide (a1_1 < 10) = true := decide_eq_true c6; clear c6; obtain ⟨ji7, hji7⟩ : ∃ j_ : Int, (IntKind.u64.wrap (a1_0)) = j_ := ⟨_, rfl⟩
    replace H : (if 0 ≤ (ji7) then (some ((Int.tmod (shr .u16 (rd s0_2.l a1_1) (ji7)) 2) == 0)) else (none)) = some r := by first | (rw [hji7] at H; exact H) | (simp only [hji7] at H ⊢; exact H)
    (try rw [hji7] at A3)
    by_cases c8 : 0 ≤ (ji7)
    ·rw [if_pos c8] at H
     have c8b0 := eq_true c8; have c8b1 : decide (0 ≤ (ji7)) = true := decide_eq_true c8; clear c8; obtain ⟨ji9, hji9⟩ : ∃ j_ : Int, (shr .u16 (rd s0_2.l a1_1) (ji7)) = j_ := ⟨_, rfl⟩
     replace H : (some ((Int.tmod (ji9) 2) == 0)) = some r := by first | (rw [hji9] at H; exact H) | (simp only [hji9] at H ⊢; exact H)
     (try rw [hji9] at A3); have hji9_ : ((rd s0_2.l a1_1) / 2 ^ min (ji7).toNat 16) = ji9 := hji9; have hji9z : (ji7) ≤ 16 → ((rd s0_2.l a1_1) / 2 ^ (ji7).toNat) = ji9 := shr_small hji9; obtain rfl := Option.some.inj H
     go_enter Try.func32, Try.ntmps32
     try go_wp2_with (first | ((with_reducible refine gate_dst (N := 3) rfl ?_); refine box_event ?hg (N := 3) ?hd (cs := #[.int .i8 a1_0, .int .i8 a1_1]) (t := 39) ?hr ?_; (case hd => rfl); (case hg => rfl); (case hr => first | (go_simp; done) | (go_simp; rfl)); intro gb106 hg w10 hbox hb; have n0_ := bkb BK0 hb; have n1_ := bst HB hb; have n2_ := Aside0.mk (hbox); have n3_ := gwl HB hg; have n4_ := gwl HB hg; have n5_ := nbl BK0 hg; have n6_ := nbg BK0 hg; clear BK0; clear HB; have BK0 := n0_; have HB := n1_; have BK106 := n2_; have GW106 := n3_; have GE106 := n4_; have NB0_106 := n5_; have NB106_0 := n6_; clear n0_ n1_ n2_ n3_ n4_ n5_ n6_; clear hb hbox hg))
     replace BK0 := Aside0.mk (blk_drew BK0.out); replace BK106 := Aside0.mk (blk_drew BK106.out); replace HB := Aside0.mk (below_drew1 HB.out); have hpd13 : (0 ≤ a1_1) = True := eq_true (by first | omega | exact oda); have hqd13 : (a1_1 < 10) = True := eq_true (by first | omega | exact oda); have hrd13 : (a1_1 < ((10 : Nat) : Int)) = True := eq_true (by first | omega | exact oda)
     refine start_ (n := 19) (S := fun w' => w'.cell? ⟨gb106, 0, none⟩ = some (.int .i8 a1_0) ∧ w'.cell? ⟨gb106, 1, none⟩ = some (.int .i8 a1_1) ∧ w'.cell? ⟨g0, 2 + a1_1.toNat, none⟩ = some (.int .u16 (rd s0_2.l a1_1))) (ds := []) (bA 19 0) (by kernel_rfl) rfl rfl ⟨(blk_cell BK106.out 0).trans rfl, (blk_cell BK106.out 1).trans rfl, mix_at BK0.out 2 rfl a1_1 (of_eq_true hpd13) (of_eq_true hqd13)⟩ (fun hHeld => ?_); refine with_tabW spec_l01Free.tab1 spec_l01Free.bits1 (fun HT_ HW_ => ?_)
     generalize w10.drew = w11 at BK0 BK106 HB hHeld ⊢; refine pu 0 5 19 1 HT_ ?_; refine tk 1 6 19 3 HT_ HW_ hHeld ?_; refine one_ (i := 2) (N := some 7) (bA 19 7) rfl rfl (one_of HT_.out (by kernel_rfl)) (by decide) (fun K hK => ?_); refine gs Try.func30 #[.pointer (some ⟨g0, 0, none⟩), .agg #[.int .i8 a1_0, .int .i8 a1_1]] ?_; with_reducible refine (spec_l01Is.calls g0 s0_0 s0_1 s0_2 a1_0 a1_1 true _ ?side1 A3.out).mono ?_; (case side1 => exact (pk BK0))
     rintro e w12 ⟨rfl, hb⟩
     refine ⟨_, rfl, ?_⟩; replace BK0 := bkb BK0 hb; replace BK106 := bkb BK106 hb; replace HB := bst HB hb; (try clear hb); (try clear hb2); (try clear hk); (try clear hi); refine hK.out _ _ ⟨(blk_cell BK106.out 0).trans rfl, (blk_cell BK106.out 1).trans rfl, mix_at BK0.out 2 rfl a1_1 (of_eq_true hpd13) (of_eq_true hqd13)⟩ (fun hHeld => ?_); clear hK K; refine nm 7 ?_; refine pu 3 8 19 15 HT_ ?_; refine pu 4 9 19 31 HT_ ?_; refine pu 5 10 19 63 HT_ ?_; refine pu 7 12 19 191 HT_ ?_; refine pu 8 13 19 447 HT_ ?_; refine pu 11 16 19 2495 HT_ ?_; refine tk 6 11 19 2559 HT_ HW_ hHeld ?_; refine pu 9 14 19 3071 HT_ ?_; refine tk 10 15 19 4095 HT_ HW_ hHeld ?_; refine tk 12 17 19 8191 HT_ HW_ hHeld ?_; refine pu 13 18 19 16383 HT_ ?_; refine pu 14 19 19 32767 HT_ ?_; refine pu 15 20 19 65535 HT_ ?_; refine pu 16 21 19 131071 HT_ ?_; refine pu 17 22 19 262143 HT_ ?_; refine pu 18 4 19 524287 HT_ ?_; refine done_ (done_of HT_.out (by kernel_rfl)) ?_
     try go_wp2
     go_ret
     exact ⟨by first | rfl | (simp [errW_none, errW_some] <;> rfl) | (simp only [← hji7, ← hji9]; first | rfl | (simp [errW_none, errW_some] <;> rfl)) | (simp [*, errW_none, errW_some] <;> rfl), pbs HB⟩
    ·rw [if_neg c8] at H
     exact absurd H (by simp)
   ·rw [if_neg c6] at H
    exact absurd H (by simp)
  ·rw [if_neg c5] at H
   exact absurd H (by simp)
 ·replace c4 := Bool.eq_false_iff.mpr c4
  subst c4
  have H1 : (some false) = some r := by rw [if_neg (show ¬ (false = true) by decide)] at H; exact H
  clear H; have H := H1; clear H1; obtain rfl := Option.some.inj H
  go_enter Try.func32, Try.ntmps32
  try go_wp2_with (first | ((with_reducible refine gate_dst (N := 3) rfl ?_); refine box_event ?hg (N := 3) ?hd (cs := #[.int .i8 a1_0, .int .i8 a1_1]) (t := 39) ?hr ?_; (case hd => rfl); (case hg => rfl); (case hr => first | (go_simp; done) | (go_simp; rfl)); intro gb106 hg w14 hbox hb; have n0_ := bkb BK0 hb; have n1_ := bst HB hb; have n2_ := Aside0.mk (hbox); have n3_ := gwl HB hg; have n4_ := gwl HB hg; have n5_ := nbl BK0 hg; have n6_ := nbg BK0 hg; clear BK0; clear HB; have BK0 := n0_; have HB := n1_; have BK106 := n2_; have GW106 := n3_; have GE106 := n4_; have NB0_106 := n5_; have NB106_0 := n6_; clear n0_ n1_ n2_ n3_ n4_ n5_ n6_; clear hb hbox hg))
  replace BK0 := Aside0.mk (blk_drew BK0.out); replace BK106 := Aside0.mk (blk_drew BK106.out); replace HB := Aside0.mk (below_drew1 HB.out)
  refine start_ (n := 19) (S := fun w' => w'.cell? ⟨gb106, 0, none⟩ = some (.int .i8 a1_0) ∧ w'.cell? ⟨gb106, 1, none⟩ = some (.int .i8 a1_1)) (ds := []) (bA 19 0) (by kernel_rfl) rfl rfl ⟨(blk_cell BK106.out 0).trans rfl, (blk_cell BK106.out 1).trans rfl⟩ (fun hHeld => ?_); refine with_tabW spec_l01Free.tab1 spec_l01Free.bits1 (fun HT_ HW_ => ?_)
  generalize w14.drew = w15 at BK0 BK106 HB hHeld ⊢; refine pu 0 5 19 1 HT_ ?_; refine tk 1 6 19 3 HT_ HW_ hHeld ?_; refine one_ (i := 2) (N := some 7) (bA 19 7) rfl rfl (one_of HT_.out (by kernel_rfl)) (by decide) (fun K hK => ?_); refine gs Try.func30 #[.pointer (some ⟨g0, 0, none⟩), .agg #[.int .i8 a1_0, .int .i8 a1_1]] ?_; with_reducible refine (spec_l01Is.calls g0 s0_0 s0_1 s0_2 a1_0 a1_1 false _ ?side1 A3.out).mono ?_; (case side1 => exact (pk BK0))
  rintro e w16 ⟨rfl, hb⟩
  refine ⟨_, rfl, ?_⟩; replace BK0 := bkb BK0 hb; replace BK106 := bkb BK106 hb; replace HB := bst HB hb; (try clear hb); (try clear hb2); (try clear hk); (try clear hi); refine hK.out _ _ ⟨(blk_cell BK106.out 0).trans rfl, (blk_cell BK106.out 1).trans rfl⟩ (fun hHeld => ?_); clear hK K; refine nm 7 ?_; refine pu 3 8 19 15 HT_ ?_; refine pn 4 9 19 31 HT_ ?_; refine pn 5 10 19 63 HT_ ?_; refine pn 6 11 19 127 HT_ ?_; refine pn 7 12 19 255 HT_ ?_; refine pn 8 13 19 511 HT_ ?_; refine pn 9 14 19 1023 HT_ ?_; refine pn 10 15 19 2047 HT_ ?_; refine pn 11 16 19 4095 HT_ ?_; refine pn 12 17 19 8191 HT_ ?_; refine pn 13 18 19 16383 HT_ ?_; refine pn 14 19 19 32767 HT_ ?_; refine pn 15 20 19 65535 HT_ ?_; refine pn 16 21 19 131071 HT_ ?_; refine pu 17 22 19 262143 HT_ ?_; refine pu 18 4 19 524287 HT_ ?_; refine done_ (done_of HT_.out (by kernel_rfl)) ?_
  try go_wp2
  go_ret
  exact ⟨by first | rfl | (simp [errW_none, errW_some] <;> rfl) | (simp [*, errW_none, errW_some] <;> rfl), pbs HB⟩
def spec_l01Next.f (a0_0 : Int) (a0_1 : Int) (a1 : Int) : Option (Int × Int) := if a1 = 0 then (some (a0_0, IntKind.i8.wrap (a0_1 - 1))) else (if a1 = 1 then (some (IntKind.i8.wrap (a0_0 + 1), a0_1)) else (if a1 = 2 then (some (a0_0, IntKind.i8.wrap (a0_1 + 1))) else (if a1 = 3 then (some (IntKind.i8.wrap (a0_0 - 1), a0_1)) else (some (a0_0, a0_1)))))
set_option maxHeartbeats 8000000 in
set_option maxRecDepth 100000 in
theorem spec_l01Next.calls (a0_0 : Int) (a0_1 : Int) (a1 : Int) (r1 : Int) (r2 : Int) (w : World) (h : spec_l01Next.f a0_0 a0_1 a1 = some (r1, r2)) :
  Calls Try.prog 66 #[.agg #[.int .i8 a0_0, .int .i8 a0_1], .int .i64 a1] w fun e w' => e = .returned (.agg #[.int .i8 r1, .int .i8 r2]) ∧ Below w.heap.size w w' := by
 have hu39 := Try.underlying39
 have HB := Aside0.mk (Below.refl w.heap.size w)
 have H : (if a1 = 0 then (some (a0_0, IntKind.i8.wrap (a0_1 - 1))) else (if a1 = 1 then (some (IntKind.i8.wrap (a0_0 + 1), a0_1)) else (if a1 = 2 then (some (a0_0, IntKind.i8.wrap (a0_1 + 1))) else (if a1 = 3 then (some (IntKind.i8.wrap (a0_0 - 1), a0_1)) else (some (a0_0, a0_1)))))) = some (r1, r2) := h
 clear h
 by_cases c3 : a1 = 0
 ·rw [if_pos c3] at H
  have c3b0 : (a1 == 0) = true := beq_iff_eq.mpr c3; have c3b1 : (a1 != 0) = false := bne_eq_false_iff_eq.mpr c3; clear c3; simp only [Option.some.injEq, Prod.mk.injEq] at H; obtain ⟨rfl, rfl⟩ := H
  go_enter Try.func66, Try.ntmps66
  go_wp2_with (first | ((with_reducible refine gate_dst (N := 2) rfl ?_); refine box_event ?hg (N := 2) ?hd (cs := #[.int .i8 a0_0, .int .i8 a0_1]) (t := 39) ?hr ?_; (case hd => rfl); (case hg => rfl); (case hr => first | (go_simp; done) | (go_simp; rfl)); intro gb108 hg w4 hbox hb; have n0_ := bst HB hb; have n1_ := Aside0.mk (hbox); have n2_ := gwl HB hg; have n3_ := gwl HB hg; clear HB; have HB := n0_; have BK108 := n1_; have GW108 := n2_; have GE108 := n3_; clear n0_ n1_ n2_ n3_; clear hb hbox hg) | ((with_reducible refine gate_dst (N := 4) rfl ?_); refine box_event ?hg (N := 4) ?hd (cs := #[.int .i8 0, .int .i8 0]) (t := 39) ?hr ?_; (case hd => rfl); (case hg => rfl); (case hr => first | (go_simp; done) | (go_simp; rfl)); intro gb109 hg w5 hbox hb; have n0_ := bkb BK108 hb; have n1_ := bst HB hb; have n2_ := Aside0.mk (hbox); have n3_ := gwl HB hg; have n4_ := gwl HB hg; have n5_ := nbl BK108 hg; have n6_ := nbg BK108 hg; clear BK108; clear HB; have BK108 := n0_; have HB := n1_; have BK109 := n2_; have GW109 := n3_; have GE109 := n4_; have NB108_109 := n5_; have NB109_108 := n6_; clear n0_ n1_ n2_ n3_ n4_ n5_ n6_; clear hb hbox hg; have hnb6 := NB108_109.out; have hnc6 := NB109_108.out; have hcz7_0 : w5.cell? ⟨gb108, 0, none⟩ = some (.int .i8 a0_0) := (blk_cell BK108.out 0).trans rfl; have hcz7_1 : w5.cell? ⟨gb108, 1, none⟩ = some (.int .i8 a0_1) := (blk_cell BK108.out 1).trans rfl; have hfz7_0 := blk_frozen BK108.out 0; have hfz7_1 := blk_frozen BK108.out 1; have hcz8_0 : w5.cell? ⟨gb109, 0, none⟩ = some (.int .i8 0) := (blk_cell BK109.out 0).trans rfl; have hcz8_1 : w5.cell? ⟨gb109, 1, none⟩ = some (.int .i8 0) := (blk_cell BK109.out 1).trans rfl; have hfz8_0 := blk_frozen BK109.out 0; have hfz8_1 := blk_frozen BK109.out 1))
  refine bodyPost_ret (results_cell_row rfl _ _ gb109 39 #[.int .i8 a0_0, .int .i8 (IntKind.i8.wrap (a0_1 - 1))] (0, 0) _ rfl (by (with_reducible repeat (first | refine blk_drewN ?_ _ | refine blk_drew ?_ | refine blk_alloc ?_ _)); refine blk_put (cs := #[.int .i8 a0_0, .int .i8 0]) ?_ 1 _ rfl; (with_reducible repeat (first | refine blk_drewN ?_ _ | refine blk_drew ?_ | refine blk_alloc ?_ _)); refine blk_put (cs := #[.int .i8 0, .int .i8 0]) ?_ 0 _ rfl; (with_reducible repeat (first | refine blk_drewN ?_ _ | refine blk_drew ?_ | refine blk_alloc ?_ _)); refine blk_far ?_ NB109_108.out _; (with_reducible repeat (first | refine blk_drewN ?_ _ | refine blk_drew ?_ | refine blk_alloc ?_ _)); exact BK109.out) Try.underlying39 rfl (by kernel_rfl)) rfl ?_; exact ⟨by first | rfl | (simp [errW_none, errW_some] <;> rfl) | (simp [*, errW_none, errW_some] <;> rfl), pbs HB⟩
 ·rw [if_neg c3] at H
  have c3b0 : (a1 == 0) = false := beq_eq_false_iff_ne.mpr c3; have c3b1 : (a1 != 0) = true := bne_iff_ne.mpr c3
  by_cases c9 : a1 = 1
  ·rw [if_pos c9] at H
   have c9b0 : (a1 == 1) = true := beq_iff_eq.mpr c9; have c9b1 : (a1 != 1) = false := bne_eq_false_iff_eq.mpr c9; clear c9; simp only [Option.some.injEq, Prod.mk.injEq] at H; obtain ⟨rfl, rfl⟩ := H
   go_enter Try.func66, Try.ntmps66
   go_wp2_with (first | ((with_reducible refine gate_dst (N := 2) rfl ?_); refine box_event ?hg (N := 2) ?hd (cs := #[.int .i8 a0_0, .int .i8 a0_1]) (t := 39) ?hr ?_; (case hd => rfl); (case hg => rfl); (case hr => first | (go_simp; done) | (go_simp; rfl)); intro gb108 hg w10 hbox hb; have n0_ := bst HB hb; have n1_ := Aside0.mk (hbox); have n2_ := gwl HB hg; have n3_ := gwl HB hg; clear HB; have HB := n0_; have BK108 := n1_; have GW108 := n2_; have GE108 := n3_; clear n0_ n1_ n2_ n3_; clear hb hbox hg) | ((with_reducible refine gate_dst (N := 4) rfl ?_); refine box_event ?hg (N := 4) ?hd (cs := #[.int .i8 0, .int .i8 0]) (t := 39) ?hr ?_; (case hd => rfl); (case hg => rfl); (case hr => first | (go_simp; done) | (go_simp; rfl)); intro gb109 hg w11 hbox hb; have n0_ := bkb BK108 hb; have n1_ := bst HB hb; have n2_ := Aside0.mk (hbox); have n3_ := gwl HB hg; have n4_ := gwl HB hg; have n5_ := nbl BK108 hg; have n6_ := nbg BK108 hg; clear BK108; clear HB; have BK108 := n0_; have HB := n1_; have BK109 := n2_; have GW109 := n3_; have GE109 := n4_; have NB108_109 := n5_; have NB109_108 := n6_; clear n0_ n1_ n2_ n3_ n4_ n5_ n6_; clear hb hbox hg; have hnb12 := NB108_109.out; have hnc12 := NB109_108.out; have hcz13_0 : w11.cell? ⟨gb108, 0, none⟩ = some (.int .i8 a0_0) := (blk_cell BK108.out 0).trans rfl; have hcz13_1 : w11.cell? ⟨gb108, 1, none⟩ = some (.int .i8 a0_1) := (blk_cell BK108.out 1).trans rfl; have hfz13_0 := blk_frozen BK108.out 0; have hfz13_1 := blk_frozen BK108.out 1; have hcz14_0 : w11.cell? ⟨gb109, 0, none⟩ = some (.int .i8 0) := (blk_cell BK109.out 0).trans rfl; have hcz14_1 : w11.cell? ⟨gb109, 1, none⟩ = some (.int .i8 0) := (blk_cell BK109.out 1).trans rfl; have hfz14_0 := blk_frozen BK109.out 0; have hfz14_1 := blk_frozen BK109.out 1))
   refine bodyPost_ret (results_cell_row rfl _ _ gb109 39 #[.int .i8 (IntKind.i8.wrap (a0_0 + 1)), .int .i8 a0_1] (0, 0) _ rfl (by (with_reducible repeat (first | refine blk_drewN ?_ _ | refine blk_drew ?_ | refine blk_alloc ?_ _)); refine blk_put (cs := #[.int .i8 (IntKind.i8.wrap (a0_0 + 1)), .int .i8 0]) ?_ 1 _ rfl; (with_reducible repeat (first | refine blk_drewN ?_ _ | refine blk_drew ?_ | refine blk_alloc ?_ _)); refine blk_put (cs := #[.int .i8 0, .int .i8 0]) ?_ 0 _ rfl; (with_reducible repeat (first | refine blk_drewN ?_ _ | refine blk_drew ?_ | refine blk_alloc ?_ _)); refine blk_far ?_ NB109_108.out _; (with_reducible repeat (first | refine blk_drewN ?_ _ | refine blk_drew ?_ | refine blk_alloc ?_ _)); exact BK109.out) Try.underlying39 rfl (by kernel_rfl)) rfl ?_; exact ⟨by first | rfl | (simp [errW_none, errW_some] <;> rfl) | (simp [*, errW_none, errW_some] <;> rfl), pbs HB⟩
  ·rw [if_neg c9] at H
   have c9b0 : (a1 == 1) = false := beq_eq_false_iff_ne.mpr c9; have c9b1 : (a1 != 1) = true := bne_iff_ne.mpr c9
   by_cases c15 : a1 = 2
   ·rw [if_pos c15] at H
    have c15b0 : (a1 == 2) = true := beq_iff_eq.mpr c15; have c15b1 : (a1 != 2) = false := bne_eq_false_iff_eq.mpr c15; clear c15; simp only [Option.some.injEq, Prod.mk.injEq] at H; obtain ⟨rfl, rfl⟩ := H
    go_enter Try.func66, Try.ntmps66
    go_wp2_with (first | ((with_reducible refine gate_dst (N := 2) rfl ?_); refine box_event ?hg (N := 2) ?hd (cs := #[.int .i8 a0_0, .int .i8 a0_1]) (t := 39) ?hr ?_; (case hd => rfl); (case hg => rfl); (case hr => first | (go_simp; done) | (go_simp; rfl)); intro gb108 hg w16 hbox hb; have n0_ := bst HB hb; have n1_ := Aside0.mk (hbox); have n2_ := gwl HB hg; have n3_ := gwl HB hg; clear HB; have HB := n0_; have BK108 := n1_; have GW108 := n2_; have GE108 := n3_; clear n0_ n1_ n2_ n3_; clear hb hbox hg) | ((with_reducible refine gate_dst (N := 4) rfl ?_); refine box_event ?hg (N := 4) ?hd (cs := #[.int .i8 0, .int .i8 0]) (t := 39) ?hr ?_; (case hd => rfl); (case hg => rfl); (case hr => first | (go_simp; done) | (go_simp; rfl)); intro gb109 hg w17 hbox hb; have n0_ := bkb BK108 hb; have n1_ := bst HB hb; have n2_ := Aside0.mk (hbox); have n3_ := gwl HB hg; have n4_ := gwl HB hg; have n5_ := nbl BK108 hg; have n6_ := nbg BK108 hg; clear BK108; clear HB; have BK108 := n0_; have HB := n1_; have BK109 := n2_; have GW109 := n3_; have GE109 := n4_; have NB108_109 := n5_; have NB109_108 := n6_; clear n0_ n1_ n2_ n3_ n4_ n5_ n6_; clear hb hbox hg; have hnb18 := NB108_109.out; have hnc18 := NB109_108.out; have hcz19_0 : w17.cell? ⟨gb108, 0, none⟩ = some (.int .i8 a0_0) := (blk_cell BK108.out 0).trans rfl; have hcz19_1 : w17.cell? ⟨gb108, 1, none⟩ = some (.int .i8 a0_1) := (blk_cell BK108.out 1).trans rfl; have hfz19_0 := blk_frozen BK108.out 0; have hfz19_1 := blk_frozen BK108.out 1; have hcz20_0 : w17.cell? ⟨gb109, 0, none⟩ = some (.int .i8 0) := (blk_cell BK109.out 0).trans rfl; have hcz20_1 : w17.cell? ⟨gb109, 1, none⟩ = some (.int .i8 0) := (blk_cell BK109.out 1).trans rfl; have hfz20_0 := blk_frozen BK109.out 0; have hfz20_1 := blk_frozen BK109.out 1))
    refine bodyPost_ret (results_cell_row rfl _ _ gb109 39 #[.int .i8 a0_0, .int .i8 (IntKind.i8.wrap (a0_1 + 1))] (0, 0) _ rfl (by (with_reducible repeat (first | refine blk_drewN ?_ _ | refine blk_drew ?_ | refine blk_alloc ?_ _)); refine blk_put (cs := #[.int .i8 a0_0, .int .i8 0]) ?_ 1 _ rfl; (with_reducible repeat (first | refine blk_drewN ?_ _ | refine blk_drew ?_ | refine blk_alloc ?_ _)); refine blk_put (cs := #[.int .i8 0, .int .i8 0]) ?_ 0 _ rfl; (with_reducible repeat (first | refine blk_drewN ?_ _ | refine blk_drew ?_ | refine blk_alloc ?_ _)); refine blk_far ?_ NB109_108.out _; (with_reducible repeat (first | refine blk_drewN ?_ _ | refine blk_drew ?_ | refine blk_alloc ?_ _)); exact BK109.out) Try.underlying39 rfl (by kernel_rfl)) rfl ?_; exact ⟨by first | rfl | (simp [errW_none, errW_some] <;> rfl) | (simp [*, errW_none, errW_some] <;> rfl), pbs HB⟩
   ·rw [if_neg c15] at H
    have c15b0 : (a1 == 2) = false := beq_eq_false_iff_ne.mpr c15; have c15b1 : (a1 != 2) = true := bne_iff_ne.mpr c15
    by_cases c21 : a1 = 3
    ·rw [if_pos c21] at H
     have c21b0 : (a1 == 3) = true := beq_iff_eq.mpr c21; have c21b1 : (a1 != 3) = false := bne_eq_false_iff_eq.mpr c21; clear c21; simp only [Option.some.injEq, Prod.mk.injEq] at H; obtain ⟨rfl, rfl⟩ := H
     go_enter Try.func66, Try.ntmps66
     go_wp2_with (first | ((with_reducible refine gate_dst (N := 2) rfl ?_); refine box_event ?hg (N := 2) ?hd (cs := #[.int .i8 a0_0, .int .i8 a0_1]) (t := 39) ?hr ?_; (case hd => rfl); (case hg => rfl); (case hr => first | (go_simp; done) | (go_simp; rfl)); intro gb108 hg w22 hbox hb; have n0_ := bst HB hb; have n1_ := Aside0.mk (hbox); have n2_ := gwl HB hg; have n3_ := gwl HB hg; clear HB; have HB := n0_; have BK108 := n1_; have GW108 := n2_; have GE108 := n3_; clear n0_ n1_ n2_ n3_; clear hb hbox hg) | ((with_reducible refine gate_dst (N := 4) rfl ?_); refine box_event ?hg (N := 4) ?hd (cs := #[.int .i8 0, .int .i8 0]) (t := 39) ?hr ?_; (case hd => rfl); (case hg => rfl); (case hr => first | (go_simp; done) | (go_simp; rfl)); intro gb109 hg w23 hbox hb; have n0_ := bkb BK108 hb; have n1_ := bst HB hb; have n2_ := Aside0.mk (hbox); have n3_ := gwl HB hg; have n4_ := gwl HB hg; have n5_ := nbl BK108 hg; have n6_ := nbg BK108 hg; clear BK108; clear HB; have BK108 := n0_; have HB := n1_; have BK109 := n2_; have GW109 := n3_; have GE109 := n4_; have NB108_109 := n5_; have NB109_108 := n6_; clear n0_ n1_ n2_ n3_ n4_ n5_ n6_; clear hb hbox hg; have hnb24 := NB108_109.out; have hnc24 := NB109_108.out; have hcz25_0 : w23.cell? ⟨gb108, 0, none⟩ = some (.int .i8 a0_0) := (blk_cell BK108.out 0).trans rfl; have hcz25_1 : w23.cell? ⟨gb108, 1, none⟩ = some (.int .i8 a0_1) := (blk_cell BK108.out 1).trans rfl; have hfz25_0 := blk_frozen BK108.out 0; have hfz25_1 := blk_frozen BK108.out 1; have hcz26_0 : w23.cell? ⟨gb109, 0, none⟩ = some (.int .i8 0) := (blk_cell BK109.out 0).trans rfl; have hcz26_1 : w23.cell? ⟨gb109, 1, none⟩ = some (.int .i8 0) := (blk_cell BK109.out 1).trans rfl; have hfz26_0 := blk_frozen BK109.out 0; have hfz26_1 := blk_frozen BK109.out 1))
     refine bodyPost_ret (results_cell_row rfl _ _ gb109 39 #[.int .i8 (IntKind.i8.wrap (a0_0 - 1)), .int .i8 a0_1] (0, 0) _ rfl (by (with_reducible repeat (first | refine blk_drewN ?_ _ | refine blk_drew ?_ | refine blk_alloc ?_ _)); refine blk_put (cs := #[.int .i8 (IntKind.i8.wrap (a0_0 - 1)), .int .i8 0]) ?_ 1 _ rfl; (with_reducible repeat (first | refine blk_drewN ?_ _ | refine blk_drew ?_ | refine blk_alloc ?_ _)); refine blk_put (cs := #[.int .i8 0, .int .i8 0]) ?_ 0 _ rfl; (with_reducible repeat (first | refine blk_drewN ?_ _ | refine blk_drew ?_ | refine blk_alloc ?_ _)); refine blk_far ?_ NB109_108.out _; (with_reducible repeat (first | refine blk_drewN ?_ _ | refine blk_drew ?_ | refine blk_alloc ?_ _)); exact BK109.out) Try.underlying39 rfl (by kernel_rfl)) rfl ?_; exact ⟨by first | rfl | (simp [errW_none, errW_some] <;> rfl) | (simp [*, errW_none, errW_some] <;> rfl), pbs HB⟩
    ·rw [if_neg c21] at H
     have c21b0 : (a1 == 3) = false := beq_eq_false_iff_ne.mpr c21; have c21b1 : (a1 != 3) = true := bne_iff_ne.mpr c21; simp only [Option.some.injEq, Prod.mk.injEq] at H; obtain ⟨rfl, rfl⟩ := H
     go_enter Try.func66, Try.ntmps66
     go_wp2_with (first | ((with_reducible refine gate_dst (N := 2) rfl ?_); refine box_event ?hg (N := 2) ?hd (cs := #[.int .i8 a0_0, .int .i8 a0_1]) (t := 39) ?hr ?_; (case hd => rfl); (case hg => rfl); (case hr => first | (go_simp; done) | (go_simp; rfl)); intro gb108 hg w27 hbox hb; have n0_ := bst HB hb; have n1_ := Aside0.mk (hbox); have n2_ := gwl HB hg; have n3_ := gwl HB hg; clear HB; have HB := n0_; have BK108 := n1_; have GW108 := n2_; have GE108 := n3_; clear n0_ n1_ n2_ n3_; clear hb hbox hg) | ((with_reducible refine gate_dst (N := 4) rfl ?_); refine box_event ?hg (N := 4) ?hd (cs := #[.int .i8 0, .int .i8 0]) (t := 39) ?hr ?_; (case hd => rfl); (case hg => rfl); (case hr => first | (go_simp; done) | (go_simp; rfl)); intro gb109 hg w28 hbox hb; have n0_ := bkb BK108 hb; have n1_ := bst HB hb; have n2_ := Aside0.mk (hbox); have n3_ := gwl HB hg; have n4_ := gwl HB hg; have n5_ := nbl BK108 hg; have n6_ := nbg BK108 hg; clear BK108; clear HB; have BK108 := n0_; have HB := n1_; have BK109 := n2_; have GW109 := n3_; have GE109 := n4_; have NB108_109 := n5_; have NB109_108 := n6_; clear n0_ n1_ n2_ n3_ n4_ n5_ n6_; clear hb hbox hg; have hnb29 := NB108_109.out; have hnc29 := NB109_108.out; have hcz30_0 : w28.cell? ⟨gb108, 0, none⟩ = some (.int .i8 a0_0) := (blk_cell BK108.out 0).trans rfl; have hcz30_1 : w28.cell? ⟨gb108, 1, none⟩ = some (.int .i8 a0_1) := (blk_cell BK108.out 1).trans rfl; have hfz30_0 := blk_frozen BK108.out 0; have hfz30_1 := blk_frozen BK108.out 1; have hcz31_0 : w28.cell? ⟨gb109, 0, none⟩ = some (.int .i8 0) := (blk_cell BK109.out 0).trans rfl; have hcz31_1 : w28.cell? ⟨gb109, 1, none⟩ = some (.int .i8 0) := (blk_cell BK109.out 1).trans rfl; have hfz31_0 := blk_frozen BK109.out 0; have hfz31_1 := blk_frozen BK109.out 1))
     refine bodyPost_ret (results_cell_row rfl _ _ gb109 39 #[.int .i8 a0_0, .int .i8 a0_1] (0, 0) _ rfl (by (with_reducible repeat (first | refine blk_drewN ?_ _ | refine blk_drew ?_ | refine blk_alloc ?_ _)); refine blk_put (cs := #[.int .i8 a0_0, .int .i8 0]) ?_ 1 _ rfl; (with_reducible repeat (first | refine blk_drewN ?_ _ | refine blk_drew ?_ | refine blk_alloc ?_ _)); refine blk_put (cs := #[.int .i8 0, .int .i8 0]) ?_ 0 _ rfl; (with_reducible repeat (first | refine blk_drewN ?_ _ | refine blk_drew ?_ | refine blk_alloc ?_ _)); exact BK109.out) Try.underlying39 rfl (by kernel_rfl)) rfl ?_; exact ⟨by first | rfl | (simp [errW_none, errW_some] <;> rfl) | (simp [*, errW_none, errW_some] <;> rfl), pbs HB⟩
end Go.Proofs.Ytjpponjekcemjaa.PB
end
section
namespace Go.Proofs.Ytjpponjekcemjaa.PB
open Go.RowKit Go.Proofs.YtjpponjekcemjaaW.PrintWords Go.Proofs.YtjpponjekcemjaaW.PrintLast Go.Proofs.YtjpponjekcemjaaW.PrintMore Go.Proofs.Ytjpponjekcemjaa.La
attribute [local go_sem] max2_int min2_int max_two min_two max_three min_three max_four min_four   -- for this text's walks alone
set_option linter.unusedVariables false
set_option linter.unusedSimpArgs false
theorem eqA39 (d : Nat) (w : World) (x0 y0 : Int) (x1 y1 : Int) :
    (Op.equalIn (d + 2) 39 (.agg #[.int .i8 x0, .int .i8 x1]) (.agg #[.int .i8 y0, .int .i8 y1])).run Try.prog w = .ok (x0 == y0 && (x1 == y1)) w := by
  refine eqA_of Try.underlying39 (by kernel_rfl) ?_; refine eqf_cons (by rfl) (by go_simp; rfl) (by go_simp; rfl) (by go_simp) ?_; exact eqf_last (by rfl) (by go_simp; rfl) (by go_simp; rfl) (by go_simp)
end Go.Proofs.Ytjpponjekcemjaa.PB
end
section
namespace Go.Proofs.Ytjpponjekcemjaa.PB
open Go.RowKit Go.Proofs.YtjpponjekcemjaaW.PrintWords Go.Proofs.YtjpponjekcemjaaW.PrintLast Go.Proofs.YtjpponjekcemjaaW.PrintMore Go.Proofs.Ytjpponjekcemjaa.La
attribute [local go_sem] max2_int min2_int max_two min_two max_three min_three max_four min_four   -- for this text's walks alone
set_option linter.unusedVariables false
set_option linter.unusedSimpArgs false
attribute [local go_sem high] eqA39
def spec_l01To.l0 : Nat → Int → Int → Int → Int → Int → Option (Int)
 | 0, _, _, _, _, _ => none
 | k + 1, x5, x111000, x111001, x112000, x112001 => if x5 < 4 then ((spec_l01Next.f x111000 x111001 x5).bind fun bt112 => (if (bt112.1 == x112000 && (bt112.2 == x112001)) = true then (some x5) else (spec_l01To.l0 k (wrap64 (x5 + 1)) x111000 x111001 x112000 x112001))) else (some (-1))
def spec_l01To.f (k : Nat) (a0_0 : Int) (a0_1 : Int) (a1_0 : Int) (a1_1 : Int) : Option (Int) := spec_l01To.l0 k 0 a0_0 a0_1 a1_0 a1_1
theorem spec_l01To.mono_l : ∀ k, (∀ y0 y1 y2 y3 y4, LeO (spec_l01To.l0 k y0 y1 y2 y3 y4) (spec_l01To.l0 (k + 1) y0 y1 y2 y3 y4))
 | 0 => fun _ _ _ _ _ r h => by simp [spec_l01To.l0] at h
 | k + 1 => by
  have ih0 := spec_l01To.mono_l k
  ·intro y0 y1 y2 y3 y4
   unfold spec_l01To.l0
   repeat' first
   | (with_reducible exact ih0 _ _ _ _ _)
   | (with_reducible exact LeO.refl _)
   | (with_reducible exact LeO.none _)
   | (with_reducible refine LeO.ite ?_ ?_)
   | (with_reducible refine LeO.bind ?_ (fun _ => ?_))
   | exact ih0 _ _ _ _ _
   | exact LeO.none _
   | refine LeO.ite ?_ ?_
   | refine LeO.bind ?_ (fun _ => ?_)
theorem spec_l01To.mono : ∀ a0 a1 a2 a3 k, LeO (spec_l01To.f k a0 a1 a2 a3) (spec_l01To.f (k + 1) a0 a1 a2 a3) := by
 intro a0 a1 a2 a3 k
 have ih0 := spec_l01To.mono_l k
 unfold spec_l01To.f
 repeat' first
   | (with_reducible exact ih0 _ _ _ _ _)
   | (with_reducible exact LeO.refl _)
   | (with_reducible exact LeO.none _)
   | (with_reducible refine LeO.ite ?_ ?_)
   | (with_reducible refine LeO.bind ?_ (fun _ => ?_))
   | exact ih0 _ _ _ _ _
   | exact LeO.none _
   | refine LeO.ite ?_ ?_
   | refine LeO.bind ?_ (fun _ => ?_)
set_option maxHeartbeats 8000000 in
set_option maxRecDepth 100000 in
theorem spec_l01To.calls (k : Nat) (a0_0 : Int) (a0_1 : Int) (a1_0 : Int) (a1_1 : Int) (r : Int) (w : World) (h : spec_l01To.f k a0_0 a0_1 a1_0 a1_1 = some r) :
  Calls Try.prog 81 #[.agg #[.int .i8 a0_0, .int .i8 a0_1], .agg #[.int .i8 a1_0, .int .i8 a1_1]] w fun e w' => e = .returned (.int .i64 r) ∧ Below w.heap.size w w' := by
 have hu39 := Try.underlying39
 have HB := Aside0.mk (Below.refl w.heap.size w)
 have H : (spec_l01To.l0 k 0 a0_0 a0_1 a1_0 a1_1) = some r := h
 clear h
 have H' := Aside0.mk H
 clear H
 go_enter Try.func81, Try.ntmps81
 go_wp2_with (first | ((with_reducible refine gate_dst (N := 2) rfl ?_); refine box_event ?hg (N := 2) ?hd (cs := #[.int .i8 a0_0, .int .i8 a0_1]) (t := 39) ?hr ?_; (case hd => rfl); (case hg => rfl); (case hr => first | (go_simp; done) | (go_simp; rfl)); intro gb110 hg w3 hbox hb; have n0_ := bst HB hb; have n1_ := Aside0.mk (hbox); have n2_ := gwl HB hg; have n3_ := gwl HB hg; clear HB; have HB := n0_; have BK110 := n1_; have GW110 := n2_; have GE110 := n3_; clear n0_ n1_ n2_ n3_; clear hb hbox hg) | ((with_reducible refine gate_dst (N := 3) rfl ?_); refine box_event ?hg (N := 3) ?hd (cs := #[.int .i8 a1_0, .int .i8 a1_1]) (t := 39) ?hr ?_; (case hd => rfl); (case hg => rfl); (case hr => first | (go_simp; done) | (go_simp; rfl)); intro gb111 hg w4 hbox hb; have n0_ := bkb BK110 hb; have n1_ := bst HB hb; have n2_ := Aside0.mk (hbox); have n3_ := gwl HB hg; have n4_ := gwl HB hg; have n5_ := nbl BK110 hg; have n6_ := nbg BK110 hg; clear BK110; clear HB; have BK110 := n0_; have HB := n1_; have BK111 := n2_; have GW111 := n3_; have GE111 := n4_; have NB110_111 := n5_; have NB111_110 := n6_; clear n0_ n1_ n2_ n3_ n4_ n5_ n6_; clear hb hbox hg))
 go_loopg [5] k (fun kq v5 w' => ∃ (x5_1 : Int), v5 = .int .i64 x5_1 ∧ Aside0 (spec_l01To.l0 kq x5_1 a0_0 a0_1 a1_0 a1_1 = some r) ∧ Aside0 (kq ≤ k) ∧ Aside0 (w'.heap[gb110]? = some (.cells #[.int .i8 a0_0, .int .i8 a0_1] 39 (0, 0))) ∧ Aside0 (w'.heap[gb111]? = some (.cells #[.int .i8 a1_0, .int .i8 a1_1] 39 (0, 0))) ∧ Aside0 (Below w.heap.size w w'))
 case atStart => exact ⟨(0), (by first | rfl | (simp; done) | (simp [*]; done)), H', ⟨Nat.le_refl _⟩, ⟨pk BK110⟩, ⟨pk BK111⟩, ⟨pbs HB⟩⟩
 case round =>
  clear H'
  try clear p2
  obtain ⟨x5_1, rfl, HA, HK1, BK110, BK111, HB⟩ := hrel
  cases gk with
  | zero => exact absurd HA.out (by simp [spec_l01To.l0])
  | succ k1 =>
   have H := HA.out; clear HA; simp only [spec_l01To.l0] at H
   by_cases c5 : x5_1 < 4
   ·rw [if_pos c5] at H
    have c5b0 : decide (x5_1 < 4) = true := decide_eq_true c5; clear c5; replace H := Option.bind_eq_some_iff.mp H; obtain ⟨⟨t112, t113⟩, A60, H⟩ := H; replace H : (if (t112 == a1_0 && (t113 == a1_1)) = true then (some x5_1) else (spec_l01To.l0 k1 (wrap64 (x5_1 + 1)) a0_0 a0_1 a1_0 a1_1)) = some r := H; have A6 := Aside0.mk A60; clear A60
    by_cases c7 : (t112 == a1_0 && (t113 == a1_1)) = true
    ·rw [if_pos c7] at H
     have c7b0 : (t112 == a1_0 && (t113 == a1_1)) = true := c7; (try (have c7b1 : decide (t112 = a1_0 && (t113 == a1_1)) = true := by simpa using c7)); (try (have c7b2 : (t112 == a1_0 && (t113 == a1_1)) = true := by simpa using c7)); clear c7; obtain rfl := Option.some.inj H
     try go_wp2
     replace BK110 := Aside0.mk (blk_drew BK110.out); replace BK111 := Aside0.mk (blk_drew BK111.out); replace HB := Aside0.mk (below_drew1 HB.out); refine start_ (n := 5) (S := fun w' => w'.cell? ⟨gb110, 0, none⟩ = some (.int .i8 a0_0) ∧ w'.cell? ⟨gb110, 1, none⟩ = some (.int .i8 a0_1) ∧ w'.cell? ⟨gb111, 0, none⟩ = some (.int .i8 a1_0) ∧ w'.cell? ⟨gb111, 1, none⟩ = some (.int .i8 a1_1)) (ds := []) (bA 5 0) (by kernel_rfl) rfl rfl ⟨(blk_cell BK110.out 0).trans rfl, (blk_cell BK110.out 1).trans rfl, (blk_cell BK111.out 0).trans rfl, (blk_cell BK111.out 1).trans rfl⟩ (fun hHeld => ?_); generalize wr.drew = w8 at BK110 BK111 HB hHeld ⊢; refine pure_ (i := 1) (N := some 11) (v := ?_) (a' := ?_) (bA 5 2) rfl rfl (by kernel_rfl) (fun _ _ _ h => h) (Or.inl ⟨by rfl, ?_⟩) ?_ ?_; rotate_left
     ·intro w'
      go_simp; with_reducible rfl
     rotate_left
     ·simp only [Act.put, List.setIfInBounds_toArray, List.set_cons_zero, List.set_cons_succ, i64_w, i32_w]
      rfl
     refine take_ (i := 0) (N := some 10) (v := ?_) (a' := ?_) (bA 5 3) rfl rfl (by kernel_rfl) (fun _ _ _ h => h) (Or.inl ⟨by rfl, ?_⟩) hHeld ?_ ?_; rotate_left
     ·rintro w' ⟨s0, s1, s2, s3⟩
      go_simp; with_reducible rfl
     rotate_left
     ·simp only [Act.put, List.setIfInBounds_toArray, List.set_cons_zero, List.set_cons_succ, i64_w, i32_w]
      rfl
     refine take_ (i := 3) (N := some 13) (v := ?_) (a' := ?_) (bA 5 11) rfl rfl (by kernel_rfl) (fun _ _ _ h => h) (Or.inl ⟨by rfl, ?_⟩) hHeld ?_ ?_; rotate_left
     ·rintro w' ⟨s0, s1, s2, s3⟩
      go_simp; with_reducible rfl
     rotate_left
     ·simp only [Act.put, List.setIfInBounds_toArray, List.set_cons_zero, List.set_cons_succ, i64_w, i32_w]
      rfl
     refine one_ (i := 2) (N := some 12) (bA 5 15) rfl rfl (by kernel_rfl) (by decide) (fun K hK => ?_); refine gs Try.func66 #[.agg #[.int .i8 a0_0, .int .i8 a0_1], .int .i64 x5_1] ?_; with_reducible refine (spec_l01Next.calls a0_0 a0_1 x5_1 t112 t113 _ A6.out).mono ?_
     rintro e w9 ⟨rfl, hb⟩
     refine ⟨_, rfl, ?_⟩; replace BK110 := bkb BK110 hb; replace BK111 := bkb BK111 hb; replace HB := bst HB hb; (try clear hb); (try clear hb2); (try clear hk); (try clear hi); refine hK.out _ _ ⟨(blk_cell BK110.out 0).trans rfl, (blk_cell BK110.out 1).trans rfl, (blk_cell BK111.out 0).trans rfl, (blk_cell BK111.out 1).trans rfl⟩ (fun hHeld => ?_); clear hK K; refine nm 12 ?_; refine pure_ (i := 4) (N := some 14) (v := ?_) (a' := ?_) (bA 5 31) rfl rfl (by kernel_rfl) (fun _ _ _ h => h) (Or.inl ⟨by rfl, ?_⟩) ?_ ?_; rotate_left
     ·intro w'
      go_simp; with_reducible rfl
     rotate_left
     ·simp only [Act.put, List.setIfInBounds_toArray, List.set_cons_zero, List.set_cons_succ, i64_w, i32_w]
      rfl
     refine done_ (by kernel_rfl) ?_
     try go_wp2
     go_ret
     exact ⟨by first | rfl | (simp [errW_none, errW_some] <;> rfl) | (simp [*, errW_none, errW_some] <;> rfl), pbs HB⟩
    ·rw [if_neg c7] at H
     have c7b0 : (t112 == a1_0 && (t113 == a1_1)) = false := by simpa using c7
     (try (have c7b1 : decide (t112 = a1_0 && (t113 == a1_1)) = false := by simpa using c7)); (try (have c7b2 : (t112 == a1_0 && (t113 == a1_1)) = false := by simpa using c7)); (try (have c7b3 : ¬ (t112 = a1_0 && (t113 == a1_1)) := by simpa using c7)); clear c7; have H' := Aside0.mk H; clear H
     try go_wp2
     replace BK110 := Aside0.mk (blk_drew BK110.out); replace BK111 := Aside0.mk (blk_drew BK111.out); replace HB := Aside0.mk (below_drew1 HB.out); refine start_ (n := 5) (S := fun w' => w'.cell? ⟨gb110, 0, none⟩ = some (.int .i8 a0_0) ∧ w'.cell? ⟨gb110, 1, none⟩ = some (.int .i8 a0_1) ∧ w'.cell? ⟨gb111, 0, none⟩ = some (.int .i8 a1_0) ∧ w'.cell? ⟨gb111, 1, none⟩ = some (.int .i8 a1_1)) (ds := []) (bA 5 0) (by kernel_rfl) rfl rfl ⟨(blk_cell BK110.out 0).trans rfl, (blk_cell BK110.out 1).trans rfl, (blk_cell BK111.out 0).trans rfl, (blk_cell BK111.out 1).trans rfl⟩ (fun hHeld => ?_); generalize wr.drew = w10 at BK110 BK111 HB hHeld ⊢; refine pure_ (i := 1) (N := some 11) (v := ?_) (a' := ?_) (bA 5 2) rfl rfl (by kernel_rfl) (fun _ _ _ h => h) (Or.inl ⟨by rfl, ?_⟩) ?_ ?_; rotate_left
     ·intro w'
      go_simp; with_reducible rfl
     rotate_left
     ·simp only [Act.put, List.setIfInBounds_toArray, List.set_cons_zero, List.set_cons_succ, i64_w, i32_w]
      rfl
     refine take_ (i := 0) (N := some 10) (v := ?_) (a' := ?_) (bA 5 3) rfl rfl (by kernel_rfl) (fun _ _ _ h => h) (Or.inl ⟨by rfl, ?_⟩) hHeld ?_ ?_; rotate_left
     ·rintro w' ⟨s0, s1, s2, s3⟩
      go_simp; with_reducible rfl
     rotate_left
     ·simp only [Act.put, List.setIfInBounds_toArray, List.set_cons_zero, List.set_cons_succ, i64_w, i32_w]
      rfl
     refine take_ (i := 3) (N := some 13) (v := ?_) (a' := ?_) (bA 5 11) rfl rfl (by kernel_rfl) (fun _ _ _ h => h) (Or.inl ⟨by rfl, ?_⟩) hHeld ?_ ?_; rotate_left
     ·rintro w' ⟨s0, s1, s2, s3⟩
      go_simp; with_reducible rfl
     rotate_left
     ·simp only [Act.put, List.setIfInBounds_toArray, List.set_cons_zero, List.set_cons_succ, i64_w, i32_w]
      rfl
     refine one_ (i := 2) (N := some 12) (bA 5 15) rfl rfl (by kernel_rfl) (by decide) (fun K hK => ?_); refine gs Try.func66 #[.agg #[.int .i8 a0_0, .int .i8 a0_1], .int .i64 x5_1] ?_; with_reducible refine (spec_l01Next.calls a0_0 a0_1 x5_1 t112 t113 _ A6.out).mono ?_
     rintro e w11 ⟨rfl, hb⟩
     refine ⟨_, rfl, ?_⟩; replace BK110 := bkb BK110 hb; replace BK111 := bkb BK111 hb; replace HB := bst HB hb; (try clear hb); (try clear hb2); (try clear hk); (try clear hi); refine hK.out _ _ ⟨(blk_cell BK110.out 0).trans rfl, (blk_cell BK110.out 1).trans rfl, (blk_cell BK111.out 0).trans rfl, (blk_cell BK111.out 1).trans rfl⟩ (fun hHeld => ?_); clear hK K; refine nm 12 ?_; refine pure_ (i := 4) (N := some 14) (v := ?_) (a' := ?_) (bA 5 31) rfl rfl (by kernel_rfl) (fun _ _ _ h => h) (Or.inl ⟨by rfl, ?_⟩) ?_ ?_; rotate_left
     ·intro w'
      go_simp; with_reducible rfl
     rotate_left
     ·simp only [Act.put, List.setIfInBounds_toArray, List.set_cons_zero, List.set_cons_succ, i64_w, i32_w]
      rfl
     refine done_ (by kernel_rfl) ?_
     try go_wp2
     go_roundg k1
     case measure => have := HK1.out; omega
     case rel => exact ⟨(wrap64 (x5_1 + 1)), (by first | rfl | (simp; done) | (simp [*]; done)), H', ⟨by have := HK1.out; omega⟩, ⟨pk BK110⟩, ⟨pk BK111⟩, ⟨pbs HB⟩⟩
   ·rw [if_neg c5] at H
    have c5b0 : decide (x5_1 < 4) = false := decide_eq_false c5; clear c5; obtain rfl := Option.some.inj H
    go_wp2
    go_ret
    exact ⟨by first | rfl | (simp [errW_none, errW_some] <;> rfl) | (simp [*, errW_none, errW_some] <;> rfl), pbs HB⟩
def spec_l01Has.l0 : Nat → List (S39) → Int → Int → Int → Option (Bool)
 | 0, _, _, _, _ => none
 | k + 1, x0, x5, x115000, x115001 => if x5 < (x0.length : Int) then (if 0 ≤ x5 then (if (((rd_T39 x0 x5).f0) == x115000 && (((rd_T39 x0 x5).f1) == x115001)) = true then (some true) else (spec_l01Has.l0 k x0 (wrap64 (x5 + 1)) x115000 x115001)) else (none)) else (some false)
def spec_l01Has.f (k : Nat) (l0 : List (S39)) (a1_0 : Int) (a1_1 : Int) : Option (Bool) := spec_l01Has.l0 k l0 0 a1_0 a1_1
theorem spec_l01Has.mono_l : ∀ k, (∀ y0 y1 y2 y3, LeO (spec_l01Has.l0 k y0 y1 y2 y3) (spec_l01Has.l0 (k + 1) y0 y1 y2 y3))
 | 0 => fun _ _ _ _ r h => by simp [spec_l01Has.l0] at h
 | k + 1 => by
  have ih0 := spec_l01Has.mono_l k
  ·intro y0 y1 y2 y3
   unfold spec_l01Has.l0
   repeat' first
   | (with_reducible exact ih0 _ _ _ _)
   | (with_reducible exact LeO.refl _)
   | (with_reducible exact LeO.none _)
   | (with_reducible refine LeO.ite ?_ ?_)
   | (with_reducible refine LeO.bind ?_ (fun _ => ?_))
   | exact ih0 _ _ _ _
   | exact LeO.none _
   | refine LeO.ite ?_ ?_
   | refine LeO.bind ?_ (fun _ => ?_)
theorem spec_l01Has.mono : ∀ a0 a1 a2 k, LeO (spec_l01Has.f k a0 a1 a2) (spec_l01Has.f (k + 1) a0 a1 a2) := by
 intro a0 a1 a2 k
 have ih0 := spec_l01Has.mono_l k
 unfold spec_l01Has.f
 repeat' first
   | (with_reducible exact ih0 _ _ _ _)
   | (with_reducible exact LeO.refl _)
   | (with_reducible exact LeO.none _)
   | (with_reducible refine LeO.ite ?_ ?_)
   | (with_reducible refine LeO.bind ?_ (fun _ => ?_))
   | exact ih0 _ _ _ _
   | exact LeO.none _
   | refine LeO.ite ?_ ?_
   | refine LeO.bind ?_ (fun _ => ?_)
set_option maxHeartbeats 8000000 in
set_option maxRecDepth 100000 in
theorem spec_l01Has.calls (k : Nat) (A0 : Option Addr) (c0 : Nat) (l0 : List (S39)) (a1_0 : Int) (a1_1 : Int) (r : Bool) (w : World) (hr0 : Kd.C k39 w A0 l0.length l0) (hc0 : l0.length ≤ c0) (h : spec_l01Has.f k l0 a1_0 a1_1 = some r) :
  Calls Try.prog 82 #[.slice A0 l0.length c0, .agg #[.int .i8 a1_0, .int .i8 a1_1]] w fun e w' => e = .returned (.bool r) ∧ Below w.heap.size w w' := by
 have hu39 := Try.underlying39
 have HR0 := Aside0.mk hr0
 have HC0 := Aside0.mk hc0
 clear hr0 hc0
 have HB := Aside0.mk (Below.refl w.heap.size w)
 have H : (spec_l01Has.l0 k l0 0 a1_0 a1_1) = some r := h
 clear h
 have H' := Aside0.mk H
 clear H
 go_enter Try.func82, Try.ntmps82
 go_wp2_with (first | ((with_reducible refine gate_dst (N := 3) rfl ?_); refine box_event ?hg (N := 3) ?hd (cs := #[.int .i8 a1_0, .int .i8 a1_1]) (t := 39) ?hr ?_; (case hd => rfl); (case hg => rfl); (case hr => first | (go_simp; done) | (go_simp; rfl)); intro gb114 hg w3 hbox hb; have n0_ := bst HB hb; have n1_ := Aside0.mk (hbox); have n2_ := gwl HB hg; have n3_ := gwl HB hg; clear HB; have HB := n0_; have BK114 := n1_; have GW114 := n2_; have GE114 := n3_; clear n0_ n1_ n2_ n3_; clear hb hbox hg))
 repeat (go_quiet (first | ((with_reducible refine gate_dst (N := 3) rfl ?_); refine box_event ?hg (N := 3) ?hd (cs := #[.int .i8 a1_0, .int .i8 a1_1]) (t := 39) ?hr ?_; (case hd => rfl); (case hg => rfl); (case hr => first | (go_simp; done) | (go_simp; rfl)); intro gb114 hg w3 hbox hb; have n0_ := bst HB hb; have n1_ := Aside0.mk (hbox); have n2_ := gwl HB hg; have n3_ := gwl HB hg; clear HB; have HB := n0_; have BK114 := n1_; have GW114 := n2_; have GE114 := n3_; clear n0_ n1_ n2_ n3_; clear hb hbox hg)); try go_wp2_with (first | ((with_reducible refine gate_dst (N := 3) rfl ?_); refine box_event ?hg (N := 3) ?hd (cs := #[.int .i8 a1_0, .int .i8 a1_1]) (t := 39) ?hr ?_; (case hd => rfl); (case hg => rfl); (case hr => first | (go_simp; done) | (go_simp; rfl)); intro gb114 hg w3 hbox hb; have n0_ := bst HB hb; have n1_ := Aside0.mk (hbox); have n2_ := gwl HB hg; have n3_ := gwl HB hg; clear HB; have HB := n0_; have BK114 := n1_; have GW114 := n2_; have GE114 := n3_; clear n0_ n1_ n2_ n3_; clear hb hbox hg)))
 go_loopg [5] k (fun kq v5 w' => ∃ (x5_1 : Int), v5 = .int .i64 x5_1 ∧ Aside0 (spec_l01Has.l0 kq l0 x5_1 a1_0 a1_1 = some r) ∧ Aside0 (kq ≤ k) ∧ Aside0 (w'.heap[gb114]? = some (.cells #[.int .i8 a1_0, .int .i8 a1_1] 39 (0, 0))) ∧ Aside0 (Below w.heap.size w w'))
 case atStart => exact ⟨(0), (by first | rfl | (simp; done) | (simp [*]; done)), H', ⟨Nat.le_refl _⟩, ⟨pk BK114⟩, ⟨pbs HB⟩⟩
 case round =>
  clear H'
  try clear p2
  obtain ⟨x5_1, rfl, HA, HK1, BK114, HB⟩ := hrel
  cases gk with
  | zero => exact absurd HA.out (by simp [spec_l01Has.l0])
  | succ k1 =>
   have H := HA.out; clear HA; simp only [spec_l01Has.l0] at H
   by_cases c4 : x5_1 < (l0.length : Int)
   ·rw [if_pos c4] at H
    have c4b0 : decide (x5_1 < (l0.length : Int)) = true := decide_eq_true c4; clear c4
    by_cases c5 : 0 ≤ x5_1
    ·rw [if_pos c5] at H
     have c5b0 : decide (0 ≤ x5_1) = true := decide_eq_true c5; clear c5
     by_cases c6 : (((rd_T39 l0 x5_1).f0) == a1_0 && (((rd_T39 l0 x5_1).f1) == a1_1)) = true
     ·rw [if_pos c6] at H
      have c6b0 : (((rd_T39 l0 x5_1).f0) == a1_0 && (((rd_T39 l0 x5_1).f1) == a1_1)) = true := c6; (try (have c6b1 : decide (((rd_T39 l0 x5_1).f0) = a1_0 && (((rd_T39 l0 x5_1).f1) == a1_1)) = true := by simpa using c6)); (try (have c6b2 : (((rd_T39 l0 x5_1).f0) == a1_0 && (((rd_T39 l0 x5_1).f1) == a1_1)) = true := by simpa using c6)); clear c6; obtain rfl := Option.some.inj H; have p115 : 0 ≤ (x5_1 : Int) := oda; have q115 : x5_1 < (l0.length : Int) := oda; obtain ⟨ad115, e115, hx115_0, hx115_1⟩ := at_T39 HR0.out x5_1 p115 q115; cases e115
      try replace hx115_0 := cb HB hx115_0
      try replace hx115_1 := cb HB hx115_1
      replace p115 := eq_true p115; replace q115 := eq_true q115; have hcz7_0 : wr.cell? ⟨gb114, 0, none⟩ = some (.int .i8 a1_0) := (blk_cell BK114.out 0).trans rfl; have hcz7_1 : wr.cell? ⟨gb114, 1, none⟩ = some (.int .i8 a1_1) := (blk_cell BK114.out 1).trans rfl; have hfz7_0 := blk_frozen BK114.out 0; have hfz7_1 := blk_frozen BK114.out 1
      go_wp2
      repeat (go_quiet (fail); try go_wp2)
      go_ret
      exact ⟨by first | rfl | (simp [errW_none, errW_some] <;> rfl) | (simp [*, errW_none, errW_some] <;> rfl), pbs HB⟩
     ·rw [if_neg c6] at H
      have c6b0 : (((rd_T39 l0 x5_1).f0) == a1_0 && (((rd_T39 l0 x5_1).f1) == a1_1)) = false := by simpa using c6
      (try (have c6b1 : decide (((rd_T39 l0 x5_1).f0) = a1_0 && (((rd_T39 l0 x5_1).f1) == a1_1)) = false := by simpa using c6)); (try (have c6b2 : (((rd_T39 l0 x5_1).f0) == a1_0 && (((rd_T39 l0 x5_1).f1) == a1_1)) = false := by simpa using c6)); (try (have c6b3 : ¬ (((rd_T39 l0 x5_1).f0) = a1_0 && (((rd_T39 l0 x5_1).f1) == a1_1)) := by simpa using c6)); clear c6; have H' := Aside0.mk H; clear H; have p115 : 0 ≤ (x5_1 : Int) := oda; have q115 : x5_1 < (l0.length : Int) := oda; obtain ⟨ad115, e115, hx115_0, hx115_1⟩ := at_T39 HR0.out x5_1 p115 q115; cases e115
      try replace hx115_0 := cb HB hx115_0
      try replace hx115_1 := cb HB hx115_1
      replace p115 := eq_true p115; replace q115 := eq_true q115; have hcz8_0 : wr.cell? ⟨gb114, 0, none⟩ = some (.int .i8 a1_0) := (blk_cell BK114.out 0).trans rfl; have hcz8_1 : wr.cell? ⟨gb114, 1, none⟩ = some (.int .i8 a1_1) := (blk_cell BK114.out 1).trans rfl; have hfz8_0 := blk_frozen BK114.out 0; have hfz8_1 := blk_frozen BK114.out 1
      go_wp2
      repeat (go_quiet (fail); try go_wp2)
      go_roundg k1
      case measure => have := HK1.out; omega
      case rel => exact ⟨(wrap64 (x5_1 + 1)), (by first | rfl | (simp; done) | (simp [*]; done)), H', ⟨by have := HK1.out; omega⟩, ⟨pk BK114⟩, ⟨pbs HB⟩⟩
    ·rw [if_neg c5] at H
     exact absurd H (by simp)
   ·rw [if_neg c4] at H
    have c4b0 : decide (x5_1 < (l0.length : Int)) = false := decide_eq_false c4; clear c4; obtain rfl := Option.some.inj H
    go_wp2
    repeat (go_quiet (fail); try go_wp2)
    go_ret
    exact ⟨by first | rfl | (simp [errW_none, errW_some] <;> rfl) | (simp [*, errW_none, errW_some] <;> rfl), pbs HB⟩
end Go.Proofs.Ytjpponjekcemjaa.PB
end
section
namespace Go.Proofs.Ytjpponjekcemjaa.PB
open Go.RowKit Go.Proofs.YtjpponjekcemjaaW.PrintWords Go.Proofs.YtjpponjekcemjaaW.PrintLast Go.Proofs.YtjpponjekcemjaaW.PrintMore Go.Proofs.Ytjpponjekcemjaa.La
attribute [local go_sem] max2_int min2_int max_two min_two max_three min_three max_four min_four   -- for this text's walks alone
set_option linter.unusedVariables false
set_option linter.unusedSimpArgs false
def spec_l02Line.l0 : Nat → List (S39) → Int → Option (Bool)
 | 0, _, _ => none
 | k + 1, x0, x3 => if x3 < (x0.length : Int) then (if x3 > 0 then (if 0 ≤ (wrap64 (x3 - 1)) then (if (wrap64 (x3 - 1)) < (x0.length : Int) then (if 0 ≤ x3 then ((spec_l01To.f k ((rd_T39 x0 (wrap64 (x3 - 1))).f0) ((rd_T39 x0 (wrap64 (x3 - 1))).f1) ((rd_T39 x0 x3).f0) ((rd_T39 x0 x3).f1)).bind fun t119 => (if t119 < 0 then (some false) else (if x3 ≤ (x0.length : Int) then ((spec_l01Has.f k (x0.take (x3 : Int).toNat) ((rd_T39 x0 x3).f0) ((rd_T39 x0 x3).f1)).bind fun t125 => (if t125 = true then (some false) else (spec_l02Line.l0 k x0 (wrap64 (x3 + 1))))) else (none)))) else (none)) else (none)) else (none)) else (if 0 ≤ x3 then (if x3 ≤ (x0.length : Int) then ((spec_l01Has.f k (x0.take (x3 : Int).toNat) ((rd_T39 x0 x3).f0) ((rd_T39 x0 x3).f1)).bind fun t131 => (if t131 = true then (some false) else (spec_l02Line.l0 k x0 (wrap64 (x3 + 1))))) else (none)) else (none))) else ((spec_l00In.f (x0.length : Int) 1 12).bind fun t116 => (some t116))
def spec_l02Line.f (k : Nat) (l0 : List (S39)) : Option (Bool) := spec_l02Line.l0 k l0 0
theorem spec_l02Line.mono_l : ∀ k, (∀ y0 y1, LeO (spec_l02Line.l0 k y0 y1) (spec_l02Line.l0 (k + 1) y0 y1))
 | 0 => fun _ _ r h => by simp [spec_l02Line.l0] at h
 | k + 1 => by
  have ih0 := spec_l02Line.mono_l k
  ·intro y0 y1
   unfold spec_l02Line.l0
   repeat' first
   | (with_reducible exact ih0 _ _)
   | (with_reducible exact spec_l01Has.mono _ _ _ _)
   | (with_reducible exact spec_l01To.mono _ _ _ _ _)
   | (with_reducible exact LeO.refl _)
   | (with_reducible exact LeO.none _)
   | (with_reducible refine LeO.ite ?_ ?_)
   | (with_reducible refine LeO.bind ?_ (fun _ => ?_))
   | exact ih0 _ _
   | exact spec_l01Has.mono _ _ _ _
   | exact spec_l01To.mono _ _ _ _ _
   | exact LeO.none _
   | refine LeO.ite ?_ ?_
   | refine LeO.bind ?_ (fun _ => ?_)
theorem spec_l02Line.mono : ∀ a0 k, LeO (spec_l02Line.f k a0) (spec_l02Line.f (k + 1) a0) := by
 intro a0 k
 have ih0 := spec_l02Line.mono_l k
 unfold spec_l02Line.f
 repeat' first
   | (with_reducible exact ih0 _ _)
   | (with_reducible exact spec_l01Has.mono _ _ _ _)
   | (with_reducible exact spec_l01To.mono _ _ _ _ _)
   | (with_reducible exact LeO.refl _)
   | (with_reducible exact LeO.none _)
   | (with_reducible refine LeO.ite ?_ ?_)
   | (with_reducible refine LeO.bind ?_ (fun _ => ?_))
   | exact ih0 _ _
   | exact spec_l01Has.mono _ _ _ _
   | exact spec_l01To.mono _ _ _ _ _
   | exact LeO.none _
   | refine LeO.ite ?_ ?_
   | refine LeO.bind ?_ (fun _ => ?_)
def spec_l02Line.T4 : Bool × List (List Nat × List Nat) := (true, [([], []), ([0], [0]), ([1], [1]), ([2], [2]), ([2], [2]), ([4, 2], [2, 4]), ([3, 5, 2], [2, 3, 5]), ([6, 2], [2, 6]), ([2], [2]), ([2], [2]), ([8, 9, 2], [2, 8, 9]), ([10, 2], [2, 10]), ([7, 11, 2, 2], [2, 7, 11]), ([12, 2], [2, 12]), ([2, 13], [2, 13]), ([14, 12], [14]), ([15], [15]), ([15], [15]), ([16, 17, 15], [15, 16, 17]), ([15], [15]), ([15], [15]), ([19, 20, 15], [15, 19, 20]), ([21, 15], [15, 21]), ([18, 22, 15, 15], [15, 18, 22]), ([15, 23], [15, 23])])
def spec_l02Line.B4 : List Nat := [0, 1, 3, 7, 7, 23, 63, 127, 7, 7, 775, 1799, 4095, 8191, 16383, 32767, 65535, 65535, 262143, 65535, 65535, 1638399, 3735551, 8388607, 16777215]
theorem spec_l02Line.tab4 : rtab .any (opsOf Try.f79 4) = spec_l02Line.T4 := by kernel_rfl
theorem spec_l02Line.bits4 : waitsOk spec_l02Line.T4.2 spec_l02Line.B4 = true := by kernel_rfl
set_option maxHeartbeats 8000000 in
set_option maxRecDepth 100000 in
theorem spec_l02Line.calls (k : Nat) (A0 : Option Addr) (c0 : Nat) (l0 : List (S39)) (r : Bool) (w : World) (hr0 : Kd.C k39 w A0 l0.length l0) (hc0 : l0.length ≤ c0) (h : spec_l02Line.f k l0 = some r) :
  Calls Try.prog 79 #[.slice A0 l0.length c0] w fun e w' => e = .returned (.bool r) ∧ Below w.heap.size w w' := by
 have hu39 := Try.underlying39
 have HR0 := Aside0.mk hr0
 have HC0 := Aside0.mk hc0
 clear hr0 hc0
 have HB := Aside0.mk (Below.refl w.heap.size w)
 have H : (spec_l02Line.l0 k l0 0) = some r := h
 clear h
 have H' := Aside0.mk H
 clear H
 go_enter Try.func79, Try.ntmps79
 go_wp2
 go_loopg [3] k (fun kq v3 w' => ∃ (x3_1 : Int), v3 = .int .i64 x3_1 ∧ Aside0 (spec_l02Line.l0 kq l0 x3_1 = some r) ∧ Aside0 (kq ≤ k) ∧ Aside0 (Below w.heap.size w w'))
 case atStart => exact ⟨(0), (by first | rfl | (simp; done) | (simp [*]; done)), H', ⟨Nat.le_refl _⟩, ⟨pb HB⟩⟩
 case round =>
  clear H'; obtain ⟨x3_1, rfl, HA, HK1, HB⟩ := hrel
  cases gk with
  | zero => exact absurd HA.out (by simp [spec_l02Line.l0])
  | succ k1 =>
   have H := HA.out; clear HA; simp only [spec_l02Line.l0] at H
   by_cases c2 : x3_1 < (l0.length : Int)
   ·rw [if_pos c2] at H
    have c2b0 : decide (x3_1 < (l0.length : Int)) = true := decide_eq_true c2; clear c2
    by_cases c3 : x3_1 > 0
    ·rw [if_pos c3] at H
     have c3b0 : decide (0 < x3_1) = true := decide_eq_true c3; clear c3; obtain ⟨ji4, hji4⟩ : ∃ j_ : Int, (wrap64 (x3_1 - 1)) = j_ := ⟨_, rfl⟩
     replace H : (if 0 ≤ (ji4) then (if (ji4) < (l0.length : Int) then (if 0 ≤ x3_1 then ((spec_l01To.f k1 ((rd_T39 l0 (ji4)).f0) ((rd_T39 l0 (ji4)).f1) ((rd_T39 l0 x3_1).f0) ((rd_T39 l0 x3_1).f1)).bind fun t119 => (if t119 < 0 then (some false) else (if x3_1 ≤ (l0.length : Int) then ((spec_l01Has.f k1 (l0.take (x3_1 : Int).toNat) ((rd_T39 l0 x3_1).f0) ((rd_T39 l0 x3_1).f1)).bind fun t125 => (if t125 = true then (some false) else (spec_l02Line.l0 k1 l0 (wrap64 (x3_1 + 1))))) else (none)))) else (none)) else (none)) else (none)) = some r := by first | (rw [hji4] at H; exact H) | (simp only [hji4] at H ⊢; exact H)
     have hji4w : (IntKind.i64.wrap (x3_1 - 1)) = ji4 := (i64_w _).trans hji4
     by_cases c5 : 0 ≤ (ji4)
     ·rw [if_pos c5] at H
      have c5b0 : decide (0 ≤ (ji4)) = true := decide_eq_true c5; clear c5
      by_cases c6 : (ji4) < (l0.length : Int)
      ·rw [if_pos c6] at H
       have c6b0 : decide ((ji4) < (l0.length : Int)) = true := decide_eq_true c6; clear c6
       by_cases c7 : 0 ≤ x3_1
       ·rw [if_pos c7] at H
        have c7b0 : decide (0 ≤ x3_1) = true := decide_eq_true c7; clear c7; obtain ⟨t119, A8, H⟩ := obn H
        by_cases c9 : t119 < 0
        ·rw [if_pos c9] at H
         have c9b0 : decide (t119 < 0) = true := decide_eq_true c9; clear c9; obtain rfl := Option.some.inj H
         try go_wp2
         replace HB := Aside0.mk (below_drew1 HB.out); have p117 : 0 ≤ ((ji4) : Int) := oda; have q117 : (ji4) < (l0.length : Int) := oda; obtain ⟨ad117, e117, hx117_0, hx117_1⟩ := at_T39 HR0.out (ji4) p117 q117; have hw117_1 := hx117_1; have hw117_0 := hx117_0; cases e117
         try replace hx117_0 := cb HB hx117_0
         try replace hx117_1 := cb HB hx117_1
         replace p117 := eq_true p117; replace q117 := eq_true q117; have p118 : 0 ≤ (x3_1 : Int) := oda; have q118 : x3_1 < (l0.length : Int) := oda; obtain ⟨ad118, e118, hx118_0, hx118_1⟩ := at_T39 HR0.out x3_1 p118 q118; have hw118_1 := hx118_1; have hw118_0 := hx118_0; obtain rfl : ad117 = ad118 := (by injection e118)
         try replace hx118_0 := cb HB hx118_0
         try replace hx118_1 := cb HB hx118_1
         replace p118 := eq_true p118; replace q118 := eq_true q118
         refine start_ (n := 25) (S := fun w' => w'.cell? (ad117.add (((ji4)).toNat * 2)) = some (.int .i8 ((rd_T39 l0 (ji4)).f0)) ∧ w'.cell? ⟨(ad117.add (((ji4)).toNat * 2)).block, (ad117.add (((ji4)).toNat * 2)).off + 1, none⟩ = some (.int .i8 ((rd_T39 l0 (ji4)).f1)) ∧ w'.cell? (ad117.add ((x3_1).toNat * 2)) = some (.int .i8 ((rd_T39 l0 x3_1).f0)) ∧ w'.cell? ⟨(ad117.add ((x3_1).toNat * 2)).block, (ad117.add ((x3_1).toNat * 2)).off + 1, none⟩ = some (.int .i8 ((rd_T39 l0 x3_1).f1))) (ds := []) (bA 25 0) (by kernel_rfl) rfl rfl ⟨(cb HB hw117_0), (cb HB hw117_1), (cb HB hw118_0), (cb HB hw118_1)⟩ (fun hHeld => ?_); refine with_tabW spec_l02Line.tab4 spec_l02Line.bits4 (fun HT_ HW_ => ?_)
         generalize wr.drew = w10 at HB hx117_0 hx117_1 hx118_0 hx118_1 hHeld ⊢; refine pu 0 10 25 1 HT_ ?_; refine pu 1 11 25 3 HT_ ?_; refine pu 2 12 25 7 HT_ ?_; refine pu 3 13 25 15 HT_ ?_; refine pu 4 14 25 31 HT_ ?_; refine pu 5 15 25 63 HT_ ?_; refine pu 6 16 25 127 HT_ ?_; refine pu 8 18 25 383 HT_ ?_; refine pu 9 19 25 895 HT_ ?_; refine pu 10 20 25 1919 HT_ ?_; refine tk 7 17 25 2047 HT_ HW_ hHeld ?_; refine tk 11 21 25 4095 HT_ HW_ hHeld ?_; refine one_ (i := 12) (N := some 22) (bA 25 8191) rfl rfl (one_of HT_.out (by kernel_rfl)) (by decide) (fun K hK => ?_); refine goes_ Try.func81 (by kernel_rfl) rfl #[.agg #[.int .i8 ((rd_T39 l0 (ji4)).f0), .int .i8 ((rd_T39 l0 (ji4)).f1)], .agg #[.int .i8 ((rd_T39 l0 x3_1).f0), .int .i8 ((rd_T39 l0 x3_1).f1)]] (by rfl) rfl rfl (by (try simp only [List.map_toArray, List.map_cons, List.map_nil]); first | done | (simp only [hji4]; rfl) | rfl | (simp only [List.length_drop, List.length_take]; rfl)) ?_; with_reducible refine (spec_l01To.calls k1 ((rd_T39 l0 (ji4)).f0) ((rd_T39 l0 (ji4)).f1) ((rd_T39 l0 x3_1).f0) ((rd_T39 l0 x3_1).f1) t119 _ A8.out).mono ?_
         rintro e w11 ⟨rfl, hb⟩
         refine ⟨_, rfl, ?_⟩; replace HB := bst HB hb; (try clear hb); (try clear hb2); (try clear hk); (try clear hi); refine hK.out _ _ ⟨(cb HB hw117_0), (cb HB hw117_1), (cb HB hw118_0), (cb HB hw118_1)⟩ (fun hHeld => ?_); clear hK K; refine nm 22 ?_; refine pu 13 23 25 16383 HT_ ?_; refine pu 14 24 25 32767 HT_ ?_; refine pu 15 25 25 65535 HT_ ?_; refine pn 16 26 25 131071 HT_ ?_; refine pn 17 27 25 262143 HT_ ?_; refine pn 18 28 25 524287 HT_ ?_; refine pn 19 29 25 1048575 HT_ ?_; refine pn 20 30 25 2097151 HT_ ?_; refine pn 21 31 25 4194303 HT_ ?_; refine pn 22 32 25 8388607 HT_ ?_; refine pn 23 33 25 16777215 HT_ ?_; refine pu 24 34 25 33554431 HT_ ?_; refine done_ (done_of HT_.out (by kernel_rfl)) ?_
         try go_wp2
         go_ret
         exact ⟨by first | rfl | (simp [errW_none, errW_some] <;> rfl) | (simp only [← hji4]; first | rfl | (simp [errW_none, errW_some] <;> rfl)) | (simp [*, errW_none, errW_some] <;> rfl), pb HB⟩
        ·rw [if_neg c9] at H
         have c9b0 : decide (t119 < 0) = false := decide_eq_false c9; clear c9; have c12b0 := eq_true (oda : 0 ≤ x3_1)
         by_cases c13 : x3_1 ≤ (l0.length : Int)
         ·rw [if_pos c13] at H
          have c13b0 := eq_true c13; have c13b1 : decide (x3_1 ≤ (l0.length : Int)) = true := decide_eq_true c13; clear c13; obtain ⟨y120, hy120⟩ : ∃ y_ : List (S39), y_ = (l0.take (x3_1 : Int).toNat) := ⟨_, rfl⟩
          replace H : ((spec_l01Has.f k1 y120 ((rd_T39 l0 x3_1).f0) ((rd_T39 l0 x3_1).f1)).bind fun t125 => (if t125 = true then (some false) else (spec_l02Line.l0 k1 l0 (wrap64 (x3_1 + 1))))) = some r := by first | (rw [hy120]; with_reducible exact H) | (have H2_ := (Option.bind_some _ _).symm.trans H; rw [hy120]; with_reducible exact H2_) | (have H2_ := (Option.bind_some _ _).symm.trans H; with_reducible exact H2_) | with_reducible exact H | (rw [hy120]; exact H) | exact H
          have Ny120 := Aside0.mk hy120; clear hy120; obtain ⟨t125, A14, H⟩ := obn H
          by_cases c15 : t125 = true
          ·subst c15
           have H1 : (some false) = some r := by rw [if_pos rfl] at H; exact H
           clear H; have H := H1; clear H1; obtain rfl := Option.some.inj H
           try go_wp2
           replace HB := Aside0.mk (below_drew1 HB.out); have p117 : 0 ≤ ((ji4) : Int) := oda; have q117 : (ji4) < (l0.length : Int) := oda; obtain ⟨ad117, e117, hx117_0, hx117_1⟩ := at_T39 HR0.out (ji4) p117 q117; have hw117_1 := hx117_1; have hw117_0 := hx117_0; cases e117
           try replace hx117_0 := cb HB hx117_0
           try replace hx117_1 := cb HB hx117_1
           replace p117 := eq_true p117; replace q117 := eq_true q117; have p118 : 0 ≤ (x3_1 : Int) := oda; have q118 : x3_1 < (l0.length : Int) := oda; obtain ⟨ad118, e118, hx118_0, hx118_1⟩ := at_T39 HR0.out x3_1 p118 q118; have hw118_1 := hx118_1; have hw118_0 := hx118_0; obtain rfl : ad117 = ad118 := (by injection e118)
           try replace hx118_0 := cb HB hx118_0
           try replace hx118_1 := cb HB hx118_1
           replace p118 := eq_true p118; replace q118 := eq_true q118; have p124 : 0 ≤ (x3_1 : Int) := oda; have q124 : x3_1 < (l0.length : Int) := oda; obtain ⟨ad124, e124, hx124_0, hx124_1⟩ := at_T39 HR0.out x3_1 p124 q124; have hw124_1 := hx124_1; have hw124_0 := hx124_0; obtain rfl : ad117 = ad124 := (by injection e124)
           try replace hx124_0 := cb HB hx124_0
           try replace hx124_1 := cb HB hx124_1
           replace p124 := eq_true p124; replace q124 := eq_true q124
           refine start_ (n := 25) (S := fun w' => w'.cell? (ad117.add (((ji4)).toNat * 2)) = some (.int .i8 ((rd_T39 l0 (ji4)).f0)) ∧ w'.cell? ⟨(ad117.add (((ji4)).toNat * 2)).block, (ad117.add (((ji4)).toNat * 2)).off + 1, none⟩ = some (.int .i8 ((rd_T39 l0 (ji4)).f1)) ∧ w'.cell? (ad117.add ((x3_1).toNat * 2)) = some (.int .i8 ((rd_T39 l0 x3_1).f0)) ∧ w'.cell? ⟨(ad117.add ((x3_1).toNat * 2)).block, (ad117.add ((x3_1).toNat * 2)).off + 1, none⟩ = some (.int .i8 ((rd_T39 l0 x3_1).f1)) ∧ w'.cell? (ad117.add ((x3_1).toNat * 2)) = some (.int .i8 ((rd_T39 l0 x3_1).f0)) ∧ w'.cell? ⟨(ad117.add ((x3_1).toNat * 2)).block, (ad117.add ((x3_1).toNat * 2)).off + 1, none⟩ = some (.int .i8 ((rd_T39 l0 x3_1).f1))) (ds := []) (bA 25 0) (by kernel_rfl) rfl rfl ⟨(cb HB hw117_0), (cb HB hw117_1), (cb HB hw118_0), (cb HB hw118_1), (cb HB hw124_0), (cb HB hw124_1)⟩ (fun hHeld => ?_); refine with_tabW spec_l02Line.tab4 spec_l02Line.bits4 (fun HT_ HW_ => ?_)
           generalize wr.drew = w16 at HB hx117_0 hx117_1 hx118_0 hx118_1 hx124_0 hx124_1 hHeld ⊢; refine pu 0 10 25 1 HT_ ?_; refine pu 1 11 25 3 HT_ ?_; refine pu 2 12 25 7 HT_ ?_; refine pu 3 13 25 15 HT_ ?_; refine pu 4 14 25 31 HT_ ?_; refine pu 5 15 25 63 HT_ ?_; refine pu 6 16 25 127 HT_ ?_; refine pu 8 18 25 383 HT_ ?_; refine pu 9 19 25 895 HT_ ?_; refine pu 10 20 25 1919 HT_ ?_; refine tk 7 17 25 2047 HT_ HW_ hHeld ?_; refine tk 11 21 25 4095 HT_ HW_ hHeld ?_; refine one_ (i := 12) (N := some 22) (bA 25 8191) rfl rfl (one_of HT_.out (by kernel_rfl)) (by decide) (fun K hK => ?_); refine goes_ Try.func81 (by kernel_rfl) rfl #[.agg #[.int .i8 ((rd_T39 l0 (ji4)).f0), .int .i8 ((rd_T39 l0 (ji4)).f1)], .agg #[.int .i8 ((rd_T39 l0 x3_1).f0), .int .i8 ((rd_T39 l0 x3_1).f1)]] (by rfl) rfl rfl (by (try simp only [List.map_toArray, List.map_cons, List.map_nil]); first | done | (simp only [hji4]; rfl) | rfl | (simp only [List.length_drop, List.length_take]; rfl)) ?_; with_reducible refine (spec_l01To.calls k1 ((rd_T39 l0 (ji4)).f0) ((rd_T39 l0 (ji4)).f1) ((rd_T39 l0 x3_1).f0) ((rd_T39 l0 x3_1).f1) t119 _ A8.out).mono ?_
           rintro e w17 ⟨rfl, hb⟩
           refine ⟨_, rfl, ?_⟩; replace HB := bst HB hb; (try clear hb); (try clear hb2); (try clear hk); (try clear hi); have q18 : (x3_1 : Int) ≤ ((l0.length : Int) : Int) := oda; obtain ⟨i018, hi018, _, hsz18, _⟩ := info_parts info39; have hroom18 : l0.length ≤ c0 := HC0.out; have hC18 : Kd.C k39 _ (some ad117) l0.length l0 := HR0.out; have hcut18 := cut_to (P := Try.prog) 37 39 .i64 Try.underlying37 hi018 (some ad117) l0.length c0 x3_1 (oda) q18 hroom18; have hr18 := Kd.C_take (m := (x3_1 : Int).toNat) hC18 (by omega); have hy18 : y120.length = (x3_1 : Int).toNat := (by rw [Ny120.out, List.length_take]; omega); rw [← Ny120.out] at hr18; rw [← hy18] at hcut18; have HR123 := Aside0.mk hr18; have HC123 := Aside0.mk (show y120.length ≤ c0 from by omega); clear hr18 hC18 hroom18 hi018 hsz18; have KY18 := Aside0.mk hy18; clear hy18; replace q18 := eq_true q18; refine hK.out _ _ ⟨(cb HB hw117_0), (cb HB hw117_1), (cb HB hw118_0), (cb HB hw118_1), (cb HB hw124_0), (cb HB hw124_1)⟩ (fun hHeld => ?_); clear hK K; refine nm 22 ?_; refine pu 13 23 25 16383 HT_ ?_; refine pu 14 24 25 32767 HT_ ?_; refine pu 15 25 25 65535 HT_ ?_; refine pu 16 26 25 131071 HT_ ?_; refine pu 17 27 25 262143 HT_ ?_; refine pu 18 28 25 524287 HT_ ?_; refine pu 19 29 25 1048575 HT_ ?_; refine pu 20 30 25 2097151 HT_ ?_; refine pu 21 31 25 4194303 HT_ ?_; refine tk 22 32 25 8388607 HT_ HW_ hHeld ?_; refine one_ (i := 23) (N := some 33) (bA 25 16777215) rfl rfl (one_of HT_.out (by kernel_rfl)) (by decide) (fun K hK => ?_); refine gs Try.func82 #[.slice (some ad117) y120.length c0, .agg #[.int .i8 ((rd_T39 l0 x3_1).f0), .int .i8 ((rd_T39 l0 x3_1).f1)]] ?_; with_reducible refine (spec_l01Has.calls k1 _ _ y120 ((rd_T39 l0 x3_1).f0) ((rd_T39 l0 x3_1).f1) true _ ?side1 ?side2 A14.out).mono ?_; (case side1 => repeat (first | exact (Kd.C_below HR123.out HB.out) | (with_reducible refine Kd.C_alloc ?_ _) | (with_reducible refine Kd.C_drewN ?_ _) | (with_reducible refine Kd.C_drew ?_))); (case side2 => exact HC123.out)
           rintro e w19 ⟨rfl, hb⟩
           refine ⟨_, rfl, ?_⟩; replace HB := bst HB hb; (try clear hb); (try clear hb2); (try clear hk); (try clear hi); refine hK.out _ _ ⟨(cb HB hw117_0), (cb HB hw117_1), (cb HB hw118_0), (cb HB hw118_1), (cb HB hw124_0), (cb HB hw124_1)⟩ (fun hHeld => ?_); clear hK K; refine nm 33 ?_; refine pu 24 34 25 33554431 HT_ ?_; refine done_ (done_of HT_.out (by kernel_rfl)) ?_
           try go_wp2
           go_ret
           exact ⟨by first | rfl | (simp [errW_none, errW_some] <;> rfl) | (simp only [← hji4]; first | rfl | (simp [errW_none, errW_some] <;> rfl)) | (simp [*, errW_none, errW_some] <;> rfl), pb HB⟩
          ·replace c15 := Bool.eq_false_iff.mpr c15
           subst c15
           have H1 : (spec_l02Line.l0 k1 l0 (wrap64 (x3_1 + 1))) = some r := by rw [if_neg (show ¬ (false = true) by decide)] at H; exact H
           clear H; have H := H1; clear H1; have H' := Aside0.mk H; clear H
           try go_wp2
           replace HB := Aside0.mk (below_drew1 HB.out); have p117 : 0 ≤ ((ji4) : Int) := oda; have q117 : (ji4) < (l0.length : Int) := oda; obtain ⟨ad117, e117, hx117_0, hx117_1⟩ := at_T39 HR0.out (ji4) p117 q117; have hw117_1 := hx117_1; have hw117_0 := hx117_0; cases e117
           try replace hx117_0 := cb HB hx117_0
           try replace hx117_1 := cb HB hx117_1
           replace p117 := eq_true p117; replace q117 := eq_true q117; have p118 : 0 ≤ (x3_1 : Int) := oda; have q118 : x3_1 < (l0.length : Int) := oda; obtain ⟨ad118, e118, hx118_0, hx118_1⟩ := at_T39 HR0.out x3_1 p118 q118; have hw118_1 := hx118_1; have hw118_0 := hx118_0; obtain rfl : ad117 = ad118 := (by injection e118)
           try replace hx118_0 := cb HB hx118_0
           try replace hx118_1 := cb HB hx118_1
           replace p118 := eq_true p118; replace q118 := eq_true q118; have p124 : 0 ≤ (x3_1 : Int) := oda; have q124 : x3_1 < (l0.length : Int) := oda; obtain ⟨ad124, e124, hx124_0, hx124_1⟩ := at_T39 HR0.out x3_1 p124 q124; have hw124_1 := hx124_1; have hw124_0 := hx124_0; obtain rfl : ad117 = ad124 := (by injection e124)
           try replace hx124_0 := cb HB hx124_0
           try replace hx124_1 := cb HB hx124_1
           replace p124 := eq_true p124; replace q124 := eq_true q124
           refine start_ (n := 25) (S := fun w' => w'.cell? (ad117.add (((ji4)).toNat * 2)) = some (.int .i8 ((rd_T39 l0 (ji4)).f0)) ∧ w'.cell? ⟨(ad117.add (((ji4)).toNat * 2)).block, (ad117.add (((ji4)).toNat * 2)).off + 1, none⟩ = some (.int .i8 ((rd_T39 l0 (ji4)).f1)) ∧ w'.cell? (ad117.add ((x3_1).toNat * 2)) = some (.int .i8 ((rd_T39 l0 x3_1).f0)) ∧ w'.cell? ⟨(ad117.add ((x3_1).toNat * 2)).block, (ad117.add ((x3_1).toNat * 2)).off + 1, none⟩ = some (.int .i8 ((rd_T39 l0 x3_1).f1)) ∧ w'.cell? (ad117.add ((x3_1).toNat * 2)) = some (.int .i8 ((rd_T39 l0 x3_1).f0)) ∧ w'.cell? ⟨(ad117.add ((x3_1).toNat * 2)).block, (ad117.add ((x3_1).toNat * 2)).off + 1, none⟩ = some (.int .i8 ((rd_T39 l0 x3_1).f1))) (ds := []) (bA 25 0) (by kernel_rfl) rfl rfl ⟨(cb HB hw117_0), (cb HB hw117_1), (cb HB hw118_0), (cb HB hw118_1), (cb HB hw124_0), (cb HB hw124_1)⟩ (fun hHeld => ?_); refine with_tabW spec_l02Line.tab4 spec_l02Line.bits4 (fun HT_ HW_ => ?_)
           generalize wr.drew = w20 at HB hx117_0 hx117_1 hx118_0 hx118_1 hx124_0 hx124_1 hHeld ⊢; refine pu 0 10 25 1 HT_ ?_; refine pu 1 11 25 3 HT_ ?_; refine pu 2 12 25 7 HT_ ?_; refine pu 3 13 25 15 HT_ ?_; refine pu 4 14 25 31 HT_ ?_; refine pu 5 15 25 63 HT_ ?_; refine pu 6 16 25 127 HT_ ?_; refine pu 8 18 25 383 HT_ ?_; refine pu 9 19 25 895 HT_ ?_; refine pu 10 20 25 1919 HT_ ?_; refine tk 7 17 25 2047 HT_ HW_ hHeld ?_; refine tk 11 21 25 4095 HT_ HW_ hHeld ?_; refine one_ (i := 12) (N := some 22) (bA 25 8191) rfl rfl (one_of HT_.out (by kernel_rfl)) (by decide) (fun K hK => ?_); refine goes_ Try.func81 (by kernel_rfl) rfl #[.agg #[.int .i8 ((rd_T39 l0 (ji4)).f0), .int .i8 ((rd_T39 l0 (ji4)).f1)], .agg #[.int .i8 ((rd_T39 l0 x3_1).f0), .int .i8 ((rd_T39 l0 x3_1).f1)]] (by rfl) rfl rfl (by (try simp only [List.map_toArray, List.map_cons, List.map_nil]); first | done | (simp only [hji4]; rfl) | rfl | (simp only [List.length_drop, List.length_take]; rfl)) ?_; with_reducible refine (spec_l01To.calls k1 ((rd_T39 l0 (ji4)).f0) ((rd_T39 l0 (ji4)).f1) ((rd_T39 l0 x3_1).f0) ((rd_T39 l0 x3_1).f1) t119 _ A8.out).mono ?_
           rintro e w21 ⟨rfl, hb⟩
           refine ⟨_, rfl, ?_⟩; replace HB := bst HB hb; (try clear hb); (try clear hb2); (try clear hk); (try clear hi); have q22 : (x3_1 : Int) ≤ ((l0.length : Int) : Int) := oda; obtain ⟨i022, hi022, _, hsz22, _⟩ := info_parts info39; have hroom22 : l0.length ≤ c0 := HC0.out; have hC22 : Kd.C k39 _ (some ad117) l0.length l0 := HR0.out; have hcut22 := cut_to (P := Try.prog) 37 39 .i64 Try.underlying37 hi022 (some ad117) l0.length c0 x3_1 (oda) q22 hroom22; have hr22 := Kd.C_take (m := (x3_1 : Int).toNat) hC22 (by omega); have hy22 : y120.length = (x3_1 : Int).toNat := (by rw [Ny120.out, List.length_take]; omega); rw [← Ny120.out] at hr22; rw [← hy22] at hcut22; have HR123 := Aside0.mk hr22; have HC123 := Aside0.mk (show y120.length ≤ c0 from by omega); clear hr22 hC22 hroom22 hi022 hsz22; have KY22 := Aside0.mk hy22; clear hy22; replace q22 := eq_true q22; refine hK.out _ _ ⟨(cb HB hw117_0), (cb HB hw117_1), (cb HB hw118_0), (cb HB hw118_1), (cb HB hw124_0), (cb HB hw124_1)⟩ (fun hHeld => ?_); clear hK K; refine nm 22 ?_; refine pu 13 23 25 16383 HT_ ?_; refine pu 14 24 25 32767 HT_ ?_; refine pu 15 25 25 65535 HT_ ?_; refine pu 16 26 25 131071 HT_ ?_; refine pu 17 27 25 262143 HT_ ?_; refine pu 18 28 25 524287 HT_ ?_; refine pu 19 29 25 1048575 HT_ ?_; refine pu 20 30 25 2097151 HT_ ?_; refine pu 21 31 25 4194303 HT_ ?_; refine tk 22 32 25 8388607 HT_ HW_ hHeld ?_; refine one_ (i := 23) (N := some 33) (bA 25 16777215) rfl rfl (one_of HT_.out (by kernel_rfl)) (by decide) (fun K hK => ?_); refine gs Try.func82 #[.slice (some ad117) y120.length c0, .agg #[.int .i8 ((rd_T39 l0 x3_1).f0), .int .i8 ((rd_T39 l0 x3_1).f1)]] ?_; with_reducible refine (spec_l01Has.calls k1 _ _ y120 ((rd_T39 l0 x3_1).f0) ((rd_T39 l0 x3_1).f1) false _ ?side1 ?side2 A14.out).mono ?_; (case side1 => repeat (first | exact (Kd.C_below HR123.out HB.out) | (with_reducible refine Kd.C_alloc ?_ _) | (with_reducible refine Kd.C_drewN ?_ _) | (with_reducible refine Kd.C_drew ?_))); (case side2 => exact HC123.out)
           rintro e w23 ⟨rfl, hb⟩
           refine ⟨_, rfl, ?_⟩; replace HB := bst HB hb; (try clear hb); (try clear hb2); (try clear hk); (try clear hi); refine hK.out _ _ ⟨(cb HB hw117_0), (cb HB hw117_1), (cb HB hw118_0), (cb HB hw118_1), (cb HB hw124_0), (cb HB hw124_1)⟩ (fun hHeld => ?_); clear hK K; refine nm 33 ?_; refine pu 24 34 25 33554431 HT_ ?_; refine done_ (done_of HT_.out (by kernel_rfl)) ?_
           try go_wp2
           go_roundg k1
           case measure => have := HK1.out; omega
           case rel => exact ⟨(wrap64 (x3_1 + 1)), (by first | rfl | (simp; done) | (simp [*]; done)), H', ⟨by have := HK1.out; omega⟩, ⟨pb HB⟩⟩
         ·rw [if_neg c13] at H
          exact absurd H (by simp)
       ·rw [if_neg c7] at H
        exact absurd H (by simp)
      ·rw [if_neg c6] at H
       exact absurd H (by simp)
     ·rw [if_neg c5] at H
      exact absurd H (by simp)
    ·rw [if_neg c3] at H
     have c3b0 : decide (0 < x3_1) = false := decide_eq_false c3; clear c3
     by_cases c24 : 0 ≤ x3_1
     ·rw [if_pos c24] at H
      have c24b0 := eq_true c24; have c24b1 : decide (0 ≤ x3_1) = true := decide_eq_true c24; clear c24
      by_cases c25 : x3_1 ≤ (l0.length : Int)
      ·rw [if_pos c25] at H
       have c25b0 := eq_true c25; have c25b1 : decide (x3_1 ≤ (l0.length : Int)) = true := decide_eq_true c25; clear c25; obtain ⟨y126, hy126⟩ : ∃ y_ : List (S39), y_ = (l0.take (x3_1 : Int).toNat) := ⟨_, rfl⟩
       replace H : ((spec_l01Has.f k1 y126 ((rd_T39 l0 x3_1).f0) ((rd_T39 l0 x3_1).f1)).bind fun t131 => (if t131 = true then (some false) else (spec_l02Line.l0 k1 l0 (wrap64 (x3_1 + 1))))) = some r := by first | (rw [hy126]; with_reducible exact H) | (have H2_ := (Option.bind_some _ _).symm.trans H; rw [hy126]; with_reducible exact H2_) | (have H2_ := (Option.bind_some _ _).symm.trans H; with_reducible exact H2_) | with_reducible exact H | (rw [hy126]; exact H) | exact H
       have Ny126 := Aside0.mk hy126; clear hy126; obtain ⟨t131, A26, H⟩ := obn H
       by_cases c27 : t131 = true
       ·subst c27
        have H1 : (some false) = some r := by rw [if_pos rfl] at H; exact H
        clear H; have H := H1; clear H1; obtain rfl := Option.some.inj H
        try go_wp2
        replace HB := Aside0.mk (below_drew1 HB.out); have q29 : (x3_1 : Int) ≤ ((l0.length : Int) : Int) := oda; obtain ⟨i029, hi029, _, hsz29, _⟩ := info_parts info39; have hroom29 : l0.length ≤ c0 := HC0.out; have hC29 : Kd.C k39 _ A0 l0.length l0 := HR0.out; have hcut29 := cut_to (P := Try.prog) 37 39 .i64 Try.underlying37 hi029 A0 l0.length c0 x3_1 (oda) q29 hroom29; have hr29 := Kd.C_take (m := (x3_1 : Int).toNat) hC29 (by omega); have hy29 : y126.length = (x3_1 : Int).toNat := (by rw [Ny126.out, List.length_take]; omega); rw [← Ny126.out] at hr29; rw [← hy29] at hcut29; have HR129 := Aside0.mk hr29; have HC129 := Aside0.mk (show y126.length ≤ c0 from by omega); clear hr29 hC29 hroom29 hi029 hsz29; have KY29 := Aside0.mk hy29; clear hy29; replace q29 := eq_true q29; have p130 : 0 ≤ (x3_1 : Int) := oda; have q130 : x3_1 < (l0.length : Int) := oda; obtain ⟨ad130, e130, hx130_0, hx130_1⟩ := at_T39 HR0.out x3_1 p130 q130; have hw130_1 := hx130_1; have hw130_0 := hx130_0; cases e130
        try replace hx130_0 := cb HB hx130_0
        try replace hx130_1 := cb HB hx130_1
        replace p130 := eq_true p130; replace q130 := eq_true q130
        refine start_ (n := 25) (S := fun w' => w'.cell? (ad130.add ((x3_1).toNat * 2)) = some (.int .i8 ((rd_T39 l0 x3_1).f0)) ∧ w'.cell? ⟨(ad130.add ((x3_1).toNat * 2)).block, (ad130.add ((x3_1).toNat * 2)).off + 1, none⟩ = some (.int .i8 ((rd_T39 l0 x3_1).f1))) (ds := []) (bA 25 0) (by kernel_rfl) rfl rfl ⟨(cb HB hw130_0), (cb HB hw130_1)⟩ (fun hHeld => ?_); refine with_tabW spec_l02Line.tab4 spec_l02Line.bits4 (fun HT_ HW_ => ?_)
        generalize wr.drew = w28 at HB HR129 hx130_0 hx130_1 hHeld ⊢; refine pu 0 10 25 1 HT_ ?_; refine pu 1 11 25 3 HT_ ?_; refine pu 2 12 25 7 HT_ ?_; refine pn 3 13 25 15 HT_ ?_; refine pn 4 14 25 31 HT_ ?_; refine pn 5 15 25 63 HT_ ?_; refine pn 6 16 25 127 HT_ ?_; refine pn 7 17 25 255 HT_ ?_; refine pn 8 18 25 511 HT_ ?_; refine pn 9 19 25 1023 HT_ ?_; refine pn 10 20 25 2047 HT_ ?_; refine pn 11 21 25 4095 HT_ ?_; refine pn 12 22 25 8191 HT_ ?_; refine pn 13 23 25 16383 HT_ ?_; refine pu 14 24 25 32767 HT_ ?_; refine pu 15 25 25 65535 HT_ ?_; refine pu 16 26 25 131071 HT_ ?_; refine pu 17 27 25 262143 HT_ ?_; refine pu 18 28 25 524287 HT_ ?_; refine pu 19 29 25 1048575 HT_ ?_; refine pu 20 30 25 2097151 HT_ ?_; refine pu 21 31 25 4194303 HT_ ?_; refine tk 22 32 25 8388607 HT_ HW_ hHeld ?_; refine one_ (i := 23) (N := some 33) (bA 25 16777215) rfl rfl (one_of HT_.out (by kernel_rfl)) (by decide) (fun K hK => ?_); refine gs Try.func82 #[.slice (some ad130) y126.length c0, .agg #[.int .i8 ((rd_T39 l0 x3_1).f0), .int .i8 ((rd_T39 l0 x3_1).f1)]] ?_; with_reducible refine (spec_l01Has.calls k1 _ _ y126 ((rd_T39 l0 x3_1).f0) ((rd_T39 l0 x3_1).f1) true _ ?side1 ?side2 A26.out).mono ?_; (case side1 => repeat (first | exact (Kd.C_below HR129.out HB.out) | (with_reducible refine Kd.C_alloc ?_ _) | (with_reducible refine Kd.C_drewN ?_ _) | (with_reducible refine Kd.C_drew ?_))); (case side2 => exact HC129.out)
        rintro e w30 ⟨rfl, hb⟩
        refine ⟨_, rfl, ?_⟩; replace HB := bst HB hb; (try clear hb); (try clear hb2); (try clear hk); (try clear hi); refine hK.out _ _ ⟨(cb HB hw130_0), (cb HB hw130_1)⟩ (fun hHeld => ?_); clear hK K; refine nm 33 ?_; refine pu 24 34 25 33554431 HT_ ?_; refine done_ (done_of HT_.out (by kernel_rfl)) ?_
        try go_wp2
        go_ret
        exact ⟨by first | rfl | (simp [errW_none, errW_some] <;> rfl) | (simp [*, errW_none, errW_some] <;> rfl), pb HB⟩
       ·replace c27 := Bool.eq_false_iff.mpr c27
        subst c27
        have H1 : (spec_l02Line.l0 k1 l0 (wrap64 (x3_1 + 1))) = some r := by rw [if_neg (show ¬ (false = true) by decide)] at H; exact H
        clear H; have H := H1; clear H1; have H' := Aside0.mk H; clear H
        try go_wp2
        replace HB := Aside0.mk (below_drew1 HB.out); have q32 : (x3_1 : Int) ≤ ((l0.length : Int) : Int) := oda; obtain ⟨i032, hi032, _, hsz32, _⟩ := info_parts info39; have hroom32 : l0.length ≤ c0 := HC0.out; have hC32 : Kd.C k39 _ A0 l0.length l0 := HR0.out; have hcut32 := cut_to (P := Try.prog) 37 39 .i64 Try.underlying37 hi032 A0 l0.length c0 x3_1 (oda) q32 hroom32; have hr32 := Kd.C_take (m := (x3_1 : Int).toNat) hC32 (by omega); have hy32 : y126.length = (x3_1 : Int).toNat := (by rw [Ny126.out, List.length_take]; omega); rw [← Ny126.out] at hr32; rw [← hy32] at hcut32; have HR129 := Aside0.mk hr32; have HC129 := Aside0.mk (show y126.length ≤ c0 from by omega); clear hr32 hC32 hroom32 hi032 hsz32; have KY32 := Aside0.mk hy32; clear hy32; replace q32 := eq_true q32; have p130 : 0 ≤ (x3_1 : Int) := oda; have q130 : x3_1 < (l0.length : Int) := oda; obtain ⟨ad130, e130, hx130_0, hx130_1⟩ := at_T39 HR0.out x3_1 p130 q130; have hw130_1 := hx130_1; have hw130_0 := hx130_0; cases e130
        try replace hx130_0 := cb HB hx130_0
        try replace hx130_1 := cb HB hx130_1
        replace p130 := eq_true p130; replace q130 := eq_true q130
        refine start_ (n := 25) (S := fun w' => w'.cell? (ad130.add ((x3_1).toNat * 2)) = some (.int .i8 ((rd_T39 l0 x3_1).f0)) ∧ w'.cell? ⟨(ad130.add ((x3_1).toNat * 2)).block, (ad130.add ((x3_1).toNat * 2)).off + 1, none⟩ = some (.int .i8 ((rd_T39 l0 x3_1).f1))) (ds := []) (bA 25 0) (by kernel_rfl) rfl rfl ⟨(cb HB hw130_0), (cb HB hw130_1)⟩ (fun hHeld => ?_); refine with_tabW spec_l02Line.tab4 spec_l02Line.bits4 (fun HT_ HW_ => ?_)
        generalize wr.drew = w31 at HB HR129 hx130_0 hx130_1 hHeld ⊢; refine pu 0 10 25 1 HT_ ?_; refine pu 1 11 25 3 HT_ ?_; refine pu 2 12 25 7 HT_ ?_; refine pn 3 13 25 15 HT_ ?_; refine pn 4 14 25 31 HT_ ?_; refine pn 5 15 25 63 HT_ ?_; refine pn 6 16 25 127 HT_ ?_; refine pn 7 17 25 255 HT_ ?_; refine pn 8 18 25 511 HT_ ?_; refine pn 9 19 25 1023 HT_ ?_; refine pn 10 20 25 2047 HT_ ?_; refine pn 11 21 25 4095 HT_ ?_; refine pn 12 22 25 8191 HT_ ?_; refine pn 13 23 25 16383 HT_ ?_; refine pu 14 24 25 32767 HT_ ?_; refine pu 15 25 25 65535 HT_ ?_; refine pu 16 26 25 131071 HT_ ?_; refine pu 17 27 25 262143 HT_ ?_; refine pu 18 28 25 524287 HT_ ?_; refine pu 19 29 25 1048575 HT_ ?_; refine pu 20 30 25 2097151 HT_ ?_; refine pu 21 31 25 4194303 HT_ ?_; refine tk 22 32 25 8388607 HT_ HW_ hHeld ?_; refine one_ (i := 23) (N := some 33) (bA 25 16777215) rfl rfl (one_of HT_.out (by kernel_rfl)) (by decide) (fun K hK => ?_); refine gs Try.func82 #[.slice (some ad130) y126.length c0, .agg #[.int .i8 ((rd_T39 l0 x3_1).f0), .int .i8 ((rd_T39 l0 x3_1).f1)]] ?_; with_reducible refine (spec_l01Has.calls k1 _ _ y126 ((rd_T39 l0 x3_1).f0) ((rd_T39 l0 x3_1).f1) false _ ?side1 ?side2 A26.out).mono ?_; (case side1 => repeat (first | exact (Kd.C_below HR129.out HB.out) | (with_reducible refine Kd.C_alloc ?_ _) | (with_reducible refine Kd.C_drewN ?_ _) | (with_reducible refine Kd.C_drew ?_))); (case side2 => exact HC129.out)
        rintro e w33 ⟨rfl, hb⟩
        refine ⟨_, rfl, ?_⟩; replace HB := bst HB hb; (try clear hb); (try clear hb2); (try clear hk); (try clear hi); refine hK.out _ _ ⟨(cb HB hw130_0), (cb HB hw130_1)⟩ (fun hHeld => ?_); clear hK K; refine nm 33 ?_; refine pu 24 34 25 33554431 HT_ ?_; refine done_ (done_of HT_.out (by kernel_rfl)) ?_
        try go_wp2
        go_roundg k1
        case measure => have := HK1.out; omega
        case rel => exact ⟨(wrap64 (x3_1 + 1)), (by first | rfl | (simp; done) | (simp [*]; done)), H', ⟨by have := HK1.out; omega⟩, ⟨pb HB⟩⟩
      ·rw [if_neg c25] at H
       exact absurd H (by simp)
     ·rw [if_neg c24] at H
      exact absurd H (by simp)
   ·rw [if_neg c2] at H
    have c2b0 : decide (x3_1 < (l0.length : Int)) = false := decide_eq_false c2; clear c2; obtain ⟨t116, A34, H⟩ := obn H; obtain rfl := Option.some.inj H
    go_wp2_with (first | ((with_reducible refine gate_callee (f := 31) rfl ?_); refine gl (some 37) Try.func31 #[.int .i64 (l0.length : Int), .int .i64 1, .int .i64 12] ?_; (with_reducible refine (spec_l00In.calls (l0.length : Int) 1 12 t116 _ A34.out).mono ?_); rintro e w' ⟨rfl, ⟨nd, rfl⟩⟩; refine ⟨_, rfl, ?_⟩))
    go_ret
    exact ⟨by first | rfl | (simp [errW_none, errW_some] <;> rfl) | (simp [*, errW_none, errW_some] <;> rfl), pb HB⟩
end Go.Proofs.Ytjpponjekcemjaa.PB
end
section
namespace Go.Proofs.Ytjpponjekcemjaa.PB
open Go.RowKit Go.Proofs.YtjpponjekcemjaaW.PrintWords Go.Proofs.YtjpponjekcemjaaW.PrintLast Go.Proofs.YtjpponjekcemjaaW.PrintMore Go.Proofs.Ytjpponjekcemjaa.La
attribute [local go_sem] max2_int min2_int max_two min_two max_three min_three max_four min_four   -- for this text's walks alone
set_option linter.unusedVariables false
set_option linter.unusedSimpArgs false
def spec_l02File.l0 : Nat → List (S39) → Int → Int → Int → LA 10 → Option (Bool)
 | 0, _, _, _, _, _ => none
 | k + 1, x1, x5, x1000, x1001, x1002 => if x5 < (x1.length : Int) then (if 0 ≤ x5 then ((spec_l01Free.f x1000 x1001 x1002 ((rd_T39 x1 x5).f0) ((rd_T39 x1 x5).f1)).bind fun t133 => (if t133 = true then (spec_l02File.l0 k x1 (wrap64 (x5 + 1)) x1000 x1001 x1002) else (some false))) else (none)) else ((spec_l02Line.f k x1).bind fun t134 => (some t134))
def spec_l02File.f (k : Nat) (s0_0 : Int) (s0_1 : Int) (s0_2 : LA 10) (l1 : List (S39)) : Option (Bool) := spec_l02File.l0 k l1 0 s0_0 s0_1 s0_2
theorem spec_l02File.mono_l : ∀ k, (∀ y0 y1 y2 y3 y4, LeO (spec_l02File.l0 k y0 y1 y2 y3 y4) (spec_l02File.l0 (k + 1) y0 y1 y2 y3 y4))
 | 0 => fun _ _ _ _ _ r h => by simp [spec_l02File.l0] at h
 | k + 1 => by
  have ih0 := spec_l02File.mono_l k
  ·intro y0 y1 y2 y3 y4
   unfold spec_l02File.l0
   repeat' first
   | (with_reducible exact ih0 _ _ _ _ _)
   | (with_reducible exact spec_l02Line.mono _ _)
   | (with_reducible exact LeO.refl _)
   | (with_reducible exact LeO.none _)
   | (with_reducible refine LeO.ite ?_ ?_)
   | (with_reducible refine LeO.bind ?_ (fun _ => ?_))
   | exact ih0 _ _ _ _ _
   | exact spec_l02Line.mono _ _
   | exact LeO.none _
   | refine LeO.ite ?_ ?_
   | refine LeO.bind ?_ (fun _ => ?_)
theorem spec_l02File.mono : ∀ a0 a1 a2 a3 k, LeO (spec_l02File.f k a0 a1 a2 a3) (spec_l02File.f (k + 1) a0 a1 a2 a3) := by
 intro a0 a1 a2 a3 k
 have ih0 := spec_l02File.mono_l k
 unfold spec_l02File.f
 repeat' first
   | (with_reducible exact ih0 _ _ _ _ _)
   | (with_reducible exact spec_l02Line.mono _ _)
   | (with_reducible exact LeO.refl _)
   | (with_reducible exact LeO.none _)
   | (with_reducible refine LeO.ite ?_ ?_)
   | (with_reducible refine LeO.bind ?_ (fun _ => ?_))
   | exact ih0 _ _ _ _ _
   | exact spec_l02Line.mono _ _
   | exact LeO.none _
   | refine LeO.ite ?_ ?_
   | refine LeO.bind ?_ (fun _ => ?_)
set_option maxHeartbeats 8000000 in
set_option maxRecDepth 100000 in
theorem spec_l02File.calls (k : Nat) (g0 : Nat) (s0_0 : Int) (s0_1 : Int) (s0_2 : LA 10) (A1 : Option Addr) (c1 : Nat) (l1 : List (S39)) (r : Bool) (w : World) (hb0 : w.heap[g0]? = some (.cells (mixA (Value.int .u16) [.int .i8 s0_0, .int .i8 s0_1] s0_2) 34 (0, 0))) (hr1 : Kd.C k39 w A1 l1.length l1) (hc1 : l1.length ≤ c1) (h : spec_l02File.f k s0_0 s0_1 s0_2 l1 = some r) :
  Calls Try.prog 51 #[.pointer (some ⟨g0, 0, none⟩), .slice A1 l1.length c1] w fun e w' => e = .returned (.bool r) ∧ Below w.heap.size w w' := by
 have hu39 := Try.underlying39
 have HR1 := Aside0.mk hr1
 have HC1 := Aside0.mk hc1
 clear hr1 hc1
 have BK0 := Aside0.mk hb0
 clear hb0
 have HB := Aside0.mk (Below.refl w.heap.size w)
 have H : (spec_l02File.l0 k l1 0 s0_0 s0_1 s0_2) = some r := h
 clear h
 have H' := Aside0.mk H
 clear H
 go_enter Try.func51, Try.ntmps51
 go_wp2
 go_loopg [5] k (fun kq v5 w' => ∃ (x5_1 : Int), v5 = .int .i64 x5_1 ∧ Aside0 (spec_l02File.l0 kq l1 x5_1 s0_0 s0_1 s0_2 = some r) ∧ Aside0 (kq ≤ k) ∧ Aside0 (w'.heap[g0]? = some (.cells (mixA (Value.int .u16) [.int .i8 s0_0, .int .i8 s0_1] s0_2) 34 (0, 0))) ∧ Aside0 (Below w.heap.size w w'))
 case atStart => exact ⟨(0), (by first | rfl | (simp; done) | (simp [*]; done)), H', ⟨Nat.le_refl _⟩, ⟨pk BK0⟩, ⟨pbs HB⟩⟩
 case round =>
  clear H'
  try clear c1
  try clear p2
  obtain ⟨x5_1, rfl, HA, HK1, BK0, HB⟩ := hrel
  cases gk with
  | zero => exact absurd HA.out (by simp [spec_l02File.l0])
  | succ k1 =>
   have H := HA.out; clear HA; simp only [spec_l02File.l0] at H
   by_cases c3 : x5_1 < (l1.length : Int)
   ·rw [if_pos c3] at H
    have c3b0 : decide (x5_1 < (l1.length : Int)) = true := decide_eq_true c3; clear c3
    by_cases c4 : 0 ≤ x5_1
    ·rw [if_pos c4] at H
     have c4b0 : decide (0 ≤ x5_1) = true := decide_eq_true c4; clear c4; obtain ⟨t133, A5, H⟩ := obn H
     by_cases c6 : t133 = true
     ·subst c6
      have H1 : (spec_l02File.l0 k1 l1 (wrap64 (x5_1 + 1)) s0_0 s0_1 s0_2) = some r := by rw [if_pos rfl] at H; exact H
      clear H; have H := H1; clear H1; have H' := Aside0.mk H; clear H; have p132 : 0 ≤ (x5_1 : Int) := oda; have q132 : x5_1 < (l1.length : Int) := oda; obtain ⟨ad132, e132, hx132_0, hx132_1⟩ := at_T39 HR1.out x5_1 p132 q132; cases e132
      try replace hx132_0 := cb HB hx132_0
      try replace hx132_1 := cb HB hx132_1
      replace p132 := eq_true p132; replace q132 := eq_true q132
      go_wp2_with (first | ((with_reducible refine gate_callee (f := 32) rfl ?_); refine gl (some 17) Try.func32 #[.pointer (some ⟨g0, 0, none⟩), .agg #[.int .i8 ((rd_T39 l1 x5_1).f0), .int .i8 ((rd_T39 l1 x5_1).f1)]] ?_; (with_reducible refine (spec_l01Free.calls g0 s0_0 s0_1 s0_2 ((rd_T39 l1 x5_1).f0) ((rd_T39 l1 x5_1).f1) true _ ?side1 A5.out).mono ?_); (case side1 => exact (pk BK0)); rintro e w7 ⟨rfl, hb⟩; refine ⟨_, rfl, ?_⟩; replace BK0 := bkb BK0 hb; replace HB := bst HB hb; (try clear hb); (try clear hb2); (try clear hk); (try clear hi)))
      go_roundg k1
      case measure => have := HK1.out; omega
      case rel => exact ⟨(wrap64 (x5_1 + 1)), (by first | rfl | (simp; done) | (simp [*]; done)), H', ⟨by have := HK1.out; omega⟩, ⟨pk BK0⟩, ⟨pbs HB⟩⟩
     ·replace c6 := Bool.eq_false_iff.mpr c6
      subst c6
      have H1 : (some false) = some r := by rw [if_neg (show ¬ (false = true) by decide)] at H; exact H
      clear H; have H := H1; clear H1; obtain rfl := Option.some.inj H; have p132 : 0 ≤ (x5_1 : Int) := oda; have q132 : x5_1 < (l1.length : Int) := oda; obtain ⟨ad132, e132, hx132_0, hx132_1⟩ := at_T39 HR1.out x5_1 p132 q132; cases e132
      try replace hx132_0 := cb HB hx132_0
      try replace hx132_1 := cb HB hx132_1
      replace p132 := eq_true p132; replace q132 := eq_true q132
      go_wp2_with (first | ((with_reducible refine gate_callee (f := 32) rfl ?_); refine gl (some 17) Try.func32 #[.pointer (some ⟨g0, 0, none⟩), .agg #[.int .i8 ((rd_T39 l1 x5_1).f0), .int .i8 ((rd_T39 l1 x5_1).f1)]] ?_; (with_reducible refine (spec_l01Free.calls g0 s0_0 s0_1 s0_2 ((rd_T39 l1 x5_1).f0) ((rd_T39 l1 x5_1).f1) false _ ?side1 A5.out).mono ?_); (case side1 => exact (pk BK0)); rintro e w8 ⟨rfl, hb⟩; refine ⟨_, rfl, ?_⟩; replace BK0 := bkb BK0 hb; replace HB := bst HB hb; (try clear hb); (try clear hb2); (try clear hk); (try clear hi)))
      go_ret
      exact ⟨by first | rfl | (simp [errW_none, errW_some] <;> rfl) | (simp [*, errW_none, errW_some] <;> rfl), pbs HB⟩
    ·rw [if_neg c4] at H
     exact absurd H (by simp)
   ·rw [if_neg c3] at H
    have c3b0 : decide (x5_1 < (l1.length : Int)) = false := decide_eq_false c3; clear c3; obtain ⟨t134, A9, H⟩ := obn H; obtain rfl := Option.some.inj H
    go_wp2_with (first | ((with_reducible refine gate_callee (f := 79) rfl ?_); refine gl (some 20) Try.func79 #[.slice A1 l1.length c1] ?_; (with_reducible refine (spec_l02Line.calls k1 _ _ l1 t134 _ ?side1 ?side2 A9.out).mono ?_); (case side1 => repeat (first | exact (Kd.C_below HR1.out HB.out) | (with_reducible refine Kd.C_alloc ?_ _) | (with_reducible refine Kd.C_drewN ?_ _) | (with_reducible refine Kd.C_drew ?_))); (case side2 => exact HC1.out); rintro e w10 ⟨rfl, hb⟩; refine ⟨_, rfl, ?_⟩; replace BK0 := bkb BK0 hb; replace HB := bst HB hb; (try clear hb); (try clear hb2); (try clear hk); (try clear hi)))
    go_ret
    exact ⟨by first | rfl | (simp [errW_none, errW_some] <;> rfl) | (simp [*, errW_none, errW_some] <;> rfl), pbs HB⟩
def spec_l02Ok.f (k : Nat) (s0_0 : Int) (s0_1 : Int) (s0_2 : LA 10) (l1 : List (S39)) : Option (Bool) := (spec_l01Ok.f k s0_0 s0_1 s0_2).bind fun t135 => (if t135 = true then ((spec_l02File.f k s0_0 s0_1 s0_2 l1).bind fun t136 => (some t136)) else (some false))
theorem spec_l02Ok.mono : ∀ a0 a1 a2 a3 k, LeO (spec_l02Ok.f k a0 a1 a2 a3) (spec_l02Ok.f (k + 1) a0 a1 a2 a3) := by
 intro a0 a1 a2 a3 k
 unfold spec_l02Ok.f
 repeat' first
   | (with_reducible exact spec_l01Ok.mono _ _ _ _)
   | (with_reducible exact spec_l02File.mono _ _ _ _ _)
   | (with_reducible exact LeO.refl _)
   | (with_reducible exact LeO.none _)
   | (with_reducible refine LeO.ite ?_ ?_)
   | (with_reducible refine LeO.bind ?_ (fun _ => ?_))
   | exact spec_l01Ok.mono _ _ _ _
   | exact spec_l02File.mono _ _ _ _ _
   | exact LeO.none _
   | refine LeO.ite ?_ ?_
   | refine LeO.bind ?_ (fun _ => ?_)
set_option maxHeartbeats 8000000 in
set_option maxRecDepth 100000 in
theorem spec_l02Ok.calls (k : Nat) (g0 : Nat) (s0_0 : Int) (s0_1 : Int) (s0_2 : LA 10) (A1 : Option Addr) (c1 : Nat) (l1 : List (S39)) (r : Bool) (w : World) (hb0 : w.heap[g0]? = some (.cells (mixA (Value.int .u16) [.int .i8 s0_0, .int .i8 s0_1] s0_2) 34 (0, 0))) (hr1 : Kd.C k39 w A1 l1.length l1) (hc1 : l1.length ≤ c1) (h : spec_l02Ok.f k s0_0 s0_1 s0_2 l1 = some r) :
  Calls Try.prog 29 #[.pointer (some ⟨g0, 0, none⟩), .slice A1 l1.length c1] w fun e w' => e = .returned (.bool r) ∧ Below w.heap.size w w' := by
 have HR1 := Aside0.mk hr1
 have HC1 := Aside0.mk hc1
 clear hr1 hc1
 have BK0 := Aside0.mk hb0
 clear hb0
 have HB := Aside0.mk (Below.refl w.heap.size w)
 have H : ((spec_l01Ok.f k s0_0 s0_1 s0_2).bind fun t135 => (if t135 = true then ((spec_l02File.f k s0_0 s0_1 s0_2 l1).bind fun t136 => (some t136)) else (some false))) = some r := h
 clear h
 obtain ⟨t135, A3, H⟩ := obn H
 by_cases c4 : t135 = true
 ·subst c4
  have H1 : ((spec_l02File.f k s0_0 s0_1 s0_2 l1).bind fun t136 => (some t136)) = some r := by rw [if_pos rfl] at H; exact H
  clear H; have H := H1; clear H1; obtain ⟨t136, A5, H⟩ := obn H; obtain rfl := Option.some.inj H
  go_enter Try.func29, Try.ntmps29
  go_wp2_with (first | ((with_reducible refine gate_callee (f := 50) rfl ?_); refine gl (some 6) Try.func50 #[.pointer (some ⟨g0, 0, none⟩)] ?_; (with_reducible refine (spec_l01Ok.calls k g0 s0_0 s0_1 s0_2 true _ ?side1 A3.out).mono ?_); (case side1 => exact (pk BK0)); rintro e w6 ⟨rfl, hb⟩; refine ⟨_, rfl, ?_⟩; replace BK0 := bkb BK0 hb; replace HB := bst HB hb; (try clear hb); (try clear hb2); (try clear hk); (try clear hi)) | (go_at_call 51; (with_reducible refine (spec_l02File.calls k g0 s0_0 s0_1 s0_2 _ _ l1 t136 _ ?side1 ?side2 ?side3 A5.out).mono ?_); (case side1 => exact (pk BK0)); (case side2 => repeat (first | exact (Kd.C_below HR1.out HB.out) | (with_reducible refine Kd.C_alloc ?_ _) | (with_reducible refine Kd.C_drewN ?_ _) | (with_reducible refine Kd.C_drew ?_))); (case side3 => exact HC1.out); rintro e w7 ⟨rfl, hb⟩; replace BK0 := bkb BK0 hb; replace HB := bst HB hb; (try clear hb); (try clear hb2); (try clear hk); (try clear hi)))
  go_ret
  exact ⟨by first | rfl | (simp [errW_none, errW_some] <;> rfl) | (simp [*, errW_none, errW_some] <;> rfl), pbs HB⟩
 ·replace c4 := Bool.eq_false_iff.mpr c4
  subst c4
  have H1 : (some false) = some r := by rw [if_neg (show ¬ (false = true) by decide)] at H; exact H
  clear H; have H := H1; clear H1; obtain rfl := Option.some.inj H
  go_enter Try.func29, Try.ntmps29
  go_wp2_with (first | ((with_reducible refine gate_callee (f := 50) rfl ?_); refine gl (some 6) Try.func50 #[.pointer (some ⟨g0, 0, none⟩)] ?_; (with_reducible refine (spec_l01Ok.calls k g0 s0_0 s0_1 s0_2 false _ ?side1 A3.out).mono ?_); (case side1 => exact (pk BK0)); rintro e w8 ⟨rfl, hb⟩; refine ⟨_, rfl, ?_⟩; replace BK0 := bkb BK0 hb; replace HB := bst HB hb; (try clear hb); (try clear hb2); (try clear hk); (try clear hi)))
  go_ret
  exact ⟨by first | rfl | (simp [errW_none, errW_some] <;> rfl) | (simp [*, errW_none, errW_some] <;> rfl), pbs HB⟩
def spec_l02Made.l0 : Nat → List (S39) → List (S39) → Int → Option ((List (S39)))
 | 0, _, _, _ => none
 | k + 1, x0, x5, x6 => if x6 ≥ 0 then (if 0 ≤ x6 then (if x6 < (x0.length : Int) then (if x5.length < 70368744177664 then (spec_l02Made.l0 k x0 (x5 ++ [(⟨(rd_T39 x0 x6).f0, (rd_T39 x0 x6).f1⟩ : S39)]) (wrap64 (x6 - 1))) else (none)) else (none)) else (none)) else (some x5)
def spec_l02Made.f (k : Nat) (l0 : List (S39)) (a1 : Int) : Option ((List (S39))) := (some (([] : List (S39)) : List (S39))).bind fun y137 => (if a1 = 4 then (spec_l02Made.l0 k l0 y137 (wrap64 ((l0.length : Int) - 1))) else (if a1 = 5 then (if y137.length + l0.length < 70368744177664 then (some (y137 ++ l0)) else (none)) else (if 0 < (l0.length : Int) then ((spec_l01Next.f ((rd_T39 l0 0).f0) ((rd_T39 l0 0).f1) a1).bind fun bt148 => (if y137.length < 70368744177664 then ((some (y137 ++ [(⟨bt148.1, bt148.2⟩ : S39)] : List (S39))).bind fun y150 => (if 0 ≤ (wrap64 ((l0.length : Int) - 1)) then (if (wrap64 ((l0.length : Int) - 1)) ≤ (l0.length : Int) then ((some (l0.take ((wrap64 ((l0.length : Int) - 1)) : Int).toNat : List (S39))).bind fun y153 => (if y150.length + y153.length < 70368744177664 then (some (y150 ++ y153)) else (none))) else (none)) else (none))) else (none))) else (none))))
theorem spec_l02Made.mono_l : ∀ k, (∀ y0 y1 y2, LeO (spec_l02Made.l0 k y0 y1 y2) (spec_l02Made.l0 (k + 1) y0 y1 y2))
 | 0 => fun _ _ _ r h => by simp [spec_l02Made.l0] at h
 | k + 1 => by
  have ih0 := spec_l02Made.mono_l k
  ·intro y0 y1 y2
   unfold spec_l02Made.l0
   repeat' first
   | (with_reducible exact ih0 _ _ _)
   | (with_reducible exact LeO.refl _)
   | (with_reducible exact LeO.none _)
   | (with_reducible refine LeO.ite ?_ ?_)
   | (with_reducible refine LeO.bind ?_ (fun _ => ?_))
   | exact ih0 _ _ _
   | exact LeO.none _
   | refine LeO.ite ?_ ?_
   | refine LeO.bind ?_ (fun _ => ?_)
theorem spec_l02Made.mono : ∀ a0 a1 k, LeO (spec_l02Made.f k a0 a1) (spec_l02Made.f (k + 1) a0 a1) := by
 intro a0 a1 k
 have ih0 := spec_l02Made.mono_l k
 unfold spec_l02Made.f
 repeat' first
   | (with_reducible exact ih0 _ _ _)
   | (with_reducible exact LeO.refl _)
   | (with_reducible exact LeO.none _)
   | (with_reducible refine LeO.ite ?_ ?_)
   | (with_reducible refine LeO.bind ?_ (fun _ => ?_))
   | exact ih0 _ _ _
   | exact LeO.none _
   | refine LeO.ite ?_ ?_
   | refine LeO.bind ?_ (fun _ => ?_)
set_option maxHeartbeats 8000000 in
set_option maxRecDepth 100000 in
theorem spec_l02Made.calls (k : Nat) (A0 : Option Addr) (c0 : Nat) (l0 : List (S39)) (a1 : Int) (r : List (S39)) (w : World) (hr0 : Kd.C k39 w A0 l0.length l0) (hc0 : l0.length ≤ c0) (h : spec_l02Made.f k l0 a1 = some r) :
  Calls Try.prog 39 #[.slice A0 l0.length c0, .int .i64 a1] w fun e w' => ∃ v0_ : Value, e = .returned (v0_) ∧ Kd.R k39 39 w' w.heap.size (fun _ => True) v0_ r ∧ Below w.heap.size w w' := by
 have hu39 := Try.underlying39
 have HR0 := Aside0.mk hr0
 have HC0 := Aside0.mk hc0
 clear hr0 hc0
 have HB := Aside0.mk (Below.refl w.heap.size w)
 have H : ((some (([] : List (S39)) : List (S39))).bind fun y137 => (if a1 = 4 then (spec_l02Made.l0 k l0 y137 (wrap64 ((l0.length : Int) - 1))) else (if a1 = 5 then (if y137.length + l0.length < 70368744177664 then (some (y137 ++ l0)) else (none)) else (if 0 < (l0.length : Int) then ((spec_l01Next.f ((rd_T39 l0 0).f0) ((rd_T39 l0 0).f1) a1).bind fun bt148 => (if y137.length < 70368744177664 then ((some (y137 ++ [(⟨bt148.1, bt148.2⟩ : S39)] : List (S39))).bind fun y150 => (if 0 ≤ (wrap64 ((l0.length : Int) - 1)) then (if (wrap64 ((l0.length : Int) - 1)) ≤ (l0.length : Int) then ((some (l0.take ((wrap64 ((l0.length : Int) - 1)) : Int).toNat : List (S39))).bind fun y153 => (if y150.length + y153.length < 70368744177664 then (some (y150 ++ y153)) else (none))) else (none)) else (none))) else (none))) else (none))))) = some r := h
 clear h
 obtain ⟨y137, hy137⟩ : ∃ y_ : List (S39), y_ = (([] : List (S39))) := ⟨_, rfl⟩
 replace H : (if a1 = 4 then (spec_l02Made.l0 k l0 y137 (wrap64 ((l0.length : Int) - 1))) else (if a1 = 5 then (if y137.length + l0.length < 70368744177664 then (some (y137 ++ l0)) else (none)) else (if 0 < (l0.length : Int) then ((spec_l01Next.f ((rd_T39 l0 0).f0) ((rd_T39 l0 0).f1) a1).bind fun bt148 => (if y137.length < 70368744177664 then ((some (y137 ++ [(⟨bt148.1, bt148.2⟩ : S39)] : List (S39))).bind fun y150 => (if 0 ≤ (wrap64 ((l0.length : Int) - 1)) then (if (wrap64 ((l0.length : Int) - 1)) ≤ (l0.length : Int) then ((some (l0.take ((wrap64 ((l0.length : Int) - 1)) : Int).toNat : List (S39))).bind fun y153 => (if y150.length + y153.length < 70368744177664 then (some (y150 ++ y153)) else (none))) else (none)) else (none))) else (none))) else (none)))) = some r := by first | (rw [hy137]; with_reducible exact H) | (have H2_ := (Option.bind_some _ _).symm.trans H; rw [hy137]; with_reducible exact H2_) | (have H2_ := (Option.bind_some _ _).symm.trans H; with_reducible exact H2_) | with_reducible exact H | (rw [hy137]; exact H) | exact H
 have Ny137 := Aside0.mk hy137
 clear hy137
 by_cases c3 : a1 = 4
 ·rw [if_pos c3] at H
  have c3b0 : (a1 == 4) = true := beq_iff_eq.mpr c3; have c3b1 : (a1 != 4) = false := bne_eq_false_iff_eq.mpr c3; clear c3; have H' := Aside0.mk H; clear H
  go_enter Try.func39, Try.ntmps39
  go_wp2_with (first | ((with_reducible refine gate_dst (N := 7) rfl ?_); refine Kd.R_lit k39 _ 39 ?hg (N := 7) ?hd (xs := ([] : List (S39))) (inner := []) (ok := fun _ => True) (okp := fun _ => True) ?hr ?hp (fun _ hk => hk) trivial (Below.refl _ _) (Nat.le_refl _) (by simp) ?_; (case hd => rfl); (case hg => rfl); (case hr => first | (go_simp; done) | (go_simp; rfl)); (case hp => exact (Reps.none _ _)); intro v138 w4 ho5 hb hg_ hnew_; clear hg_ hnew_; (first | rw [← Ny137.out] at ho5 | (simp only [Int.reduceToNat] at ho5; rw [← Ny137.out] at ho5)); have HO139 := Aside0.mk (Kd.R_lower ho5 (below_size (by repeat (first | (with_reducible first | exact HB.out | apply below_alloc | apply pw_below_drewN | apply below_drew1) | exact HB.out)))); replace HB := bst HB hb; clear hb ho5))
  go_loopg [5, 6] k (fun kq v5 v6 w' => ∃ (x5_1 : List (S39)) (x6_1 : Int), v6 = .int .i64 x6_1 ∧ Aside0 (spec_l02Made.l0 kq l0 x5_1 x6_1 = some r) ∧ Aside0 (kq ≤ k) ∧ Aside0 (Kd.R k39 39 w' w.heap.size (fun _ => True) v5 x5_1) ∧ Aside0 (Below w.heap.size w w'))
  case atStart => exact ⟨(y137), (wrap64 ((l0.length : Int) - 1)), (by first | rfl | (simp; done) | (simp [*]; done)), H', ⟨Nat.le_refl _⟩, ⟨by (with_reducible repeat (first | apply Kd.R_alloc | apply Kd.R_drewN | apply Kd.R_drew)); exact HO139.out⟩, ⟨pb HB⟩⟩
  case round =>
   clear H'
   try clear p2
   try clear c3
   try clear c3b0
   try clear c3b1
   obtain ⟨x5_1, x6_1, rfl, HA, HK1, HO_5, HB⟩ := hrel
   cases gk with
   | zero => exact absurd HA.out (by simp [spec_l02Made.l0])
   | succ k1 =>
    have H := HA.out; clear HA; simp only [spec_l02Made.l0] at H
    by_cases c6 : x6_1 ≥ 0
    ·rw [if_pos c6] at H
     have c6b0 : decide (0 ≤ x6_1) = true := decide_eq_true c6; clear c6
     by_cases c7 : 0 ≤ x6_1
     ·rw [if_pos c7] at H
      have c7b0 : decide (0 ≤ x6_1) = true := decide_eq_true c7; clear c7
      by_cases c8 : x6_1 < (l0.length : Int)
      ·rw [if_pos c8] at H
       have c8b0 : decide (x6_1 < (l0.length : Int)) = true := decide_eq_true c8; clear c8
       by_cases c9 : x5_1.length < 70368744177664
       ·rw [if_pos c9] at H
        have LMc9 := Aside0.mk c9; clear c9; obtain ⟨y141, hy141⟩ : ∃ y_ : List (S39), y_ = (x5_1 ++ [(⟨(rd_T39 l0 x6_1).f0, (rd_T39 l0 x6_1).f1⟩ : S39)]) := ⟨_, rfl⟩
        replace H : (spec_l02Made.l0 k1 l0 y141 (wrap64 (x6_1 - 1))) = some r := by first | (rw [hy141]; with_reducible exact H) | (have H2_ := (Option.bind_some _ _).symm.trans H; rw [hy141]; with_reducible exact H2_) | (have H2_ := (Option.bind_some _ _).symm.trans H; with_reducible exact H2_) | with_reducible exact H | (rw [hy141]; exact H) | exact H
        have Ny141 := Aside0.mk hy141; clear hy141; have H' := Aside0.mk H; clear H; have p140 : 0 ≤ (x6_1 : Int) := oda; have q140 : x6_1 < (l0.length : Int) := oda; obtain ⟨ad140, e140, hx140_0, hx140_1⟩ := at_T39 HR0.out x6_1 p140 q140; cases e140
        try replace hx140_0 := cb HB hx140_0
        try replace hx140_1 := cb HB hx140_1
        replace p140 := eq_true p140; replace q140 := eq_true q140
        go_wp2_with (first | ((with_reducible refine gate_builtin (b := .append) (xs := #[.tmp 33, .tmp 38]) rfl ?_); at_builtin; refine Kd.R_append k39 (w0 := w) w.heap.size rfl (.tmp 33) (.tmp 38) 37 39 (.agg #[(.int .i8 0), (.int .i8 0)]) 2 rfl Try.underlying37 info39 rfl (by decide) (by omega) u5 x5_1 (⟨(rd_T39 l0 x6_1).f0, (rd_T39 l0 x6_1).f1⟩ : S39) [.int .i8 ((rd_T39 l0 x6_1).f0), .int .i8 ((rd_T39 l0 x6_1).f1)] (fun _ => True) (fun _ => False) rfl rfl ?aP (fun _ hk => hk.elim) ?aF ?aO ?aB ?aS ?aL ?_; (case aP => exact k39_mkM _ _ _ (⟨(rd_T39 l0 x6_1).f0, (rd_T39 l0 x6_1).f1⟩ : S39)); (case aB => exact (pb HB)); (case aF => exact (fun _ _ => trivial)); (case aO => exact (by (with_reducible repeat (first | apply Kd.R_alloc | apply Kd.R_drewN | apply Kd.R_drew)); exact HO_5.out)); (case aS => exact (below_size (by repeat (first | (with_reducible first | exact HB.out | apply below_alloc | apply pw_below_drewN | apply below_drew1) | exact HB.out)))); (case aL => have := LMc9.out; omega); intro v142 w10 ho hb hg hat; rw [← Ny141.out] at ho; have n0_ := Aside0.mk (hb); have n1_ := Aside0.mk (ho); clear HB; clear HO_5; have HB := n0_; have HO143 := n1_; clear n0_ n1_; clear ho hb hg hat))
        go_roundg k1
        case measure => have := HK1.out; omega
        case rel => exact ⟨(y141), (wrap64 (x6_1 - 1)), (by first | rfl | (simp; done) | (simp [*]; done)), H', ⟨by have := HK1.out; omega⟩, ⟨by (with_reducible repeat (first | apply Kd.R_alloc | apply Kd.R_drewN | apply Kd.R_drew)); exact HO143.out⟩, ⟨pb HB⟩⟩
       ·rw [if_neg c9] at H
        exact absurd H (by simp)
      ·rw [if_neg c8] at H
       exact absurd H (by simp)
     ·rw [if_neg c7] at H
      exact absurd H (by simp)
    ·rw [if_neg c6] at H
     have c6b0 : decide (0 ≤ x6_1) = false := decide_eq_false c6; clear c6; obtain rfl := Option.some.inj H
     go_wp2
     go_ret
     exact ⟨_, by first | rfl | (simp [errW_none, errW_some] <;> rfl) | (simp [*, errW_none, errW_some] <;> rfl), by (with_reducible repeat (first | apply Kd.R_alloc | apply Kd.R_drewN | apply Kd.R_drew)); exact HO_5.out, pb HB⟩
 ·rw [if_neg c3] at H
  have c3b0 : (a1 == 4) = false := beq_eq_false_iff_ne.mpr c3; have c3b1 : (a1 != 4) = true := bne_iff_ne.mpr c3
  by_cases c11 : a1 = 5
  ·rw [if_pos c11] at H
   have c11b0 : (a1 == 5) = true := beq_iff_eq.mpr c11; have c11b1 : (a1 != 5) = false := bne_eq_false_iff_eq.mpr c11; clear c11
   by_cases c12 : y137.length + l0.length < 70368744177664
   ·rw [if_pos c12] at H
    have LMc12 := Aside0.mk c12; clear c12; obtain ⟨y144, hy144⟩ : ∃ y_ : List (S39), y_ = (y137 ++ l0) := ⟨_, rfl⟩
    replace H : (some y144) = some r := by first | (rw [hy144]; with_reducible exact H) | (have H2_ := (Option.bind_some _ _).symm.trans H; rw [hy144]; with_reducible exact H2_) | (have H2_ := (Option.bind_some _ _).symm.trans H; with_reducible exact H2_) | with_reducible exact H | (rw [hy144]; exact H) | exact H
    have Ny144 := Aside0.mk hy144; clear hy144; obtain rfl := Option.some.inj H
    go_enter Try.func39, Try.ntmps39
    go_wp2_with (first | ((with_reducible refine gate_dst (N := 7) rfl ?_); refine Kd.R_lit k39 _ 39 ?hg (N := 7) ?hd (xs := ([] : List (S39))) (inner := []) (ok := fun _ => True) (okp := fun _ => True) ?hr ?hp (fun _ hk => hk) trivial (Below.refl _ _) (Nat.le_refl _) (by simp) ?_; (case hd => rfl); (case hg => rfl); (case hr => first | (go_simp; done) | (go_simp; rfl)); (case hp => exact (Reps.none _ _)); intro v138 w13 ho14 hb hg_ hnew_; clear hg_ hnew_; (first | rw [← Ny137.out] at ho14 | (simp only [Int.reduceToNat] at ho14; rw [← Ny137.out] at ho14)); have HO139 := Aside0.mk (Kd.R_lower ho14 (below_size (by repeat (first | (with_reducible first | exact HB.out | apply below_alloc | apply pw_below_drewN | apply below_drew1) | exact HB.out)))); replace HB := bst HB hb; clear hb ho14) | ((with_reducible refine gate_builtin (b := .append) (xs := #[.tmp 42, .tmp 43]) rfl ?_); at_builtin; refine Kd.R_append_rows k39 (w0 := w) w.heap.size rfl (.tmp 42) (.tmp 43) 37 39 (.agg #[(.int .i8 0), (.int .i8 0)]) 2 rfl Try.underlying37 info39 rfl (by decide) (by omega) v138 y137 l0 _ _ _ (fun _ => True) (fun _ => False) rfl rfl ?aO ?aR (fun _ _ h => h) (fun _ h => h.elim) ?aF ?aB ?aS ?aL ?_; (case aR => repeat (first | exact (Kd.C_below HR0.out HB.out) | (with_reducible refine Kd.C_alloc ?_ _) | (with_reducible refine Kd.C_drewN ?_ _) | (with_reducible refine Kd.C_drew ?_))); (case aB => exact (pb HB)); (case aF => exact (fun _ _ => trivial)); (case aO => exact (by (with_reducible repeat (first | apply Kd.R_alloc | apply Kd.R_drewN | apply Kd.R_drew)); exact HO139.out)); (case aS => exact (below_size (by repeat (first | (with_reducible first | exact HB.out | apply below_alloc | apply pw_below_drewN | apply below_drew1) | exact HB.out)))); (case aL => have := LMc12.out; omega); intro v145 w15 ho hb hg hat; rw [← Ny144.out] at ho; have n0_ := Aside0.mk (hb); have n1_ := Aside0.mk (ho); clear HB; clear HO139; have HB := n0_; have HO146 := n1_; clear n0_ n1_; clear ho hb hg hat))
    go_ret
    exact ⟨_, by first | rfl | (simp [errW_none, errW_some] <;> rfl) | (simp [*, errW_none, errW_some] <;> rfl), by (with_reducible repeat (first | apply Kd.R_alloc | apply Kd.R_drewN | apply Kd.R_drew)); exact HO146.out, pb HB⟩
   ·rw [if_neg c12] at H
    exact absurd H (by simp)
  ·rw [if_neg c11] at H
   have c11b0 : (a1 == 5) = false := beq_eq_false_iff_ne.mpr c11; have c11b1 : (a1 != 5) = true := bne_iff_ne.mpr c11
   by_cases c16 : 0 < (l0.length : Int)
   ·rw [if_pos c16] at H
    have c16b0 : decide (0 < (l0.length : Int)) = true := decide_eq_true c16; have c16b1 : decide (0 < l0.length) = true := decide_eq_true (by omega); clear c16; replace H := Option.bind_eq_some_iff.mp H; obtain ⟨⟨t148, t149⟩, A170, H⟩ := H; replace H : (if y137.length < 70368744177664 then ((some (y137 ++ [(⟨t148, t149⟩ : S39)] : List (S39))).bind fun y150 => (if 0 ≤ (wrap64 ((l0.length : Int) - 1)) then (if (wrap64 ((l0.length : Int) - 1)) ≤ (l0.length : Int) then ((some (l0.take ((wrap64 ((l0.length : Int) - 1)) : Int).toNat : List (S39))).bind fun y153 => (if y150.length + y153.length < 70368744177664 then (some (y150 ++ y153)) else (none))) else (none)) else (none))) else (none)) = some r := H; have A17 := Aside0.mk A170; clear A170
    by_cases c18 : y137.length < 70368744177664
    ·rw [if_pos c18] at H
     have LMc18 := Aside0.mk c18; clear c18; obtain ⟨y150, hy150⟩ : ∃ y_ : List (S39), y_ = (y137 ++ [(⟨t148, t149⟩ : S39)]) := ⟨_, rfl⟩
     replace H : (if 0 ≤ (wrap64 ((l0.length : Int) - 1)) then (if (wrap64 ((l0.length : Int) - 1)) ≤ (l0.length : Int) then ((some (l0.take ((wrap64 ((l0.length : Int) - 1)) : Int).toNat : List (S39))).bind fun y153 => (if y150.length + y153.length < 70368744177664 then (some (y150 ++ y153)) else (none))) else (none)) else (none)) = some r := by first | (rw [hy150]; with_reducible exact H) | (have H2_ := (Option.bind_some _ _).symm.trans H; rw [hy150]; with_reducible exact H2_) | (have H2_ := (Option.bind_some _ _).symm.trans H; with_reducible exact H2_) | with_reducible exact H | (rw [hy150]; exact H) | exact H
     have Ny150 := Aside0.mk hy150; clear hy150; obtain ⟨ji19, hji19⟩ : ∃ j_ : Int, (wrap64 ((l0.length : Int) - 1)) = j_ := ⟨_, rfl⟩
     replace H : (if 0 ≤ (ji19) then (if (ji19) ≤ (l0.length : Int) then ((some (l0.take ((ji19) : Int).toNat : List (S39))).bind fun y153 => (if y150.length + y153.length < 70368744177664 then (some (y150 ++ y153)) else (none))) else (none)) else (none)) = some r := by first | (rw [hji19] at H; exact H) | (simp only [hji19] at H ⊢; exact H)
     (try rw [hji19] at A17); have hji19w : (IntKind.i64.wrap ((l0.length : Int) - 1)) = ji19 := (i64_w _).trans hji19
     by_cases c20 : 0 ≤ (ji19)
     ·rw [if_pos c20] at H
      have c20b0 := eq_true c20; have c20b1 : decide (0 ≤ (ji19)) = true := decide_eq_true c20; clear c20
      by_cases c21 : (ji19) ≤ (l0.length : Int)
      ·rw [if_pos c21] at H
       have c21b0 := eq_true c21; have c21b1 : decide ((ji19) ≤ (l0.length : Int)) = true := decide_eq_true c21; clear c21; obtain ⟨y153, hy153⟩ : ∃ y_ : List (S39), y_ = (l0.take ((ji19) : Int).toNat) := ⟨_, rfl⟩
       replace H : (if y150.length + y153.length < 70368744177664 then (some (y150 ++ y153)) else (none)) = some r := by first | (rw [hy153]; with_reducible exact H) | (have H2_ := (Option.bind_some _ _).symm.trans H; rw [hy153]; with_reducible exact H2_) | (have H2_ := (Option.bind_some _ _).symm.trans H; with_reducible exact H2_) | with_reducible exact H | (rw [hy153]; exact H) | exact H
       have Ny153 := Aside0.mk hy153; clear hy153
       by_cases c22 : y150.length + y153.length < 70368744177664
       ·rw [if_pos c22] at H
        have LMc22 := Aside0.mk c22; clear c22; obtain ⟨y157, hy157⟩ : ∃ y_ : List (S39), y_ = (y150 ++ y153) := ⟨_, rfl⟩
        replace H : (some y157) = some r := by first | (rw [hy157]; with_reducible exact H) | (have H2_ := (Option.bind_some _ _).symm.trans H; rw [hy157]; with_reducible exact H2_) | (have H2_ := (Option.bind_some _ _).symm.trans H; with_reducible exact H2_) | with_reducible exact H | (rw [hy157]; exact H) | exact H
        have Ny157 := Aside0.mk hy157; clear hy157; obtain rfl := Option.some.inj H
        go_enter Try.func39, Try.ntmps39
        go_wp2_with (first | ((with_reducible refine gate_dst (N := 7) rfl ?_); refine Kd.R_lit k39 _ 39 ?hg (N := 7) ?hd (xs := ([] : List (S39))) (inner := []) (ok := fun _ => True) (okp := fun _ => True) ?hr ?hp (fun _ hk => hk) trivial (Below.refl _ _) (Nat.le_refl _) (by simp) ?_; (case hd => rfl); (case hg => rfl); (case hr => first | (go_simp; done) | (go_simp; rfl)); (case hp => exact (Reps.none _ _)); intro v138 w23 ho24 hb hg_ hnew_; clear hg_ hnew_; (first | rw [← Ny137.out] at ho24 | (simp only [Int.reduceToNat] at ho24; rw [← Ny137.out] at ho24)); have HO139 := Aside0.mk (Kd.R_lower ho24 (below_size (by repeat (first | (with_reducible first | exact HB.out | apply below_alloc | apply pw_below_drewN | apply below_drew1) | exact HB.out)))); replace HB := bst HB hb; clear hb ho24; have p147 : 0 ≤ (0 : Int) := (by omega); have q147 : 0 < (l0.length : Int) := oda; obtain ⟨ad147, e147, hx147_0, hx147_1⟩ := at_T39 HR0.out 0 p147 q147; cases e147; have qi147 : (0 < l0.length) = True := eq_true (by omega); (try rw [show ((0 : Int)).toNat = 0 from rfl] at hx147_0); (try rw [show 0 * 2 = 0 from rfl] at hx147_0); (try rw [Addr.add_zero'] at hx147_0); (try rw [show ((0 : Int)).toNat = 0 from rfl] at hx147_1); (try rw [show 0 * 2 = 0 from rfl] at hx147_1); (try rw [Addr.add_zero'] at hx147_1); try replace hx147_0 := cb HB hx147_0; try replace hx147_1 := cb HB hx147_1; replace p147 := eq_true p147; replace q147 := eq_true q147) | ((with_reducible refine gate_callee (f := 66) rfl ?_); refine gl (some 14) Try.func66 #[.agg #[.int .i8 ((rd_T39 l0 0).f0), .int .i8 ((rd_T39 l0 0).f1)], .int .i64 a1] ?_; (with_reducible refine (spec_l01Next.calls ((rd_T39 l0 0).f0) ((rd_T39 l0 0).f1) a1 t148 t149 _ A17.out).mono ?_); rintro e w25 ⟨rfl, hb⟩; refine ⟨_, rfl, ?_⟩; replace HO139 := krb HO139 hb; replace HB := bst HB hb; (try clear hb); (try clear hb2); (try clear hk); (try clear hi)) | ((with_reducible refine gate_builtin (b := .append) (xs := #[.tmp 9, .tmp 15]) rfl ?_); at_builtin; refine Kd.R_append k39 (w0 := w) w.heap.size rfl (.tmp 9) (.tmp 15) 37 39 (.agg #[(.int .i8 0), (.int .i8 0)]) 2 rfl Try.underlying37 info39 rfl (by decide) (by omega) v138 y137 (⟨t148, t149⟩ : S39) [.int .i8 t148, .int .i8 t149] (fun _ => True) (fun _ => False) rfl rfl ?aP (fun _ hk => hk.elim) ?aF ?aO ?aB ?aS ?aL ?_; (case aP => exact k39_mkM _ _ _ (⟨t148, t149⟩ : S39)); (case aB => exact (pb HB)); (case aF => exact (fun _ _ => trivial)); (case aO => exact (by (with_reducible repeat (first | apply Kd.R_alloc | apply Kd.R_drewN | apply Kd.R_drew)); exact HO139.out)); (case aS => exact (below_size (by repeat (first | (with_reducible first | exact HB.out | apply below_alloc | apply pw_below_drewN | apply below_drew1) | exact HB.out)))); (case aL => have := LMc18.out; omega); intro v151 w26 ho hb hg hat; rw [← Ny150.out] at ho; have n0_ := Aside0.mk (hb); have n1_ := Aside0.mk (ho); clear HB; clear HO139; have HB := n0_; have HO152 := n1_; clear n0_ n1_; clear ho hb hg hat; have q27 : ((ji19) : Int) ≤ ((l0.length : Int) : Int) := oda; obtain ⟨i027, hi027, _, hsz27, _⟩ := info_parts info39; have hroom27 : l0.length ≤ c0 := HC0.out; have hC27 : Kd.C k39 _ (some ad147) l0.length l0 := HR0.out; have hcut27 := cut_to (P := Try.prog) 37 39 .i64 Try.underlying37 hi027 (some ad147) l0.length c0 (ji19) (oda) q27 hroom27; have hr27 := Kd.C_take (m := ((ji19) : Int).toNat) hC27 (by omega); have hy27 : y153.length = ((ji19) : Int).toNat := (by rw [Ny153.out, List.length_take]; omega); rw [← Ny153.out] at hr27; rw [← hy27] at hcut27; have HR156 := Aside0.mk hr27; have HC156 := Aside0.mk (show y153.length ≤ c0 from by omega); clear hr27 hC27 hroom27 hi027 hsz27; have KY27 := Aside0.mk hy27; clear hy27; replace q27 := eq_true q27) | ((with_reducible refine gate_builtin (b := .append) (xs := #[.tmp 17, .tmp 22]) rfl ?_); at_builtin; refine Kd.R_append_rows k39 (w0 := w) w.heap.size rfl (.tmp 17) (.tmp 22) 37 39 (.agg #[(.int .i8 0), (.int .i8 0)]) 2 rfl Try.underlying37 info39 rfl (by decide) (by omega) v151 y150 y153 _ _ _ (fun _ => True) (fun _ => False) rfl rfl ?aO ?aR (fun _ _ h => h) (fun _ h => h.elim) ?aF ?aB ?aS ?aL ?_; (case aR => repeat (first | exact (Kd.C_below HR156.out HB.out) | (with_reducible refine Kd.C_alloc ?_ _) | (with_reducible refine Kd.C_drewN ?_ _) | (with_reducible refine Kd.C_drew ?_))); (case aB => exact (pb HB)); (case aF => exact (fun _ _ => trivial)); (case aO => exact (by (with_reducible repeat (first | apply Kd.R_alloc | apply Kd.R_drewN | apply Kd.R_drew)); exact HO152.out)); (case aS => exact (below_size (by repeat (first | (with_reducible first | exact HB.out | apply below_alloc | apply pw_below_drewN | apply below_drew1) | exact HB.out)))); (case aL => have := LMc22.out; omega); intro v158 w28 ho hb hg hat; rw [← Ny157.out] at ho; have n0_ := Aside0.mk (hb); have n1_ := Aside0.mk (ho); clear HB; clear HO152; have HB := n0_; have HO159 := n1_; clear n0_ n1_; clear ho hb hg hat))
        go_ret
        exact ⟨_, by first | rfl | (simp [errW_none, errW_some] <;> rfl) | (simp only [← hji19]; first | rfl | (simp [errW_none, errW_some] <;> rfl)) | (simp [*, errW_none, errW_some] <;> rfl), by (with_reducible repeat (first | apply Kd.R_alloc | apply Kd.R_drewN | apply Kd.R_drew)); exact HO159.out, pb HB⟩
       ·rw [if_neg c22] at H
        exact absurd H (by simp)
      ·rw [if_neg c21] at H
       exact absurd H (by simp)
     ·rw [if_neg c20] at H
      exact absurd H (by simp)
    ·rw [if_neg c18] at H
     exact absurd H (by simp)
   ·rw [if_neg c16] at H
    exact absurd H (by simp)
end Go.Proofs.Ytjpponjekcemjaa.PB
end
section
namespace Go.Proofs.Ytjpponjekcemjaa.PB
open Go.RowKit Go.Proofs.YtjpponjekcemjaaW.PrintWords Go.Proofs.YtjpponjekcemjaaW.PrintLast Go.Proofs.YtjpponjekcemjaaW.PrintMore Go.Proofs.Ytjpponjekcemjaa.La
attribute [local go_sem] max2_int min2_int max_two min_two max_three min_three max_four min_four   -- for this text's walks alone
set_option linter.unusedVariables false
set_option linter.unusedSimpArgs false
def spec_Decimal.f : Nat → Int → Option (ByteArray)
 | 0, _ => none
 | k + 1, a0 => if a0 < 10 then (some (strOfNums (([(wrap64 (48 + (Int.tmod a0 10))) % 256] : List Int)))) else ((spec_Decimal.f k (wrap64 (Int.tdiv a0 10))).bind fun t163 => ((some (([(wrap64 (48 + (Int.tmod a0 10))) % 256] : List Int) : List Int)).bind fun y164 => (if t163.size + (strOfNums y164).size ≤ 9223372036854775807 then (some (t163 ++ (strOfNums y164))) else (none))))
theorem spec_Decimal.mono_l : ∀ k, (∀ y0, LeO (spec_Decimal.f k y0) (spec_Decimal.f (k + 1) y0))
 | 0 => fun _ r h => by simp [spec_Decimal.f] at h
 | k + 1 => by
  have ih0 := spec_Decimal.mono_l k
  ·intro y0
   unfold spec_Decimal.f
   repeat' first
   | (with_reducible exact ih0 _)
   | (with_reducible exact LeO.refl _)
   | (with_reducible exact LeO.none _)
   | (with_reducible refine LeO.ite ?_ ?_)
   | (with_reducible refine LeO.bind ?_ (fun _ => ?_))
   | exact ih0 _
   | exact LeO.none _
   | refine LeO.ite ?_ ?_
   | refine LeO.bind ?_ (fun _ => ?_)
theorem spec_Decimal.mono : ∀ a0 k, LeO (spec_Decimal.f k a0) (spec_Decimal.f (k + 1) a0) := by
 intro a0 k
 have ih0 := spec_Decimal.mono_l k
 exact ih0 a0
def spec_Decimal.T3 : Bool × List (List Nat × List Nat) := (true, [([], []), ([0], [0]), ([1], [1]), ([], []), ([3], [3]), ([4], [4]), ([5], [5]), ([6], [6]), ([7], [7]), ([2, 8], [2, 8]), ([9, 2, 0, 1, 2, 3, 4, 5, 6, 7, 8, 9], [9])])
def spec_Decimal.B3 : List Nat := [0, 1, 3, 0, 8, 24, 56, 120, 248, 511, 1023]
theorem spec_Decimal.tab3 : rtab .any (opsOf Try.f80 3) = spec_Decimal.T3 := by kernel_rfl
theorem spec_Decimal.bits3 : waitsOk spec_Decimal.T3.2 spec_Decimal.B3 = true := by kernel_rfl
set_option maxHeartbeats 8000000 in
set_option maxRecDepth 100000 in
theorem spec_Decimal.calls (k : Nat) : ∀ (a0 : Int) (r : ByteArray) (w : World) (h : spec_Decimal.f k a0 = some r),
  Calls Try.prog 80 #[.int .i64 a0] w fun e w' => e = .returned (.string r) ∧ Below w.heap.size w w' := by
 induction k using Nat.strongRecOn with
 | _ k ih =>
 intro a0 r w h
 cases k with
 | zero => exact absurd h (by simp [spec_Decimal.f])
 | succ k =>
 simp only [spec_Decimal.f] at h
 have HB := Aside0.mk (Below.refl w.heap.size w)
 have H : (if a0 < 10 then (some (strOfNums (([(wrap64 (48 + (Int.tmod a0 10))) % 256] : List Int)))) else ((spec_Decimal.f k (wrap64 (Int.tdiv a0 10))).bind fun t163 => ((some (([(wrap64 (48 + (Int.tmod a0 10))) % 256] : List Int) : List Int)).bind fun y164 => (if t163.size + (strOfNums y164).size ≤ 9223372036854775807 then (some (t163 ++ (strOfNums y164))) else (none))))) = some r := h
 clear h
 by_cases c2 : a0 < 10
 ·rw [if_pos c2] at H
  have c2b0 : decide (a0 < 10) = true := decide_eq_true c2; clear c2; obtain ⟨y160, hy160⟩ : ∃ y_ : List Int, y_ = (([(wrap64 (48 + (Int.tmod a0 10))) % 256] : List Int)) := ⟨_, rfl⟩
  replace H : (some (strOfNums y160)) = some r := by first | (rw [hy160]; with_reducible exact H) | (have H2_ := (Option.bind_some _ _).symm.trans H; rw [hy160]; with_reducible exact H2_) | (have H2_ := (Option.bind_some _ _).symm.trans H; with_reducible exact H2_) | with_reducible exact H | (rw [hy160]; exact H) | exact H
  have Ny160 := Aside0.mk hy160; clear hy160; obtain rfl := Option.some.inj H
  go_enter Try.func80, Try.ntmps80
  go_wp2_with (first | ((with_reducible refine gate_dst (N := 9) rfl ?_); refine Kd.R_lit (Kd.int .u8) _ 5 ?hg (N := 9) ?hd (xs := ([(wrap64 (48 + (Int.tmod a0 10))) % 256] : List Int)) (inner := [.int .u8 ((wrap64 (48 + (Int.tmod a0 10))) % 256)]) (ok := fun _ => True) (okp := fun _ => True) ?hr ?hp (fun _ hk => hk) trivial (Below.refl _ _) (Nat.le_refl _) (by simp) ?_; (case hd => rfl); (case hg => rfl); (case hr => first | (go_simp; done) | (go_simp; rfl)); (case hp => exact (Reps.one (show Kd.M (Kd.int .u8) _ _ _ ((wrap64 (48 + (Int.tmod a0 10))) % 256) [.int .u8 ((wrap64 (48 + (Int.tmod a0 10))) % 256)] from rfl) (Reps.none _ _))); intro v161 w3 ho4 hb hg_ hnew_; clear hg_ hnew_; (first | rw [← Ny160.out] at ho4 | (simp only [Int.reduceToNat] at ho4; rw [← Ny160.out] at ho4)); have HO162 := Aside0.mk (Kd.R_lower ho4 (below_size (by repeat (first | (with_reducible first | exact HB.out | apply below_alloc | apply pw_below_drewN | apply below_drew1) | exact HB.out)))); replace HB := bst HB hb; clear hb ho4; have hcv5 := own_string (P := Try.prog) Try.underlying52 Try.underlying5 Try.underlying9 (Kd.own_of_R HO162.out)))
  go_ret
  exact ⟨by first | rfl | (simp [errW_none, errW_some] <;> rfl) | (simp [*, errW_none, errW_some] <;> rfl), pb HB⟩
 ·rw [if_neg c2] at H
  have c2b0 : decide (a0 < 10) = false := decide_eq_false c2; clear c2; obtain ⟨t163, A6, H⟩ := obn H; obtain ⟨y164, hy164⟩ : ∃ y_ : List Int, y_ = (([(wrap64 (48 + (Int.tmod a0 10))) % 256] : List Int)) := ⟨_, rfl⟩
  replace H : (if t163.size + (strOfNums y164).size ≤ 9223372036854775807 then (some (t163 ++ (strOfNums y164))) else (none)) = some r := by first | (rw [hy164]; with_reducible exact H) | (have H2_ := (Option.bind_some _ _).symm.trans H; rw [hy164]; with_reducible exact H2_) | (have H2_ := (Option.bind_some _ _).symm.trans H; with_reducible exact H2_) | with_reducible exact H | (rw [hy164]; exact H) | exact H
  have Ny164 := Aside0.mk hy164; clear hy164
  by_cases c7 : t163.size + (strOfNums y164).size ≤ 9223372036854775807
  ·rw [if_pos c7] at H
   have c7b0 := eq_true c7; have c7b1 : decide (t163.size + (strOfNums y164).size ≤ 9223372036854775807) = true := decide_eq_true c7
   try have c7b2 : (9223372036854775807 < t163.size + (strOfNums y164).size) = False := eq_false (Nat.not_lt.2 c7)
   obtain rfl := Option.some.inj H
   go_enter Try.func80, Try.ntmps80
   try go_wp2
   replace HB := Aside0.mk (below_drew1 HB.out)
   refine start_ (n := 11) (S := fun w' => True) (ds := []) (bA 11 0) (by kernel_rfl) rfl rfl trivial (fun hHeld => ?_); refine with_tabW spec_Decimal.tab3 spec_Decimal.bits3 (fun HT_ HW_ => ?_)
   generalize w.drew = w8 at HB hHeld ⊢; refine pu 0 11 11 1 HT_ ?_; refine pu 1 12 11 3 HT_ ?_; refine pu 3 14 11 11 HT_ ?_; refine pu 4 15 11 27 HT_ ?_; refine pu 5 16 11 59 HT_ ?_; refine pu 6 17 11 123 HT_ ?_; refine join_ (σ := Value) 2 (bA 11 511) (fun s_ => [(13, .string t163), (18, s_), (19, .string (strOfNums y164))]) (fun s_ w' => (Kd.R (Kd.int .u8) 5 w' w.heap.size (fun _ => True) s_ y164) ∧ (Below w.heap.size w w')) ?_ ?_; rotate_left
   ·intro hCont
    refine two_ (i := 2) (j := 7) (Ni := some 13) (Nj := some 18) (bA 11 127) (bA 11 251) rfl rfl rfl rfl (two_of HT_.out (by kernel_rfl)) (by decide) (by decide) (fun K hK => ?_) (fun K hK => ?_)
    ·skip
     refine gs Try.func80 #[.int .i64 (wrap64 (Int.tdiv a0 10))] ?_; with_reducible refine (ih k (by omega) (wrap64 (Int.tdiv a0 10)) t163 _ A6.out).mono ?_
     rintro e w9 ⟨rfl, hb⟩
     refine ⟨_, rfl, ?_⟩; replace HB := bst HB hb; (try clear hb); (try clear hb2); (try clear hk); (try clear hi); refine hK.out _ _ trivial (fun hHeld => ?_); clear hK K; refine nm 13 ?_; refine one_ (i := 7) (N := some 18) (bA 11 255) rfl rfl (one_of HT_.out (by kernel_rfl)) (by decide) (fun K hK => ?_)
     refine Kd.R_lit_step (Kd.int .u8) _ 5 ?hg (N := 18) ?hd (xs := ([(wrap64 (48 + (Int.tmod a0 10))) % 256] : List Int)) (inner := [.int .u8 ((wrap64 (48 + (Int.tmod a0 10))) % 256)]) (ok := fun _ => True) (okp := fun _ => True) ?hr ?hp (fun _ hk => hk) trivial (Below.refl _ _) (Nat.le_refl _) (by simp) ?_; (case hd => rfl); (case hg => rfl); (case hr => first | (go_simp; done) | (go_simp; rfl)); (case hp => exact (Reps.one (show Kd.M (Kd.int .u8) _ _ _ ((wrap64 (48 + (Int.tmod a0 10))) % 256) [.int .u8 ((wrap64 (48 + (Int.tmod a0 10))) % 256)] from rfl) (Reps.none _ _)))
     intro v165 w10 ho11 hb hg_ hnew_; clear hg_ hnew_; (first | rw [← Ny164.out] at ho11 | (simp only [Int.reduceToNat] at ho11; rw [← Ny164.out] at ho11)); have HO166 := Aside0.mk (Kd.R_lower ho11 (below_size (by repeat (first | (with_reducible first | exact HB.out | apply below_alloc | apply pw_below_drewN | apply below_drew1) | exact HB.out)))); replace HB := bst HB hb; clear hb ho11; refine hK.out _ _ trivial (fun hHeld => ?_); clear hK K; refine nm 18 ?_; refine one_ (i := 8) (N := some 19) (bA 11 511) rfl rfl (one_of HT_.out (by kernel_rfl)) (by decide) (fun K hK => ?_); have hcv12 := own_string (P := Try.prog) Try.underlying52 Try.underlying5 Try.underlying9 (Kd.own_of_R HO166.out); refine value_ (w1 := ?_) (v := ?_) (by rfl) rfl ?_ ?_; rotate_left 2
     ·go_simp
      constructor
      ·rfl
      ·rfl
     clear hcv12; refine hK.out _ _ trivial (fun hHeld => ?_); clear hK K; refine nm 19 ?_; exact norm_ (by simp only [putAll, Act.put, List.setIfInBounds_toArray, List.set_cons_zero, List.set_cons_succ]) (hCont (v165) _ ⟨(by (with_reducible repeat (first | apply Kd.R_alloc | apply Kd.R_drewN | apply Kd.R_drew)); exact HO166.out), (pb HB)⟩)
    ·skip
     refine Kd.R_lit_step (Kd.int .u8) _ 5 ?hg (N := 18) ?hd (xs := ([(wrap64 (48 + (Int.tmod a0 10))) % 256] : List Int)) (inner := [.int .u8 ((wrap64 (48 + (Int.tmod a0 10))) % 256)]) (ok := fun _ => True) (okp := fun _ => True) ?hr ?hp (fun _ hk => hk) trivial (Below.refl _ _) (Nat.le_refl _) (by simp) ?_; (case hd => rfl); (case hg => rfl); (case hr => first | (go_simp; done) | (go_simp; rfl)); (case hp => exact (Reps.one (show Kd.M (Kd.int .u8) _ _ _ ((wrap64 (48 + (Int.tmod a0 10))) % 256) [.int .u8 ((wrap64 (48 + (Int.tmod a0 10))) % 256)] from rfl) (Reps.none _ _)))
     intro v165 w9 ho10 hb hg_ hnew_; clear hg_ hnew_; (first | rw [← Ny164.out] at ho10 | (simp only [Int.reduceToNat] at ho10; rw [← Ny164.out] at ho10)); have HO166 := Aside0.mk (Kd.R_lower ho10 (below_size (by repeat (first | (with_reducible first | exact HB.out | apply below_alloc | apply pw_below_drewN | apply below_drew1) | exact HB.out)))); replace HB := bst HB hb; clear hb ho10; refine hK.out _ _ trivial (fun hHeld => ?_); clear hK K; refine nm 18 ?_; refine two_ (i := 2) (j := 8) (Ni := some 13) (Nj := some 19) (bA 11 255) (bA 11 507) rfl rfl rfl rfl (two_of HT_.out (by kernel_rfl)) (by decide) (by decide) (fun K hK => ?_) (fun K hK => ?_)
     ·skip
      refine gs Try.func80 #[.int .i64 (wrap64 (Int.tdiv a0 10))] ?_; with_reducible refine (ih k (by omega) (wrap64 (Int.tdiv a0 10)) t163 _ A6.out).mono ?_
      rintro e w11 ⟨rfl, hb⟩
      refine ⟨_, rfl, ?_⟩; replace HO166 := krb HO166 hb; replace HB := bst HB hb; (try clear hb); (try clear hb2); (try clear hk); (try clear hi); refine hK.out _ _ trivial (fun hHeld => ?_); clear hK K; refine nm 13 ?_; refine one_ (i := 8) (N := some 19) (bA 11 511) rfl rfl (one_of HT_.out (by kernel_rfl)) (by decide) (fun K hK => ?_); have hcv12 := own_string (P := Try.prog) Try.underlying52 Try.underlying5 Try.underlying9 (Kd.own_of_R HO166.out); refine value_ (w1 := ?_) (v := ?_) (by rfl) rfl ?_ ?_; rotate_left 2
      ·go_simp
       constructor
       ·rfl
       ·rfl
      clear hcv12; refine hK.out _ _ trivial (fun hHeld => ?_); clear hK K; refine nm 19 ?_; exact norm_ (by simp only [putAll, Act.put, List.setIfInBounds_toArray, List.set_cons_zero, List.set_cons_succ]) (hCont (v165) _ ⟨(by (with_reducible repeat (first | apply Kd.R_alloc | apply Kd.R_drewN | apply Kd.R_drew)); exact HO166.out), (pb HB)⟩)
     ·skip
      have hcv11 := own_string (P := Try.prog) Try.underlying52 Try.underlying5 Try.underlying9 (Kd.own_of_R HO166.out); refine value_ (w1 := ?_) (v := ?_) (by rfl) rfl ?_ ?_; rotate_left 2
      ·go_simp
       constructor
       ·rfl
       ·rfl
      clear hcv11; refine hK.out _ _ trivial (fun hHeld => ?_); clear hK K; refine nm 19 ?_; refine one_ (i := 2) (N := some 13) (bA 11 511) rfl rfl (one_of HT_.out (by kernel_rfl)) (by decide) (fun K hK => ?_); refine gs Try.func80 #[.int .i64 (wrap64 (Int.tdiv a0 10))] ?_; with_reducible refine (ih k (by omega) (wrap64 (Int.tdiv a0 10)) t163 _ A6.out).mono ?_
      rintro e w12 ⟨rfl, hb⟩
      refine ⟨_, rfl, ?_⟩; replace HO166 := krb HO166 hb; replace HB := bst HB hb; (try clear hb); (try clear hb2); (try clear hk); (try clear hi); refine hK.out _ _ trivial (fun hHeld => ?_); clear hK K; refine nm 13 ?_; exact norm_ (by simp only [putAll, Act.put, List.setIfInBounds_toArray, List.set_cons_zero, List.set_cons_succ]) (hCont (v165) _ ⟨(by (with_reducible repeat (first | apply Kd.R_alloc | apply Kd.R_drewN | apply Kd.R_drew)); exact HO166.out), (pb HB)⟩)
   rintro v165 w13 ⟨h0_, h1_⟩
   have n0_ : Aside0 (Kd.R (Kd.int .u8) 5 w13 w.heap.size (fun _ => True) v165 y164) := ⟨h0_⟩; have n1_ : Aside0 (Below w.heap.size w w13) := ⟨h1_⟩; clear HB; clear h0_ h1_; have HO166 := n0_; have HB := n1_; clear n0_ n1_; have hHeld := trivial; refine norm_ (a' := ?_) ?_ ?_; rotate_left
   ·simp only [putAll, Act.put, List.setIfInBounds_toArray, List.set_cons_zero, List.set_cons_succ]
    rfl
   refine pu 9 20 11 1023 HT_ ?_; refine pu 10 2 11 2047 HT_ ?_; refine done_ (done_of HT_.out (by kernel_rfl)) ?_
   try go_wp2
   go_ret
   exact ⟨by first | rfl | (simp [errW_none, errW_some] <;> rfl) | (simp [*, errW_none, errW_some] <;> rfl), pb HB⟩
  ·rw [if_neg c7] at H
   exact absurd H (by simp)
end Go.Proofs.Ytjpponjekcemjaa.PB
end
section
namespace Go.Proofs.Ytjpponjekcemjaa.PB
open Go.RowKit Go.Proofs.YtjpponjekcemjaaW.PrintWords Go.Proofs.YtjpponjekcemjaaW.PrintLast Go.Proofs.YtjpponjekcemjaaW.PrintMore Go.Proofs.Ytjpponjekcemjaa.La
attribute [local go_sem] max2_int min2_int max_two min_two max_three min_three max_four min_four   -- for this text's walks alone
set_option linter.unusedVariables false
set_option linter.unusedSimpArgs false
def spec_l02Text.l0 : Nat → List (S39) → ByteArray → Int → Option (ByteArray)
 | 0, _, _, _ => none
 | k + 1, x0, x3, x4 => if x4 < (x0.length : Int) then (if x4 = 1 then (if x3.size + 1 ≤ 9223372036854775807 then (if 0 ≤ (wrap64 (x4 - 1)) then (if (wrap64 (x4 - 1)) < (x0.length : Int) then (if 0 ≤ x4 then ((spec_l01To.f k ((rd_T39 x0 (wrap64 (x4 - 1))).f0) ((rd_T39 x0 (wrap64 (x4 - 1))).f1) ((rd_T39 x0 x4).f0) ((rd_T39 x0 x4).f1)).bind fun t173 => (if 0 ≤ t173 then (if t173 < 4 then ((some (([bt (⟨#[110, 101, 115, 119]⟩ : ByteArray) t173] : List Int) : List Int)).bind fun y174 => (if (x3 ++ (⟨#[32]⟩ : ByteArray)).size + (strOfNums y174).size ≤ 9223372036854775807 then (spec_l02Text.l0 k x0 ((x3 ++ (⟨#[32]⟩ : ByteArray)) ++ (strOfNums y174)) (wrap64 (x4 + 1))) else (none))) else (none)) else (none))) else (none)) else (none)) else (none)) else (none)) else (if 0 ≤ (wrap64 (x4 - 1)) then (if (wrap64 (x4 - 1)) < (x0.length : Int) then (if 0 ≤ x4 then ((spec_l01To.f k ((rd_T39 x0 (wrap64 (x4 - 1))).f0) ((rd_T39 x0 (wrap64 (x4 - 1))).f1) ((rd_T39 x0 x4).f0) ((rd_T39 x0 x4).f1)).bind fun t179 => (if 0 ≤ t179 then (if t179 < 4 then ((some (([bt (⟨#[110, 101, 115, 119]⟩ : ByteArray) t179] : List Int) : List Int)).bind fun y180 => (if x3.size + (strOfNums y180).size ≤ 9223372036854775807 then (spec_l02Text.l0 k x0 (x3 ++ (strOfNums y180)) (wrap64 (x4 + 1))) else (none))) else (none)) else (none))) else (none)) else (none)) else (none))) else (some x3)
def spec_l02Text.f (k : Nat) (l0 : List (S39)) : Option (ByteArray) := if 0 < (l0.length : Int) then ((spec_Decimal.f k (wrap64 ((rd_T39 l0 0).f0))).bind fun t168 => (if t168.size + 1 ≤ 9223372036854775807 then ((spec_Decimal.f k (wrap64 ((rd_T39 l0 0).f1))).bind fun t170 => (if (t168 ++ (⟨#[44]⟩ : ByteArray)).size + t170.size ≤ 9223372036854775807 then (spec_l02Text.l0 k l0 ((t168 ++ (⟨#[44]⟩ : ByteArray)) ++ t170) 1) else (none))) else (none))) else (none)
theorem spec_l02Text.mono_l : ∀ k, (∀ y0 y1 y2, LeO (spec_l02Text.l0 k y0 y1 y2) (spec_l02Text.l0 (k + 1) y0 y1 y2))
 | 0 => fun _ _ _ r h => by simp [spec_l02Text.l0] at h
 | k + 1 => by
  have ih0 := spec_l02Text.mono_l k
  ·intro y0 y1 y2
   unfold spec_l02Text.l0
   repeat' first
   | (with_reducible exact ih0 _ _ _)
   | (with_reducible exact spec_Decimal.mono _ _)
   | (with_reducible exact spec_l01To.mono _ _ _ _ _)
   | (with_reducible exact LeO.refl _)
   | (with_reducible exact LeO.none _)
   | (with_reducible refine LeO.ite ?_ ?_)
   | (with_reducible refine LeO.bind ?_ (fun _ => ?_))
   | exact ih0 _ _ _
   | exact spec_Decimal.mono _ _
   | exact spec_l01To.mono _ _ _ _ _
   | exact LeO.none _
   | refine LeO.ite ?_ ?_
   | refine LeO.bind ?_ (fun _ => ?_)
theorem spec_l02Text.mono : ∀ a0 k, LeO (spec_l02Text.f k a0) (spec_l02Text.f (k + 1) a0) := by
 intro a0 k
 have ih0 := spec_l02Text.mono_l k
 unfold spec_l02Text.f
 repeat' first
   | (with_reducible exact ih0 _ _ _)
   | (with_reducible exact spec_Decimal.mono _ _)
   | (with_reducible exact spec_l01To.mono _ _ _ _ _)
   | (with_reducible exact LeO.refl _)
   | (with_reducible exact LeO.none _)
   | (with_reducible refine LeO.ite ?_ ?_)
   | (with_reducible refine LeO.bind ?_ (fun _ => ?_))
   | exact ih0 _ _ _
   | exact spec_Decimal.mono _ _
   | exact spec_l01To.mono _ _ _ _ _
   | exact LeO.none _
   | refine LeO.ite ?_ ?_
   | refine LeO.bind ?_ (fun _ => ?_)
def spec_l02Text.T1 : Bool × List (List Nat × List Nat) := (true, [([], []), ([0], [0]), ([1], [1]), ([2], [2]), ([3], [3]), ([4], [4]), ([5], [5]), ([], []), ([7], [7]), ([8], [8]), ([9], [9]), ([10], [10]), ([11, 5], [11]), ([6, 12], [6, 12]), ([13, 12, 0, 1, 2, 3, 4, 5, 6, 7, 8, 9, 10, 11, 12, 13], [13])])
def spec_l02Text.B1 : List Nat := [0, 1, 3, 7, 15, 31, 63, 0, 128, 384, 896, 1920, 4031, 8191, 16383]
theorem spec_l02Text.tab1 : rtab .any (opsOf Try.f52 1) = spec_l02Text.T1 := by kernel_rfl
theorem spec_l02Text.bits1 : waitsOk spec_l02Text.T1.2 spec_l02Text.B1 = true := by kernel_rfl
def spec_l02Text.T7 : Bool × List (List Nat × List Nat) := (true, [([], []), ([], []), ([], []), ([2], [2]), ([1, 3], [1, 3]), ([4], [4]), ([], []), ([], []), ([6, 7], [6, 7]), ([8], [8]), ([5, 9], [5, 9]), ([10], [10]), ([11], [11]), ([12], [12]), ([0, 13], [0, 13]), ([14, 10, 0, 1, 2, 3, 4, 5, 6, 7, 8, 9, 10, 11, 12, 13, 14], [0, 14])])
def spec_l02Text.B7 : List Nat := [0, 0, 0, 4, 14, 30, 0, 0, 192, 448, 1022, 2046, 4094, 8190, 16383, 32767]
theorem spec_l02Text.tab7 : rtab .any (opsOf Try.f52 7) = spec_l02Text.T7 := by kernel_rfl
theorem spec_l02Text.bits7 : waitsOk spec_l02Text.T7.2 spec_l02Text.B7 = true := by kernel_rfl
set_option maxHeartbeats 8000000 in
set_option maxRecDepth 100000 in
theorem spec_l02Text.calls (k : Nat) (A0 : Option Addr) (c0 : Nat) (l0 : List (S39)) (r : ByteArray) (w : World) (hr0 : Kd.C k39 w A0 l0.length l0) (hc0 : l0.length ≤ c0) (h : spec_l02Text.f k l0 = some r) :
  Calls Try.prog 52 #[.slice A0 l0.length c0] w fun e w' => e = .returned (.string r) ∧ Below w.heap.size w w' := by
 have hu39 := Try.underlying39
 have HR0 := Aside0.mk hr0
 have HC0 := Aside0.mk hc0
 clear hr0 hc0
 have HB := Aside0.mk (Below.refl w.heap.size w)
 have H : (if 0 < (l0.length : Int) then ((spec_Decimal.f k (wrap64 ((rd_T39 l0 0).f0))).bind fun t168 => (if t168.size + 1 ≤ 9223372036854775807 then ((spec_Decimal.f k (wrap64 ((rd_T39 l0 0).f1))).bind fun t170 => (if (t168 ++ (⟨#[44]⟩ : ByteArray)).size + t170.size ≤ 9223372036854775807 then (spec_l02Text.l0 k l0 ((t168 ++ (⟨#[44]⟩ : ByteArray)) ++ t170) 1) else (none))) else (none))) else (none)) = some r := h
 clear h
 by_cases c2 : 0 < (l0.length : Int)
 ·rw [if_pos c2] at H
  have c2b0 : decide (0 < (l0.length : Int)) = true := decide_eq_true c2; have c2b1 : decide (0 < l0.length) = true := decide_eq_true (by omega); clear c2; obtain ⟨t168, A3, H⟩ := obn H
  by_cases c4 : t168.size + 1 ≤ 9223372036854775807
  ·rw [if_pos c4] at H
   have c4b0 := eq_true c4; have c4b1 : decide (t168.size + 1 ≤ 9223372036854775807) = true := decide_eq_true c4
   try have c4b2 : (9223372036854775807 < t168.size + 1) = False := eq_false (Nat.not_lt.2 c4)
   obtain ⟨t170, A5, H⟩ := obn H
   by_cases c6 : (t168 ++ (⟨#[44]⟩ : ByteArray)).size + t170.size ≤ 9223372036854775807
   ·rw [if_pos c6] at H
    have c6b0 := eq_true c6; have c6b1 : decide ((t168 ++ (⟨#[44]⟩ : ByteArray)).size + t170.size ≤ 9223372036854775807) = true := decide_eq_true c6
    try have c6b2 : (9223372036854775807 < (t168 ++ (⟨#[44]⟩ : ByteArray)).size + t170.size) = False := eq_false (Nat.not_lt.2 c6)
    try have c6b3 : (9223372036854775807 < t168.size + 1 + t170.size) = False := (by have h_ := c6; simp only [ByteArray.size_append, show (⟨#[44]⟩ : ByteArray).size = 1 from rfl] at h_; exact eq_false (by omega))
    have H' := Aside0.mk H; clear H
    go_enter Try.func52, Try.ntmps52
    try go_wp2
    replace HB := Aside0.mk (below_drew1 HB.out); have p167 : 0 ≤ (0 : Int) := (by omega); have q167 : 0 < (l0.length : Int) := oda; obtain ⟨ad167, e167, hx167_0, hx167_1⟩ := at_T39 HR0.out 0 p167 q167; have hw167_1 := hx167_1; (try rw [show ((0 : Int)).toNat = 0 from rfl] at hw167_1); (try rw [show 0 * 2 = 0 from rfl] at hw167_1); (try rw [Addr.add_zero'] at hw167_1); have hw167_0 := hx167_0; (try rw [show ((0 : Int)).toNat = 0 from rfl] at hw167_0); (try rw [show 0 * 2 = 0 from rfl] at hw167_0); (try rw [Addr.add_zero'] at hw167_0); cases e167; have qi167 : (0 < l0.length) = True := eq_true (by omega); (try rw [show ((0 : Int)).toNat = 0 from rfl] at hx167_0); (try rw [show 0 * 2 = 0 from rfl] at hx167_0); (try rw [Addr.add_zero'] at hx167_0); (try rw [show ((0 : Int)).toNat = 0 from rfl] at hx167_1); (try rw [show 0 * 2 = 0 from rfl] at hx167_1); (try rw [Addr.add_zero'] at hx167_1)
    try replace hx167_0 := cb HB hx167_0
    try replace hx167_1 := cb HB hx167_1
    replace p167 := eq_true p167; replace q167 := eq_true q167; have p169 : 0 ≤ (0 : Int) := (by omega); have q169 : 0 < (l0.length : Int) := oda; obtain ⟨ad169, e169, hx169_0, hx169_1⟩ := at_T39 HR0.out 0 p169 q169; have hw169_1 := hx169_1; (try rw [show ((0 : Int)).toNat = 0 from rfl] at hw169_1); (try rw [show 0 * 2 = 0 from rfl] at hw169_1); (try rw [Addr.add_zero'] at hw169_1); have hw169_0 := hx169_0; (try rw [show ((0 : Int)).toNat = 0 from rfl] at hw169_0); (try rw [show 0 * 2 = 0 from rfl] at hw169_0); (try rw [Addr.add_zero'] at hw169_0); obtain rfl : ad167 = ad169 := (by injection e169); have qi169 : (0 < l0.length) = True := eq_true (by omega); (try rw [show ((0 : Int)).toNat = 0 from rfl] at hx169_0); (try rw [show 0 * 2 = 0 from rfl] at hx169_0); (try rw [Addr.add_zero'] at hx169_0); (try rw [show ((0 : Int)).toNat = 0 from rfl] at hx169_1); (try rw [show 0 * 2 = 0 from rfl] at hx169_1); (try rw [Addr.add_zero'] at hx169_1)
    try replace hx169_0 := cb HB hx169_0
    try replace hx169_1 := cb HB hx169_1
    replace p169 := eq_true p169; replace q169 := eq_true q169
    refine start_ (n := 15) (S := fun w' => w'.cell? ad167 = some (.int .i8 ((rd_T39 l0 0).f0)) ∧ w'.cell? ⟨ad167.block, ad167.off + 1, none⟩ = some (.int .i8 ((rd_T39 l0 0).f1)) ∧ w'.cell? ad167 = some (.int .i8 ((rd_T39 l0 0).f0)) ∧ w'.cell? ⟨ad167.block, ad167.off + 1, none⟩ = some (.int .i8 ((rd_T39 l0 0).f1))) (ds := []) (bA 15 0) (by kernel_rfl) rfl rfl ⟨(cb HB hw167_0), (cb HB hw167_1), (cb HB hw169_0), (cb HB hw169_1)⟩ (fun hHeld => ?_); refine with_tabW spec_l02Text.tab1 spec_l02Text.bits1 (fun HT_ HW_ => ?_)
    generalize w.drew = w7 at HB hx167_0 hx167_1 hx169_0 hx169_1 hHeld ⊢; refine pu 0 5 15 1 HT_ ?_; refine pu 1 6 15 3 HT_ ?_; refine pu 2 7 15 7 HT_ ?_; refine pu 7 12 15 135 HT_ ?_; refine pu 8 13 15 391 HT_ ?_; refine pu 9 14 15 903 HT_ ?_; refine tk 3 8 15 911 HT_ HW_ hHeld ?_; refine pu 4 9 15 927 HT_ ?_; refine tk 10 15 15 1951 HT_ HW_ hHeld ?_; refine pu 11 16 15 3999 HT_ ?_; refine one_ (i := 5) (N := some 10) (bA 15 4031) rfl rfl (one_of HT_.out (by kernel_rfl)) (by decide) (fun K hK => ?_); refine gs Try.func80 #[.int .i64 (wrap64 ((rd_T39 l0 0).f0))] ?_; with_reducible refine (spec_Decimal.calls k (wrap64 ((rd_T39 l0 0).f0)) t168 _ A3.out).mono ?_
    rintro e w8 ⟨rfl, hb⟩
    refine ⟨_, rfl, ?_⟩; replace HB := bst HB hb; (try clear hb); (try clear hb2); (try clear hk); (try clear hi); refine hK.out _ _ ⟨(cb HB hw167_0), (cb HB hw167_1), (cb HB hw169_0), (cb HB hw169_1)⟩ (fun hHeld => ?_); clear hK K; refine nm 10 ?_; refine pu 6 11 15 4095 HT_ ?_; refine one_ (i := 12) (N := some 17) (bA 15 8191) rfl rfl (one_of HT_.out (by kernel_rfl)) (by decide) (fun K hK => ?_); refine gs Try.func80 #[.int .i64 (wrap64 ((rd_T39 l0 0).f1))] ?_; with_reducible refine (spec_Decimal.calls k (wrap64 ((rd_T39 l0 0).f1)) t170 _ A5.out).mono ?_
    rintro e w9 ⟨rfl, hb⟩
    refine ⟨_, rfl, ?_⟩; replace HB := bst HB hb; (try clear hb); (try clear hb2); (try clear hk); (try clear hi); refine hK.out _ _ ⟨(cb HB hw167_0), (cb HB hw167_1), (cb HB hw169_0), (cb HB hw169_1)⟩ (fun hHeld => ?_); clear hK K; refine nm 17 ?_; refine pu 13 18 15 16383 HT_ ?_; refine pu 14 3 15 32767 HT_ ?_; refine done_ (done_of HT_.out (by kernel_rfl)) ?_
    try go_wp2
    go_loopg [3, 4] k (fun kq v3 v4 w' => ∃ (x3_1 : ByteArray) (x4_1 : Int), v3 = .string x3_1 ∧ v4 = .int .i64 x4_1 ∧ Aside0 (spec_l02Text.l0 kq l0 x3_1 x4_1 = some r) ∧ Aside0 (kq ≤ k) ∧ Aside0 (Below w.heap.size w w'))
    case atStart => exact ⟨((t168 ++ (⟨#[44]⟩ : ByteArray)) ++ t170), (1), (by first | rfl | (simp; done) | (simp [*]; done)), (by first | rfl | (simp; done) | (simp [*]; done)), H', ⟨Nat.le_refl _⟩, ⟨pb HB⟩⟩
    case round =>
     clear H'
     try clear p1
     try clear q1
     try clear hx1
     try clear qi1
     try clear c2
     try clear c2b0
     try clear c2b1
     try clear p2
     try clear c4
     try clear c4b0
     try clear c4b1
     try clear c4b2
     try clear c5
     try clear c6
     try clear c6b0
     try clear c6b1
     try clear c6b2
     try clear p6
     try clear c8
     try clear hx167_0
     try clear hx167_1
     try clear hx169_0
     try clear hx169_1
     try clear p167
     try clear p169
     try clear q167
     try clear q169
     obtain ⟨x3_1, x4_1, rfl, rfl, HA, HK1, HB⟩ := hrel
     cases gk with
     | zero => exact absurd HA.out (by simp [spec_l02Text.l0])
     | succ k1 =>
      have H := HA.out; clear HA; simp only [spec_l02Text.l0] at H
      by_cases c10 : x4_1 < (l0.length : Int)
      ·rw [if_pos c10] at H
       have c10b0 : decide (x4_1 < (l0.length : Int)) = true := decide_eq_true c10; clear c10
       by_cases c11 : x4_1 = 1
       ·rw [if_pos c11] at H
        have c11b0 : (x4_1 == 1) = true := beq_iff_eq.mpr c11; have c11b1 : (x4_1 != 1) = false := bne_eq_false_iff_eq.mpr c11; clear c11
        by_cases c12 : x3_1.size + 1 ≤ 9223372036854775807
        ·rw [if_pos c12] at H
         have c12b0 := eq_true c12; have c12b1 : decide (x3_1.size + 1 ≤ 9223372036854775807) = true := decide_eq_true c12
         try have c12b2 : (9223372036854775807 < x3_1.size + 1) = False := eq_false (Nat.not_lt.2 c12)
         obtain ⟨ji13, hji13⟩ : ∃ j_ : Int, (wrap64 (x4_1 - 1)) = j_ := ⟨_, rfl⟩
         replace H : (if 0 ≤ (ji13) then (if (ji13) < (l0.length : Int) then (if 0 ≤ x4_1 then ((spec_l01To.f k1 ((rd_T39 l0 (ji13)).f0) ((rd_T39 l0 (ji13)).f1) ((rd_T39 l0 x4_1).f0) ((rd_T39 l0 x4_1).f1)).bind fun t173 => (if 0 ≤ t173 then (if t173 < 4 then ((some (([bt (⟨#[110, 101, 115, 119]⟩ : ByteArray) t173] : List Int) : List Int)).bind fun y174 => (if (x3_1 ++ (⟨#[32]⟩ : ByteArray)).size + (strOfNums y174).size ≤ 9223372036854775807 then (spec_l02Text.l0 k1 l0 ((x3_1 ++ (⟨#[32]⟩ : ByteArray)) ++ (strOfNums y174)) (wrap64 (x4_1 + 1))) else (none))) else (none)) else (none))) else (none)) else (none)) else (none)) = some r := by first | (rw [hji13] at H; exact H) | (simp only [hji13] at H ⊢; exact H)
         have hji13w : (IntKind.i64.wrap (x4_1 - 1)) = ji13 := (i64_w _).trans hji13
         by_cases c14 : 0 ≤ (ji13)
         ·rw [if_pos c14] at H
          have c14b0 : decide (0 ≤ (ji13)) = true := decide_eq_true c14; clear c14
          by_cases c15 : (ji13) < (l0.length : Int)
          ·rw [if_pos c15] at H
           have c15b0 : decide ((ji13) < (l0.length : Int)) = true := decide_eq_true c15; clear c15
           by_cases c16 : 0 ≤ x4_1
           ·rw [if_pos c16] at H
            have c16b0 : decide (0 ≤ x4_1) = true := decide_eq_true c16; clear c16; obtain ⟨t173, A17, H⟩ := obn H
            by_cases c18 : 0 ≤ t173
            ·rw [if_pos c18] at H
             have c18b0 : decide (0 ≤ t173) = true := decide_eq_true c18; clear c18
             by_cases c19 : t173 < 4
             ·rw [if_pos c19] at H
              have c19b0 : decide (t173 < 4) = true := decide_eq_true c19; clear c19; obtain ⟨y174, hy174⟩ : ∃ y_ : List Int, y_ = (([bt (⟨#[110, 101, 115, 119]⟩ : ByteArray) t173] : List Int)) := ⟨_, rfl⟩
              replace H : (if (x3_1 ++ (⟨#[32]⟩ : ByteArray)).size + (strOfNums y174).size ≤ 9223372036854775807 then (spec_l02Text.l0 k1 l0 ((x3_1 ++ (⟨#[32]⟩ : ByteArray)) ++ (strOfNums y174)) (wrap64 (x4_1 + 1))) else (none)) = some r := by first | (rw [hy174]; with_reducible exact H) | (have H2_ := (Option.bind_some _ _).symm.trans H; rw [hy174]; with_reducible exact H2_) | (have H2_ := (Option.bind_some _ _).symm.trans H; with_reducible exact H2_) | with_reducible exact H | (rw [hy174]; exact H) | exact H
              have Ny174 := Aside0.mk hy174; clear hy174
              by_cases c21 : (x3_1 ++ (⟨#[32]⟩ : ByteArray)).size + (strOfNums y174).size ≤ 9223372036854775807
              ·rw [if_pos c21] at H
               have c21b0 := eq_true c21; have c21b1 : decide ((x3_1 ++ (⟨#[32]⟩ : ByteArray)).size + (strOfNums y174).size ≤ 9223372036854775807) = true := decide_eq_true c21
               try have c21b2 : (9223372036854775807 < (x3_1 ++ (⟨#[32]⟩ : ByteArray)).size + (strOfNums y174).size) = False := eq_false (Nat.not_lt.2 c21)
               try have c21b3 : (9223372036854775807 < x3_1.size + 1 + (strOfNums y174).size) = False := (by have h_ := c21; simp only [ByteArray.size_append, show (⟨#[32]⟩ : ByteArray).size = 1 from rfl] at h_; exact eq_false (by omega))
               have H' := Aside0.mk H; clear H
               try go_wp2
               replace HB := Aside0.mk (below_drew1 HB.out); have p171 : 0 ≤ ((ji13) : Int) := oda; have q171 : (ji13) < (l0.length : Int) := oda; obtain ⟨ad171, e171, hx171_0, hx171_1⟩ := at_T39 HR0.out (ji13) p171 q171; have hw171_1 := hx171_1; have hw171_0 := hx171_0; obtain rfl : ad167 = ad171 := (by injection e171)
               try replace hx171_0 := cb HB hx171_0
               try replace hx171_1 := cb HB hx171_1
               replace p171 := eq_true p171; replace q171 := eq_true q171; have p172 : 0 ≤ (x4_1 : Int) := oda; have q172 : x4_1 < (l0.length : Int) := oda; obtain ⟨ad172, e172, hx172_0, hx172_1⟩ := at_T39 HR0.out x4_1 p172 q172; have hw172_1 := hx172_1; have hw172_0 := hx172_0; obtain rfl : ad167 = ad172 := (by injection e172)
               try replace hx172_0 := cb HB hx172_0
               try replace hx172_1 := cb HB hx172_1
               replace p172 := eq_true p172; replace q172 := eq_true q172
               refine start_ (n := 16) (S := fun w' => w'.cell? (ad167.add (((ji13)).toNat * 2)) = some (.int .i8 ((rd_T39 l0 (ji13)).f0)) ∧ w'.cell? ⟨(ad167.add (((ji13)).toNat * 2)).block, (ad167.add (((ji13)).toNat * 2)).off + 1, none⟩ = some (.int .i8 ((rd_T39 l0 (ji13)).f1)) ∧ w'.cell? (ad167.add ((x4_1).toNat * 2)) = some (.int .i8 ((rd_T39 l0 x4_1).f0)) ∧ w'.cell? ⟨(ad167.add ((x4_1).toNat * 2)).block, (ad167.add ((x4_1).toNat * 2)).off + 1, none⟩ = some (.int .i8 ((rd_T39 l0 x4_1).f1))) (ds := []) (bA 16 0) (by kernel_rfl) rfl rfl ⟨(cb HB hw171_0), (cb HB hw171_1), (cb HB hw172_0), (cb HB hw172_1)⟩ (fun hHeld => ?_); refine with_tabW spec_l02Text.tab7 spec_l02Text.bits7 (fun HT_ HW_ => ?_)
               generalize wr.drew = w22 at HB hx171_0 hx171_1 hx172_0 hx172_1 hHeld ⊢; refine pu 0 29 16 1 HT_ ?_; refine pu 1 30 16 3 HT_ ?_; refine pu 2 31 16 7 HT_ ?_; refine pu 3 32 16 15 HT_ ?_; refine pu 4 33 16 31 HT_ ?_; refine pu 6 35 16 95 HT_ ?_; refine pu 7 36 16 223 HT_ ?_; refine pu 8 37 16 479 HT_ ?_; refine tk 5 34 16 511 HT_ HW_ hHeld ?_; refine tk 9 38 16 1023 HT_ HW_ hHeld ?_; refine one_ (i := 10) (N := some 39) (bA 16 2047) rfl rfl (one_of HT_.out (by kernel_rfl)) (by decide) (fun K hK => ?_); refine goes_ Try.func81 (by kernel_rfl) rfl #[.agg #[.int .i8 ((rd_T39 l0 (ji13)).f0), .int .i8 ((rd_T39 l0 (ji13)).f1)], .agg #[.int .i8 ((rd_T39 l0 x4_1).f0), .int .i8 ((rd_T39 l0 x4_1).f1)]] (by rfl) rfl rfl (by (try simp only [List.map_toArray, List.map_cons, List.map_nil]); first | done | (simp only [hji13]; rfl) | rfl | (simp only [List.length_drop, List.length_take]; rfl)) ?_; with_reducible refine (spec_l01To.calls k1 ((rd_T39 l0 (ji13)).f0) ((rd_T39 l0 (ji13)).f1) ((rd_T39 l0 x4_1).f0) ((rd_T39 l0 x4_1).f1) t173 _ A17.out).mono ?_
               rintro e w23 ⟨rfl, hb⟩
               refine ⟨_, rfl, ?_⟩; replace HB := bst HB hb; (try clear hb); (try clear hb2); (try clear hk); (try clear hi); have p20 : 0 ≤ (t173 : Int) := oda; have q20 : t173 < (4 : Int) := oda; have hx20 := bt_at (⟨#[110, 101, 115, 119]⟩ : ByteArray) t173; replace p20 := eq_true p20; replace q20 := eq_true q20; refine hK.out _ _ ⟨(cb HB hw171_0), (cb HB hw171_1), (cb HB hw172_0), (cb HB hw172_1)⟩ (fun hHeld => ?_); clear hK K; refine nm 39 ?_; refine tk 11 40 16 4095 HT_ HW_ hHeld ?_; refine one_ (i := 12) (N := some 41) (bA 16 8191) rfl rfl (one_of HT_.out (by kernel_rfl)) (by decide) (fun K hK => ?_)
               refine Kd.R_lit_step (Kd.int .u8) _ 5 ?hg (N := 41) ?hd (xs := ([bt (⟨#[110, 101, 115, 119]⟩ : ByteArray) t173] : List Int)) (inner := [.int .u8 (bt (⟨#[110, 101, 115, 119]⟩ : ByteArray) t173)]) (ok := fun _ => True) (okp := fun _ => True) ?hr ?hp (fun _ hk => hk) trivial (Below.refl _ _) (Nat.le_refl _) (by simp) ?_; (case hd => rfl); (case hg => rfl); (case hr => first | (go_simp; done) | (go_simp; rfl)); (case hp => exact (Reps.one (show Kd.M (Kd.int .u8) _ _ _ (bt (⟨#[110, 101, 115, 119]⟩ : ByteArray) t173) [.int .u8 (bt (⟨#[110, 101, 115, 119]⟩ : ByteArray) t173)] from rfl) (Reps.none _ _)))
               intro v175 w24 ho25 hb hg_ hnew_; clear hg_ hnew_; (first | rw [← Ny174.out] at ho25 | (simp only [Int.reduceToNat] at ho25; rw [← Ny174.out] at ho25)); have HO176 := Aside0.mk (Kd.R_lower ho25 (below_size (by repeat (first | (with_reducible first | exact HB.out | apply below_alloc | apply pw_below_drewN | apply below_drew1) | exact HB.out)))); replace HB := bst HB hb; clear hb ho25; refine hK.out _ _ ⟨(cb HB hw171_0), (cb HB hw171_1), (cb HB hw172_0), (cb HB hw172_1)⟩ (fun hHeld => ?_); clear hK K; refine nm 41 ?_; refine one_ (i := 13) (N := some 42) (bA 16 16383) rfl rfl (one_of HT_.out (by kernel_rfl)) (by decide) (fun K hK => ?_); have hcv26 := own_string (P := Try.prog) Try.underlying52 Try.underlying5 Try.underlying9 (Kd.own_of_R HO176.out); refine value_ (w1 := ?_) (v := ?_) (by rfl) rfl ?_ ?_; rotate_left 2
               ·go_simp
                constructor
                ·rfl
                ·rfl
               clear hcv26; refine hK.out _ _ ⟨(cb HB hw171_0), (cb HB hw171_1), (cb HB hw172_0), (cb HB hw172_1)⟩ (fun hHeld => ?_); clear hK K; refine nm 42 ?_; refine pu 14 43 16 32767 HT_ ?_; refine pu 15 3 16 65535 HT_ ?_; refine done_ (done_of HT_.out (by kernel_rfl)) ?_
               try go_wp2
               go_roundg k1
               case measure => have := HK1.out; omega
               case rel => exact ⟨((x3_1 ++ (⟨#[32]⟩ : ByteArray)) ++ (strOfNums y174)), (wrap64 (x4_1 + 1)), (by first | rfl | (simp; done) | (simp [*]; done)), (by first | rfl | (simp; done) | (simp [*]; done)), H', ⟨by have := HK1.out; omega⟩, ⟨pb HB⟩⟩
              ·rw [if_neg c21] at H
               exact absurd H (by simp)
             ·rw [if_neg c19] at H
              exact absurd H (by simp)
            ·rw [if_neg c18] at H
             exact absurd H (by simp)
           ·rw [if_neg c16] at H
            exact absurd H (by simp)
          ·rw [if_neg c15] at H
           exact absurd H (by simp)
         ·rw [if_neg c14] at H
          exact absurd H (by simp)
        ·rw [if_neg c12] at H
         exact absurd H (by simp)
       ·rw [if_neg c11] at H
        have c11b0 : (x4_1 == 1) = false := beq_eq_false_iff_ne.mpr c11; have c11b1 : (x4_1 != 1) = true := bne_iff_ne.mpr c11; obtain ⟨ji27, hji27⟩ : ∃ j_ : Int, (wrap64 (x4_1 - 1)) = j_ := ⟨_, rfl⟩
        replace H : (if 0 ≤ (ji27) then (if (ji27) < (l0.length : Int) then (if 0 ≤ x4_1 then ((spec_l01To.f k1 ((rd_T39 l0 (ji27)).f0) ((rd_T39 l0 (ji27)).f1) ((rd_T39 l0 x4_1).f0) ((rd_T39 l0 x4_1).f1)).bind fun t179 => (if 0 ≤ t179 then (if t179 < 4 then ((some (([bt (⟨#[110, 101, 115, 119]⟩ : ByteArray) t179] : List Int) : List Int)).bind fun y180 => (if x3_1.size + (strOfNums y180).size ≤ 9223372036854775807 then (spec_l02Text.l0 k1 l0 (x3_1 ++ (strOfNums y180)) (wrap64 (x4_1 + 1))) else (none))) else (none)) else (none))) else (none)) else (none)) else (none)) = some r := by first | (rw [hji27] at H; exact H) | (simp only [hji27] at H ⊢; exact H)
        have hji27w : (IntKind.i64.wrap (x4_1 - 1)) = ji27 := (i64_w _).trans hji27
        by_cases c28 : 0 ≤ (ji27)
        ·rw [if_pos c28] at H
         have c28b0 : decide (0 ≤ (ji27)) = true := decide_eq_true c28; clear c28
         by_cases c29 : (ji27) < (l0.length : Int)
         ·rw [if_pos c29] at H
          have c29b0 : decide ((ji27) < (l0.length : Int)) = true := decide_eq_true c29; clear c29
          by_cases c30 : 0 ≤ x4_1
          ·rw [if_pos c30] at H
           have c30b0 : decide (0 ≤ x4_1) = true := decide_eq_true c30; clear c30; obtain ⟨t179, A31, H⟩ := obn H
           by_cases c32 : 0 ≤ t179
           ·rw [if_pos c32] at H
            have c32b0 : decide (0 ≤ t179) = true := decide_eq_true c32; clear c32
            by_cases c33 : t179 < 4
            ·rw [if_pos c33] at H
             have c33b0 : decide (t179 < 4) = true := decide_eq_true c33; clear c33; obtain ⟨y180, hy180⟩ : ∃ y_ : List Int, y_ = (([bt (⟨#[110, 101, 115, 119]⟩ : ByteArray) t179] : List Int)) := ⟨_, rfl⟩
             replace H : (if x3_1.size + (strOfNums y180).size ≤ 9223372036854775807 then (spec_l02Text.l0 k1 l0 (x3_1 ++ (strOfNums y180)) (wrap64 (x4_1 + 1))) else (none)) = some r := by first | (rw [hy180]; with_reducible exact H) | (have H2_ := (Option.bind_some _ _).symm.trans H; rw [hy180]; with_reducible exact H2_) | (have H2_ := (Option.bind_some _ _).symm.trans H; with_reducible exact H2_) | with_reducible exact H | (rw [hy180]; exact H) | exact H
             have Ny180 := Aside0.mk hy180; clear hy180
             by_cases c35 : x3_1.size + (strOfNums y180).size ≤ 9223372036854775807
             ·rw [if_pos c35] at H
              have c35b0 := eq_true c35; have c35b1 : decide (x3_1.size + (strOfNums y180).size ≤ 9223372036854775807) = true := decide_eq_true c35
              try have c35b2 : (9223372036854775807 < x3_1.size + (strOfNums y180).size) = False := eq_false (Nat.not_lt.2 c35)
              have H' := Aside0.mk H; clear H
              try go_wp2
              replace HB := Aside0.mk (below_drew1 HB.out); have p177 : 0 ≤ ((ji27) : Int) := oda; have q177 : (ji27) < (l0.length : Int) := oda; obtain ⟨ad177, e177, hx177_0, hx177_1⟩ := at_T39 HR0.out (ji27) p177 q177; have hw177_1 := hx177_1; have hw177_0 := hx177_0; obtain rfl : ad167 = ad177 := (by injection e177)
              try replace hx177_0 := cb HB hx177_0
              try replace hx177_1 := cb HB hx177_1
              replace p177 := eq_true p177; replace q177 := eq_true q177; have p178 : 0 ≤ (x4_1 : Int) := oda; have q178 : x4_1 < (l0.length : Int) := oda; obtain ⟨ad178, e178, hx178_0, hx178_1⟩ := at_T39 HR0.out x4_1 p178 q178; have hw178_1 := hx178_1; have hw178_0 := hx178_0; obtain rfl : ad167 = ad178 := (by injection e178)
              try replace hx178_0 := cb HB hx178_0
              try replace hx178_1 := cb HB hx178_1
              replace p178 := eq_true p178; replace q178 := eq_true q178
              refine start_ (n := 16) (S := fun w' => w'.cell? (ad167.add (((ji27)).toNat * 2)) = some (.int .i8 ((rd_T39 l0 (ji27)).f0)) ∧ w'.cell? ⟨(ad167.add (((ji27)).toNat * 2)).block, (ad167.add (((ji27)).toNat * 2)).off + 1, none⟩ = some (.int .i8 ((rd_T39 l0 (ji27)).f1)) ∧ w'.cell? (ad167.add ((x4_1).toNat * 2)) = some (.int .i8 ((rd_T39 l0 x4_1).f0)) ∧ w'.cell? ⟨(ad167.add ((x4_1).toNat * 2)).block, (ad167.add ((x4_1).toNat * 2)).off + 1, none⟩ = some (.int .i8 ((rd_T39 l0 x4_1).f1))) (ds := []) (bA 16 0) (by kernel_rfl) rfl rfl ⟨(cb HB hw177_0), (cb HB hw177_1), (cb HB hw178_0), (cb HB hw178_1)⟩ (fun hHeld => ?_); refine with_tabW spec_l02Text.tab7 spec_l02Text.bits7 (fun HT_ HW_ => ?_)
              generalize wr.drew = w36 at HB hx177_0 hx177_1 hx178_0 hx178_1 hHeld ⊢; refine pu 0 29 16 1 HT_ ?_; refine pu 1 30 16 3 HT_ ?_; refine pu 2 31 16 7 HT_ ?_; refine pu 3 32 16 15 HT_ ?_; refine pu 4 33 16 31 HT_ ?_; refine pu 6 35 16 95 HT_ ?_; refine pu 7 36 16 223 HT_ ?_; refine pu 8 37 16 479 HT_ ?_; refine tk 5 34 16 511 HT_ HW_ hHeld ?_; refine tk 9 38 16 1023 HT_ HW_ hHeld ?_; refine one_ (i := 10) (N := some 39) (bA 16 2047) rfl rfl (one_of HT_.out (by kernel_rfl)) (by decide) (fun K hK => ?_); refine goes_ Try.func81 (by kernel_rfl) rfl #[.agg #[.int .i8 ((rd_T39 l0 (ji27)).f0), .int .i8 ((rd_T39 l0 (ji27)).f1)], .agg #[.int .i8 ((rd_T39 l0 x4_1).f0), .int .i8 ((rd_T39 l0 x4_1).f1)]] (by rfl) rfl rfl (by (try simp only [List.map_toArray, List.map_cons, List.map_nil]); first | done | (simp only [hji27]; rfl) | rfl | (simp only [List.length_drop, List.length_take]; rfl)) ?_; with_reducible refine (spec_l01To.calls k1 ((rd_T39 l0 (ji27)).f0) ((rd_T39 l0 (ji27)).f1) ((rd_T39 l0 x4_1).f0) ((rd_T39 l0 x4_1).f1) t179 _ A31.out).mono ?_
              rintro e w37 ⟨rfl, hb⟩
              refine ⟨_, rfl, ?_⟩; replace HB := bst HB hb; (try clear hb); (try clear hb2); (try clear hk); (try clear hi); have p34 : 0 ≤ (t179 : Int) := oda; have q34 : t179 < (4 : Int) := oda; have hx34 := bt_at (⟨#[110, 101, 115, 119]⟩ : ByteArray) t179; replace p34 := eq_true p34; replace q34 := eq_true q34; refine hK.out _ _ ⟨(cb HB hw177_0), (cb HB hw177_1), (cb HB hw178_0), (cb HB hw178_1)⟩ (fun hHeld => ?_); clear hK K; refine nm 39 ?_; refine tk 11 40 16 4095 HT_ HW_ hHeld ?_; refine one_ (i := 12) (N := some 41) (bA 16 8191) rfl rfl (one_of HT_.out (by kernel_rfl)) (by decide) (fun K hK => ?_)
              refine Kd.R_lit_step (Kd.int .u8) _ 5 ?hg (N := 41) ?hd (xs := ([bt (⟨#[110, 101, 115, 119]⟩ : ByteArray) t179] : List Int)) (inner := [.int .u8 (bt (⟨#[110, 101, 115, 119]⟩ : ByteArray) t179)]) (ok := fun _ => True) (okp := fun _ => True) ?hr ?hp (fun _ hk => hk) trivial (Below.refl _ _) (Nat.le_refl _) (by simp) ?_; (case hd => rfl); (case hg => rfl); (case hr => first | (go_simp; done) | (go_simp; rfl)); (case hp => exact (Reps.one (show Kd.M (Kd.int .u8) _ _ _ (bt (⟨#[110, 101, 115, 119]⟩ : ByteArray) t179) [.int .u8 (bt (⟨#[110, 101, 115, 119]⟩ : ByteArray) t179)] from rfl) (Reps.none _ _)))
              intro v181 w38 ho39 hb hg_ hnew_; clear hg_ hnew_; (first | rw [← Ny180.out] at ho39 | (simp only [Int.reduceToNat] at ho39; rw [← Ny180.out] at ho39)); have HO182 := Aside0.mk (Kd.R_lower ho39 (below_size (by repeat (first | (with_reducible first | exact HB.out | apply below_alloc | apply pw_below_drewN | apply below_drew1) | exact HB.out)))); replace HB := bst HB hb; clear hb ho39; refine hK.out _ _ ⟨(cb HB hw177_0), (cb HB hw177_1), (cb HB hw178_0), (cb HB hw178_1)⟩ (fun hHeld => ?_); clear hK K; refine nm 41 ?_; refine one_ (i := 13) (N := some 42) (bA 16 16383) rfl rfl (one_of HT_.out (by kernel_rfl)) (by decide) (fun K hK => ?_); have hcv40 := own_string (P := Try.prog) Try.underlying52 Try.underlying5 Try.underlying9 (Kd.own_of_R HO182.out); refine value_ (w1 := ?_) (v := ?_) (by rfl) rfl ?_ ?_; rotate_left 2
              ·go_simp
               constructor
               ·rfl
               ·rfl
              clear hcv40; refine hK.out _ _ ⟨(cb HB hw177_0), (cb HB hw177_1), (cb HB hw178_0), (cb HB hw178_1)⟩ (fun hHeld => ?_); clear hK K; refine nm 42 ?_; refine pu 14 43 16 32767 HT_ ?_; refine pu 15 3 16 65535 HT_ ?_; refine done_ (done_of HT_.out (by kernel_rfl)) ?_
              try go_wp2
              go_roundg k1
              case measure => have := HK1.out; omega
              case rel => exact ⟨(x3_1 ++ (strOfNums y180)), (wrap64 (x4_1 + 1)), (by first | rfl | (simp; done) | (simp [*]; done)), (by first | rfl | (simp; done) | (simp [*]; done)), H', ⟨by have := HK1.out; omega⟩, ⟨pb HB⟩⟩
             ·rw [if_neg c35] at H
              exact absurd H (by simp)
            ·rw [if_neg c33] at H
             exact absurd H (by simp)
           ·rw [if_neg c32] at H
            exact absurd H (by simp)
          ·rw [if_neg c30] at H
           exact absurd H (by simp)
         ·rw [if_neg c29] at H
          exact absurd H (by simp)
        ·rw [if_neg c28] at H
         exact absurd H (by simp)
      ·rw [if_neg c10] at H
       have c10b0 : decide (x4_1 < (l0.length : Int)) = false := decide_eq_false c10; clear c10; obtain rfl := Option.some.inj H
       go_wp2
       go_ret
       exact ⟨by first | rfl | (simp [errW_none, errW_some] <;> rfl) | (simp [*, errW_none, errW_some] <;> rfl), pb HB⟩
   ·rw [if_neg c6] at H
    exact absurd H (by simp)
  ·rw [if_neg c4] at H
   exact absurd H (by simp)
 ·rw [if_neg c2] at H
  exact absurd H (by simp)
end Go.Proofs.Ytjpponjekcemjaa.PB
end
