/- The statement FnExactPostsBound of this program: what its proof uses, part 13 of 14. The call returns true for all arguments. No condition of its own. -/
import Derived.Test.YtmcjgpbhjpakhaaZFnExactPostsBound11
section
namespace Go.Proofs.Ytmcjgpbhjpakhaa.PB
open Go.RowKit Go.Proofs.YtmcjgpbhjpakhaaW.PrintWords Go.Proofs.YtmcjgpbhjpakhaaW.PrintLast Go.Proofs.YtmcjgpbhjpakhaaW.PrintMore Go.Proofs.Ytmcjgpbhjpakhaa.La Go.Proofs.Ytmcjgpbhjpakhaa.Mp
attribute [local go_sem] max2_int min2_int max_two min_two max_three min_three max_four min_four   -- for this text's walks alone
set_option linter.unusedVariables false
set_option linter.unusedSimpArgs false
def impl_PostsBound.l0 : Nat → List Bool → List Int → Int → Int → List (S54) → List (List Int) → Option (Int × Int)
 | 0, _, _, _, _, _, _ => none
 | k + 1, x11, x12, x35, x36, x543000, x543001 => if x36 < x35 then ((slices_ContainsFunc_int_int__37.f k x12 x543000 x543001 x36).bind fun t550 => (if 0 ≤ x36 then (if x36 < (x11.length : Int) then (if rdOf false x11 x36 = true then (if t550 = true then (impl_PostsBound.l0 k x11 x12 x35 (wrap64 (x36 + 1)) x543000 x543001) else (if x12.length < 17592186044416 then (impl_PostsBound.l0 k x11 (x12 ++ [x36]) x35 (wrap64 (x36 + 1)) x543000 x543001) else (none))) else (impl_PostsBound.l0 k x11 x12 x35 (wrap64 (x36 + 1)) x543000 x543001)) else (none)) else (none))) else ((impl_size_int.f x12).bind fun t555 => (some (t555, 0)))
def impl_PostsBound.f (k : Nat) (a0_0 : Int) (a0_1 : Int) (a0_2 : LA 10) (l1 : List (S54)) (a2 : Int) : Option (Int × Int) := (impl_postCode.f k a0_0 a0_1 a0_2 l1 a2 0).bind fun t528 => (if t528 = 0 then ((impl_Room_postsOf.f k a0_0 a0_1 a0_2 a2).bind fun bt529 => ((impl_Room_postsOf.f k a0_0 a0_1 a0_2 (wrap64 (2 * a2))).bind fun bt535 => ((impl_posts_far.f k bt529.1 bt529.2 l1).bind fun t543 => (impl_PostsBound.l0 k t543 (([] : List Int)) (bt529.1.length : Int) 0 bt535.1 bt535.2)))) else (some (0, t528)))
theorem impl_PostsBound.mono_l : ∀ k, (∀ y0 y1 y2 y3 y4 y5, LeO (impl_PostsBound.l0 k y0 y1 y2 y3 y4 y5) (impl_PostsBound.l0 (k + 1) y0 y1 y2 y3 y4 y5))
 | 0 => fun _ _ _ _ _ _ r h => by simp [impl_PostsBound.l0] at h
 | k + 1 => by
  have ih0 := impl_PostsBound.mono_l k
  ·intro y0 y1 y2 y3 y4 y5
   unfold impl_PostsBound.l0
   repeat' first
   | (with_reducible exact ih0 _ _ _ _ _ _)
   | (with_reducible exact impl_Room_postsOf.mono _ _ _ _ _)
   | (with_reducible exact impl_postCode.mono _ _ _ _ _ _ _)
   | (with_reducible exact impl_posts_far.mono _ _ _ _)
   | (with_reducible exact slices_ContainsFunc_int_int__37.mono _ _ _ _ _)
   | (with_reducible exact LeO.refl _)
   | (with_reducible exact LeO.none _)
   | (with_reducible refine LeO.ite ?_ ?_)
   | (with_reducible refine LeO.bind ?_ (fun _ => ?_))
   | exact ih0 _ _ _ _ _ _
   | exact impl_Room_postsOf.mono _ _ _ _ _
   | exact impl_postCode.mono _ _ _ _ _ _ _
   | exact impl_posts_far.mono _ _ _ _
   | exact slices_ContainsFunc_int_int__37.mono _ _ _ _ _
   | exact LeO.none _
   | refine LeO.ite ?_ ?_
   | refine LeO.bind ?_ (fun _ => ?_)
theorem impl_PostsBound.mono : ∀ a0 a1 a2 a3 a4 k, LeO (impl_PostsBound.f k a0 a1 a2 a3 a4) (impl_PostsBound.f (k + 1) a0 a1 a2 a3 a4) := by
 intro a0 a1 a2 a3 a4 k
 have ih0 := impl_PostsBound.mono_l k
 unfold impl_PostsBound.f
 repeat' first
   | (with_reducible exact ih0 _ _ _ _ _ _)
   | (with_reducible exact impl_Room_postsOf.mono _ _ _ _ _)
   | (with_reducible exact impl_postCode.mono _ _ _ _ _ _ _)
   | (with_reducible exact impl_posts_far.mono _ _ _ _)
   | (with_reducible exact slices_ContainsFunc_int_int__37.mono _ _ _ _ _)
   | (with_reducible exact LeO.refl _)
   | (with_reducible exact LeO.none _)
   | (with_reducible refine LeO.ite ?_ ?_)
   | (with_reducible refine LeO.bind ?_ (fun _ => ?_))
   | exact ih0 _ _ _ _ _ _
   | exact impl_Room_postsOf.mono _ _ _ _ _
   | exact impl_postCode.mono _ _ _ _ _ _ _
   | exact impl_posts_far.mono _ _ _ _
   | exact slices_ContainsFunc_int_int__37.mono _ _ _ _ _
   | exact LeO.none _
   | refine LeO.ite ?_ ?_
   | refine LeO.bind ?_ (fun _ => ?_)
def impl_PostsBound.T4 : Bool × List (List Nat × List Nat) := (true, [([], []), ([], []), ([0, 1], [0, 1]), ([], []), ([], []), ([4], [4]), ([3, 5, 2], [3, 5]), ([], []), ([], []), ([7, 2, 6, 0, 1, 2, 7, 8], [2, 7]), ([8, 6, 9, 0, 1, 2, 3, 4, 5, 6, 7, 8, 9], [6, 8])])
def impl_PostsBound.B4 : List Nat := [0, 0, 3, 0, 0, 16, 63, 0, 0, 511, 1023]
theorem impl_PostsBound.tab4 : rtab .any (opsOf Try.f13 4) = impl_PostsBound.T4 := by kernel_rfl
theorem impl_PostsBound.bits4 : waitsOk impl_PostsBound.T4.2 impl_PostsBound.B4 = true := by kernel_rfl
theorem S_ap_ {α : Type} {d : Kd α} {e base : Nat} {w : World} {v u : Value} {xs : List α} (h : Kd.S d e w base (fun _ => True) v xs) (ap : ∀ k, v.ownBlock = some k → some k ≠ u.ownBlock) (hty : ∀ k, u.ownBlock = some k → ∃ cells, w.heap[k]? = some (.cells cells e (0, 0))) (ht : ∀ q, q ∈ d.E → q ≠ e) : Kd.S d e w base (fun k => some k ≠ u.ownBlock) v xs := by
 obtain ⟨f, h1, h2⟩ := h
 refine ⟨f, ap, h2.imp_ (fun x cs hp => (Kd.tag f d).M_mono (fun k hk => ⟨fun he => ?_, hk.1.2⟩) ((Kd.tag f d).M_bound hp))⟩
 obtain ⟨_, _, _, q, hq, c1, hc1⟩ := hk
 obtain ⟨c2, hc2⟩ := hty k he.symm
 have h3 := hc1.symm.trans hc2
 injection h3 with h3
 injection h3 with _ h4
 exact ht q hq h4
set_option maxHeartbeats 8000000 in
set_option maxRecDepth 100000 in
theorem impl_PostsBound.calls (k : Nat) (a0_0 : Int) (a0_1 : Int) (a0_2 : LA 10) (A1 : Option Addr) (c1 : Nat) (l1 : List (S54)) (a2 : Int) (r1 : Int) (r2 : Int) (w : World) (hr1 : Kd.C k54 w A1 l1.length l1) (hc1 : l1.length ≤ c1) (h : impl_PostsBound.f k a0_0 a0_1 a0_2 l1 a2 = some (r1, r2)) :
  Calls Try.prog 13 #[.agg (mixA (Value.int .u16) [.int .i8 a0_0, .int .i8 a0_1] a0_2), .slice A1 l1.length c1, .int .i64 a2] w fun e w' => e = .returned (.tuple #[.int .i64 r1, .int .i64 r2]) ∧ Below w.heap.size w w' := by
 have hu31 := Try.underlying31
 have hu61 := Try.underlying61
 have HR1 := Aside0.mk hr1
 have HC1 := Aside0.mk hc1
 clear hr1 hc1
 have HB := Aside0.mk (Below.refl w.heap.size w)
 have H : ((impl_postCode.f k a0_0 a0_1 a0_2 l1 a2 0).bind fun t528 => (if t528 = 0 then ((impl_Room_postsOf.f k a0_0 a0_1 a0_2 a2).bind fun bt529 => ((impl_Room_postsOf.f k a0_0 a0_1 a0_2 (wrap64 (2 * a2))).bind fun bt535 => ((impl_posts_far.f k bt529.1 bt529.2 l1).bind fun t543 => (impl_PostsBound.l0 k t543 (([] : List Int)) (bt529.1.length : Int) 0 bt535.1 bt535.2)))) else (some (0, t528)))) = some (r1, r2) := h
 clear h
 replace H := Option.bind_eq_some_iff.mp H
 obtain ⟨t528, A40, H⟩ := H
 replace H : (if t528 = 0 then ((impl_Room_postsOf.f k a0_0 a0_1 a0_2 a2).bind fun bt529 => ((impl_Room_postsOf.f k a0_0 a0_1 a0_2 (wrap64 (2 * a2))).bind fun bt535 => ((impl_posts_far.f k bt529.1 bt529.2 l1).bind fun t543 => (impl_PostsBound.l0 k t543 (([] : List Int)) (bt529.1.length : Int) 0 bt535.1 bt535.2)))) else (some (0, t528))) = some (r1, r2) := H
 have A4 := Aside0.mk A40
 clear A40
 by_cases c5 : t528 = 0
 ·rw [if_pos c5] at H
  have c5b0 : (t528 == 0) = true := beq_iff_eq.mpr c5
  have c5b1 : (t528 != 0) = false := bne_eq_false_iff_eq.mpr c5
  clear c5
  replace H := Option.bind_eq_some_iff.mp H
  obtain ⟨⟨t529, t532⟩, A60, H⟩ := H
  replace H : ((impl_Room_postsOf.f k a0_0 a0_1 a0_2 (wrap64 (2 * a2))).bind fun bt535 => ((impl_posts_far.f k t529 t532 l1).bind fun t543 => (impl_PostsBound.l0 k t543 (([] : List Int)) (t529.length : Int) 0 bt535.1 bt535.2))) = some (r1, r2) := H
  have A6 := Aside0.mk A60
  clear A60
  replace H := Option.bind_eq_some_iff.mp H
  obtain ⟨⟨t535, t538⟩, A70, H⟩ := H
  replace H : ((impl_posts_far.f k t529 t532 l1).bind fun t543 => (impl_PostsBound.l0 k t543 (([] : List Int)) (t529.length : Int) 0 t535 t538)) = some (r1, r2) := H
  have A7 := Aside0.mk A70
  clear A70
  replace H := Option.bind_eq_some_iff.mp H
  obtain ⟨t543, A80, H⟩ := H
  replace H : (impl_PostsBound.l0 k t543 (([] : List Int)) (t529.length : Int) 0 t535 t538) = some (r1, r2) := H
  have A8 := Aside0.mk A80
  clear A80
  obtain ⟨y546, hy546⟩ : ∃ y_ : List Int, y_ = (([] : List Int)) := ⟨_, rfl⟩
  replace H : (impl_PostsBound.l0 k t543 y546 (t529.length : Int) 0 t535 t538) = some (r1, r2) := by first | (rw [hy546]; with_reducible exact H) | (have H2_ := (Option.bind_some _ _).symm.trans H; rw [hy546]; with_reducible exact H2_) | (have H2_ := (Option.bind_some _ _).symm.trans H; with_reducible exact H2_) | with_reducible exact H | (rw [hy546]; exact H) | exact H
  have Ny546 := Aside0.mk hy546
  clear hy546
  have H' := Aside0.mk H
  clear H
  go_enter Try.func13, Try.ntmps13
  try go_wp2_with (first | ((with_reducible refine gate_dst (N := 3) rfl ?_); refine box_event ?hg (N := 3) ?hd (cs := (mixA (Value.int .u16) [.int .i8 a0_0, .int .i8 a0_1] a0_2)) (t := 31) ?hr ?_; (case hd => rfl); (case hg => rfl); (case hr => first | (go_simp; done) | (go_simp; rfl)); intro gb527 hg w9 hbox hb; have n0_ := bst HB hb; have n1_ := Aside0.mk (hbox); have n2_ := gwl HB hg; have n3_ := gwl HB hg; clear HB; have HB := n0_; have BK527 := n1_; have GW527 := n2_; have GE527 := n3_; clear n0_ n1_ n2_ n3_; clear hb hbox hg) | ((with_reducible refine gate_dst (N := 15) rfl ?_); refine wpList_run0 (v := .agg (mixA (Value.int .u16) [.int .i8 a0_0, .int .i8 a0_1] a0_2)) rfl (load_mix_run (P := Try.prog) 31 (.tmp 3) rfl gb527 rfl (show World.rangeAt _ gb527 0 ([.int .i8 a0_0, .int .i8 a0_1] ++ a0_2.l.map (Value.int .u16)) from mix_range (show (World.heap _)[gb527]? = some (.cells (mixA (Value.int .u16) [.int .i8 a0_0, .int .i8 a0_1] a0_2) 31 (0, 0)) from by (with_reducible repeat (first | refine blk_drewN ?_ _ | refine blk_drew ?_ | refine blk_alloc ?_ _)); exact BK527.out)) Try.underlying31 rfl (by kernel_rfl) rfl) ?_) | ((with_reducible refine gate_callee (f := 33) rfl ?_); refine goesL_ (some 18) rfl rfl Try.func33 (by kernel_rfl) rfl #[.agg (mixA (Value.int .u16) [.int .i8 a0_0, .int .i8 a0_1] a0_2), .slice A1 l1.length c1, .int .i64 a2, .int .i64 0] rfl (by (try simp only [List.map_toArray, List.map_cons, List.map_nil]); first | done | rfl | (simp only [List.length_drop, List.length_take]; rfl)) ?_; (with_reducible refine (impl_postCode.calls k a0_0 a0_1 a0_2 _ _ l1 a2 0 t528 _ ?side1 ?side2 A4.out).mono ?_); (case side1 => repeat (first | exact (Kd.C_below HR1.out HB.out) | (with_reducible refine Kd.C_alloc ?_ _) | (with_reducible refine Kd.C_drewN ?_ _) | (with_reducible refine Kd.C_drew ?_))); (case side2 => exact HC1.out); rintro e w11 ⟨rfl, hb⟩; refine ⟨_, rfl, ?_⟩; have n0_ := bkb BK527 hb; have n1_ := bst HB hb; clear BK527; clear HB; have BK527 := n0_; have HB := n1_; clear n0_ n1_; (try clear hb); (try clear hb2); (try clear hk); (try clear hi)))
  have n0_ := Aside0.mk (blk_drew BK527.out)
  have n1_ := Aside0.mk (below_drew1 HB.out)
  clear BK527
  clear HB
  have BK527 := n0_
  have HB := n1_
  clear n0_ n1_
  refine start_ (n := 11) (S := fun w' => True) (ds := []) #[false, false, false, false, false, false, false, false, false, false, false] (by kernel_rfl) rfl rfl trivial (fun hHeld => ?_); refine with_tabW impl_PostsBound.tab4 impl_PostsBound.bits4 (fun HT_ HW_ => ?_)
  generalize w11.drew = w12 at BK527 HB hHeld ⊢
  refine pure_ (i := 1) (N := some 23) (v := ?_) (a' := ?_) #[false, true, false, false, false, false, false, false, false, false, false] rfl rfl (any_of HT_.out (by kernel_rfl)) (fun _ _ _ h => h) (Or.inl ⟨by rfl, ?_⟩) ?_ ?_
  rotate_left
  ·intro w'
   go_simp
   with_reducible rfl
  rotate_left
  ·simp only [Act.put, List.setIfInBounds_toArray, List.set_cons_zero, List.set_cons_succ, i64_w, i32_w]
   rfl
  refine pure_ (i := 4) (N := some 26) (v := ?_) (a' := ?_) #[false, true, false, false, true, false, false, false, false, false, false] rfl rfl (any_of HT_.out (by kernel_rfl)) (fun _ _ _ h => h) (Or.inl ⟨by rfl, ?_⟩) ?_ ?_
  rotate_left
  ·intro w'
   go_simp
   with_reducible rfl
  rotate_left
  ·simp only [Act.put, List.setIfInBounds_toArray, List.set_cons_zero, List.set_cons_succ, i64_w, i32_w]
   rfl
  refine inv_at [0, 2, 3, 5, 6, 7, 8, 9, 10] (fun a0_ b a w' => ∃ (v530 : Value) (v533 : Value) (v536 : Value) (v539 : Value) (gb541 : Nat) (gb542 : Nat) (m2_ : Value) (m6_ : Value) (m7_ : Value) (m8_ : Value), a = putSel a0_ b [(0, 22, .agg (mixA (Value.int .u16) [.int .i8 a0_0, .int .i8 a0_1] a0_2)), (2, 24, m2_), (3, 25, .agg (mixA (Value.int .u16) [.int .i8 a0_0, .int .i8 a0_1] a0_2)), (5, 27, .int .i64 (wrap64 (2 * a2))), (6, 28, m6_), (7, 9, m7_), (8, 10, m8_)] ∧ (w'.heap[gb527]? = some (.cells (mixA (Value.int .u16) [.int .i8 a0_0, .int .i8 a0_1] a0_2) 31 (0, 0))) ∧ (Below w.heap.size w w') ∧ (b 7 = true → b 8 = true → gb542 ≠ gb541) ∧ (b 7 = true → b 8 = true → gb541 ≠ gb542) ∧ (b 2 = true → Kd.R k54 54 w' w.heap.size (fun _ => True) v530 t529) ∧ (b 2 = true → Kd.S (Kd.slice 3 (Kd.int .i64)) 65 w' w.heap.size (fun _ => True) v533 t532) ∧ (b 6 = true → Kd.R k54 54 w' w.heap.size (fun _ => True) v536 t535) ∧ (b 6 = true → Kd.S (Kd.slice 3 (Kd.int .i64)) 65 w' w.heap.size (fun _ => True) v539 t538) ∧ (b 7 = true → b 9 = false → w'.heap[gb541]? = some (.cells #[.slice none 0 0, .slice none 0 0] 61 (0, 0))) ∧ (b 7 = true → w.heap.size ≤ gb541) ∧ (b 7 = true → w.heap.size ≤ gb541) ∧ (b 7 = true → gb527 ≠ gb541) ∧ (b 7 = true → gb541 ≠ gb527) ∧ (b 8 = true → b 10 = false → w'.heap[gb542]? = some (.cells #[.slice none 0 0, .slice none 0 0] 61 (0, 0))) ∧ (b 8 = true → w.heap.size ≤ gb542) ∧ (b 8 = true → w.heap.size ≤ gb542) ∧ (b 8 = true → gb527 ≠ gb542) ∧ (b 8 = true → gb542 ≠ gb527) ∧ (b 9 = true → w'.heap[gb541]? = some (.cells #[v530, v533] 61 (0, 0))) ∧ (b 10 = true → w'.heap[gb542]? = some (.cells #[v536, v539] 61 (0, 0))) ∧ (b 2 = true → b 6 = true → ∀ k_, v530.ownBlock = some k_ → some k_ ≠ v536.ownBlock) ∧ (b 2 = true → b 6 = true → ∀ k_, v533.ownBlock = some k_ → some k_ ≠ v539.ownBlock) ∧ (b 2 = true → (m2_ : Value) = .agg #[v530, v533]) ∧ (b 6 = true → (m6_ : Value) = .agg #[v536, v539]) ∧ (b 7 = true → (m7_ : Value) = .pointer (some ⟨gb541, 0, none⟩)) ∧ (b 8 = true → (m8_ : Value) = .pointer (some ⟨gb542, 0, none⟩))) HT_.out HW_.out (by kernel_rfl) (by kernel_rfl) ?_ ?_ ?_
  ·exact ⟨.bool false, .bool false, .bool false, .bool false, 0, 0, .bool false, .bool false, .bool false, .bool false, by simp only [putSel, Bool.false_eq_true, if_false], BK527.out, HB.out, fun h_ => absurd h_ (by decide), fun h_ => absurd h_ (by decide), fun h_ => absurd h_ (by decide), fun h_ => absurd h_ (by decide), fun h_ => absurd h_ (by decide), fun h_ => absurd h_ (by decide), fun h_ => absurd h_ (by decide), fun h_ => absurd h_ (by decide), fun h_ => absurd h_ (by decide), fun h_ => absurd h_ (by decide), fun h_ => absurd h_ (by decide), fun h_ => absurd h_ (by decide), fun h_ => absurd h_ (by decide), fun h_ => absurd h_ (by decide), fun h_ => absurd h_ (by decide), fun h_ => absurd h_ (by decide), fun h_ => absurd h_ (by decide), fun h_ => absurd h_ (by decide), fun h_ => absurd h_ (by decide), fun h_ => absurd h_ (by decide), fun h_ => absurd h_ (by decide), fun h_ => absurd h_ (by decide), fun h_ => absurd h_ (by decide), fun h_ => absurd h_ (by decide)⟩
  ·skip
   clear BK527 HB
   refine steps_cons ?_ ?_
   ·rintro b a w' ⟨v530, v533, v536, v539, gb541, gb542, m2_, m6_, m7_, m8_, ha, Q_BK527, Q_HB, Q_NB542_541, Q_NB541_542, Q_HO531, Q_HO534, Q_HO537, Q_HO540, Q_BK541, Q_GW541, Q_GE541, Q_NB527_541, Q_NB541_527, Q_BK542, Q_GW542, Q_GE542, Q_NB527_542, Q_NB542_527, Q_BK541_e9, Q_BK542_e10, Q_APv530_v536, Q_APv533_v539, Q_X2_, Q_X6_, Q_X7_, Q_X8_⟩ hb_ hon hoff
    refine ⟨_, rfl, fun K hK => ?_⟩
    have e3 : a.tmps[3]? = some (.pointer (some ⟨gb527, 0, none⟩)) := by rw [ha]; exact (putSel_off rfl).trans rfl
    replace ha := Aside0.mk ha
    have BK527 := Aside0.mk Q_BK527
    have HB := Aside0.mk Q_HB
    have hL_ : World.rangeAt w' gb527 0 ([.int .i8 a0_0, .int .i8 a0_1] ++ a0_2.l.map (Value.int .u16)) := mix_range BK527.out
    refine value_ (w1 := w') (v := .agg (mixA (Value.int .u16) [.int .i8 a0_0, .int .i8 a0_1] a0_2)) (by rfl) rfl ?_ ?_
    ·exact load_mix_run (P := Try.prog) 31 (.tmp 3) rfl gb527 (by simp only [Act.eval, Array.getD_eq_getD_getElem?, e3, Option.getD_some]) hL_ Try.underlying31 rfl (by kernel_rfl) rfl
    refine hK.out _ _ ⟨v530, v533, v536, v539, gb541, gb542, m2_, m6_, m7_, m8_, (by rw [ha.out]; exact putSel_upk 0 hb_ rfl rfl rfl), Q_BK527, Q_HB, Q_NB542_541, Q_NB541_542, fun h0_ => absurd ((hoff 2 (by kernel_rfl)).symm.trans h0_) (by decide), fun h0_ => absurd ((hoff 2 (by kernel_rfl)).symm.trans h0_) (by decide), fun h0_ => absurd ((hoff 6 (by kernel_rfl)).symm.trans h0_) (by decide), fun h0_ => absurd ((hoff 6 (by kernel_rfl)).symm.trans h0_) (by decide), Q_BK541, Q_GW541, Q_GE541, Q_NB527_541, Q_NB541_527, Q_BK542, Q_GW542, Q_GE542, Q_NB527_542, Q_NB542_527, fun h0_ => absurd ((hoff 9 (by kernel_rfl)).symm.trans h0_) (by decide), fun h0_ => absurd ((hoff 10 (by kernel_rfl)).symm.trans h0_) (by decide), fun h0_ _ => absurd ((hoff 2 (by kernel_rfl)).symm.trans h0_) (by decide), fun h0_ _ => absurd ((hoff 2 (by kernel_rfl)).symm.trans h0_) (by decide), fun h0_ => absurd ((hoff 2 (by kernel_rfl)).symm.trans h0_) (by decide), fun h0_ => absurd ((hoff 6 (by kernel_rfl)).symm.trans h0_) (by decide), Q_X7_, Q_X8_⟩
   refine steps_cons ?_ ?_
   ·rintro b a w' ⟨v530, v533, v536, v539, gb541, gb542, m2_, m6_, m7_, m8_, ha, Q_BK527, Q_HB, Q_NB542_541, Q_NB541_542, Q_HO531, Q_HO534, Q_HO537, Q_HO540, Q_BK541, Q_GW541, Q_GE541, Q_NB527_541, Q_NB541_527, Q_BK542, Q_GW542, Q_GE542, Q_NB527_542, Q_NB542_527, Q_BK541_e9, Q_BK542_e10, Q_APv530_v536, Q_APv533_v539, Q_X2_, Q_X6_, Q_X7_, Q_X8_⟩ hb_ hon hoff
    refine ⟨_, rfl, fun K hK => ?_⟩
    have e22 : a.tmps[22]? = some (.agg (mixA (Value.int .u16) [.int .i8 a0_0, .int .i8 a0_1] a0_2)) := by rw [ha]; exact putSel_on (e := (0, 22, .agg (mixA (Value.int .u16) [.int .i8 a0_0, .int .i8 a0_1] a0_2))) 0 rfl rfl (hon 0 (by kernel_rfl)) rfl
    have e23 : a.tmps[23]? = some (.int .i64 a2) := by rw [ha]; exact (putSel_off rfl).trans rfl
    replace ha := Aside0.mk ha
    have BK527 := Aside0.mk Q_BK527
    have HB := Aside0.mk Q_HB
    refine goes_ Try.func34 (by kernel_rfl) rfl #[.agg (mixA (Value.int .u16) [.int .i8 a0_0, .int .i8 a0_1] a0_2), .int .i64 a2] (by rfl) rfl rfl (by first | (simp only [List.map_toArray, List.map_cons, List.map_nil, Act.eval, Array.getD_eq_getD_getElem?, Option.getD_some, e22, e23]; done) | (simp only [List.map_toArray, List.map_cons, List.map_nil, Act.eval, Array.getD_eq_getD_getElem?, Option.getD_some, e22, e23]; rfl)) ?_
    with_reducible refine (impl_Room_postsOf.calls k a0_0 a0_1 a0_2 a2 t529 t532 _ A6.out).mono ?_
    rintro e w13 ⟨v530, v533, rfl, ho0, ho1, hb⟩
    have ap_v533 := Kd.S_base ho1
    have ap_v530 := Kd.R_base ho0
    refine ⟨_, rfl, ?_⟩
    have n0_ := Aside0.mk (Kd.R_lower ho0 (below_size (by repeat (first | (with_reducible first | exact HB.out | apply below_alloc | apply pw_below_drewN | apply below_drew1 | refine below_set ?_ GE527.out) | exact HB.out))))
    have n1_ := Aside0.mk (Kd.S_lower ho1 (below_size (by repeat (first | (with_reducible first | exact HB.out | apply below_alloc | apply pw_below_drewN | apply below_drew1 | refine below_set ?_ GE527.out) | exact HB.out))))
    have n2_ := bkb BK527 hb
    have n3_ := bst HB hb
    have z_BK541 := fun (h0_ : b 7 = true) (h1_ : b 9 = false) => (show w13.heap[gb541]? = some (.cells #[.slice none 0 0, .slice none 0 0] 61 (0, 0)) from by first | exact (blk_below (g := gb541) (o := .cells #[.slice none 0 0, .slice none 0 0] 61 (0, 0)) (by (with_reducible repeat (first | refine blk_drewN ?_ _ | refine blk_drew ?_ | refine blk_alloc ?_ _)); exact (Q_BK541 h0_ h1_)) hb))
    have z_BK542 := fun (h0_ : b 8 = true) (h1_ : b 10 = false) => (show w13.heap[gb542]? = some (.cells #[.slice none 0 0, .slice none 0 0] 61 (0, 0)) from by first | exact (blk_below (g := gb542) (o := .cells #[.slice none 0 0, .slice none 0 0] 61 (0, 0)) (by (with_reducible repeat (first | refine blk_drewN ?_ _ | refine blk_drew ?_ | refine blk_alloc ?_ _)); exact (Q_BK542 h0_ h1_)) hb))
    clear BK527
    clear HB
    have HO531 := n0_
    have HO534 := n1_
    have BK527 := n2_
    have HB := n3_
    clear n0_ n1_ n2_ n3_
    (try clear hb)
    (try clear hb2)
    (try clear hk)
    (try clear hi)
    (try clear ho0)
    (try clear ho1)
    refine hK.out _ _ ⟨v530, v533, v536, v539, gb541, gb542, (.agg #[v530, v533]), m6_, m7_, m8_, (by rw [ha.out]; exact putSel_upk 1 hb_ rfl rfl rfl), (pk BK527), (pbs HB), Q_NB542_541, Q_NB541_542, fun _ => (by (with_reducible repeat (first | apply Kd.R_alloc | apply Kd.R_drewN | apply Kd.R_drew)); exact HO531.out), fun _ => (by (with_reducible repeat (first | apply Kd.S_alloc | apply Kd.S_drewN | apply Kd.S_drew)); exact HO534.out), fun h0_ => absurd ((hoff 6 (by kernel_rfl)).symm.trans h0_) (by decide), fun h0_ => absurd ((hoff 6 (by kernel_rfl)).symm.trans h0_) (by decide), z_BK541, Q_GW541, Q_GE541, Q_NB527_541, Q_NB541_527, z_BK542, Q_GW542, Q_GE542, Q_NB527_542, Q_NB542_527, fun h0_ => absurd ((hoff 9 (by kernel_rfl)).symm.trans h0_) (by decide), fun h0_ => absurd ((hoff 10 (by kernel_rfl)).symm.trans h0_) (by decide), fun _ h1_ => absurd ((hoff 6 (by kernel_rfl)).symm.trans h1_) (by decide), fun _ h1_ => absurd ((hoff 6 (by kernel_rfl)).symm.trans h1_) (by decide), fun _ => rfl, fun h0_ => absurd ((hoff 6 (by kernel_rfl)).symm.trans h0_) (by decide), Q_X7_, Q_X8_⟩
   refine steps_cons ?_ ?_
   ·rintro b a w' ⟨v530, v533, v536, v539, gb541, gb542, m2_, m6_, m7_, m8_, ha, Q_BK527, Q_HB, Q_NB542_541, Q_NB541_542, Q_HO531, Q_HO534, Q_HO537, Q_HO540, Q_BK541, Q_GW541, Q_GE541, Q_NB527_541, Q_NB541_527, Q_BK542, Q_GW542, Q_GE542, Q_NB527_542, Q_NB542_527, Q_BK541_e9, Q_BK542_e10, Q_APv530_v536, Q_APv533_v539, Q_X2_, Q_X6_, Q_X7_, Q_X8_⟩ hb_ hon hoff
    refine ⟨_, rfl, fun K hK => ?_⟩
    have e3 : a.tmps[3]? = some (.pointer (some ⟨gb527, 0, none⟩)) := by rw [ha]; exact (putSel_off rfl).trans rfl
    replace ha := Aside0.mk ha
    have BK527 := Aside0.mk Q_BK527
    have HB := Aside0.mk Q_HB
    have hL_ : World.rangeAt w' gb527 0 ([.int .i8 a0_0, .int .i8 a0_1] ++ a0_2.l.map (Value.int .u16)) := mix_range BK527.out
    refine value_ (w1 := w') (v := .agg (mixA (Value.int .u16) [.int .i8 a0_0, .int .i8 a0_1] a0_2)) (by rfl) rfl ?_ ?_
    ·exact load_mix_run (P := Try.prog) 31 (.tmp 3) rfl gb527 (by simp only [Act.eval, Array.getD_eq_getD_getElem?, e3, Option.getD_some]) hL_ Try.underlying31 rfl (by kernel_rfl) rfl
    refine hK.out _ _ ⟨v530, v533, v536, v539, gb541, gb542, m2_, m6_, m7_, m8_, (by rw [ha.out]; exact putSel_upk 2 hb_ rfl rfl rfl), Q_BK527, Q_HB, Q_NB542_541, Q_NB541_542, Q_HO531, Q_HO534, fun h0_ => absurd ((hoff 6 (by kernel_rfl)).symm.trans h0_) (by decide), fun h0_ => absurd ((hoff 6 (by kernel_rfl)).symm.trans h0_) (by decide), Q_BK541, Q_GW541, Q_GE541, Q_NB527_541, Q_NB541_527, Q_BK542, Q_GW542, Q_GE542, Q_NB527_542, Q_NB542_527, fun h0_ => absurd ((hoff 9 (by kernel_rfl)).symm.trans h0_) (by decide), fun h0_ => absurd ((hoff 10 (by kernel_rfl)).symm.trans h0_) (by decide), fun _ h1_ => absurd ((hoff 6 (by kernel_rfl)).symm.trans h1_) (by decide), fun _ h1_ => absurd ((hoff 6 (by kernel_rfl)).symm.trans h1_) (by decide), Q_X2_, fun h0_ => absurd ((hoff 6 (by kernel_rfl)).symm.trans h0_) (by decide), Q_X7_, Q_X8_⟩
   refine steps_cons ?_ ?_
   ·rintro b a w' ⟨v530, v533, v536, v539, gb541, gb542, m2_, m6_, m7_, m8_, ha, Q_BK527, Q_HB, Q_NB542_541, Q_NB541_542, Q_HO531, Q_HO534, Q_HO537, Q_HO540, Q_BK541, Q_GW541, Q_GE541, Q_NB527_541, Q_NB541_527, Q_BK542, Q_GW542, Q_GE542, Q_NB527_542, Q_NB542_527, Q_BK541_e9, Q_BK542_e10, Q_APv530_v536, Q_APv533_v539, Q_X2_, Q_X6_, Q_X7_, Q_X8_⟩ hb_ hon hoff
    refine ⟨_, rfl, fun K hK => ?_⟩
    have e26 : a.tmps[26]? = some (.int .i64 a2) := by rw [ha]; exact (putSel_off rfl).trans rfl
    replace ha := Aside0.mk ha
    have BK527 := Aside0.mk Q_BK527
    have HB := Aside0.mk Q_HB
    refine value_ (w1 := w') (v := .int .i64 (wrap64 (2 * a2))) (by rfl) rfl ?_ ?_
    ·go_simp
     (try simp only [i64_w])
     try rfl
    refine hK.out _ _ ⟨v530, v533, v536, v539, gb541, gb542, m2_, m6_, m7_, m8_, (by rw [ha.out]; exact putSel_upk 3 hb_ rfl rfl rfl), Q_BK527, Q_HB, Q_NB542_541, Q_NB541_542, Q_HO531, Q_HO534, fun h0_ => absurd ((hoff 6 (by kernel_rfl)).symm.trans h0_) (by decide), fun h0_ => absurd ((hoff 6 (by kernel_rfl)).symm.trans h0_) (by decide), Q_BK541, Q_GW541, Q_GE541, Q_NB527_541, Q_NB541_527, Q_BK542, Q_GW542, Q_GE542, Q_NB527_542, Q_NB542_527, fun h0_ => absurd ((hoff 9 (by kernel_rfl)).symm.trans h0_) (by decide), fun h0_ => absurd ((hoff 10 (by kernel_rfl)).symm.trans h0_) (by decide), fun _ h1_ => absurd ((hoff 6 (by kernel_rfl)).symm.trans h1_) (by decide), fun _ h1_ => absurd ((hoff 6 (by kernel_rfl)).symm.trans h1_) (by decide), Q_X2_, fun h0_ => absurd ((hoff 6 (by kernel_rfl)).symm.trans h0_) (by decide), Q_X7_, Q_X8_⟩
   refine steps_cons ?_ ?_
   ·rintro b a w' ⟨v530, v533, v536, v539, gb541, gb542, m2_, m6_, m7_, m8_, ha, Q_BK527, Q_HB, Q_NB542_541, Q_NB541_542, Q_HO531, Q_HO534, Q_HO537, Q_HO540, Q_BK541, Q_GW541, Q_GE541, Q_NB527_541, Q_NB541_527, Q_BK542, Q_GW542, Q_GE542, Q_NB527_542, Q_NB542_527, Q_BK541_e9, Q_BK542_e10, Q_APv530_v536, Q_APv533_v539, Q_X2_, Q_X6_, Q_X7_, Q_X8_⟩ hb_ hon hoff
    refine ⟨_, rfl, fun K hK => ?_⟩
    have e25 : a.tmps[25]? = some (.agg (mixA (Value.int .u16) [.int .i8 a0_0, .int .i8 a0_1] a0_2)) := by rw [ha]; exact putSel_on (e := (3, 25, .agg (mixA (Value.int .u16) [.int .i8 a0_0, .int .i8 a0_1] a0_2))) 2 rfl rfl (hon 3 (by kernel_rfl)) rfl
    have e27 : a.tmps[27]? = some (.int .i64 (wrap64 (2 * a2))) := by rw [ha]; exact putSel_on (e := (5, 27, .int .i64 (wrap64 (2 * a2)))) 3 rfl rfl (hon 5 (by kernel_rfl)) rfl
    replace ha := Aside0.mk ha
    have BK527 := Aside0.mk Q_BK527
    have HB := Aside0.mk Q_HB
    have HO531 := Aside0.mk (Q_HO531 (hon 2 (by kernel_rfl)))
    have HO534 := Aside0.mk (Q_HO534 (hon 2 (by kernel_rfl)))
    refine goes_ Try.func34 (by kernel_rfl) rfl #[.agg (mixA (Value.int .u16) [.int .i8 a0_0, .int .i8 a0_1] a0_2), .int .i64 (wrap64 (2 * a2))] (by rfl) rfl rfl (by first | (simp only [List.map_toArray, List.map_cons, List.map_nil, Act.eval, Array.getD_eq_getD_getElem?, Option.getD_some, e25, e27]; done) | (simp only [List.map_toArray, List.map_cons, List.map_nil, Act.eval, Array.getD_eq_getD_getElem?, Option.getD_some, e25, e27]; rfl)) ?_
    with_reducible refine (impl_Room_postsOf.calls k a0_0 a0_1 a0_2 (wrap64 (2 * a2)) t535 t538 _ A7.out).mono ?_
    rintro e w15 ⟨v536, v539, rfl, ho0, ho1, hb⟩
    have ap_v539 := Kd.S_base ho1
    have ap_v536 := Kd.R_base ho0
    refine ⟨_, rfl, ?_⟩
    have n0_ := Aside0.mk (Kd.R_elder' (by (with_reducible repeat (first | apply Kd.R_alloc | apply Kd.R_drewN | apply Kd.R_drew)); exact HO531.out) (Kd.R_base ho0) hb)
    have n1_ := Aside0.mk (Kd.S_elder' (by (with_reducible repeat (first | apply Kd.S_alloc | apply Kd.S_drewN | apply Kd.S_drew)); exact HO534.out) (Kd.S_base ho1) hb)
    have n2_ := Aside0.mk (Kd.R_lower (Kd.R_new' ho0 (Kd.R_lt (by (with_reducible repeat (first | apply Kd.R_alloc | apply Kd.R_drewN | apply Kd.R_drew)); exact HO531.out))) (below_size (by repeat (first | (with_reducible first | exact HB.out | apply below_alloc | apply pw_below_drewN | apply below_drew1 | refine below_set ?_ GE527.out) | exact HB.out))))
    have n3_ := Aside0.mk (Kd.S_lower (Kd.S_new' ho1 (Kd.S_lt (by (with_reducible repeat (first | apply Kd.S_alloc | apply Kd.S_drewN | apply Kd.S_drew)); exact HO534.out))) (below_size (by repeat (first | (with_reducible first | exact HB.out | apply below_alloc | apply pw_below_drewN | apply below_drew1 | refine below_set ?_ GE527.out) | exact HB.out))))
    have n4_ := bkb BK527 hb
    have n5_ := bst HB hb
    have z_BK541 := fun (h0_ : b 7 = true) (h1_ : b 9 = false) => (show w15.heap[gb541]? = some (.cells #[.slice none 0 0, .slice none 0 0] 61 (0, 0)) from by first | exact (blk_below (g := gb541) (o := .cells #[.slice none 0 0, .slice none 0 0] 61 (0, 0)) (by (with_reducible repeat (first | refine blk_drewN ?_ _ | refine blk_drew ?_ | refine blk_alloc ?_ _)); exact (Q_BK541 h0_ h1_)) hb))
    have z_BK542 := fun (h0_ : b 8 = true) (h1_ : b 10 = false) => (show w15.heap[gb542]? = some (.cells #[.slice none 0 0, .slice none 0 0] 61 (0, 0)) from by first | exact (blk_below (g := gb542) (o := .cells #[.slice none 0 0, .slice none 0 0] 61 (0, 0)) (by (with_reducible repeat (first | refine blk_drewN ?_ _ | refine blk_drew ?_ | refine blk_alloc ?_ _)); exact (Q_BK542 h0_ h1_)) hb))
    clear HO531
    clear HO534
    clear BK527
    clear HB
    have HO531 := n0_
    have HO534 := n1_
    have HO537 := n2_
    have HO540 := n3_
    have BK527 := n4_
    have HB := n5_
    clear n0_ n1_ n2_ n3_ n4_ n5_
    (try clear hb)
    (try clear hb2)
    (try clear hk)
    (try clear hi)
    (try clear ho0)
    (try clear ho1)
    refine hK.out _ _ ⟨v530, v533, v536, v539, gb541, gb542, m2_, (.agg #[v536, v539]), m7_, m8_, (by rw [ha.out]; exact putSel_upk 4 hb_ rfl rfl rfl), (pk BK527), (pbs HB), Q_NB542_541, Q_NB541_542, fun _ => (by (with_reducible repeat (first | apply Kd.R_alloc | apply Kd.R_drewN | apply Kd.R_drew)); exact Kd.R_mono HO531.out (fun _ hk => by first | exact hk.2 | trivial)), fun _ => (by (with_reducible repeat (first | apply Kd.S_alloc | apply Kd.S_drewN | apply Kd.S_drew)); exact Kd.S_mono HO534.out (fun _ hk => by first | exact hk.2 | trivial)), fun _ => (by (with_reducible repeat (first | apply Kd.R_alloc | apply Kd.R_drewN | apply Kd.R_drew)); exact Kd.R_mono HO537.out (fun _ hk => by first | exact hk.2 | trivial)), fun _ => (by (with_reducible repeat (first | apply Kd.S_alloc | apply Kd.S_drewN | apply Kd.S_drew)); exact Kd.S_mono HO540.out (fun _ hk => by first | exact hk.2 | trivial)), z_BK541, Q_GW541, Q_GE541, Q_NB527_541, Q_NB541_527, z_BK542, Q_GW542, Q_GE542, Q_NB527_542, Q_NB542_527, fun h0_ => absurd ((hoff 9 (by kernel_rfl)).symm.trans h0_) (by decide), fun h0_ => absurd ((hoff 10 (by kernel_rfl)).symm.trans h0_) (by decide), fun h0_ _ => fun k_ hk_ he_ => absurd (Kd.R_lt (Q_HO531 h0_) _ hk_) (Nat.not_lt.2 (ap_v536 k_ he_.symm)), fun h0_ _ => fun k_ hk_ he_ => absurd (Kd.S_lt (Q_HO534 h0_) _ hk_) (Nat.not_lt.2 (ap_v539 k_ he_.symm)), Q_X2_, fun _ => rfl, Q_X7_, Q_X8_⟩
   refine steps_cons ?_ ?_
   ·rintro b a w' ⟨v530, v533, v536, v539, gb541, gb542, m2_, m6_, m7_, m8_, ha, Q_BK527, Q_HB, Q_NB542_541, Q_NB541_542, Q_HO531, Q_HO534, Q_HO537, Q_HO540, Q_BK541, Q_GW541, Q_GE541, Q_NB527_541, Q_NB541_527, Q_BK542, Q_GW542, Q_GE542, Q_NB527_542, Q_NB542_527, Q_BK541_e9, Q_BK542_e10, Q_APv530_v536, Q_APv533_v539, Q_X2_, Q_X6_, Q_X7_, Q_X8_⟩ hb_ hon hoff
    refine ⟨_, rfl, fun K hK => ?_⟩
    replace ha := Aside0.mk ha
    have BK527 := Aside0.mk Q_BK527
    have HB := Aside0.mk Q_HB
    refine box_step ?hg (N := 9) ?hd (cs := #[.slice none 0 0, .slice none 0 0]) (t := 61) ?hr ?_; (case hd => rfl); (case hg => rfl); (case hr => first | (go_simp; done) | (go_simp; rfl))
    intro gb541 hg w13 hbox hb
    have n0_ := bkb BK527 hb
    have n1_ := bst HB hb
    have n2_ := Aside0.mk (hbox)
    have n3_ := gwl HB hg
    have n4_ := gwl HB hg
    have n5_ := nbl BK527 hg
    have n6_ := nbg BK527 hg
    have z_NB542_541 := fun (h0_ : up b 7 7 = true) (h1_ : up b 7 8 = true) => (show gb542 ≠ gb541 from ((by rw [hg]; exact Nat.ne_of_lt (blk_lt (g := gb542) (o := .cells #[.slice none 0 0, .slice none 0 0] 61 (0, 0)) (by (with_reducible repeat (first | refine blk_drewN ?_ _ | refine blk_drew ?_ | refine blk_alloc ?_ _)); exact (Q_BK542 h1_ (hoff 10 (by kernel_rfl))))) : gb542 ≠ gb541)))
    have z_NB541_542 := fun (h0_ : up b 7 7 = true) (h1_ : up b 7 8 = true) => (show gb541 ≠ gb542 from ((by rw [hg]; exact Nat.ne_of_gt (blk_lt (g := gb542) (o := .cells #[.slice none 0 0, .slice none 0 0] 61 (0, 0)) (by (with_reducible repeat (first | refine blk_drewN ?_ _ | refine blk_drew ?_ | refine blk_alloc ?_ _)); exact (Q_BK542 h1_ (hoff 10 (by kernel_rfl))))) : gb541 ≠ gb542)))
    have z_HO531 := fun (h0_ : b 2 = true) => (show Kd.R k54 54 w13 w.heap.size (fun _ => True) v530 t529 from by first | exact (Kd.R_below (by (with_reducible repeat (first | apply Kd.R_alloc | apply Kd.R_drewN | apply Kd.R_drew)); exact (Q_HO531 h0_)) hb) | exact Kd.R_mono (Kd.R_below (by (with_reducible repeat (first | apply Kd.R_alloc | apply Kd.R_drewN | apply Kd.R_drew)); exact (Q_HO531 h0_)) hb) (fun _ h_ => by first | trivial | exact h_ | exact h_.1))
    have z_HO534 := fun (h0_ : b 2 = true) => (show Kd.S (Kd.slice 3 (Kd.int .i64)) 65 w13 w.heap.size (fun _ => True) v533 t532 from by first | exact (Kd.S_below (by (with_reducible repeat (first | apply Kd.S_alloc | apply Kd.S_drewN | apply Kd.S_drew)); exact (Q_HO534 h0_)) hb) | exact Kd.S_mono (Kd.S_below (by (with_reducible repeat (first | apply Kd.S_alloc | apply Kd.S_drewN | apply Kd.S_drew)); exact (Q_HO534 h0_)) hb) (fun _ h_ => by first | trivial | exact h_ | exact h_.1))
    have z_HO537 := fun (h0_ : b 6 = true) => (show Kd.R k54 54 w13 w.heap.size (fun _ => True) v536 t535 from by first | exact (Kd.R_below (by (with_reducible repeat (first | apply Kd.R_alloc | apply Kd.R_drewN | apply Kd.R_drew)); exact (Q_HO537 h0_)) hb) | exact Kd.R_mono (Kd.R_below (by (with_reducible repeat (first | apply Kd.R_alloc | apply Kd.R_drewN | apply Kd.R_drew)); exact (Q_HO537 h0_)) hb) (fun _ h_ => by first | trivial | exact h_ | exact h_.1))
    have z_HO540 := fun (h0_ : b 6 = true) => (show Kd.S (Kd.slice 3 (Kd.int .i64)) 65 w13 w.heap.size (fun _ => True) v539 t538 from by first | exact (Kd.S_below (by (with_reducible repeat (first | apply Kd.S_alloc | apply Kd.S_drewN | apply Kd.S_drew)); exact (Q_HO540 h0_)) hb) | exact Kd.S_mono (Kd.S_below (by (with_reducible repeat (first | apply Kd.S_alloc | apply Kd.S_drewN | apply Kd.S_drew)); exact (Q_HO540 h0_)) hb) (fun _ h_ => by first | trivial | exact h_ | exact h_.1))
    have z_BK542 := fun (h0_ : b 8 = true) (h1_ : b 10 = false) => (show w13.heap[gb542]? = some (.cells #[.slice none 0 0, .slice none 0 0] 61 (0, 0)) from by first | exact (blk_below (g := gb542) (o := .cells #[.slice none 0 0, .slice none 0 0] 61 (0, 0)) (by (with_reducible repeat (first | refine blk_drewN ?_ _ | refine blk_drew ?_ | refine blk_alloc ?_ _)); exact (Q_BK542 h0_ h1_)) hb))
    clear BK527
    clear HB
    have BK527 := n0_
    have HB := n1_
    have BK541 := n2_
    have GW541 := n3_
    have GE541 := n4_
    have NB527_541 := n5_
    have NB541_527 := n6_
    clear n0_ n1_ n2_ n3_ n4_ n5_ n6_
    clear hb hbox hg
    refine hK.out _ _ ⟨v530, v533, v536, v539, gb541, gb542, m2_, m6_, (.pointer (some ⟨gb541, 0, none⟩)), m8_, (by rw [ha.out]; exact putSel_upk 5 hb_ rfl rfl rfl), (pk BK527), (pbs HB), z_NB542_541, z_NB541_542, z_HO531, z_HO534, z_HO537, z_HO540, fun _ _ => (pk BK541), fun _ => GW541.out, fun _ => GE541.out, fun _ => NB527_541.out, fun _ => NB541_527.out, z_BK542, Q_GW542, Q_GE542, Q_NB527_542, Q_NB542_527, fun h0_ => absurd ((hoff 9 (by kernel_rfl)).symm.trans h0_) (by decide), fun h0_ => absurd ((hoff 10 (by kernel_rfl)).symm.trans h0_) (by decide), Q_APv530_v536, Q_APv533_v539, Q_X2_, Q_X6_, fun _ => rfl, Q_X8_⟩
   refine steps_cons ?_ ?_
   ·rintro b a w' ⟨v530, v533, v536, v539, gb541, gb542, m2_, m6_, m7_, m8_, ha, Q_BK527, Q_HB, Q_NB542_541, Q_NB541_542, Q_HO531, Q_HO534, Q_HO537, Q_HO540, Q_BK541, Q_GW541, Q_GE541, Q_NB527_541, Q_NB541_527, Q_BK542, Q_GW542, Q_GE542, Q_NB527_542, Q_NB542_527, Q_BK541_e9, Q_BK542_e10, Q_APv530_v536, Q_APv533_v539, Q_X2_, Q_X6_, Q_X7_, Q_X8_⟩ hb_ hon hoff
    refine ⟨_, rfl, fun K hK => ?_⟩
    replace ha := Aside0.mk ha
    have BK527 := Aside0.mk Q_BK527
    have HB := Aside0.mk Q_HB
    refine box_step ?hg (N := 10) ?hd (cs := #[.slice none 0 0, .slice none 0 0]) (t := 61) ?hr ?_; (case hd => rfl); (case hg => rfl); (case hr => first | (go_simp; done) | (go_simp; rfl))
    intro gb542 hg w13 hbox hb
    have n0_ := bkb BK527 hb
    have n1_ := bst HB hb
    have n2_ := Aside0.mk (hbox)
    have n3_ := gwl HB hg
    have n4_ := gwl HB hg
    have n5_ := nbl BK527 hg
    have n6_ := nbg BK527 hg
    have z_NB542_541 := fun (h0_ : up b 8 7 = true) (h1_ : up b 8 8 = true) => (show gb542 ≠ gb541 from ((by rw [hg]; exact Nat.ne_of_gt (blk_lt (g := gb541) (o := .cells #[.slice none 0 0, .slice none 0 0] 61 (0, 0)) (by (with_reducible repeat (first | refine blk_drewN ?_ _ | refine blk_drew ?_ | refine blk_alloc ?_ _)); exact (Q_BK541 h0_ (hoff 9 (by kernel_rfl))))) : gb542 ≠ gb541)))
    have z_NB541_542 := fun (h0_ : up b 8 7 = true) (h1_ : up b 8 8 = true) => (show gb541 ≠ gb542 from ((by rw [hg]; exact Nat.ne_of_lt (blk_lt (g := gb541) (o := .cells #[.slice none 0 0, .slice none 0 0] 61 (0, 0)) (by (with_reducible repeat (first | refine blk_drewN ?_ _ | refine blk_drew ?_ | refine blk_alloc ?_ _)); exact (Q_BK541 h0_ (hoff 9 (by kernel_rfl))))) : gb541 ≠ gb542)))
    have z_HO531 := fun (h0_ : b 2 = true) => (show Kd.R k54 54 w13 w.heap.size (fun _ => True) v530 t529 from by first | exact (Kd.R_below (by (with_reducible repeat (first | apply Kd.R_alloc | apply Kd.R_drewN | apply Kd.R_drew)); exact (Q_HO531 h0_)) hb) | exact Kd.R_mono (Kd.R_below (by (with_reducible repeat (first | apply Kd.R_alloc | apply Kd.R_drewN | apply Kd.R_drew)); exact (Q_HO531 h0_)) hb) (fun _ h_ => by first | trivial | exact h_ | exact h_.1))
    have z_HO534 := fun (h0_ : b 2 = true) => (show Kd.S (Kd.slice 3 (Kd.int .i64)) 65 w13 w.heap.size (fun _ => True) v533 t532 from by first | exact (Kd.S_below (by (with_reducible repeat (first | apply Kd.S_alloc | apply Kd.S_drewN | apply Kd.S_drew)); exact (Q_HO534 h0_)) hb) | exact Kd.S_mono (Kd.S_below (by (with_reducible repeat (first | apply Kd.S_alloc | apply Kd.S_drewN | apply Kd.S_drew)); exact (Q_HO534 h0_)) hb) (fun _ h_ => by first | trivial | exact h_ | exact h_.1))
    have z_HO537 := fun (h0_ : b 6 = true) => (show Kd.R k54 54 w13 w.heap.size (fun _ => True) v536 t535 from by first | exact (Kd.R_below (by (with_reducible repeat (first | apply Kd.R_alloc | apply Kd.R_drewN | apply Kd.R_drew)); exact (Q_HO537 h0_)) hb) | exact Kd.R_mono (Kd.R_below (by (with_reducible repeat (first | apply Kd.R_alloc | apply Kd.R_drewN | apply Kd.R_drew)); exact (Q_HO537 h0_)) hb) (fun _ h_ => by first | trivial | exact h_ | exact h_.1))
    have z_HO540 := fun (h0_ : b 6 = true) => (show Kd.S (Kd.slice 3 (Kd.int .i64)) 65 w13 w.heap.size (fun _ => True) v539 t538 from by first | exact (Kd.S_below (by (with_reducible repeat (first | apply Kd.S_alloc | apply Kd.S_drewN | apply Kd.S_drew)); exact (Q_HO540 h0_)) hb) | exact Kd.S_mono (Kd.S_below (by (with_reducible repeat (first | apply Kd.S_alloc | apply Kd.S_drewN | apply Kd.S_drew)); exact (Q_HO540 h0_)) hb) (fun _ h_ => by first | trivial | exact h_ | exact h_.1))
    have z_BK541 := fun (h0_ : b 7 = true) (h1_ : b 9 = false) => (show w13.heap[gb541]? = some (.cells #[.slice none 0 0, .slice none 0 0] 61 (0, 0)) from by first | exact (blk_below (g := gb541) (o := .cells #[.slice none 0 0, .slice none 0 0] 61 (0, 0)) (by (with_reducible repeat (first | refine blk_drewN ?_ _ | refine blk_drew ?_ | refine blk_alloc ?_ _)); exact (Q_BK541 h0_ h1_)) hb))
    clear BK527
    clear HB
    have BK527 := n0_
    have HB := n1_
    have BK542 := n2_
    have GW542 := n3_
    have GE542 := n4_
    have NB527_542 := n5_
    have NB542_527 := n6_
    clear n0_ n1_ n2_ n3_ n4_ n5_ n6_
    clear hb hbox hg
    refine hK.out _ _ ⟨v530, v533, v536, v539, gb541, gb542, m2_, m6_, m7_, (.pointer (some ⟨gb542, 0, none⟩)), (by rw [ha.out]; exact putSel_upk 6 hb_ rfl rfl rfl), (pk BK527), (pbs HB), z_NB542_541, z_NB541_542, z_HO531, z_HO534, z_HO537, z_HO540, z_BK541, Q_GW541, Q_GE541, Q_NB527_541, Q_NB541_527, fun _ _ => (pk BK542), fun _ => GW542.out, fun _ => GE542.out, fun _ => NB527_542.out, fun _ => NB542_527.out, fun h0_ => absurd ((hoff 9 (by kernel_rfl)).symm.trans h0_) (by decide), fun h0_ => absurd ((hoff 10 (by kernel_rfl)).symm.trans h0_) (by decide), Q_APv530_v536, Q_APv533_v539, Q_X2_, Q_X6_, Q_X7_, fun _ => rfl⟩
   refine steps_cons ?_ ?_
   ·rintro b a w' ⟨v530, v533, v536, v539, gb541, gb542, m2_, m6_, m7_, m8_, ha, Q_BK527, Q_HB, Q_NB542_541, Q_NB541_542, Q_HO531, Q_HO534, Q_HO537, Q_HO540, Q_BK541, Q_GW541, Q_GE541, Q_NB527_541, Q_NB541_527, Q_BK542, Q_GW542, Q_GE542, Q_NB527_542, Q_NB542_527, Q_BK541_e9, Q_BK542_e10, Q_APv530_v536, Q_APv533_v539, Q_X2_, Q_X6_, Q_X7_, Q_X8_⟩ hb_ hon hoff
    refine ⟨_, rfl, fun K hK => ?_⟩
    have e9 : a.tmps[9]? = some (m7_) := by rw [ha]; exact putSel_on (e := (7, 9, m7_)) 5 rfl rfl (hon 7 (by kernel_rfl)) rfl
    rw [Q_X7_ (hon 7 (by kernel_rfl))] at e9
    have e24 : a.tmps[24]? = some (m2_) := by rw [ha]; exact putSel_on (e := (2, 24, m2_)) 1 rfl rfl (hon 2 (by kernel_rfl)) rfl
    rw [Q_X2_ (hon 2 (by kernel_rfl))] at e24
    replace ha := Aside0.mk ha
    have BK527 := Aside0.mk Q_BK527
    have HB := Aside0.mk Q_HB
    have NB542_541 := Aside0.mk (Q_NB542_541 (hon 7 (by kernel_rfl)) (hon 8 (by kernel_rfl)))
    have NB541_542 := Aside0.mk (Q_NB541_542 (hon 7 (by kernel_rfl)) (hon 8 (by kernel_rfl)))
    have HO531 := Aside0.mk (Q_HO531 (hon 2 (by kernel_rfl)))
    have HO534 := Aside0.mk (Q_HO534 (hon 2 (by kernel_rfl)))
    have HO537 := Aside0.mk (Q_HO537 (hon 6 (by kernel_rfl)))
    have HO540 := Aside0.mk (Q_HO540 (hon 6 (by kernel_rfl)))
    have BK541 := Aside0.mk (Q_BK541 (hon 7 (by kernel_rfl)) hb_)
    have GW541 := Aside0.mk (Q_GW541 (hon 7 (by kernel_rfl)))
    have GE541 := Aside0.mk (Q_GE541 (hon 7 (by kernel_rfl)))
    have NB527_541 := Aside0.mk (Q_NB527_541 (hon 7 (by kernel_rfl)))
    have NB541_527 := Aside0.mk (Q_NB541_527 (hon 7 (by kernel_rfl)))
    have BK542 := Aside0.mk (Q_BK542 (hon 8 (by kernel_rfl)) (hoff 10 (by kernel_rfl)))
    have GW542 := Aside0.mk (Q_GW542 (hon 8 (by kernel_rfl)))
    have GE542 := Aside0.mk (Q_GE542 (hon 8 (by kernel_rfl)))
    have NB527_542 := Aside0.mk (Q_NB527_542 (hon 8 (by kernel_rfl)))
    have NB542_527 := Aside0.mk (Q_NB542_527 (hon 8 (by kernel_rfl)))
    have APv530_v536 := Aside0.mk (Q_APv530_v536 (hon 2 (by kernel_rfl)) (hon 6 (by kernel_rfl)))
    have APv533_v539 := Aside0.mk (Q_APv533_v539 (hon 2 (by kernel_rfl)) (hon 6 (by kernel_rfl)))
    obtain ⟨Ao18, co18, eo18⟩ := Kd.R_slice HO531.out
    (first | subst eo18 | (injection eo18 with f1_ f2_ f3_; have f4_ := f1_.symm; have f5_ := f3_.symm; clear f1_ f2_ f3_; subst f4_; subst f5_))
    obtain ⟨Ao20, co20, eo20⟩ := Kd.S_slice HO534.out
    (first | subst eo20 | (injection eo20 with f1_ f2_ f3_; have f4_ := f1_.symm; have f5_ := f3_.symm; clear f1_ f2_ f3_; subst f4_; subst f5_))
    have hs19 : w'.cell? ⟨gb541, 0, none⟩ = some (.slice none 0 0) := bc_ BK541.out 0
    have hfs19 := blk_frozen BK541.out 0
    have hns19_0 := NB527_541.out
    have hns19_2 := NB542_541.out
    have hms19_0 := NB541_527.out
    have hms19_2 := NB541_542.out
    have hs21 : w'.cell? ⟨gb541, 1, none⟩ = some (.slice none 0 0) := bc_ BK541.out 1
    have hfs21 := blk_frozen BK541.out 1
    have hns21_0 := NB527_541.out
    have hns21_2 := NB542_541.out
    have hms21_0 := NB541_527.out
    have hms21_2 := NB541_542.out
    refine skip_ (w1 := ?_) (by rfl) rfl ?_ ?_
    rotate_left
    ·go_simp
     rfl
    refine hK.out _ _ ⟨.slice Ao18 t529.length co18, .slice Ao20 t532.length co20, v536, v539, gb541, gb542, m2_, m6_, m7_, m8_, (by rw [ha.out]; exact putSel_none (v := undef) rfl), (by (with_reducible repeat (first | refine blk_drewN ?_ _ | refine blk_drew ?_ | refine blk_alloc ?_ _)); refine blk_far ?_ NB527_541.out _; (with_reducible repeat (first | refine blk_drewN ?_ _ | refine blk_drew ?_ | refine blk_alloc ?_ _)); refine blk_far ?_ NB527_541.out _; (with_reducible repeat (first | refine blk_drewN ?_ _ | refine blk_drew ?_ | refine blk_alloc ?_ _)); exact BK527.out), (pbs HB), fun _ _ => NB542_541.out, fun _ _ => NB541_542.out, fun _ => (by (with_reducible repeat (first | apply Kd.R_alloc | apply Kd.R_drewN | apply Kd.R_drew)); exact Kd.R_mono (Kd.R_far (p := ⟨gb541, 1, none⟩) (Kd.R_far (p := ⟨gb541, 0, none⟩) (Kd.R_types HO531.out BK541.out (by decide)) (fun _ hk => by first | exact hk.2 | trivial) (.slice Ao18 t529.length co18)) (fun _ hk => by first | exact hk.2 | trivial) (.slice Ao20 t532.length co20)) (fun _ hk => hk.1)), fun _ => (by (with_reducible repeat (first | apply Kd.S_alloc | apply Kd.S_drewN | apply Kd.S_drew)); exact Kd.S_mono (Kd.S_far (p := ⟨gb541, 1, none⟩) (Kd.S_far (p := ⟨gb541, 0, none⟩) (Kd.S_types HO534.out BK541.out (by decide)) (fun _ hk => by first | exact hk.2 | trivial) (.slice Ao18 t529.length co18)) (fun _ hk => by first | exact hk.2 | trivial) (.slice Ao20 t532.length co20)) (fun _ hk => hk.1)), fun _ => (by (with_reducible repeat (first | apply Kd.R_alloc | apply Kd.R_drewN | apply Kd.R_drew)); exact Kd.R_mono (Kd.R_far (p := ⟨gb541, 1, none⟩) (Kd.R_far (p := ⟨gb541, 0, none⟩) (Kd.R_types HO537.out BK541.out (by decide)) (fun _ hk => by first | exact hk.2 | trivial) (.slice Ao18 t529.length co18)) (fun _ hk => by first | exact hk.2 | trivial) (.slice Ao20 t532.length co20)) (fun _ hk => hk.1)), fun _ => (by (with_reducible repeat (first | apply Kd.S_alloc | apply Kd.S_drewN | apply Kd.S_drew)); exact Kd.S_mono (Kd.S_far (p := ⟨gb541, 1, none⟩) (Kd.S_far (p := ⟨gb541, 0, none⟩) (Kd.S_types HO540.out BK541.out (by decide)) (fun _ hk => by first | exact hk.2 | trivial) (.slice Ao18 t529.length co18)) (fun _ hk => by first | exact hk.2 | trivial) (.slice Ao20 t532.length co20)) (fun _ hk => hk.1)), fun _ h1_ => absurd ((up_self b 9).symm.trans h1_) (by decide), fun _ => GW541.out, fun _ => GE541.out, fun _ => NB527_541.out, fun _ => NB541_527.out, fun _ _ => (by (with_reducible repeat (first | refine blk_drewN ?_ _ | refine blk_drew ?_ | refine blk_alloc ?_ _)); refine blk_far ?_ NB542_541.out _; (with_reducible repeat (first | refine blk_drewN ?_ _ | refine blk_drew ?_ | refine blk_alloc ?_ _)); refine blk_far ?_ NB542_541.out _; (with_reducible repeat (first | refine blk_drewN ?_ _ | refine blk_drew ?_ | refine blk_alloc ?_ _)); exact BK542.out), fun _ => GW542.out, fun _ => GE542.out, fun _ => NB527_542.out, fun _ => NB542_527.out, fun _ => (by (with_reducible repeat (first | refine blk_drewN ?_ _ | refine blk_drew ?_ | refine blk_alloc ?_ _)); refine blk_put (cs := #[.slice Ao18 t529.length co18, .slice none 0 0]) ?_ 1 _ rfl; (with_reducible repeat (first | refine blk_drewN ?_ _ | refine blk_drew ?_ | refine blk_alloc ?_ _)); refine blk_put (cs := #[.slice none 0 0, .slice none 0 0]) ?_ 0 _ rfl; (with_reducible repeat (first | refine blk_drewN ?_ _ | refine blk_drew ?_ | refine blk_alloc ?_ _)); exact BK541.out), fun h0_ => absurd ((hoff 10 (by kernel_rfl)).symm.trans h0_) (by decide), Q_APv530_v536, Q_APv533_v539, Q_X2_, Q_X6_, Q_X7_, Q_X8_⟩
   refine steps_cons ?_ ?_
   ·rintro b a w' ⟨v530, v533, v536, v539, gb541, gb542, m2_, m6_, m7_, m8_, ha, Q_BK527, Q_HB, Q_NB542_541, Q_NB541_542, Q_HO531, Q_HO534, Q_HO537, Q_HO540, Q_BK541, Q_GW541, Q_GE541, Q_NB527_541, Q_NB541_527, Q_BK542, Q_GW542, Q_GE542, Q_NB527_542, Q_NB542_527, Q_BK541_e9, Q_BK542_e10, Q_APv530_v536, Q_APv533_v539, Q_X2_, Q_X6_, Q_X7_, Q_X8_⟩ hb_ hon hoff
    refine ⟨_, rfl, fun K hK => ?_⟩
    have e10 : a.tmps[10]? = some (m8_) := by rw [ha]; exact putSel_on (e := (8, 10, m8_)) 6 rfl rfl (hon 8 (by kernel_rfl)) rfl
    rw [Q_X8_ (hon 8 (by kernel_rfl))] at e10
    have e28 : a.tmps[28]? = some (m6_) := by rw [ha]; exact putSel_on (e := (6, 28, m6_)) 4 rfl rfl (hon 6 (by kernel_rfl)) rfl
    rw [Q_X6_ (hon 6 (by kernel_rfl))] at e28
    replace ha := Aside0.mk ha
    have BK527 := Aside0.mk Q_BK527
    have HB := Aside0.mk Q_HB
    have NB542_541 := Aside0.mk (Q_NB542_541 (hon 7 (by kernel_rfl)) (hon 8 (by kernel_rfl)))
    have NB541_542 := Aside0.mk (Q_NB541_542 (hon 7 (by kernel_rfl)) (hon 8 (by kernel_rfl)))
    have HO531 := Aside0.mk (Q_HO531 (hon 2 (by kernel_rfl)))
    have HO534 := Aside0.mk (Q_HO534 (hon 2 (by kernel_rfl)))
    have HO537 := Aside0.mk (Q_HO537 (hon 6 (by kernel_rfl)))
    have HO540 := Aside0.mk (Q_HO540 (hon 6 (by kernel_rfl)))
    have GW541 := Aside0.mk (Q_GW541 (hon 7 (by kernel_rfl)))
    have GE541 := Aside0.mk (Q_GE541 (hon 7 (by kernel_rfl)))
    have NB527_541 := Aside0.mk (Q_NB527_541 (hon 7 (by kernel_rfl)))
    have NB541_527 := Aside0.mk (Q_NB541_527 (hon 7 (by kernel_rfl)))
    have BK542 := Aside0.mk (Q_BK542 (hon 8 (by kernel_rfl)) hb_)
    have GW542 := Aside0.mk (Q_GW542 (hon 8 (by kernel_rfl)))
    have GE542 := Aside0.mk (Q_GE542 (hon 8 (by kernel_rfl)))
    have NB527_542 := Aside0.mk (Q_NB527_542 (hon 8 (by kernel_rfl)))
    have NB542_527 := Aside0.mk (Q_NB542_527 (hon 8 (by kernel_rfl)))
    have BK541 := Aside0.mk (Q_BK541_e9 (hon 9 (by kernel_rfl)))
    have APv530_v536 := Aside0.mk (Q_APv530_v536 (hon 2 (by kernel_rfl)) (hon 6 (by kernel_rfl)))
    have APv533_v539 := Aside0.mk (Q_APv533_v539 (hon 2 (by kernel_rfl)) (hon 6 (by kernel_rfl)))
    obtain ⟨Ao22, co22, eo22⟩ := Kd.R_slice HO537.out
    (first | subst eo22 | (injection eo22 with f1_ f2_ f3_; have f4_ := f1_.symm; have f5_ := f3_.symm; clear f1_ f2_ f3_; subst f4_; subst f5_))
    obtain ⟨Ao24, co24, eo24⟩ := Kd.S_slice HO540.out
    (first | subst eo24 | (injection eo24 with f1_ f2_ f3_; have f4_ := f1_.symm; have f5_ := f3_.symm; clear f1_ f2_ f3_; subst f4_; subst f5_))
    have hs23 : w'.cell? ⟨gb542, 0, none⟩ = some (.slice none 0 0) := bc_ BK542.out 0
    have hfs23 := blk_frozen BK542.out 0
    have hns23_0 := NB527_542.out
    have hns23_1 := NB541_542.out
    have hms23_0 := NB542_527.out
    have hms23_1 := NB542_541.out
    have hs25 : w'.cell? ⟨gb542, 1, none⟩ = some (.slice none 0 0) := bc_ BK542.out 1
    have hfs25 := blk_frozen BK542.out 1
    have hns25_0 := NB527_542.out
    have hns25_1 := NB541_542.out
    have hms25_0 := NB542_527.out
    have hms25_1 := NB542_541.out
    refine skip_ (w1 := ?_) (by rfl) rfl ?_ ?_
    rotate_left
    ·go_simp
     rfl
    refine hK.out _ _ ⟨v530, v533, .slice Ao22 t535.length co22, .slice Ao24 t538.length co24, gb541, gb542, m2_, m6_, m7_, m8_, (by rw [ha.out]; exact putSel_none (v := undef) rfl), (by (with_reducible repeat (first | refine blk_drewN ?_ _ | refine blk_drew ?_ | refine blk_alloc ?_ _)); refine blk_far ?_ NB527_542.out _; (with_reducible repeat (first | refine blk_drewN ?_ _ | refine blk_drew ?_ | refine blk_alloc ?_ _)); refine blk_far ?_ NB527_542.out _; (with_reducible repeat (first | refine blk_drewN ?_ _ | refine blk_drew ?_ | refine blk_alloc ?_ _)); exact BK527.out), (pbs HB), fun _ _ => NB542_541.out, fun _ _ => NB541_542.out, fun _ => (by (with_reducible repeat (first | apply Kd.R_alloc | apply Kd.R_drewN | apply Kd.R_drew)); exact Kd.R_mono (Kd.R_far (p := ⟨gb542, 1, none⟩) (Kd.R_far (p := ⟨gb542, 0, none⟩) (Kd.R_types HO531.out BK542.out (by decide)) (fun _ hk => by first | exact hk.2 | trivial) (.slice Ao22 t535.length co22)) (fun _ hk => by first | exact hk.2 | trivial) (.slice Ao24 t538.length co24)) (fun _ hk => hk.1)), fun _ => (by (with_reducible repeat (first | apply Kd.S_alloc | apply Kd.S_drewN | apply Kd.S_drew)); exact Kd.S_mono (Kd.S_far (p := ⟨gb542, 1, none⟩) (Kd.S_far (p := ⟨gb542, 0, none⟩) (Kd.S_types HO534.out BK542.out (by decide)) (fun _ hk => by first | exact hk.2 | trivial) (.slice Ao22 t535.length co22)) (fun _ hk => by first | exact hk.2 | trivial) (.slice Ao24 t538.length co24)) (fun _ hk => hk.1)), fun _ => (by (with_reducible repeat (first | apply Kd.R_alloc | apply Kd.R_drewN | apply Kd.R_drew)); exact Kd.R_mono (Kd.R_far (p := ⟨gb542, 1, none⟩) (Kd.R_far (p := ⟨gb542, 0, none⟩) (Kd.R_types HO537.out BK542.out (by decide)) (fun _ hk => by first | exact hk.2 | trivial) (.slice Ao22 t535.length co22)) (fun _ hk => by first | exact hk.2 | trivial) (.slice Ao24 t538.length co24)) (fun _ hk => hk.1)), fun _ => (by (with_reducible repeat (first | apply Kd.S_alloc | apply Kd.S_drewN | apply Kd.S_drew)); exact Kd.S_mono (Kd.S_far (p := ⟨gb542, 1, none⟩) (Kd.S_far (p := ⟨gb542, 0, none⟩) (Kd.S_types HO540.out BK542.out (by decide)) (fun _ hk => by first | exact hk.2 | trivial) (.slice Ao22 t535.length co22)) (fun _ hk => by first | exact hk.2 | trivial) (.slice Ao24 t538.length co24)) (fun _ hk => hk.1)), fun _ h1_ => absurd ((hon 9 (by kernel_rfl)).symm.trans h1_) (by decide), fun _ => GW541.out, fun _ => GE541.out, fun _ => NB527_541.out, fun _ => NB541_527.out, fun _ h1_ => absurd ((up_self b 10).symm.trans h1_) (by decide), fun _ => GW542.out, fun _ => GE542.out, fun _ => NB527_542.out, fun _ => NB542_527.out, fun _ => (by (with_reducible repeat (first | refine blk_drewN ?_ _ | refine blk_drew ?_ | refine blk_alloc ?_ _)); refine blk_far ?_ NB541_542.out _; (with_reducible repeat (first | refine blk_drewN ?_ _ | refine blk_drew ?_ | refine blk_alloc ?_ _)); refine blk_far ?_ NB541_542.out _; (with_reducible repeat (first | refine blk_drewN ?_ _ | refine blk_drew ?_ | refine blk_alloc ?_ _)); exact BK541.out), fun _ => (by (with_reducible repeat (first | refine blk_drewN ?_ _ | refine blk_drew ?_ | refine blk_alloc ?_ _)); refine blk_put (cs := #[.slice Ao22 t535.length co22, .slice none 0 0]) ?_ 1 _ rfl; (with_reducible repeat (first | refine blk_drewN ?_ _ | refine blk_drew ?_ | refine blk_alloc ?_ _)); refine blk_put (cs := #[.slice none 0 0, .slice none 0 0]) ?_ 0 _ rfl; (with_reducible repeat (first | refine blk_drewN ?_ _ | refine blk_drew ?_ | refine blk_alloc ?_ _)); exact BK542.out), Q_APv530_v536, Q_APv533_v539, Q_X2_, Q_X6_, Q_X7_, Q_X8_⟩
   exact steps_nil
  rintro b a w25 hall ⟨v530, v533, v536, v539, gb541, gb542, m2_, m6_, m7_, m8_, ha, Q_BK527, Q_HB, Q_NB542_541, Q_NB541_542, Q_HO531, Q_HO534, Q_HO537, Q_HO540, Q_BK541, Q_GW541, Q_GE541, Q_NB527_541, Q_NB541_527, Q_BK542, Q_GW542, Q_GE542, Q_NB527_542, Q_NB542_527, Q_BK541_e9, Q_BK542_e10, Q_APv530_v536, Q_APv533_v539, Q_X2_, Q_X6_, Q_X7_, Q_X8_⟩
  clear BK527 HB
  have hb0_ := hall 0 (by kernel_rfl)
  have hb2_ := hall 2 (by kernel_rfl)
  have hb3_ := hall 3 (by kernel_rfl)
  have hb5_ := hall 5 (by kernel_rfl)
  have hb6_ := hall 6 (by kernel_rfl)
  have hb7_ := hall 7 (by kernel_rfl)
  have hb8_ := hall 8 (by kernel_rfl)
  have hb9_ := hall 9 (by kernel_rfl)
  have hb10_ := hall 10 (by kernel_rfl)
  subst ha
  obtain rfl := (Q_X2_ hb2_).symm
  obtain rfl := (Q_X6_ hb6_).symm
  obtain rfl := (Q_X7_ hb7_).symm
  obtain rfl := (Q_X8_ hb8_).symm
  simp only [putSel, hb0_, hb2_, hb3_, hb5_, hb6_, hb7_, hb8_, hb9_, hb10_, if_true, Act.put, List.setIfInBounds_toArray, List.set_cons_zero, List.set_cons_succ]
  have BK527 := Aside0.mk Q_BK527
  clear Q_BK527
  have HB := Aside0.mk Q_HB
  clear Q_HB
  have NB542_541 := Aside0.mk (Q_NB542_541 hb7_ hb8_)
  clear Q_NB542_541
  have NB541_542 := Aside0.mk (Q_NB541_542 hb7_ hb8_)
  clear Q_NB541_542
  have HO531 := Aside0.mk (Q_HO531 hb2_)
  clear Q_HO531
  have HO534 := Aside0.mk (Q_HO534 hb2_)
  clear Q_HO534
  have HO537 := Aside0.mk (Q_HO537 hb6_)
  clear Q_HO537
  have HO540 := Aside0.mk (Q_HO540 hb6_)
  clear Q_HO540
  clear Q_BK541
  have GW541 := Aside0.mk (Q_GW541 hb7_)
  clear Q_GW541
  have GE541 := Aside0.mk (Q_GE541 hb7_)
  clear Q_GE541
  have NB527_541 := Aside0.mk (Q_NB527_541 hb7_)
  clear Q_NB527_541
  have NB541_527 := Aside0.mk (Q_NB541_527 hb7_)
  clear Q_NB541_527
  clear Q_BK542
  have GW542 := Aside0.mk (Q_GW542 hb8_)
  clear Q_GW542
  have GE542 := Aside0.mk (Q_GE542 hb8_)
  clear Q_GE542
  have NB527_542 := Aside0.mk (Q_NB527_542 hb8_)
  clear Q_NB527_542
  have NB542_527 := Aside0.mk (Q_NB542_527 hb8_)
  clear Q_NB542_527
  have BK541 := Aside0.mk (Q_BK541_e9 hb9_)
  clear Q_BK541_e9
  have BK542 := Aside0.mk (Q_BK542_e10 hb10_)
  clear Q_BK542_e10
  have APv530_v536 := Aside0.mk (Q_APv530_v536 hb2_ hb6_)
  clear Q_APv530_v536
  have APv533_v539 := Aside0.mk (Q_APv533_v539 hb2_ hb6_)
  clear Q_APv533_v539
  have n0_ : Aside0 (Kd.R k54 54 w25 w.heap.size (fun k_ => some k_ ≠ v536.ownBlock) v530 t529) := ⟨⟨APv530_v536.out, HO531.out.2⟩⟩
  have n1_ : Aside0 (Kd.R k54 54 w25 w.heap.size (fun k_ => some k_ ≠ v530.ownBlock) v536 t535) := ⟨⟨(fun k_ hk_ he_ => APv530_v536.out k_ he_.symm hk_.symm), HO537.out.2⟩⟩
  clear HO531 HO537 APv530_v536
  have HO531 := n0_
  have HO537 := n1_
  clear n0_ n1_
  have n0_ : Aside0 (Kd.S (Kd.slice 3 (Kd.int .i64)) 65 w25 w.heap.size (fun k_ => some k_ ≠ v539.ownBlock) v533 t532) := ⟨S_ap_ HO534.out APv533_v539.out (Kd.S_typed HO540.out) (by decide)⟩
  have n1_ : Aside0 (Kd.S (Kd.slice 3 (Kd.int .i64)) 65 w25 w.heap.size (fun k_ => some k_ ≠ v533.ownBlock) v539 t538) := ⟨S_ap_ HO540.out (fun k_ hk_ he_ => APv533_v539.out k_ he_.symm hk_.symm) (Kd.S_typed HO534.out) (by decide)⟩
  clear HO534 HO540 APv533_v539
  have HO534 := n0_
  have HO540 := n1_
  clear n0_ n1_
  clear hall hb0_ hb2_ hb3_ hb5_ hb6_ hb7_ hb8_ hb9_ hb10_
  have hnb30 := NB541_527.out
  have hnc30 := NB527_541.out
  have hnb31 := NB541_542.out
  have hnc31 := NB542_541.out
  have hcz32_0 : w25.cell? ⟨gb541, 0, none⟩ = some (v530) := bc_ BK541.out 0
  have hcz32_1 : w25.cell? ⟨gb541, 1, none⟩ = some (v533) := bc_ BK541.out 1
  have hfz32_0 := blk_frozen BK541.out 0
  have hfz32_1 := blk_frozen BK541.out 1
  obtain ⟨Ao33, co33, eo33⟩ := Kd.R_slice HO531.out
  subst eo33
  obtain ⟨Ao34, co34, eo34⟩ := Kd.S_slice HO534.out
  subst eo34
  try go_wp2_with (first | ((with_reducible refine gate_callee (f := 35) rfl ?_); refine goesL_ (some 31) rfl rfl Try.func35 (by kernel_rfl) rfl #[.agg #[.slice Ao33 t529.length co33, .slice Ao34 t532.length co34], .slice A1 l1.length c1] rfl (by (try simp only [List.map_toArray, List.map_cons, List.map_nil]); first | done | rfl | (simp only [List.length_drop, List.length_take]; rfl)) ?_; (with_reducible refine (impl_posts_far.calls k _ _ t529 _ _ t532 _ _ l1 t543 _ ?side1 ?side2 ?side3 ?side4 ?side5 ?side6 A8.out).mono ?_); (case side1 => repeat (first | exact (Kd.R_reads' HO531.out).2.2 | (with_reducible refine Kd.C_alloc ?_ _) | (with_reducible refine Kd.C_drewN ?_ _) | (with_reducible refine Kd.C_drew ?_))); (case side2 => exact (Kd.R_reads' HO531.out).2.1); (case side3 => repeat (first | exact (Kd.S_reads' HO534.out).2.2 | (with_reducible refine Kd.C_alloc ?_ _) | (with_reducible refine Kd.C_drewN ?_ _) | (with_reducible refine Kd.C_drew ?_))); (case side4 => exact (Kd.S_reads' HO534.out).2.1); (case side5 => repeat (first | exact (Kd.C_below HR1.out HB.out) | (with_reducible refine Kd.C_alloc ?_ _) | (with_reducible refine Kd.C_drewN ?_ _) | (with_reducible refine Kd.C_drew ?_))); (case side6 => exact HC1.out); rintro e w35 ⟨v544, rfl, ho0, hb⟩; refine ⟨_, rfl, ?_⟩; have n0_ := krb HO531 hb; have n1_ := Aside0.mk (Kd.S_below (by (with_reducible repeat (first | apply Kd.S_alloc | apply Kd.S_drewN | apply Kd.S_drew)); exact HO534.out) hb); have n2_ := krb HO537 hb; have n3_ := Aside0.mk (Kd.S_below (by (with_reducible repeat (first | apply Kd.S_alloc | apply Kd.S_drewN | apply Kd.S_drew)); exact HO540.out) hb); have n4_ := Aside0.mk (Kd.R_lower ho0 (below_size (by repeat (first | (with_reducible first | exact HB.out | apply below_alloc | apply pw_below_drewN | apply below_drew1 | refine below_set ?_ GE527.out | refine below_set ?_ GE541.out | refine below_set ?_ GE542.out) | exact HB.out)))); have n5_ := bkb BK527 hb; have n6_ := bkb BK541 hb; have n7_ := bkb BK542 hb; have n8_ := bst HB hb; clear HO531; clear HO534; clear HO537; clear HO540; clear BK527; clear BK541; clear BK542; clear HB; have HO531 := n0_; have HO534 := n1_; have HO537 := n2_; have HO540 := n3_; have HO545 := n4_; have BK527 := n5_; have BK541 := n6_; have BK542 := n7_; have HB := n8_; clear n0_ n1_ n2_ n3_ n4_ n5_ n6_ n7_ n8_; (try clear hb); (try clear hb2); (try clear hk); (try clear hi); (try clear ho0)) | ((with_reducible refine gate_dst (N := 32) rfl ?_); refine Kd.R_lit (Kd.int .i64) _ 3 ?hg (N := 32) ?hd (xs := ([] : List Int)) (inner := []) (ok := fun _ => True) (okp := fun _ => True) ?hr ?hp (fun _ hk => hk) trivial (Below.refl _ _) (Nat.le_refl _) (by simp) ?_; (case hd => rfl); (case hg => rfl); (case hr => first | (go_simp; done) | (go_simp; rfl)); (case hp => exact (Reps.none _ _)); intro v547 w36 ho37 hb hg_ hnew_; clear hg_ hnew_; (first | rw [← Ny546.out] at ho37 | (simp only [Int.reduceToNat] at ho37; rw [← Ny546.out] at ho37)); have n0_ := krb HO531 hb; have n1_ := Aside0.mk (Kd.S_elder' (by (with_reducible repeat (first | apply Kd.S_alloc | apply Kd.S_drewN | apply Kd.S_drew)); exact HO534.out) (Kd.R_base ho37) hb); have n2_ := krb HO537 hb; have n3_ := Aside0.mk (Kd.S_elder' (by (with_reducible repeat (first | apply Kd.S_alloc | apply Kd.S_drewN | apply Kd.S_drew)); exact HO540.out) (Kd.R_base ho37) hb); have n4_ := krb HO545 hb; have n5_ := Aside0.mk (Kd.R_lower ho37 (below_size (by repeat (first | (with_reducible first | exact HB.out | apply below_alloc | apply pw_below_drewN | apply below_drew1 | refine below_set ?_ GE527.out | refine below_set ?_ GE541.out | refine below_set ?_ GE542.out) | exact HB.out)))); have n6_ := bkb BK527 hb; have n7_ := bkb BK541 hb; have n8_ := bkb BK542 hb; have n9_ := bst HB hb; clear HO531; clear HO534; clear HO537; clear HO540; clear HO545; clear BK527; clear BK541; clear BK542; clear HB; have HO531 := n0_; have HO534 := n1_; have HO537 := n2_; have HO540 := n3_; have HO545 := n4_; have HO548 := n5_; have BK527 := n6_; have BK541 := n7_; have BK542 := n8_; have HB := n9_; clear n0_ n1_ n2_ n3_ n4_ n5_ n6_ n7_ n8_ n9_; clear hb ho37; have hcz38_0 : w36.cell? ⟨gb541, 0, none⟩ = some (.slice Ao33 t529.length co33) := (blk_cell BK541.out 0).trans rfl; have hcz38_1 : w36.cell? ⟨gb541, 1, none⟩ = some (.slice Ao34 t532.length co34) := (blk_cell BK541.out 1).trans rfl; have hfz38_0 := blk_frozen BK541.out 0; have hfz38_1 := blk_frozen BK541.out 1))
  go_loopg [12, 36] k (fun kq v12 v36 w' => ∃ (x12_1 : List Int) (x36_1 : Int), v36 = .int .i64 x36_1 ∧ Aside0 (impl_PostsBound.l0 kq t543 x12_1 (t529.length : Int) x36_1 t535 t538 = some (r1, r2)) ∧ Aside0 (kq ≤ k) ∧ Aside0 (Kd.R Kd.bool 4 w' w.heap.size (fun _ => True) v544 t543) ∧ Aside0 (Kd.R (Kd.int .i64) 3 w' w.heap.size (fun _ => True) v12 x12_1) ∧ Aside0 (Kd.R k54 54 w' w.heap.size (fun k_ => some k_ ≠ (v536 : Value).ownBlock) (.slice Ao33 t529.length co33) t529) ∧ Aside0 (Kd.S (Kd.slice 3 (Kd.int .i64)) 65 w' w.heap.size (fun k_ => some k_ ≠ (v12 : Value).ownBlock ∧ some k_ ≠ (v539 : Value).ownBlock) (.slice Ao34 t532.length co34) t532) ∧ Aside0 (Kd.R k54 54 w' w.heap.size (fun k_ => some k_ ≠ ((.slice Ao33 t529.length co33) : Value).ownBlock) v536 t535) ∧ Aside0 (Kd.S (Kd.slice 3 (Kd.int .i64)) 65 w' w.heap.size (fun k_ => some k_ ≠ (v12 : Value).ownBlock ∧ some k_ ≠ ((.slice Ao34 t532.length co34) : Value).ownBlock) v539 t538) ∧ Aside0 (w'.heap[gb527]? = some (.cells (mixA (Value.int .u16) [.int .i8 a0_0, .int .i8 a0_1] a0_2) 31 (0, 0))) ∧ Aside0 (w'.heap[gb541]? = some (.cells #[(.slice Ao33 t529.length co33), (.slice Ao34 t532.length co34)] 61 (0, 0))) ∧ Aside0 (w'.heap[gb542]? = some (.cells #[v536, v539] 61 (0, 0))) ∧ Aside0 (Below w.heap.size w w'))
  case atStart => exact ⟨(y546), (0), (by first | rfl | (simp; done) | (simp [*]; done)), H', ⟨Nat.le_refl _⟩, ⟨by (with_reducible repeat (first | apply Kd.R_alloc | apply Kd.R_drewN | apply Kd.R_drew)); exact HO545.out⟩, ⟨by (with_reducible repeat (first | apply Kd.R_alloc | apply Kd.R_drewN | apply Kd.R_drew)); exact HO548.out⟩, ⟨by (with_reducible repeat (first | apply Kd.R_alloc | apply Kd.R_drewN | apply Kd.R_drew)); exact HO531.out⟩, ⟨by (with_reducible repeat (first | apply Kd.S_alloc | apply Kd.S_drewN | apply Kd.S_drew)); exact Kd.S_mono HO534.out (fun _ hk => ⟨hk.2, hk.1⟩)⟩, ⟨by (with_reducible repeat (first | apply Kd.R_alloc | apply Kd.R_drewN | apply Kd.R_drew)); exact HO537.out⟩, ⟨by (with_reducible repeat (first | apply Kd.S_alloc | apply Kd.S_drewN | apply Kd.S_drew)); exact Kd.S_mono HO540.out (fun _ hk => ⟨hk.2, hk.1⟩)⟩, ⟨pk BK527⟩, ⟨pk BK541⟩, ⟨pk BK542⟩, ⟨pbs HB⟩⟩
  case round =>
   clear H'
   try clear c1
   try clear p2
   try clear c3
   try clear c5
   try clear c5b0
   try clear c5b1
   try clear p6
   try clear c13
   try clear c30
   try clear c31
   try clear c33
   try clear c34
   try clear c35
   try clear hcz32_0
   try clear hcz32_1
   try clear hcz38_0
   try clear hcz38_1
   try clear hfz32_0
   try clear hfz32_1
   try clear hfz38_0
   try clear hfz38_1
   obtain ⟨x12_1, x36_1, rfl, HA, HK1, HO_11, HO_12, HO_542000, HO_542001, HO_543000, HO_543001, BK527, BK541, BK542, HB⟩ := hrel
   cases gk with
   | zero => exact absurd HA.out (by simp [impl_PostsBound.l0])
   | succ k1 =>
    have H := HA.out
    clear HA
    simp only [impl_PostsBound.l0] at H
    by_cases c39 : x36_1 < (t529.length : Int)
    ·rw [if_pos c39] at H
     have c39b0 : decide (x36_1 < (t529.length : Int)) = true := decide_eq_true c39
     clear c39
     replace H := Option.bind_eq_some_iff.mp H
     obtain ⟨t550, A400, H⟩ := H
     replace H : (if 0 ≤ x36_1 then (if x36_1 < (t543.length : Int) then (if rdOf false t543 x36_1 = true then (if t550 = true then (impl_PostsBound.l0 k1 t543 x12_1 (t529.length : Int) (wrap64 (x36_1 + 1)) t535 t538) else (if x12_1.length < 17592186044416 then (impl_PostsBound.l0 k1 t543 (x12_1 ++ [x36_1]) (t529.length : Int) (wrap64 (x36_1 + 1)) t535 t538) else (none))) else (impl_PostsBound.l0 k1 t543 x12_1 (t529.length : Int) (wrap64 (x36_1 + 1)) t535 t538)) else (none)) else (none)) = some (r1, r2) := H
     have A40 := Aside0.mk A400
     clear A400
     by_cases c41 : 0 ≤ x36_1
     ·rw [if_pos c41] at H
      have c41b0 : decide (0 ≤ x36_1) = true := decide_eq_true c41
      clear c41
      by_cases c42 : x36_1 < (t543.length : Int)
      ·rw [if_pos c42] at H
       have c42b0 : decide (x36_1 < (t543.length : Int)) = true := decide_eq_true c42
       clear c42
       obtain ⟨bq43, hbq43⟩ : ∃ b_ : Bool, b_ = (rdOf false t543 x36_1) := ⟨_, rfl⟩
       replace H : (if bq43 = true then (if t550 = true then (impl_PostsBound.l0 k1 t543 x12_1 (t529.length : Int) (wrap64 (x36_1 + 1)) t535 t538) else (if x12_1.length < 17592186044416 then (impl_PostsBound.l0 k1 t543 (x12_1 ++ [x36_1]) (t529.length : Int) (wrap64 (x36_1 + 1)) t535 t538) else (none))) else (impl_PostsBound.l0 k1 t543 x12_1 (t529.length : Int) (wrap64 (x36_1 + 1)) t535 t538)) = some (r1, r2) := by rw [← hbq43] at H; exact H
       have Nbq43 := Aside0.mk hbq43
       clear hbq43
       by_cases c44 : bq43 = true
       ·subst c44
        have H1 : (if t550 = true then (impl_PostsBound.l0 k1 t543 x12_1 (t529.length : Int) (wrap64 (x36_1 + 1)) t535 t538) else (if x12_1.length < 17592186044416 then (impl_PostsBound.l0 k1 t543 (x12_1 ++ [x36_1]) (t529.length : Int) (wrap64 (x36_1 + 1)) t535 t538) else (none))) = some (r1, r2) := by rw [if_pos rfl] at H; exact H
        clear H
        have H := H1
        clear H1
        by_cases c45 : t550 = true
        ·subst c45
         have H1 : (impl_PostsBound.l0 k1 t543 x12_1 (t529.length : Int) (wrap64 (x36_1 + 1)) t535 t538) = some (r1, r2) := by rw [if_pos rfl] at H; exact H
         clear H
         have H := H1
         clear H1
         have H' := Aside0.mk H
         clear H
         go_wp2_with (first | ((with_reducible refine gate_dst (N := 13) rfl ?_); refine box_event ?hg (N := 13) ?hd (cs := #[.int .i64 0]) (t := 3) ?hr ?_; (case hd => rfl); (case hg => rfl); (case hr => first | (go_simp; done) | (go_simp; rfl)); intro gb549 hg w46 hbox hb; have n0_ := krb HO_11 hb; have n1_ := Aside0.mk (Kd.R_below (Kd.R_elderB (by (with_reducible repeat (first | apply Kd.R_alloc | apply Kd.R_drewN | apply Kd.R_drew)); exact HO_12.out) gb549 (Nat.le_of_eq hg.symm)) hb); have n2_ := krb HO_542000 hb; have n3_ := Aside0.mk (Kd.S_below (Kd.S_elderB (by (with_reducible repeat (first | apply Kd.S_alloc | apply Kd.S_drewN | apply Kd.S_drew)); exact HO_542001.out) gb549 (Nat.le_of_eq hg.symm)) hb); have n4_ := krb HO_543000 hb; have n5_ := Aside0.mk (Kd.S_below (Kd.S_elderB (by (with_reducible repeat (first | apply Kd.S_alloc | apply Kd.S_drewN | apply Kd.S_drew)); exact HO_543001.out) gb549 (Nat.le_of_eq hg.symm)) hb); have n6_ := bkb BK527 hb; have n7_ := bkb BK541 hb; have n8_ := bkb BK542 hb; have n9_ := bst HB hb; have n10_ := Aside0.mk (hbox); have n11_ := gwl HB hg; have n12_ := gwl HB hg; have n13_ := nbl BK527 hg; have n14_ := nbg BK527 hg; have n15_ := nbl BK541 hg; have n16_ := nbg BK541 hg; have n17_ := nbl BK542 hg; have n18_ := nbg BK542 hg; clear HO_11; clear HO_12; clear HO_542000; clear HO_542001; clear HO_543000; clear HO_543001; clear BK527; clear BK541; clear BK542; clear HB; have HO_11 := n0_; have HO_12 := n1_; have HO_542000 := n2_; have HO_542001 := n3_; have HO_543000 := n4_; have HO_543001 := n5_; have BK527 := n6_; have BK541 := n7_; have BK542 := n8_; have HB := n9_; have BK549 := n10_; have GW549 := n11_; have GE549 := n12_; have NB527_549 := n13_; have NB549_527 := n14_; have NB541_549 := n15_; have NB549_541 := n16_; have NB542_549 := n17_; have NB549_542 := n18_; clear n0_ n1_ n2_ n3_ n4_ n5_ n6_ n7_ n8_ n9_ n10_ n11_ n12_ n13_ n14_ n15_ n16_ n17_ n18_; clear hb hbox hg; have hnb47 := NB549_527.out; have hnc47 := NB527_549.out; have hnb48 := NB549_541.out; have hnc48 := NB541_549.out; have hnb49 := NB549_542.out; have hnc49 := NB542_549.out; have hcz50_0 : w46.cell? ⟨gb549, 0, none⟩ = some (.int .i64 0) := (blk_cell BK549.out 0).trans rfl; have hfz50_0 := blk_frozen BK549.out 0; obtain ⟨Ao51, co51, eo51⟩ := Kd.R_slice HO_12.out; subst eo51; obtain ⟨Ao52, co52, eo52⟩ := Kd.R_slice HO_543000.out; subst eo52; obtain ⟨Ao53, co53, eo53⟩ := Kd.S_slice HO_543001.out; subst eo53) | ((with_reducible refine gate_callee (f := 36) rfl ?_); refine goesL_ (some 41) rfl rfl Try.func36 (by kernel_rfl) rfl #[.slice Ao51 x12_1.length co51, .func (.func 37) #[] #[.pointer (some ⟨gb542, 0, none⟩), .pointer (some ⟨gb549, 0, none⟩)]] rfl (by (try simp only [List.map_toArray, List.map_cons, List.map_nil]); first | done | rfl | (simp only [List.length_drop, List.length_take]; rfl)) ?_; (with_reducible refine (slices_ContainsFunc_int_int__37.calls k1 _ _ x12_1 gb542 Ao52 co52 t535 Ao53 co53 t538 gb549 x36_1 true _ ?side1 ?side2 ?side3 ?side4 ?side5 ?side6 ?side7 ?side8 A40.out).mono ?_); (case side1 => exact (by (with_reducible repeat (first | refine blk_drewN ?_ _ | refine blk_drew ?_ | refine blk_alloc ?_ _)); refine blk_far ?_ NB542_549.out _; (with_reducible repeat (first | refine blk_drewN ?_ _ | refine blk_drew ?_ | refine blk_alloc ?_ _)); exact BK542.out)); (case side2 => exact (by (with_reducible repeat (first | refine blk_drewN ?_ _ | refine blk_drew ?_ | refine blk_alloc ?_ _)); refine blk_put (cs := #[.int .i64 0]) ?_ 0 _ rfl; (with_reducible repeat (first | refine blk_drewN ?_ _ | refine blk_drew ?_ | refine blk_alloc ?_ _)); exact BK549.out)); (case side3 => refine (Kd.R_reads' (e := 54) (base := w.heap.size) (ok := fun k_ => some k_ ≠ (.slice Ao33 t529.length co33 : Value).ownBlock) (n := t535.length) (c := co52) ?_).2.2; exact (by (with_reducible repeat (first | apply Kd.R_alloc | apply Kd.R_drewN | apply Kd.R_drew)); exact (Kd.R_mono (Kd.R_far (p := ⟨gb549, 0, none⟩) (Kd.R_types HO_543000.out BK549.out (by decide)) (fun _ hk => hk.2) (.int .i64 x36_1)) (fun _ h_ => h_.1)))); (case side4 => exact (Kd.R_reads' HO_543000.out).2.1); (case side5 => refine (Kd.S_reads' (e := 65) (base := w.heap.size) (ok := fun k_ => ((some k_ ≠ (.slice Ao51 x12_1.length co51 : Value).ownBlock ∧ some k_ ≠ (.slice Ao34 t532.length co34 : Value).ownBlock) ∧ k_ ≠ gb549)) (n := t538.length) (c := co53) ?_).2.2; exact (by (with_reducible repeat (first | apply Kd.S_alloc | apply Kd.S_drewN | apply Kd.S_drew)); exact (Kd.S_mono (Kd.S_far (p := ⟨gb549, 0, none⟩) (Kd.S_mono HO_543001.out (fun k_ hk => (⟨hk, hk.2⟩ : _ ∧ k_ ≠ gb549))) (fun _ hk => hk.2) (.int .i64 x36_1)) (fun _ h_ => h_.1)))); (case side6 => exact (Kd.S_reads' HO_543001.out).2.1); (case side7 => refine (Kd.R_reads' (e := 3) (base := w.heap.size) (ok := fun k_ => (True ∧ k_ ≠ gb549)) (n := x12_1.length) (c := co51) ?_).2.2; exact (by (with_reducible repeat (first | apply Kd.R_alloc | apply Kd.R_drewN | apply Kd.R_drew)); exact (Kd.R_mono (Kd.R_far (p := ⟨gb549, 0, none⟩) (Kd.R_mono HO_12.out (fun k_ hk => (⟨hk, hk.2⟩ : _ ∧ k_ ≠ gb549))) (fun _ hk => hk.2) (.int .i64 x36_1)) (fun _ h_ => h_.1)))); (case side8 => exact (Kd.R_reads' HO_12.out).2.1); rintro e w54 ⟨rfl, hb⟩; refine ⟨_, rfl, ?_⟩; have n0_ := Aside0.mk (Kd.R_below (by (with_reducible repeat (first | apply Kd.R_alloc | apply Kd.R_drewN | apply Kd.R_drew)); exact (Kd.R_mono (Kd.R_far (p := ⟨gb549, 0, none⟩) (Kd.R_types HO_11.out BK549.out (by decide)) (fun _ hk => hk.2) (.int .i64 x36_1)) (fun _ h_ => h_.1))) hb); have n1_ := Aside0.mk (Kd.R_below (by (with_reducible repeat (first | apply Kd.R_alloc | apply Kd.R_drewN | apply Kd.R_drew)); exact (Kd.R_mono (Kd.R_far (p := ⟨gb549, 0, none⟩) (Kd.R_mono HO_12.out (fun k_ hk => (⟨hk, hk.2⟩ : _ ∧ k_ ≠ gb549))) (fun _ hk => hk.2) (.int .i64 x36_1)) (fun _ h_ => h_.1))) hb); have n2_ := Aside0.mk (Kd.R_below (by (with_reducible repeat (first | apply Kd.R_alloc | apply Kd.R_drewN | apply Kd.R_drew)); exact (Kd.R_mono (Kd.R_far (p := ⟨gb549, 0, none⟩) (Kd.R_types HO_542000.out BK549.out (by decide)) (fun _ hk => hk.2) (.int .i64 x36_1)) (fun _ h_ => h_.1))) hb); have n3_ := Aside0.mk (Kd.S_below (by (with_reducible repeat (first | apply Kd.S_alloc | apply Kd.S_drewN | apply Kd.S_drew)); exact (Kd.S_mono (Kd.S_far (p := ⟨gb549, 0, none⟩) (Kd.S_mono HO_542001.out (fun k_ hk => (⟨hk, hk.2⟩ : _ ∧ k_ ≠ gb549))) (fun _ hk => hk.2) (.int .i64 x36_1)) (fun _ h_ => h_.1))) hb); have n4_ := Aside0.mk (Kd.R_below (by (with_reducible repeat (first | apply Kd.R_alloc | apply Kd.R_drewN | apply Kd.R_drew)); exact (Kd.R_mono (Kd.R_far (p := ⟨gb549, 0, none⟩) (Kd.R_types HO_543000.out BK549.out (by decide)) (fun _ hk => hk.2) (.int .i64 x36_1)) (fun _ h_ => h_.1))) hb); have n5_ := Aside0.mk (Kd.S_below (by (with_reducible repeat (first | apply Kd.S_alloc | apply Kd.S_drewN | apply Kd.S_drew)); exact (Kd.S_mono (Kd.S_far (p := ⟨gb549, 0, none⟩) (Kd.S_mono HO_543001.out (fun k_ hk => (⟨hk, hk.2⟩ : _ ∧ k_ ≠ gb549))) (fun _ hk => hk.2) (.int .i64 x36_1)) (fun _ h_ => h_.1))) hb); have n6_ := Aside0.mk (blk_below (g := gb527) (o := .cells (mixA (Value.int .u16) [.int .i8 a0_0, .int .i8 a0_1] a0_2) 31 (0, 0)) (by (with_reducible repeat (first | refine blk_drewN ?_ _ | refine blk_drew ?_ | refine blk_alloc ?_ _)); refine blk_far ?_ NB527_549.out _; (with_reducible repeat (first | refine blk_drewN ?_ _ | refine blk_drew ?_ | refine blk_alloc ?_ _)); exact BK527.out) hb); have n7_ := Aside0.mk (blk_below (g := gb541) (o := .cells #[.slice Ao33 t529.length co33, .slice Ao34 t532.length co34] 61 (0, 0)) (by (with_reducible repeat (first | refine blk_drewN ?_ _ | refine blk_drew ?_ | refine blk_alloc ?_ _)); refine blk_far ?_ NB541_549.out _; (with_reducible repeat (first | refine blk_drewN ?_ _ | refine blk_drew ?_ | refine blk_alloc ?_ _)); exact BK541.out) hb); have n8_ := Aside0.mk (blk_below (g := gb542) (o := .cells #[.slice Ao52 t535.length co52, .slice Ao53 t538.length co53] 61 (0, 0)) (by (with_reducible repeat (first | refine blk_drewN ?_ _ | refine blk_drew ?_ | refine blk_alloc ?_ _)); refine blk_far ?_ NB542_549.out _; (with_reducible repeat (first | refine blk_drewN ?_ _ | refine blk_drew ?_ | refine blk_alloc ?_ _)); exact BK542.out) hb); have n9_ := Aside0.mk (blk_below (g := gb549) (o := .cells #[.int .i64 x36_1] 3 (0, 0)) (by (with_reducible repeat (first | refine blk_drewN ?_ _ | refine blk_drew ?_ | refine blk_alloc ?_ _)); refine blk_put (cs := #[.int .i64 0]) ?_ 0 _ rfl; (with_reducible repeat (first | refine blk_drewN ?_ _ | refine blk_drew ?_ | refine blk_alloc ?_ _)); exact BK549.out) hb); have n10_ := bst HB hb; clear HO_11; clear HO_12; clear HO_542000; clear HO_542001; clear HO_543000; clear HO_543001; clear BK527; clear BK541; clear BK542; clear BK549; clear HB; have HO_11 := n0_; have HO_12 := n1_; have HO_542000 := n2_; have HO_542001 := n3_; have HO_543000 := n4_; have HO_543001 := n5_; have BK527 := n6_; have BK541 := n7_; have BK542 := n8_; have BK549 := n9_; have HB := n10_; clear n0_ n1_ n2_ n3_ n4_ n5_ n6_ n7_ n8_ n9_ n10_; (try clear hb); (try clear hb2); (try clear hk); (try clear hi); have hcz55_0 : w54.cell? ⟨gb549, 0, none⟩ = some (.int .i64 x36_1) := (blk_cell BK549.out 0).trans rfl; have hfz55_0 := blk_frozen BK549.out 0; obtain ⟨Ao56, co56, eo56⟩ := Kd.R_slice HO_11.out; subst eo56; have p551 : 0 ≤ (x36_1 : Int) := of_decide_eq_true (by first | (with_reducible assumption) | assumption); have q551 : x36_1 < (t543.length : Int) := of_decide_eq_true (by first | (with_reducible assumption) | assumption); obtain ⟨ad551, e551, hx551_0⟩ := Kd.at_bool (Kd.R_reads' HO_11.out).2.2 x36_1 p551 q551; (try rw [← Nbq43.out] at hx551_0); cases e551; replace p551 := eq_true p551; replace q551 := eq_true q551))
         go_roundg k1
         case measure => have := HK1.out; omega
         case rel => exact ⟨(x12_1), (wrap64 (x36_1 + 1)), (by first | rfl | (simp; done) | (simp [*]; done)), H', ⟨by have := HK1.out; omega⟩, ⟨by (with_reducible repeat (first | apply Kd.R_alloc | apply Kd.R_drewN | apply Kd.R_drew)); exact HO_11.out⟩, ⟨by (with_reducible repeat (first | apply Kd.R_alloc | apply Kd.R_drewN | apply Kd.R_drew)); exact Kd.R_mono HO_12.out (fun _ hk => trivial)⟩, ⟨by (with_reducible repeat (first | apply Kd.R_alloc | apply Kd.R_drewN | apply Kd.R_drew)); exact HO_542000.out⟩, ⟨by (with_reducible repeat (first | apply Kd.S_alloc | apply Kd.S_drewN | apply Kd.S_drew)); exact Kd.S_mono HO_542001.out (fun _ hk => ⟨hk.1.1, hk.1.2⟩)⟩, ⟨by (with_reducible repeat (first | apply Kd.R_alloc | apply Kd.R_drewN | apply Kd.R_drew)); exact HO_543000.out⟩, ⟨by (with_reducible repeat (first | apply Kd.S_alloc | apply Kd.S_drewN | apply Kd.S_drew)); exact Kd.S_mono HO_543001.out (fun _ hk => ⟨hk.1.1, hk.1.2⟩)⟩, ⟨pk BK527⟩, ⟨pk BK541⟩, ⟨pk BK542⟩, ⟨pbs HB⟩⟩
        ·replace c45 := Bool.eq_false_iff.mpr c45
         subst c45
         have H1 : (if x12_1.length < 17592186044416 then (impl_PostsBound.l0 k1 t543 (x12_1 ++ [x36_1]) (t529.length : Int) (wrap64 (x36_1 + 1)) t535 t538) else (none)) = some (r1, r2) := by rw [if_neg (show ¬ (false = true) by decide)] at H; exact H
         clear H
         have H := H1
         clear H1
         by_cases c57 : x12_1.length < 17592186044416
         ·rw [if_pos c57] at H
          have LMc57 := Aside0.mk c57
          clear c57
          obtain ⟨y552, hy552⟩ : ∃ y_ : List Int, y_ = (x12_1 ++ [x36_1]) := ⟨_, rfl⟩
          replace H : (impl_PostsBound.l0 k1 t543 y552 (t529.length : Int) (wrap64 (x36_1 + 1)) t535 t538) = some (r1, r2) := by first | (rw [hy552]; with_reducible exact H) | (have H2_ := (Option.bind_some _ _).symm.trans H; rw [hy552]; with_reducible exact H2_) | (have H2_ := (Option.bind_some _ _).symm.trans H; with_reducible exact H2_) | with_reducible exact H | (rw [hy552]; exact H) | exact H
          have Ny552 := Aside0.mk hy552
          clear hy552
          have H' := Aside0.mk H
          clear H
          go_wp2_with (first | ((with_reducible refine gate_dst (N := 13) rfl ?_); refine box_event ?hg (N := 13) ?hd (cs := #[.int .i64 0]) (t := 3) ?hr ?_; (case hd => rfl); (case hg => rfl); (case hr => first | (go_simp; done) | (go_simp; rfl)); intro gb549 hg w58 hbox hb; have n0_ := krb HO_11 hb; have n1_ := Aside0.mk (Kd.R_below (Kd.R_elderB (by (with_reducible repeat (first | apply Kd.R_alloc | apply Kd.R_drewN | apply Kd.R_drew)); exact HO_12.out) gb549 (Nat.le_of_eq hg.symm)) hb); have n2_ := krb HO_542000 hb; have n3_ := Aside0.mk (Kd.S_below (Kd.S_elderB (by (with_reducible repeat (first | apply Kd.S_alloc | apply Kd.S_drewN | apply Kd.S_drew)); exact HO_542001.out) gb549 (Nat.le_of_eq hg.symm)) hb); have n4_ := krb HO_543000 hb; have n5_ := Aside0.mk (Kd.S_below (Kd.S_elderB (by (with_reducible repeat (first | apply Kd.S_alloc | apply Kd.S_drewN | apply Kd.S_drew)); exact HO_543001.out) gb549 (Nat.le_of_eq hg.symm)) hb); have n6_ := bkb BK527 hb; have n7_ := bkb BK541 hb; have n8_ := bkb BK542 hb; have n9_ := bst HB hb; have n10_ := Aside0.mk (hbox); have n11_ := gwl HB hg; have n12_ := gwl HB hg; have n13_ := nbl BK527 hg; have n14_ := nbg BK527 hg; have n15_ := nbl BK541 hg; have n16_ := nbg BK541 hg; have n17_ := nbl BK542 hg; have n18_ := nbg BK542 hg; clear HO_11; clear HO_12; clear HO_542000; clear HO_542001; clear HO_543000; clear HO_543001; clear BK527; clear BK541; clear BK542; clear HB; have HO_11 := n0_; have HO_12 := n1_; have HO_542000 := n2_; have HO_542001 := n3_; have HO_543000 := n4_; have HO_543001 := n5_; have BK527 := n6_; have BK541 := n7_; have BK542 := n8_; have HB := n9_; have BK549 := n10_; have GW549 := n11_; have GE549 := n12_; have NB527_549 := n13_; have NB549_527 := n14_; have NB541_549 := n15_; have NB549_541 := n16_; have NB542_549 := n17_; have NB549_542 := n18_; clear n0_ n1_ n2_ n3_ n4_ n5_ n6_ n7_ n8_ n9_ n10_ n11_ n12_ n13_ n14_ n15_ n16_ n17_ n18_; clear hb hbox hg; have hnb59 := NB549_527.out; have hnc59 := NB527_549.out; have hnb60 := NB549_541.out; have hnc60 := NB541_549.out; have hnb61 := NB549_542.out; have hnc61 := NB542_549.out; have hcz62_0 : w58.cell? ⟨gb549, 0, none⟩ = some (.int .i64 0) := (blk_cell BK549.out 0).trans rfl; have hfz62_0 := blk_frozen BK549.out 0; obtain ⟨Ao63, co63, eo63⟩ := Kd.R_slice HO_12.out; subst eo63; obtain ⟨Ao64, co64, eo64⟩ := Kd.R_slice HO_543000.out; subst eo64; obtain ⟨Ao65, co65, eo65⟩ := Kd.S_slice HO_543001.out; subst eo65) | ((with_reducible refine gate_callee (f := 36) rfl ?_); refine goesL_ (some 41) rfl rfl Try.func36 (by kernel_rfl) rfl #[.slice Ao63 x12_1.length co63, .func (.func 37) #[] #[.pointer (some ⟨gb542, 0, none⟩), .pointer (some ⟨gb549, 0, none⟩)]] rfl (by (try simp only [List.map_toArray, List.map_cons, List.map_nil]); first | done | rfl | (simp only [List.length_drop, List.length_take]; rfl)) ?_; (with_reducible refine (slices_ContainsFunc_int_int__37.calls k1 _ _ x12_1 gb542 Ao64 co64 t535 Ao65 co65 t538 gb549 x36_1 false _ ?side1 ?side2 ?side3 ?side4 ?side5 ?side6 ?side7 ?side8 A40.out).mono ?_); (case side1 => exact (by (with_reducible repeat (first | refine blk_drewN ?_ _ | refine blk_drew ?_ | refine blk_alloc ?_ _)); refine blk_far ?_ NB542_549.out _; (with_reducible repeat (first | refine blk_drewN ?_ _ | refine blk_drew ?_ | refine blk_alloc ?_ _)); exact BK542.out)); (case side2 => exact (by (with_reducible repeat (first | refine blk_drewN ?_ _ | refine blk_drew ?_ | refine blk_alloc ?_ _)); refine blk_put (cs := #[.int .i64 0]) ?_ 0 _ rfl; (with_reducible repeat (first | refine blk_drewN ?_ _ | refine blk_drew ?_ | refine blk_alloc ?_ _)); exact BK549.out)); (case side3 => refine (Kd.R_reads' (e := 54) (base := w.heap.size) (ok := fun k_ => some k_ ≠ (.slice Ao33 t529.length co33 : Value).ownBlock) (n := t535.length) (c := co64) ?_).2.2; exact (by (with_reducible repeat (first | apply Kd.R_alloc | apply Kd.R_drewN | apply Kd.R_drew)); exact (Kd.R_mono (Kd.R_far (p := ⟨gb549, 0, none⟩) (Kd.R_types HO_543000.out BK549.out (by decide)) (fun _ hk => hk.2) (.int .i64 x36_1)) (fun _ h_ => h_.1)))); (case side4 => exact (Kd.R_reads' HO_543000.out).2.1); (case side5 => refine (Kd.S_reads' (e := 65) (base := w.heap.size) (ok := fun k_ => ((some k_ ≠ (.slice Ao63 x12_1.length co63 : Value).ownBlock ∧ some k_ ≠ (.slice Ao34 t532.length co34 : Value).ownBlock) ∧ k_ ≠ gb549)) (n := t538.length) (c := co65) ?_).2.2; exact (by (with_reducible repeat (first | apply Kd.S_alloc | apply Kd.S_drewN | apply Kd.S_drew)); exact (Kd.S_mono (Kd.S_far (p := ⟨gb549, 0, none⟩) (Kd.S_mono HO_543001.out (fun k_ hk => (⟨hk, hk.2⟩ : _ ∧ k_ ≠ gb549))) (fun _ hk => hk.2) (.int .i64 x36_1)) (fun _ h_ => h_.1)))); (case side6 => exact (Kd.S_reads' HO_543001.out).2.1); (case side7 => refine (Kd.R_reads' (e := 3) (base := w.heap.size) (ok := fun k_ => (True ∧ k_ ≠ gb549)) (n := x12_1.length) (c := co63) ?_).2.2; exact (by (with_reducible repeat (first | apply Kd.R_alloc | apply Kd.R_drewN | apply Kd.R_drew)); exact (Kd.R_mono (Kd.R_far (p := ⟨gb549, 0, none⟩) (Kd.R_mono HO_12.out (fun k_ hk => (⟨hk, hk.2⟩ : _ ∧ k_ ≠ gb549))) (fun _ hk => hk.2) (.int .i64 x36_1)) (fun _ h_ => h_.1)))); (case side8 => exact (Kd.R_reads' HO_12.out).2.1); rintro e w66 ⟨rfl, hb⟩; refine ⟨_, rfl, ?_⟩; have n0_ := Aside0.mk (Kd.R_below (by (with_reducible repeat (first | apply Kd.R_alloc | apply Kd.R_drewN | apply Kd.R_drew)); exact (Kd.R_mono (Kd.R_far (p := ⟨gb549, 0, none⟩) (Kd.R_types HO_11.out BK549.out (by decide)) (fun _ hk => hk.2) (.int .i64 x36_1)) (fun _ h_ => h_.1))) hb); have n1_ := Aside0.mk (Kd.R_below (by (with_reducible repeat (first | apply Kd.R_alloc | apply Kd.R_drewN | apply Kd.R_drew)); exact (Kd.R_mono (Kd.R_far (p := ⟨gb549, 0, none⟩) (Kd.R_mono HO_12.out (fun k_ hk => (⟨hk, hk.2⟩ : _ ∧ k_ ≠ gb549))) (fun _ hk => hk.2) (.int .i64 x36_1)) (fun _ h_ => h_.1))) hb); have n2_ := Aside0.mk (Kd.R_below (by (with_reducible repeat (first | apply Kd.R_alloc | apply Kd.R_drewN | apply Kd.R_drew)); exact (Kd.R_mono (Kd.R_far (p := ⟨gb549, 0, none⟩) (Kd.R_types HO_542000.out BK549.out (by decide)) (fun _ hk => hk.2) (.int .i64 x36_1)) (fun _ h_ => h_.1))) hb); have n3_ := Aside0.mk (Kd.S_below (by (with_reducible repeat (first | apply Kd.S_alloc | apply Kd.S_drewN | apply Kd.S_drew)); exact (Kd.S_mono (Kd.S_far (p := ⟨gb549, 0, none⟩) (Kd.S_mono HO_542001.out (fun k_ hk => (⟨hk, hk.2⟩ : _ ∧ k_ ≠ gb549))) (fun _ hk => hk.2) (.int .i64 x36_1)) (fun _ h_ => h_.1))) hb); have n4_ := Aside0.mk (Kd.R_below (by (with_reducible repeat (first | apply Kd.R_alloc | apply Kd.R_drewN | apply Kd.R_drew)); exact (Kd.R_mono (Kd.R_far (p := ⟨gb549, 0, none⟩) (Kd.R_types HO_543000.out BK549.out (by decide)) (fun _ hk => hk.2) (.int .i64 x36_1)) (fun _ h_ => h_.1))) hb); have n5_ := Aside0.mk (Kd.S_below (by (with_reducible repeat (first | apply Kd.S_alloc | apply Kd.S_drewN | apply Kd.S_drew)); exact (Kd.S_mono (Kd.S_far (p := ⟨gb549, 0, none⟩) (Kd.S_mono HO_543001.out (fun k_ hk => (⟨hk, hk.2⟩ : _ ∧ k_ ≠ gb549))) (fun _ hk => hk.2) (.int .i64 x36_1)) (fun _ h_ => h_.1))) hb); have n6_ := Aside0.mk (blk_below (g := gb527) (o := .cells (mixA (Value.int .u16) [.int .i8 a0_0, .int .i8 a0_1] a0_2) 31 (0, 0)) (by (with_reducible repeat (first | refine blk_drewN ?_ _ | refine blk_drew ?_ | refine blk_alloc ?_ _)); refine blk_far ?_ NB527_549.out _; (with_reducible repeat (first | refine blk_drewN ?_ _ | refine blk_drew ?_ | refine blk_alloc ?_ _)); exact BK527.out) hb); have n7_ := Aside0.mk (blk_below (g := gb541) (o := .cells #[.slice Ao33 t529.length co33, .slice Ao34 t532.length co34] 61 (0, 0)) (by (with_reducible repeat (first | refine blk_drewN ?_ _ | refine blk_drew ?_ | refine blk_alloc ?_ _)); refine blk_far ?_ NB541_549.out _; (with_reducible repeat (first | refine blk_drewN ?_ _ | refine blk_drew ?_ | refine blk_alloc ?_ _)); exact BK541.out) hb); have n8_ := Aside0.mk (blk_below (g := gb542) (o := .cells #[.slice Ao64 t535.length co64, .slice Ao65 t538.length co65] 61 (0, 0)) (by (with_reducible repeat (first | refine blk_drewN ?_ _ | refine blk_drew ?_ | refine blk_alloc ?_ _)); refine blk_far ?_ NB542_549.out _; (with_reducible repeat (first | refine blk_drewN ?_ _ | refine blk_drew ?_ | refine blk_alloc ?_ _)); exact BK542.out) hb); have n9_ := Aside0.mk (blk_below (g := gb549) (o := .cells #[.int .i64 x36_1] 3 (0, 0)) (by (with_reducible repeat (first | refine blk_drewN ?_ _ | refine blk_drew ?_ | refine blk_alloc ?_ _)); refine blk_put (cs := #[.int .i64 0]) ?_ 0 _ rfl; (with_reducible repeat (first | refine blk_drewN ?_ _ | refine blk_drew ?_ | refine blk_alloc ?_ _)); exact BK549.out) hb); have n10_ := bst HB hb; clear HO_11; clear HO_12; clear HO_542000; clear HO_542001; clear HO_543000; clear HO_543001; clear BK527; clear BK541; clear BK542; clear BK549; clear HB; have HO_11 := n0_; have HO_12 := n1_; have HO_542000 := n2_; have HO_542001 := n3_; have HO_543000 := n4_; have HO_543001 := n5_; have BK527 := n6_; have BK541 := n7_; have BK542 := n8_; have BK549 := n9_; have HB := n10_; clear n0_ n1_ n2_ n3_ n4_ n5_ n6_ n7_ n8_ n9_ n10_; (try clear hb); (try clear hb2); (try clear hk); (try clear hi); have hcz67_0 : w66.cell? ⟨gb549, 0, none⟩ = some (.int .i64 x36_1) := (blk_cell BK549.out 0).trans rfl; have hfz67_0 := blk_frozen BK549.out 0; obtain ⟨Ao68, co68, eo68⟩ := Kd.R_slice HO_11.out; subst eo68; have p551 : 0 ≤ (x36_1 : Int) := of_decide_eq_true (by first | (with_reducible assumption) | assumption); have q551 : x36_1 < (t543.length : Int) := of_decide_eq_true (by first | (with_reducible assumption) | assumption); obtain ⟨ad551, e551, hx551_0⟩ := Kd.at_bool (Kd.R_reads' HO_11.out).2.2 x36_1 p551 q551; (try rw [← Nbq43.out] at hx551_0); cases e551; replace p551 := eq_true p551; replace q551 := eq_true q551) | ((with_reducible refine gate_builtin (b := .append) (xs := #[.tmp 50, .tmp 52]) rfl ?_); at_builtin; refine Kd.R_append (Kd.int .i64) (w0 := w) w.heap.size rfl (.tmp 50) (.tmp 52) 65 3 (.int .i64 0) 8 rfl Try.underlying65 info3 rfl (by decide) (by omega) (.slice Ao63 x12_1.length co63) x12_1 x36_1 [.int .i64 x36_1] (fun k_ => k_ ≠ gb549) (fun _ => False) rfl rfl ?aP (fun _ hk => hk.elim) ?aF ?aO ?aB ?aS ?aL ?_; (case aP => exact rfl); (case aB => exact (pbs HB)); (case aF => exact (fun k_ hk => Kd.freshB (g := gb549) (o := .cells #[.int .i64 x36_1] 3 (0, 0)) (pk BK549) k_ hk)); (case aO => exact (by (with_reducible repeat (first | apply Kd.R_alloc | apply Kd.R_drewN | apply Kd.R_drew)); exact Kd.R_mono HO_12.out (fun _ hk => hk.2))); (case aS => exact (below_size (by repeat (first | (with_reducible first | exact HB.out | apply below_alloc | apply pw_below_drewN | apply below_drew1 | refine below_set ?_ GE527.out | refine below_set ?_ GE541.out | refine below_set ?_ GE542.out | refine below_set ?_ GE549.out) | exact HB.out)))); (case aL => have := LMc57.out; omega); intro v553 w69 ho hb hg hat; rw [← Ny552.out] at ho; have n0_ := Aside0.mk (Kd.R_over' (by (with_reducible repeat (first | apply Kd.R_alloc | apply Kd.R_drewN | apply Kd.R_drew)); exact HO_11.out) (Kd.R_typed (by (with_reducible repeat (first | apply Kd.R_alloc | apply Kd.R_drewN | apply Kd.R_drew)); exact HO_12.out)) (by decide) hg); have n1_ := Aside0.mk (Kd.R_over' (by (with_reducible repeat (first | apply Kd.R_alloc | apply Kd.R_drewN | apply Kd.R_drew)); exact HO_542000.out) (Kd.R_typed (by (with_reducible repeat (first | apply Kd.R_alloc | apply Kd.R_drewN | apply Kd.R_drew)); exact HO_12.out)) (by decide) hg); have n2_ := Aside0.mk (Kd.S_after (ok := (fun k_ => some k_ ≠ (.slice Ao65 t538.length co65 : Value).ownBlock ∧ k_ ≠ gb549)) (by (with_reducible repeat (first | apply Kd.S_alloc | apply Kd.S_drewN | apply Kd.S_drew)); exact Kd.S_mono HO_542001.out (fun _ hk => ⟨⟨hk.1.2, hk.2⟩, hk.1.1⟩)) hg hat); have n3_ := Aside0.mk (Kd.R_over' (by (with_reducible repeat (first | apply Kd.R_alloc | apply Kd.R_drewN | apply Kd.R_drew)); exact HO_543000.out) (Kd.R_typed (by (with_reducible repeat (first | apply Kd.R_alloc | apply Kd.R_drewN | apply Kd.R_drew)); exact HO_12.out)) (by decide) hg); have n4_ := Aside0.mk (Kd.S_after (ok := (fun k_ => some k_ ≠ (.slice Ao34 t532.length co34 : Value).ownBlock ∧ k_ ≠ gb549)) (by (with_reducible repeat (first | apply Kd.S_alloc | apply Kd.S_drewN | apply Kd.S_drew)); exact Kd.S_mono HO_543001.out (fun _ hk => ⟨⟨hk.1.2, hk.2⟩, hk.1.1⟩)) hg hat); have n5_ := Aside0.mk (blk_grown (g := gb527) (o := .cells (mixA (Value.int .u16) [.int .i8 a0_0, .int .i8 a0_1] a0_2) 31 (0, 0)) (pk BK527) hg (Kd.R_ne HO_12.out BK527.out (by decide))); have n6_ := Aside0.mk (blk_grown (g := gb541) (o := .cells #[.slice Ao33 t529.length co33, .slice Ao34 t532.length co34] 61 (0, 0)) (pk BK541) hg (Kd.R_ne HO_12.out BK541.out (by decide))); have n7_ := Aside0.mk (blk_grown (g := gb542) (o := .cells #[.slice Ao64 t535.length co64, .slice Ao65 t538.length co65] 61 (0, 0)) (pk BK542) hg (Kd.R_ne HO_12.out BK542.out (by decide))); have n8_ := Aside0.mk (blk_grown (g := gb549) (o := .cells #[.int .i64 x36_1] 3 (0, 0)) (pk BK549) hg (Kd.R_away HO_12.out (fun _ hk => hk.2))); have n9_ := Aside0.mk (hb); have n10_ := Aside0.mk (ho); clear HO_11; clear HO_542000; clear HO_542001; clear HO_543000; clear HO_543001; clear BK527; clear BK541; clear BK542; clear BK549; clear HB; clear HO_12; have HO_11 := n0_; have HO_542000 := n1_; have HO_542001 := n2_; have HO_543000 := n3_; have HO_543001 := n4_; have BK527 := n5_; have BK541 := n6_; have BK542 := n7_; have BK549 := n8_; have HB := n9_; have HO554 := n10_; clear n0_ n1_ n2_ n3_ n4_ n5_ n6_ n7_ n8_ n9_ n10_; clear ho hb hg hat))
          go_roundg k1
          case measure => have := HK1.out; omega
          case rel => exact ⟨(y552), (wrap64 (x36_1 + 1)), (by first | rfl | (simp; done) | (simp [*]; done)), H', ⟨by have := HK1.out; omega⟩, ⟨by (with_reducible repeat (first | apply Kd.R_alloc | apply Kd.R_drewN | apply Kd.R_drew)); exact HO_11.out⟩, ⟨by (with_reducible repeat (first | apply Kd.R_alloc | apply Kd.R_drewN | apply Kd.R_drew)); exact Kd.R_mono HO554.out (fun _ hk => trivial)⟩, ⟨by (with_reducible repeat (first | apply Kd.R_alloc | apply Kd.R_drewN | apply Kd.R_drew)); exact HO_542000.out⟩, ⟨by (with_reducible repeat (first | apply Kd.S_alloc | apply Kd.S_drewN | apply Kd.S_drew)); exact Kd.S_mono HO_542001.out (fun _ hk => ⟨hk.2, hk.1.1⟩)⟩, ⟨by (with_reducible repeat (first | apply Kd.R_alloc | apply Kd.R_drewN | apply Kd.R_drew)); exact HO_543000.out⟩, ⟨by (with_reducible repeat (first | apply Kd.S_alloc | apply Kd.S_drewN | apply Kd.S_drew)); exact Kd.S_mono HO_543001.out (fun _ hk => ⟨hk.2, hk.1.1⟩)⟩, ⟨pk BK527⟩, ⟨pk BK541⟩, ⟨pk BK542⟩, ⟨pbs HB⟩⟩
         ·rw [if_neg c57] at H
          exact absurd H (by simp)
       ·replace c44 := Bool.eq_false_iff.mpr c44
        subst c44
        have H1 : (impl_PostsBound.l0 k1 t543 x12_1 (t529.length : Int) (wrap64 (x36_1 + 1)) t535 t538) = some (r1, r2) := by rw [if_neg (show ¬ (false = true) by decide)] at H; exact H
        clear H
        have H := H1
        clear H1
        have H' := Aside0.mk H
        clear H
        go_wp2_with (first | ((with_reducible refine gate_dst (N := 13) rfl ?_); refine box_event ?hg (N := 13) ?hd (cs := #[.int .i64 0]) (t := 3) ?hr ?_; (case hd => rfl); (case hg => rfl); (case hr => first | (go_simp; done) | (go_simp; rfl)); intro gb549 hg w70 hbox hb; have n0_ := krb HO_11 hb; have n1_ := Aside0.mk (Kd.R_below (Kd.R_elderB (by (with_reducible repeat (first | apply Kd.R_alloc | apply Kd.R_drewN | apply Kd.R_drew)); exact HO_12.out) gb549 (Nat.le_of_eq hg.symm)) hb); have n2_ := krb HO_542000 hb; have n3_ := Aside0.mk (Kd.S_below (Kd.S_elderB (by (with_reducible repeat (first | apply Kd.S_alloc | apply Kd.S_drewN | apply Kd.S_drew)); exact HO_542001.out) gb549 (Nat.le_of_eq hg.symm)) hb); have n4_ := krb HO_543000 hb; have n5_ := Aside0.mk (Kd.S_below (Kd.S_elderB (by (with_reducible repeat (first | apply Kd.S_alloc | apply Kd.S_drewN | apply Kd.S_drew)); exact HO_543001.out) gb549 (Nat.le_of_eq hg.symm)) hb); have n6_ := bkb BK527 hb; have n7_ := bkb BK541 hb; have n8_ := bkb BK542 hb; have n9_ := bst HB hb; have n10_ := Aside0.mk (hbox); have n11_ := gwl HB hg; have n12_ := gwl HB hg; have n13_ := nbl BK527 hg; have n14_ := nbg BK527 hg; have n15_ := nbl BK541 hg; have n16_ := nbg BK541 hg; have n17_ := nbl BK542 hg; have n18_ := nbg BK542 hg; clear HO_11; clear HO_12; clear HO_542000; clear HO_542001; clear HO_543000; clear HO_543001; clear BK527; clear BK541; clear BK542; clear HB; have HO_11 := n0_; have HO_12 := n1_; have HO_542000 := n2_; have HO_542001 := n3_; have HO_543000 := n4_; have HO_543001 := n5_; have BK527 := n6_; have BK541 := n7_; have BK542 := n8_; have HB := n9_; have BK549 := n10_; have GW549 := n11_; have GE549 := n12_; have NB527_549 := n13_; have NB549_527 := n14_; have NB541_549 := n15_; have NB549_541 := n16_; have NB542_549 := n17_; have NB549_542 := n18_; clear n0_ n1_ n2_ n3_ n4_ n5_ n6_ n7_ n8_ n9_ n10_ n11_ n12_ n13_ n14_ n15_ n16_ n17_ n18_; clear hb hbox hg; have hnb71 := NB549_527.out; have hnc71 := NB527_549.out; have hnb72 := NB549_541.out; have hnc72 := NB541_549.out; have hnb73 := NB549_542.out; have hnc73 := NB542_549.out; have hcz74_0 : w70.cell? ⟨gb549, 0, none⟩ = some (.int .i64 0) := (blk_cell BK549.out 0).trans rfl; have hfz74_0 := blk_frozen BK549.out 0; obtain ⟨Ao75, co75, eo75⟩ := Kd.R_slice HO_12.out; subst eo75; obtain ⟨Ao76, co76, eo76⟩ := Kd.R_slice HO_543000.out; subst eo76; obtain ⟨Ao77, co77, eo77⟩ := Kd.S_slice HO_543001.out; subst eo77) | ((with_reducible refine gate_callee (f := 36) rfl ?_); refine goesL_ (some 41) rfl rfl Try.func36 (by kernel_rfl) rfl #[.slice Ao75 x12_1.length co75, .func (.func 37) #[] #[.pointer (some ⟨gb542, 0, none⟩), .pointer (some ⟨gb549, 0, none⟩)]] rfl (by (try simp only [List.map_toArray, List.map_cons, List.map_nil]); first | done | rfl | (simp only [List.length_drop, List.length_take]; rfl)) ?_; (with_reducible refine (slices_ContainsFunc_int_int__37.calls k1 _ _ x12_1 gb542 Ao76 co76 t535 Ao77 co77 t538 gb549 x36_1 t550 _ ?side1 ?side2 ?side3 ?side4 ?side5 ?side6 ?side7 ?side8 A40.out).mono ?_); (case side1 => exact (by (with_reducible repeat (first | refine blk_drewN ?_ _ | refine blk_drew ?_ | refine blk_alloc ?_ _)); refine blk_far ?_ NB542_549.out _; (with_reducible repeat (first | refine blk_drewN ?_ _ | refine blk_drew ?_ | refine blk_alloc ?_ _)); exact BK542.out)); (case side2 => exact (by (with_reducible repeat (first | refine blk_drewN ?_ _ | refine blk_drew ?_ | refine blk_alloc ?_ _)); refine blk_put (cs := #[.int .i64 0]) ?_ 0 _ rfl; (with_reducible repeat (first | refine blk_drewN ?_ _ | refine blk_drew ?_ | refine blk_alloc ?_ _)); exact BK549.out)); (case side3 => refine (Kd.R_reads' (e := 54) (base := w.heap.size) (ok := fun k_ => some k_ ≠ (.slice Ao33 t529.length co33 : Value).ownBlock) (n := t535.length) (c := co76) ?_).2.2; exact (by (with_reducible repeat (first | apply Kd.R_alloc | apply Kd.R_drewN | apply Kd.R_drew)); exact (Kd.R_mono (Kd.R_far (p := ⟨gb549, 0, none⟩) (Kd.R_types HO_543000.out BK549.out (by decide)) (fun _ hk => hk.2) (.int .i64 x36_1)) (fun _ h_ => h_.1)))); (case side4 => exact (Kd.R_reads' HO_543000.out).2.1); (case side5 => refine (Kd.S_reads' (e := 65) (base := w.heap.size) (ok := fun k_ => ((some k_ ≠ (.slice Ao75 x12_1.length co75 : Value).ownBlock ∧ some k_ ≠ (.slice Ao34 t532.length co34 : Value).ownBlock) ∧ k_ ≠ gb549)) (n := t538.length) (c := co77) ?_).2.2; exact (by (with_reducible repeat (first | apply Kd.S_alloc | apply Kd.S_drewN | apply Kd.S_drew)); exact (Kd.S_mono (Kd.S_far (p := ⟨gb549, 0, none⟩) (Kd.S_mono HO_543001.out (fun k_ hk => (⟨hk, hk.2⟩ : _ ∧ k_ ≠ gb549))) (fun _ hk => hk.2) (.int .i64 x36_1)) (fun _ h_ => h_.1)))); (case side6 => exact (Kd.S_reads' HO_543001.out).2.1); (case side7 => refine (Kd.R_reads' (e := 3) (base := w.heap.size) (ok := fun k_ => (True ∧ k_ ≠ gb549)) (n := x12_1.length) (c := co75) ?_).2.2; exact (by (with_reducible repeat (first | apply Kd.R_alloc | apply Kd.R_drewN | apply Kd.R_drew)); exact (Kd.R_mono (Kd.R_far (p := ⟨gb549, 0, none⟩) (Kd.R_mono HO_12.out (fun k_ hk => (⟨hk, hk.2⟩ : _ ∧ k_ ≠ gb549))) (fun _ hk => hk.2) (.int .i64 x36_1)) (fun _ h_ => h_.1)))); (case side8 => exact (Kd.R_reads' HO_12.out).2.1); rintro e w78 ⟨rfl, hb⟩; refine ⟨_, rfl, ?_⟩; have n0_ := Aside0.mk (Kd.R_below (by (with_reducible repeat (first | apply Kd.R_alloc | apply Kd.R_drewN | apply Kd.R_drew)); exact (Kd.R_mono (Kd.R_far (p := ⟨gb549, 0, none⟩) (Kd.R_types HO_11.out BK549.out (by decide)) (fun _ hk => hk.2) (.int .i64 x36_1)) (fun _ h_ => h_.1))) hb); have n1_ := Aside0.mk (Kd.R_below (by (with_reducible repeat (first | apply Kd.R_alloc | apply Kd.R_drewN | apply Kd.R_drew)); exact (Kd.R_mono (Kd.R_far (p := ⟨gb549, 0, none⟩) (Kd.R_mono HO_12.out (fun k_ hk => (⟨hk, hk.2⟩ : _ ∧ k_ ≠ gb549))) (fun _ hk => hk.2) (.int .i64 x36_1)) (fun _ h_ => h_.1))) hb); have n2_ := Aside0.mk (Kd.R_below (by (with_reducible repeat (first | apply Kd.R_alloc | apply Kd.R_drewN | apply Kd.R_drew)); exact (Kd.R_mono (Kd.R_far (p := ⟨gb549, 0, none⟩) (Kd.R_types HO_542000.out BK549.out (by decide)) (fun _ hk => hk.2) (.int .i64 x36_1)) (fun _ h_ => h_.1))) hb); have n3_ := Aside0.mk (Kd.S_below (by (with_reducible repeat (first | apply Kd.S_alloc | apply Kd.S_drewN | apply Kd.S_drew)); exact (Kd.S_mono (Kd.S_far (p := ⟨gb549, 0, none⟩) (Kd.S_mono HO_542001.out (fun k_ hk => (⟨hk, hk.2⟩ : _ ∧ k_ ≠ gb549))) (fun _ hk => hk.2) (.int .i64 x36_1)) (fun _ h_ => h_.1))) hb); have n4_ := Aside0.mk (Kd.R_below (by (with_reducible repeat (first | apply Kd.R_alloc | apply Kd.R_drewN | apply Kd.R_drew)); exact (Kd.R_mono (Kd.R_far (p := ⟨gb549, 0, none⟩) (Kd.R_types HO_543000.out BK549.out (by decide)) (fun _ hk => hk.2) (.int .i64 x36_1)) (fun _ h_ => h_.1))) hb); have n5_ := Aside0.mk (Kd.S_below (by (with_reducible repeat (first | apply Kd.S_alloc | apply Kd.S_drewN | apply Kd.S_drew)); exact (Kd.S_mono (Kd.S_far (p := ⟨gb549, 0, none⟩) (Kd.S_mono HO_543001.out (fun k_ hk => (⟨hk, hk.2⟩ : _ ∧ k_ ≠ gb549))) (fun _ hk => hk.2) (.int .i64 x36_1)) (fun _ h_ => h_.1))) hb); have n6_ := Aside0.mk (blk_below (g := gb527) (o := .cells (mixA (Value.int .u16) [.int .i8 a0_0, .int .i8 a0_1] a0_2) 31 (0, 0)) (by (with_reducible repeat (first | refine blk_drewN ?_ _ | refine blk_drew ?_ | refine blk_alloc ?_ _)); refine blk_far ?_ NB527_549.out _; (with_reducible repeat (first | refine blk_drewN ?_ _ | refine blk_drew ?_ | refine blk_alloc ?_ _)); exact BK527.out) hb); have n7_ := Aside0.mk (blk_below (g := gb541) (o := .cells #[.slice Ao33 t529.length co33, .slice Ao34 t532.length co34] 61 (0, 0)) (by (with_reducible repeat (first | refine blk_drewN ?_ _ | refine blk_drew ?_ | refine blk_alloc ?_ _)); refine blk_far ?_ NB541_549.out _; (with_reducible repeat (first | refine blk_drewN ?_ _ | refine blk_drew ?_ | refine blk_alloc ?_ _)); exact BK541.out) hb); have n8_ := Aside0.mk (blk_below (g := gb542) (o := .cells #[.slice Ao76 t535.length co76, .slice Ao77 t538.length co77] 61 (0, 0)) (by (with_reducible repeat (first | refine blk_drewN ?_ _ | refine blk_drew ?_ | refine blk_alloc ?_ _)); refine blk_far ?_ NB542_549.out _; (with_reducible repeat (first | refine blk_drewN ?_ _ | refine blk_drew ?_ | refine blk_alloc ?_ _)); exact BK542.out) hb); have n9_ := Aside0.mk (blk_below (g := gb549) (o := .cells #[.int .i64 x36_1] 3 (0, 0)) (by (with_reducible repeat (first | refine blk_drewN ?_ _ | refine blk_drew ?_ | refine blk_alloc ?_ _)); refine blk_put (cs := #[.int .i64 0]) ?_ 0 _ rfl; (with_reducible repeat (first | refine blk_drewN ?_ _ | refine blk_drew ?_ | refine blk_alloc ?_ _)); exact BK549.out) hb); have n10_ := bst HB hb; clear HO_11; clear HO_12; clear HO_542000; clear HO_542001; clear HO_543000; clear HO_543001; clear BK527; clear BK541; clear BK542; clear BK549; clear HB; have HO_11 := n0_; have HO_12 := n1_; have HO_542000 := n2_; have HO_542001 := n3_; have HO_543000 := n4_; have HO_543001 := n5_; have BK527 := n6_; have BK541 := n7_; have BK542 := n8_; have BK549 := n9_; have HB := n10_; clear n0_ n1_ n2_ n3_ n4_ n5_ n6_ n7_ n8_ n9_ n10_; (try clear hb); (try clear hb2); (try clear hk); (try clear hi); have hcz79_0 : w78.cell? ⟨gb549, 0, none⟩ = some (.int .i64 x36_1) := (blk_cell BK549.out 0).trans rfl; have hfz79_0 := blk_frozen BK549.out 0; obtain ⟨Ao80, co80, eo80⟩ := Kd.R_slice HO_11.out; subst eo80; have p551 : 0 ≤ (x36_1 : Int) := of_decide_eq_true (by first | (with_reducible assumption) | assumption); have q551 : x36_1 < (t543.length : Int) := of_decide_eq_true (by first | (with_reducible assumption) | assumption); obtain ⟨ad551, e551, hx551_0⟩ := Kd.at_bool (Kd.R_reads' HO_11.out).2.2 x36_1 p551 q551; (try rw [← Nbq43.out] at hx551_0); cases e551; replace p551 := eq_true p551; replace q551 := eq_true q551))
        go_roundg k1
        case measure => have := HK1.out; omega
        case rel => exact ⟨(x12_1), (wrap64 (x36_1 + 1)), (by first | rfl | (simp; done) | (simp [*]; done)), H', ⟨by have := HK1.out; omega⟩, ⟨by (with_reducible repeat (first | apply Kd.R_alloc | apply Kd.R_drewN | apply Kd.R_drew)); exact HO_11.out⟩, ⟨by (with_reducible repeat (first | apply Kd.R_alloc | apply Kd.R_drewN | apply Kd.R_drew)); exact Kd.R_mono HO_12.out (fun _ hk => trivial)⟩, ⟨by (with_reducible repeat (first | apply Kd.R_alloc | apply Kd.R_drewN | apply Kd.R_drew)); exact HO_542000.out⟩, ⟨by (with_reducible repeat (first | apply Kd.S_alloc | apply Kd.S_drewN | apply Kd.S_drew)); exact Kd.S_mono HO_542001.out (fun _ hk => ⟨hk.1.1, hk.1.2⟩)⟩, ⟨by (with_reducible repeat (first | apply Kd.R_alloc | apply Kd.R_drewN | apply Kd.R_drew)); exact HO_543000.out⟩, ⟨by (with_reducible repeat (first | apply Kd.S_alloc | apply Kd.S_drewN | apply Kd.S_drew)); exact Kd.S_mono HO_543001.out (fun _ hk => ⟨hk.1.1, hk.1.2⟩)⟩, ⟨pk BK527⟩, ⟨pk BK541⟩, ⟨pk BK542⟩, ⟨pbs HB⟩⟩
      ·rw [if_neg c42] at H
       exact absurd H (by simp)
     ·rw [if_neg c41] at H
      exact absurd H (by simp)
    ·rw [if_neg c39] at H
     have c39b0 : decide (x36_1 < (t529.length : Int)) = false := decide_eq_false c39
     clear c39
     replace H := Option.bind_eq_some_iff.mp H
     obtain ⟨t555, A810, H⟩ := H
     replace H : (some (t555, 0)) = some (r1, r2) := H
     have A81 := Aside0.mk A810
     clear A810
     simp only [Option.some.injEq, Prod.mk.injEq] at H
     obtain ⟨rfl, rfl⟩ := H
     obtain ⟨Ao82, co82, eo82⟩ := Kd.R_slice HO_12.out
     subst eo82
     go_wp2_with (first | ((with_reducible refine gate_callee (f := 39) rfl ?_); refine goesL_ (some 56) rfl rfl Try.func39 (by kernel_rfl) rfl #[.slice Ao82 x12_1.length co82] rfl (by (try simp only [List.map_toArray, List.map_cons, List.map_nil]); first | done | rfl | (simp only [List.length_drop, List.length_take]; rfl)) ?_; (with_reducible refine (impl_size_int.calls _ _ x12_1 t555 _ ?side1 ?side2 A81.out).mono ?_); (case side1 => repeat (first | exact (Kd.R_reads' HO_12.out).2.2 | (with_reducible refine Kd.C_alloc ?_ _) | (with_reducible refine Kd.C_drewN ?_ _) | (with_reducible refine Kd.C_drew ?_))); (case side2 => exact (Kd.R_reads' HO_12.out).2.1); rintro e w' ⟨rfl, ⟨nd, rfl⟩⟩; refine ⟨_, rfl, ?_⟩))
     go_ret2
     exact ⟨by first | rfl | (simp [errW_none, errW_some] <;> rfl) | (simp [*, errW_none, errW_some] <;> rfl), pbs HB⟩
 ·rw [if_neg c5] at H
  have c5b0 : (t528 == 0) = false := beq_eq_false_iff_ne.mpr c5
  have c5b1 : (t528 != 0) = true := bne_iff_ne.mpr c5
  simp only [Option.some.injEq, Prod.mk.injEq] at H
  obtain ⟨rfl, rfl⟩ := H
  go_enter Try.func13, Try.ntmps13
  go_wp2_with (first | ((with_reducible refine gate_dst (N := 3) rfl ?_); refine box_event ?hg (N := 3) ?hd (cs := (mixA (Value.int .u16) [.int .i8 a0_0, .int .i8 a0_1] a0_2)) (t := 31) ?hr ?_; (case hd => rfl); (case hg => rfl); (case hr => first | (go_simp; done) | (go_simp; rfl)); intro gb527 hg w83 hbox hb; have n0_ := bst HB hb; have n1_ := Aside0.mk (hbox); have n2_ := gwl HB hg; have n3_ := gwl HB hg; clear HB; have HB := n0_; have BK527 := n1_; have GW527 := n2_; have GE527 := n3_; clear n0_ n1_ n2_ n3_; clear hb hbox hg) | ((with_reducible refine gate_dst (N := 15) rfl ?_); refine wpList_run0 (v := .agg (mixA (Value.int .u16) [.int .i8 a0_0, .int .i8 a0_1] a0_2)) rfl (load_mix_run (P := Try.prog) 31 (.tmp 3) rfl gb527 rfl (show World.rangeAt _ gb527 0 ([.int .i8 a0_0, .int .i8 a0_1] ++ a0_2.l.map (Value.int .u16)) from mix_range (show (World.heap _)[gb527]? = some (.cells (mixA (Value.int .u16) [.int .i8 a0_0, .int .i8 a0_1] a0_2) 31 (0, 0)) from by (with_reducible repeat (first | refine blk_drewN ?_ _ | refine blk_drew ?_ | refine blk_alloc ?_ _)); exact BK527.out)) Try.underlying31 rfl (by kernel_rfl) rfl) ?_) | ((with_reducible refine gate_callee (f := 33) rfl ?_); refine goesL_ (some 18) rfl rfl Try.func33 (by kernel_rfl) rfl #[.agg (mixA (Value.int .u16) [.int .i8 a0_0, .int .i8 a0_1] a0_2), .slice A1 l1.length c1, .int .i64 a2, .int .i64 0] rfl (by (try simp only [List.map_toArray, List.map_cons, List.map_nil]); first | done | rfl | (simp only [List.length_drop, List.length_take]; rfl)) ?_; (with_reducible refine (impl_postCode.calls k a0_0 a0_1 a0_2 _ _ l1 a2 0 t528 _ ?side1 ?side2 A4.out).mono ?_); (case side1 => repeat (first | exact (Kd.C_below HR1.out HB.out) | (with_reducible refine Kd.C_alloc ?_ _) | (with_reducible refine Kd.C_drewN ?_ _) | (with_reducible refine Kd.C_drew ?_))); (case side2 => exact HC1.out); rintro e w85 ⟨rfl, hb⟩; refine ⟨_, rfl, ?_⟩; have n0_ := bkb BK527 hb; have n1_ := bst HB hb; clear BK527; clear HB; have BK527 := n0_; have HB := n1_; clear n0_ n1_; (try clear hb); (try clear hb2); (try clear hk); (try clear hi)))
  go_ret2
  exact ⟨by first | rfl | (simp [errW_none, errW_some] <;> rfl) | (simp [*, errW_none, errW_some] <;> rfl), pbs HB⟩
end Go.Proofs.Ytmcjgpbhjpakhaa.PB
end
section
namespace Go.Proofs.Ytmcjgpbhjpakhaa.PB
open Go.RowKit Go.Proofs.YtmcjgpbhjpakhaaW.PrintWords Go.Proofs.YtmcjgpbhjpakhaaW.PrintLast Go.Proofs.YtmcjgpbhjpakhaaW.PrintMore Go.Proofs.Ytmcjgpbhjpakhaa.La Go.Proofs.Ytmcjgpbhjpakhaa.Mp
attribute [local go_sem] max2_int min2_int max_two min_two max_three min_three max_four min_four   -- for this text's walks alone
set_option linter.unusedVariables false
set_option linter.unusedSimpArgs false
def laws_FnExactPostsBound.j0 : Nat → List (S57) → List (S54) → Bool → Option (Bool)
 | 0, _, _, _ => none
 | k + 1, x1, x10, x44 => if x44 = true then (some false) else ((laws_toSpotS.f k x1).bind fun t574 => ((laws_eqSpotS.f k x10 t574).bind fun t577 => (if t577 = true then (some true) else (some false))))
def laws_FnExactPostsBound.f (k : Nat) (a0_0 : Int) (a0_1 : Int) (a0_2 : LA 10) (l1 : List (S57)) (a2 : Int) : Option (Bool) := (laws_szSpotS.f l1 1048576).bind fun t557 => (if t557 < 0 then (some true) else ((laws_toRoom.f k a0_0 a0_1 a0_2).bind fun bt558 => ((laws_toSpotS.f k l1).bind fun t561 => ((spec_PostsBound.f k bt558.1 bt558.2.1 bt558.2.2 t561 a2).bind fun bt564 => ((laws_toSpotS.f k l1).bind fun t566 => ((laws_toRoom.f k a0_0 a0_1 a0_2).bind fun bt569 => ((impl_PostsBound.f k bt569.1 bt569.2.1 bt569.2.2 t566 a2).bind fun bt572 => (if bt572.1 = bt564.1 then (laws_FnExactPostsBound.j0 k l1 t566 (bt572.2 != bt564.2)) else (laws_FnExactPostsBound.j0 k l1 t566 true)))))))))
theorem laws_FnExactPostsBound.mono_l : ∀ k, (∀ y0 y1 y2, LeO (laws_FnExactPostsBound.j0 k y0 y1 y2) (laws_FnExactPostsBound.j0 (k + 1) y0 y1 y2))
 | 0 => fun _ _ _ r h => by simp [laws_FnExactPostsBound.j0] at h
 | k + 1 => by
  have ih0 := laws_FnExactPostsBound.mono_l k
  ·intro y0 y1 y2
   unfold laws_FnExactPostsBound.j0
   repeat' first
   | (with_reducible exact ih0 _ _ _)
   | (with_reducible exact impl_PostsBound.mono _ _ _ _ _ _)
   | (with_reducible exact laws_eqSpotS.mono _ _ _)
   | (with_reducible exact laws_toRoom.mono _ _ _ _)
   | (with_reducible exact laws_toSpotS.mono _ _)
   | (with_reducible exact spec_PostsBound.mono _ _ _ _ _ _)
   | (with_reducible exact LeO.refl _)
   | (with_reducible exact LeO.none _)
   | (with_reducible refine LeO.ite ?_ ?_)
   | (with_reducible refine LeO.bind ?_ (fun _ => ?_))
   | exact ih0 _ _ _
   | exact impl_PostsBound.mono _ _ _ _ _ _
   | exact laws_eqSpotS.mono _ _ _
   | exact laws_toRoom.mono _ _ _ _
   | exact laws_toSpotS.mono _ _
   | exact spec_PostsBound.mono _ _ _ _ _ _
   | exact LeO.none _
   | refine LeO.ite ?_ ?_
   | refine LeO.bind ?_ (fun _ => ?_)
theorem laws_FnExactPostsBound.mono : ∀ a0 a1 a2 a3 a4 k, LeO (laws_FnExactPostsBound.f k a0 a1 a2 a3 a4) (laws_FnExactPostsBound.f (k + 1) a0 a1 a2 a3 a4) := by
 intro a0 a1 a2 a3 a4 k
 have ih0 := laws_FnExactPostsBound.mono_l k
 unfold laws_FnExactPostsBound.f
 repeat' first
   | (with_reducible exact ih0 _ _ _)
   | (with_reducible exact impl_PostsBound.mono _ _ _ _ _ _)
   | (with_reducible exact laws_eqSpotS.mono _ _ _)
   | (with_reducible exact laws_toRoom.mono _ _ _ _)
   | (with_reducible exact laws_toSpotS.mono _ _)
   | (with_reducible exact spec_PostsBound.mono _ _ _ _ _ _)
   | (with_reducible exact LeO.refl _)
   | (with_reducible exact LeO.none _)
   | (with_reducible refine LeO.ite ?_ ?_)
   | (with_reducible refine LeO.bind ?_ (fun _ => ?_))
   | exact ih0 _ _ _
   | exact impl_PostsBound.mono _ _ _ _ _ _
   | exact laws_eqSpotS.mono _ _ _
   | exact laws_toRoom.mono _ _ _ _
   | exact laws_toSpotS.mono _ _
   | exact spec_PostsBound.mono _ _ _ _ _ _
   | exact LeO.none _
   | refine LeO.ite ?_ ?_
   | refine LeO.bind ?_ (fun _ => ?_)
set_option maxHeartbeats 8000000 in
set_option maxRecDepth 100000 in
theorem laws_FnExactPostsBound.calls (k : Nat) (a0_0 : Int) (a0_1 : Int) (a0_2 : LA 10) (A1 : Option Addr) (c1 : Nat) (l1 : List (S57)) (a2 : Int) (r : Bool) (w : World) (hr1 : Kd.C k57 w A1 l1.length l1) (hc1 : l1.length ≤ c1) (h : laws_FnExactPostsBound.f k a0_0 a0_1 a0_2 l1 a2 = some r) :
  Calls Try.prog 3 #[.agg (mixA (Value.int .u16) [.int .i8 a0_0, .int .i8 a0_1] a0_2), .slice A1 l1.length c1, .int .i64 a2] w fun e w' => e = .returned (.bool r) ∧ Below w.heap.size w w' := by
 have hu26 := Try.underlying26
 have HR1 := Aside0.mk hr1
 have HC1 := Aside0.mk hc1
 clear hr1 hc1
 have HB := Aside0.mk (Below.refl w.heap.size w)
 have H : ((laws_szSpotS.f l1 1048576).bind fun t557 => (if t557 < 0 then (some true) else ((laws_toRoom.f k a0_0 a0_1 a0_2).bind fun bt558 => ((laws_toSpotS.f k l1).bind fun t561 => ((spec_PostsBound.f k bt558.1 bt558.2.1 bt558.2.2 t561 a2).bind fun bt564 => ((laws_toSpotS.f k l1).bind fun t566 => ((laws_toRoom.f k a0_0 a0_1 a0_2).bind fun bt569 => ((impl_PostsBound.f k bt569.1 bt569.2.1 bt569.2.2 t566 a2).bind fun bt572 => (if bt572.1 = bt564.1 then (laws_FnExactPostsBound.j0 k l1 t566 (bt572.2 != bt564.2)) else (laws_FnExactPostsBound.j0 k l1 t566 true)))))))))) = some r := h
 clear h
 replace H := Option.bind_eq_some_iff.mp H
 obtain ⟨t557, A40, H⟩ := H
 replace H : (if t557 < 0 then (some true) else ((laws_toRoom.f k a0_0 a0_1 a0_2).bind fun bt558 => ((laws_toSpotS.f k l1).bind fun t561 => ((spec_PostsBound.f k bt558.1 bt558.2.1 bt558.2.2 t561 a2).bind fun bt564 => ((laws_toSpotS.f k l1).bind fun t566 => ((laws_toRoom.f k a0_0 a0_1 a0_2).bind fun bt569 => ((impl_PostsBound.f k bt569.1 bt569.2.1 bt569.2.2 t566 a2).bind fun bt572 => (if bt572.1 = bt564.1 then (laws_FnExactPostsBound.j0 k l1 t566 (bt572.2 != bt564.2)) else (laws_FnExactPostsBound.j0 k l1 t566 true))))))))) = some r := H
 have A4 := Aside0.mk A40
 clear A40
 by_cases c5 : t557 < 0
 ·rw [if_pos c5] at H
  have c5b0 : decide (t557 < 0) = true := decide_eq_true c5
  clear c5
  obtain rfl := Option.some.inj H
  go_enter Try.func3, Try.ntmps3
  go_wp2_with (first | ((with_reducible refine gate_dst (N := 3) rfl ?_); refine box_event ?hg (N := 3) ?hd (cs := (mixA (Value.int .u16) [.int .i8 a0_0, .int .i8 a0_1] a0_2)) (t := 26) ?hr ?_; (case hd => rfl); (case hg => rfl); (case hr => first | (go_simp; done) | (go_simp; rfl)); intro gb556 hg w6 hbox hb; have n0_ := bst HB hb; have n1_ := Aside0.mk (hbox); have n2_ := gwl HB hg; have n3_ := gwl HB hg; clear HB; have HB := n0_; have BK556 := n1_; have GW556 := n2_; have GE556 := n3_; clear n0_ n1_ n2_ n3_; clear hb hbox hg) | ((with_reducible refine gate_callee (f := 9) rfl ?_); refine goesL_ (some 15) rfl rfl Try.func9 (by kernel_rfl) rfl #[.slice A1 l1.length c1, .int .i64 1048576] rfl (by (try simp only [List.map_toArray, List.map_cons, List.map_nil]); first | done | rfl | (simp only [List.length_drop, List.length_take]; rfl)) ?_; (with_reducible refine (laws_szSpotS.calls _ _ l1 1048576 t557 _ ?side1 ?side2 A4.out).mono ?_); (case side1 => repeat (first | exact (Kd.C_below HR1.out HB.out) | (with_reducible refine Kd.C_alloc ?_ _) | (with_reducible refine Kd.C_drewN ?_ _) | (with_reducible refine Kd.C_drew ?_))); (case side2 => exact HC1.out); rintro e w' ⟨rfl, ⟨nd, rfl⟩⟩; refine ⟨_, rfl, ?_⟩))
  go_ret
  exact ⟨by first | rfl | (simp [errW_none, errW_some] <;> rfl) | (simp [*, errW_none, errW_some] <;> rfl), pbs HB⟩
 ·rw [if_neg c5] at H
  have c5b0 : decide (t557 < 0) = false := decide_eq_false c5
  clear c5
  replace H := Option.bind_eq_some_iff.mp H
  obtain ⟨⟨t558, t559, t560⟩, A70, H⟩ := H
  replace H : ((laws_toSpotS.f k l1).bind fun t561 => ((spec_PostsBound.f k t558 t559 t560 t561 a2).bind fun bt564 => ((laws_toSpotS.f k l1).bind fun t566 => ((laws_toRoom.f k a0_0 a0_1 a0_2).bind fun bt569 => ((impl_PostsBound.f k bt569.1 bt569.2.1 bt569.2.2 t566 a2).bind fun bt572 => (if bt572.1 = bt564.1 then (laws_FnExactPostsBound.j0 k l1 t566 (bt572.2 != bt564.2)) else (laws_FnExactPostsBound.j0 k l1 t566 true))))))) = some r := H
  have A7 := Aside0.mk A70
  clear A70
  replace H := Option.bind_eq_some_iff.mp H
  obtain ⟨t561, A80, H⟩ := H
  replace H : ((spec_PostsBound.f k t558 t559 t560 t561 a2).bind fun bt564 => ((laws_toSpotS.f k l1).bind fun t566 => ((laws_toRoom.f k a0_0 a0_1 a0_2).bind fun bt569 => ((impl_PostsBound.f k bt569.1 bt569.2.1 bt569.2.2 t566 a2).bind fun bt572 => (if bt572.1 = bt564.1 then (laws_FnExactPostsBound.j0 k l1 t566 (bt572.2 != bt564.2)) else (laws_FnExactPostsBound.j0 k l1 t566 true)))))) = some r := H
  have A8 := Aside0.mk A80
  clear A80
  replace H := Option.bind_eq_some_iff.mp H
  obtain ⟨⟨t564, t565⟩, A90, H⟩ := H
  replace H : ((laws_toSpotS.f k l1).bind fun t566 => ((laws_toRoom.f k a0_0 a0_1 a0_2).bind fun bt569 => ((impl_PostsBound.f k bt569.1 bt569.2.1 bt569.2.2 t566 a2).bind fun bt572 => (if bt572.1 = t564 then (laws_FnExactPostsBound.j0 k l1 t566 (bt572.2 != t565)) else (laws_FnExactPostsBound.j0 k l1 t566 true))))) = some r := H
  have A9 := Aside0.mk A90
  clear A90
  replace H := Option.bind_eq_some_iff.mp H
  obtain ⟨t566, A100, H⟩ := H
  replace H : ((laws_toRoom.f k a0_0 a0_1 a0_2).bind fun bt569 => ((impl_PostsBound.f k bt569.1 bt569.2.1 bt569.2.2 t566 a2).bind fun bt572 => (if bt572.1 = t564 then (laws_FnExactPostsBound.j0 k l1 t566 (bt572.2 != t565)) else (laws_FnExactPostsBound.j0 k l1 t566 true)))) = some r := H
  have A10 := Aside0.mk A100
  clear A100
  replace H := Option.bind_eq_some_iff.mp H
  obtain ⟨⟨t569, t570, t571⟩, A110, H⟩ := H
  replace H : ((impl_PostsBound.f k t569 t570 t571 t566 a2).bind fun bt572 => (if bt572.1 = t564 then (laws_FnExactPostsBound.j0 k l1 t566 (bt572.2 != t565)) else (laws_FnExactPostsBound.j0 k l1 t566 true))) = some r := H
  have A11 := Aside0.mk A110
  clear A110
  replace H := Option.bind_eq_some_iff.mp H
  obtain ⟨⟨t572, t573⟩, A120, H⟩ := H
  replace H : (if t572 = t564 then (laws_FnExactPostsBound.j0 k l1 t566 (t573 != t565)) else (laws_FnExactPostsBound.j0 k l1 t566 true)) = some r := H
  have A12 := Aside0.mk A120
  clear A120
  have HC13 := Aside0.mk H
  clear H
  go_enter Try.func3, Try.ntmps3
  go_upto_region 8 with (first | ((with_reducible refine gate_dst (N := 3) rfl ?_); refine box_event ?hg (N := 3) ?hd (cs := (mixA (Value.int .u16) [.int .i8 a0_0, .int .i8 a0_1] a0_2)) (t := 26) ?hr ?_; (case hd => rfl); (case hg => rfl); (case hr => first | (go_simp; done) | (go_simp; rfl)); intro gb556 hg w14 hbox hb; have n0_ := bst HB hb; have n1_ := Aside0.mk (hbox); have n2_ := gwl HB hg; have n3_ := gwl HB hg; clear HB; have HB := n0_; have BK556 := n1_; have GW556 := n2_; have GE556 := n3_; clear n0_ n1_ n2_ n3_; clear hb hbox hg) | ((with_reducible refine gate_callee (f := 9) rfl ?_); refine goesL_ (some 15) rfl rfl Try.func9 (by kernel_rfl) rfl #[.slice A1 l1.length c1, .int .i64 1048576] rfl (by (try simp only [List.map_toArray, List.map_cons, List.map_nil]); first | done | rfl | (simp only [List.length_drop, List.length_take]; rfl)) ?_; (with_reducible refine (laws_szSpotS.calls _ _ l1 1048576 t557 _ ?side1 ?side2 A4.out).mono ?_); (case side1 => repeat (first | exact (Kd.C_below HR1.out HB.out) | (with_reducible refine Kd.C_alloc ?_ _) | (with_reducible refine Kd.C_drewN ?_ _) | (with_reducible refine Kd.C_drew ?_))); (case side2 => exact HC1.out); rintro e w' ⟨rfl, ⟨nd, rfl⟩⟩; refine ⟨_, rfl, ?_⟩) | ((with_reducible refine gate_dst (N := 19) rfl ?_); refine wpList_run0 (v := .agg (mixA (Value.int .u16) [.int .i8 a0_0, .int .i8 a0_1] a0_2)) rfl (load_mix_run (P := Try.prog) 26 (.tmp 3) rfl gb556 rfl (show World.rangeAt _ gb556 0 ([.int .i8 a0_0, .int .i8 a0_1] ++ a0_2.l.map (Value.int .u16)) from mix_range (show (World.heap _)[gb556]? = some (.cells (mixA (Value.int .u16) [.int .i8 a0_0, .int .i8 a0_1] a0_2) 26 (0, 0)) from by (with_reducible repeat (first | refine blk_drewN ?_ _ | refine blk_drew ?_ | refine blk_alloc ?_ _)); exact BK556.out)) Try.underlying26 rfl (by kernel_rfl) rfl) ?_) | ((with_reducible refine gate_callee (f := 11) rfl ?_); refine goesL_ (some 20) rfl rfl Try.func11 (by kernel_rfl) rfl #[.agg (mixA (Value.int .u16) [.int .i8 a0_0, .int .i8 a0_1] a0_2)] rfl (by (try simp only [List.map_toArray, List.map_cons, List.map_nil]); first | done | rfl | (simp only [List.length_drop, List.length_take]; rfl)) ?_; (with_reducible refine (laws_toRoom.calls k a0_0 a0_1 a0_2 t558 t559 t560 _ A7.out).mono ?_); rintro e w16 ⟨rfl, hb⟩; refine ⟨_, rfl, ?_⟩; have n0_ := bkb BK556 hb; have n1_ := bst HB hb; clear BK556; clear HB; have BK556 := n0_; have HB := n1_; clear n0_ n1_; (try clear hb); (try clear hb2); (try clear hk); (try clear hi)) | ((with_reducible refine gate_callee (f := 12) rfl ?_); refine goesL_ (some 22) rfl rfl Try.func12 (by kernel_rfl) rfl #[.slice A1 l1.length c1] rfl (by (try simp only [List.map_toArray, List.map_cons, List.map_nil]); first | done | rfl | (simp only [List.length_drop, List.length_take]; rfl)) ?_; (with_reducible refine (laws_toSpotS.calls k _ _ l1 t561 _ ?side1 ?side2 A8.out).mono ?_); (case side1 => repeat (first | exact (Kd.C_below HR1.out HB.out) | (with_reducible refine Kd.C_alloc ?_ _) | (with_reducible refine Kd.C_drewN ?_ _) | (with_reducible refine Kd.C_drew ?_))); (case side2 => exact HC1.out); rintro e w17 ⟨v562, rfl, ho0, hb⟩; refine ⟨_, rfl, ?_⟩; have n0_ := Aside0.mk (Kd.R_lower ho0 (below_size (by repeat (first | (with_reducible first | exact HB.out | apply below_alloc | apply pw_below_drewN | apply below_drew1 | refine below_set ?_ GE556.out) | exact HB.out)))); have n1_ := bkb BK556 hb; have n2_ := bst HB hb; clear BK556; clear HB; have HO563 := n0_; have BK556 := n1_; have HB := n2_; clear n0_ n1_ n2_; (try clear hb); (try clear hb2); (try clear hk); (try clear hi); (try clear ho0); obtain ⟨Ao18, co18, eo18⟩ := Kd.R_slice HO563.out; subst eo18) | ((with_reducible refine gate_callee (f := 10) rfl ?_); refine goesL_ (some 24) rfl rfl Try.func10 (by kernel_rfl) rfl #[.agg (mixA (Value.int .u16) [.int .i8 t558, .int .i8 t559] t560), .slice Ao18 t561.length co18, .int .i64 a2] rfl (by (try simp only [List.map_toArray, List.map_cons, List.map_nil]); first | done | rfl | (simp only [List.length_drop, List.length_take]; rfl)) ?_; (with_reducible refine (spec_PostsBound.calls k t558 t559 t560 _ _ t561 a2 t564 t565 _ ?side1 ?side2 A9.out).mono ?_); (case side1 => repeat (first | exact (Kd.R_reads' HO563.out).2.2 | (with_reducible refine Kd.C_alloc ?_ _) | (with_reducible refine Kd.C_drewN ?_ _) | (with_reducible refine Kd.C_drew ?_))); (case side2 => exact (Kd.R_reads' HO563.out).2.1); rintro e w19 ⟨rfl, hb⟩; refine ⟨_, rfl, ?_⟩; have n0_ := krb HO563 hb; have n1_ := bkb BK556 hb; have n2_ := bst HB hb; clear HO563; clear BK556; clear HB; have HO563 := n0_; have BK556 := n1_; have HB := n2_; clear n0_ n1_ n2_; (try clear hb); (try clear hb2); (try clear hk); (try clear hi)) | ((with_reducible refine gate_callee (f := 12) rfl ?_); refine goesL_ (some 28) rfl rfl Try.func12 (by kernel_rfl) rfl #[.slice A1 l1.length c1] rfl (by (try simp only [List.map_toArray, List.map_cons, List.map_nil]); first | done | rfl | (simp only [List.length_drop, List.length_take]; rfl)) ?_; (with_reducible refine (laws_toSpotS.calls k _ _ l1 t566 _ ?side1 ?side2 A10.out).mono ?_); (case side1 => repeat (first | exact (Kd.C_below HR1.out HB.out) | (with_reducible refine Kd.C_alloc ?_ _) | (with_reducible refine Kd.C_drewN ?_ _) | (with_reducible refine Kd.C_drew ?_))); (case side2 => exact HC1.out); rintro e w20 ⟨v567, rfl, ho0, hb⟩; refine ⟨_, rfl, ?_⟩; have n0_ := Aside0.mk (Kd.R_elder' (by (with_reducible repeat (first | apply Kd.R_alloc | apply Kd.R_drewN | apply Kd.R_drew)); exact HO563.out) (Kd.R_base ho0) hb); have n1_ := Aside0.mk (Kd.R_lower (Kd.R_new' ho0 (Kd.R_lt (by (with_reducible repeat (first | apply Kd.R_alloc | apply Kd.R_drewN | apply Kd.R_drew)); exact HO563.out))) (below_size (by repeat (first | (with_reducible first | exact HB.out | apply below_alloc | apply pw_below_drewN | apply below_drew1 | refine below_set ?_ GE556.out) | exact HB.out)))); have n2_ := bkb BK556 hb; have n3_ := bst HB hb; clear HO563; clear BK556; clear HB; have HO563 := n0_; have HO568 := n1_; have BK556 := n2_; have HB := n3_; clear n0_ n1_ n2_ n3_; (try clear hb); (try clear hb2); (try clear hk); (try clear hi); (try clear ho0)) | ((with_reducible refine gate_dst (N := 30) rfl ?_); refine wpList_run0 (v := .agg (mixA (Value.int .u16) [.int .i8 a0_0, .int .i8 a0_1] a0_2)) rfl (load_mix_run (P := Try.prog) 26 (.tmp 3) rfl gb556 rfl (show World.rangeAt _ gb556 0 ([.int .i8 a0_0, .int .i8 a0_1] ++ a0_2.l.map (Value.int .u16)) from mix_range (show (World.heap _)[gb556]? = some (.cells (mixA (Value.int .u16) [.int .i8 a0_0, .int .i8 a0_1] a0_2) 26 (0, 0)) from by (with_reducible repeat (first | refine blk_drewN ?_ _ | refine blk_drew ?_ | refine blk_alloc ?_ _)); exact BK556.out)) Try.underlying26 rfl (by kernel_rfl) rfl) ?_) | ((with_reducible refine gate_callee (f := 11) rfl ?_); refine goesL_ (some 31) rfl rfl Try.func11 (by kernel_rfl) rfl #[.agg (mixA (Value.int .u16) [.int .i8 a0_0, .int .i8 a0_1] a0_2)] rfl (by (try simp only [List.map_toArray, List.map_cons, List.map_nil]); first | done | rfl | (simp only [List.length_drop, List.length_take]; rfl)) ?_; (with_reducible refine (laws_toRoom.calls k a0_0 a0_1 a0_2 t569 t570 t571 _ A11.out).mono ?_); rintro e w22 ⟨rfl, hb⟩; refine ⟨_, rfl, ?_⟩; have n0_ := krb HO563 hb; have n1_ := krb HO568 hb; have n2_ := bkb BK556 hb; have n3_ := bst HB hb; clear HO563; clear HO568; clear BK556; clear HB; have HO563 := n0_; have HO568 := n1_; have BK556 := n2_; have HB := n3_; clear n0_ n1_ n2_ n3_; (try clear hb); (try clear hb2); (try clear hk); (try clear hi); obtain ⟨Ao23, co23, eo23⟩ := Kd.R_slice HO568.out; subst eo23) | ((with_reducible refine gate_callee (f := 13) rfl ?_); refine goesL_ (some 34) rfl rfl Try.func13 (by kernel_rfl) rfl #[.agg (mixA (Value.int .u16) [.int .i8 t569, .int .i8 t570] t571), .slice Ao23 t566.length co23, .int .i64 a2] rfl (by (try simp only [List.map_toArray, List.map_cons, List.map_nil]); first | done | rfl | (simp only [List.length_drop, List.length_take]; rfl)) ?_; (with_reducible refine (impl_PostsBound.calls k t569 t570 t571 _ _ t566 a2 t572 t573 _ ?side1 ?side2 A12.out).mono ?_); (case side1 => repeat (first | exact (Kd.R_reads' HO568.out).2.2 | (with_reducible refine Kd.C_alloc ?_ _) | (with_reducible refine Kd.C_drewN ?_ _) | (with_reducible refine Kd.C_drew ?_))); (case side2 => exact (Kd.R_reads' HO568.out).2.1); rintro e w24 ⟨rfl, hb⟩; refine ⟨_, rfl, ?_⟩; have n0_ := krb HO563 hb; have n1_ := krb HO568 hb; have n2_ := bkb BK556 hb; have n3_ := bst HB hb; clear HO563; clear HO568; clear BK556; clear HB; have HO563 := n0_; have HO568 := n1_; have BK556 := n2_; have HB := n3_; clear n0_ n1_ n2_ n3_; (try clear hb); (try clear hb2); (try clear hk); (try clear hi)))
  (try simp only [Act.put, List.setIfInBounds_toArray, List.set_cons_zero, List.set_cons_succ])
  go_cut [44] (fun v44 wc => ∃ (kq : Nat) (x44_12 : Bool), v44 = .bool x44_12 ∧ Aside0 (laws_FnExactPostsBound.j0 kq l1 t566 x44_12 = some r) ∧ Aside0 (kq ≤ k) ∧ Aside0 (Kd.R k54 54 wc w.heap.size (fun _ => True) (.slice Ao23 t566.length co23) t566) ∧ Aside0 (wc.heap[gb556]? = some (.cells (mixA (Value.int .u16) [.int .i8 a0_0, .int .i8 a0_1] a0_2) 26 (0, 0))) ∧ Aside0 (Below w.heap.size w wc))
  case first =>
   have H := HC13.out
   clear HC13
   by_cases c25 : t572 = t564
   ·rw [if_pos c25] at H
    have c25b0 : (t572 == t564) = true := beq_iff_eq.mpr c25
    have c25b1 : (t572 != t564) = false := bne_eq_false_iff_eq.mpr c25
    clear c25
    (first | rw [c25b0] | (simp only [i64_w, i32_w]; rw [c25b0]) | skip)
    have H' := Aside0.mk H
    clear H
    go_wp2
    go_meet
    case rel => exact ⟨_, ((t573 != t565)), (by first | rfl | (simp; done) | (simp [*]; done)), H', ⟨by first | omega | exact Nat.le_refl _⟩, ⟨by (with_reducible repeat (first | apply Kd.R_alloc | apply Kd.R_drewN | apply Kd.R_drew)); exact Kd.R_mono HO568.out (fun _ hk => trivial)⟩, ⟨pk BK556⟩, ⟨pbs HB⟩⟩
   ·rw [if_neg c25] at H
    have c25b0 : (t572 == t564) = false := beq_eq_false_iff_ne.mpr c25
    have c25b1 : (t572 != t564) = true := bne_iff_ne.mpr c25
    (first | rw [c25b0] | (simp only [i64_w, i32_w]; rw [c25b0]) | skip)
    have H' := Aside0.mk H
    clear H
    go_wp2
    go_meet
    case rel => exact ⟨_, (true), (by first | rfl | (simp; done) | (simp [*]; done)), H', ⟨by first | omega | exact Nat.le_refl _⟩, ⟨by (with_reducible repeat (first | apply Kd.R_alloc | apply Kd.R_drewN | apply Kd.R_drew)); exact Kd.R_mono HO568.out (fun _ hk => trivial)⟩, ⟨pk BK556⟩, ⟨pbs HB⟩⟩
  case rest =>
   clear HC13
   try clear c1
   try clear c2
   try clear p2
   try clear c3
   try clear c5
   try clear c5b0
   try clear c9
   try clear c10
   try clear c11
   try clear c12
   try clear c13
   try clear c25
   try clear c25b0
   try clear c25b1
   obtain ⟨kq, x44_12, rfl, HA, HJ12, HO_10, BK556, HB⟩ := hcut
   cases kq with
   | zero => exact absurd HA.out (by simp [laws_FnExactPostsBound.j0])
   | succ kj12 =>
    have H := HA.out
    clear HA
    simp only [laws_FnExactPostsBound.j0] at H
    by_cases c26 : x44_12 = true
    ·subst c26
     have H1 : (some false) = some r := by rw [if_pos rfl] at H; exact H
     clear H
     have H := H1
     clear H1
     obtain rfl := Option.some.inj H
     go_wp2
     go_ret
     exact ⟨by first | rfl | (simp [errW_none, errW_some] <;> rfl) | (simp [*, errW_none, errW_some] <;> rfl), pbs HB⟩
    ·replace c26 := Bool.eq_false_iff.mpr c26
     subst c26
     have H1 : ((laws_toSpotS.f kj12 l1).bind fun t574 => ((laws_eqSpotS.f kj12 t566 t574).bind fun t577 => (if t577 = true then (some true) else (some false)))) = some r := by rw [if_neg (show ¬ (false = true) by decide)] at H; exact H
     clear H
     have H := H1
     clear H1
     replace H := Option.bind_eq_some_iff.mp H
     obtain ⟨t574, A270, H⟩ := H
     replace H : ((laws_eqSpotS.f kj12 t566 t574).bind fun t577 => (if t577 = true then (some true) else (some false))) = some r := H
     have A27 := Aside0.mk A270
     clear A270
     replace H := Option.bind_eq_some_iff.mp H
     obtain ⟨t577, A280, H⟩ := H
     replace H : (if t577 = true then (some true) else (some false)) = some r := H
     have A28 := Aside0.mk A280
     clear A280
     by_cases c29 : t577 = true
     ·subst c29
      have H1 : (some true) = some r := by rw [if_pos rfl] at H; exact H
      clear H
      have H := H1
      clear H1
      obtain rfl := Option.some.inj H
      go_wp2_with (first | ((with_reducible refine gate_callee (f := 12) rfl ?_); refine goesL_ (some 47) rfl rfl Try.func12 (by kernel_rfl) rfl #[.slice A1 l1.length c1] rfl (by (try simp only [List.map_toArray, List.map_cons, List.map_nil]); first | done | rfl | (simp only [List.length_drop, List.length_take]; rfl)) ?_; (with_reducible refine (laws_toSpotS.calls kj12 _ _ l1 t574 _ ?side1 ?side2 A27.out).mono ?_); (case side1 => repeat (first | exact (Kd.C_below HR1.out HB.out) | (with_reducible refine Kd.C_alloc ?_ _) | (with_reducible refine Kd.C_drewN ?_ _) | (with_reducible refine Kd.C_drew ?_))); (case side2 => exact HC1.out); rintro e w30 ⟨v575, rfl, ho0, hb⟩; refine ⟨_, rfl, ?_⟩; have n0_ := Aside0.mk (Kd.R_elder' (by (with_reducible repeat (first | apply Kd.R_alloc | apply Kd.R_drewN | apply Kd.R_drew)); exact HO_10.out) (Kd.R_base ho0) hb); have n1_ := Aside0.mk (Kd.R_lower (Kd.R_new' ho0 (Kd.R_lt (by (with_reducible repeat (first | apply Kd.R_alloc | apply Kd.R_drewN | apply Kd.R_drew)); exact HO_10.out))) (below_size (by repeat (first | (with_reducible first | exact HB.out | apply below_alloc | apply pw_below_drewN | apply below_drew1 | refine below_set ?_ GE556.out) | exact HB.out)))); have n2_ := bkb BK556 hb; have n3_ := bst HB hb; clear HO_10; clear BK556; clear HB; have HO_10 := n0_; have HO576 := n1_; have BK556 := n2_; have HB := n3_; clear n0_ n1_ n2_ n3_; (try clear hb); (try clear hb2); (try clear hk); (try clear hi); (try clear ho0); obtain ⟨Ao31, co31, eo31⟩ := Kd.R_slice HO576.out; subst eo31) | ((with_reducible refine gate_callee (f := 14) rfl ?_); refine goesL_ (some 48) rfl rfl Try.func14 (by kernel_rfl) rfl #[.slice Ao23 t566.length co23, .slice Ao31 t574.length co31] rfl (by (try simp only [List.map_toArray, List.map_cons, List.map_nil]); first | done | rfl | (simp only [List.length_drop, List.length_take]; rfl)) ?_; (with_reducible refine (laws_eqSpotS.calls kj12 _ _ t566 _ _ t574 true _ ?side1 ?side2 ?side3 ?side4 A28.out).mono ?_); (case side1 => repeat (first | exact (Kd.R_reads' HO_10.out).2.2 | (with_reducible refine Kd.C_alloc ?_ _) | (with_reducible refine Kd.C_drewN ?_ _) | (with_reducible refine Kd.C_drew ?_))); (case side2 => exact (Kd.R_reads' HO_10.out).2.1); (case side3 => repeat (first | exact (Kd.R_reads' HO576.out).2.2 | (with_reducible refine Kd.C_alloc ?_ _) | (with_reducible refine Kd.C_drewN ?_ _) | (with_reducible refine Kd.C_drew ?_))); (case side4 => exact (Kd.R_reads' HO576.out).2.1); rintro e w32 ⟨rfl, hb⟩; refine ⟨_, rfl, ?_⟩; have n0_ := krb HO_10 hb; have n1_ := krb HO576 hb; have n2_ := bkb BK556 hb; have n3_ := bst HB hb; clear HO_10; clear HO576; clear BK556; clear HB; have HO_10 := n0_; have HO576 := n1_; have BK556 := n2_; have HB := n3_; clear n0_ n1_ n2_ n3_; (try clear hb); (try clear hb2); (try clear hk); (try clear hi)))
      go_ret
      exact ⟨by first | rfl | (simp [errW_none, errW_some] <;> rfl) | (simp [*, errW_none, errW_some] <;> rfl), pbs HB⟩
     ·replace c29 := Bool.eq_false_iff.mpr c29
      subst c29
      have H1 : (some false) = some r := by rw [if_neg (show ¬ (false = true) by decide)] at H; exact H
      clear H
      have H := H1
      clear H1
      obtain rfl := Option.some.inj H
      go_wp2_with (first | ((with_reducible refine gate_callee (f := 12) rfl ?_); refine goesL_ (some 47) rfl rfl Try.func12 (by kernel_rfl) rfl #[.slice A1 l1.length c1] rfl (by (try simp only [List.map_toArray, List.map_cons, List.map_nil]); first | done | rfl | (simp only [List.length_drop, List.length_take]; rfl)) ?_; (with_reducible refine (laws_toSpotS.calls kj12 _ _ l1 t574 _ ?side1 ?side2 A27.out).mono ?_); (case side1 => repeat (first | exact (Kd.C_below HR1.out HB.out) | (with_reducible refine Kd.C_alloc ?_ _) | (with_reducible refine Kd.C_drewN ?_ _) | (with_reducible refine Kd.C_drew ?_))); (case side2 => exact HC1.out); rintro e w33 ⟨v575, rfl, ho0, hb⟩; refine ⟨_, rfl, ?_⟩; have n0_ := Aside0.mk (Kd.R_elder' (by (with_reducible repeat (first | apply Kd.R_alloc | apply Kd.R_drewN | apply Kd.R_drew)); exact HO_10.out) (Kd.R_base ho0) hb); have n1_ := Aside0.mk (Kd.R_lower (Kd.R_new' ho0 (Kd.R_lt (by (with_reducible repeat (first | apply Kd.R_alloc | apply Kd.R_drewN | apply Kd.R_drew)); exact HO_10.out))) (below_size (by repeat (first | (with_reducible first | exact HB.out | apply below_alloc | apply pw_below_drewN | apply below_drew1 | refine below_set ?_ GE556.out) | exact HB.out)))); have n2_ := bkb BK556 hb; have n3_ := bst HB hb; clear HO_10; clear BK556; clear HB; have HO_10 := n0_; have HO576 := n1_; have BK556 := n2_; have HB := n3_; clear n0_ n1_ n2_ n3_; (try clear hb); (try clear hb2); (try clear hk); (try clear hi); (try clear ho0); obtain ⟨Ao34, co34, eo34⟩ := Kd.R_slice HO576.out; subst eo34) | ((with_reducible refine gate_callee (f := 14) rfl ?_); refine goesL_ (some 48) rfl rfl Try.func14 (by kernel_rfl) rfl #[.slice Ao23 t566.length co23, .slice Ao34 t574.length co34] rfl (by (try simp only [List.map_toArray, List.map_cons, List.map_nil]); first | done | rfl | (simp only [List.length_drop, List.length_take]; rfl)) ?_; (with_reducible refine (laws_eqSpotS.calls kj12 _ _ t566 _ _ t574 false _ ?side1 ?side2 ?side3 ?side4 A28.out).mono ?_); (case side1 => repeat (first | exact (Kd.R_reads' HO_10.out).2.2 | (with_reducible refine Kd.C_alloc ?_ _) | (with_reducible refine Kd.C_drewN ?_ _) | (with_reducible refine Kd.C_drew ?_))); (case side2 => exact (Kd.R_reads' HO_10.out).2.1); (case side3 => repeat (first | exact (Kd.R_reads' HO576.out).2.2 | (with_reducible refine Kd.C_alloc ?_ _) | (with_reducible refine Kd.C_drewN ?_ _) | (with_reducible refine Kd.C_drew ?_))); (case side4 => exact (Kd.R_reads' HO576.out).2.1); rintro e w35 ⟨rfl, hb⟩; refine ⟨_, rfl, ?_⟩; have n0_ := krb HO_10 hb; have n1_ := krb HO576 hb; have n2_ := bkb BK556 hb; have n3_ := bst HB hb; clear HO_10; clear HO576; clear BK556; clear HB; have HO_10 := n0_; have HO576 := n1_; have BK556 := n2_; have HB := n3_; clear n0_ n1_ n2_ n3_; (try clear hb); (try clear hb2); (try clear hk); (try clear hi)))
      go_ret
      exact ⟨by first | rfl | (simp [errW_none, errW_some] <;> rfl) | (simp [*, errW_none, errW_some] <;> rfl), pbs HB⟩
end Go.Proofs.Ytmcjgpbhjpakhaa.PB
end
section
namespace Go.Proofs.Ytmcjgpbhjpakhaa.PB
open Go.RowKit Go.Proofs.YtmcjgpbhjpakhaaW.PrintWords Go.Proofs.YtmcjgpbhjpakhaaW.PrintLast Go.Proofs.YtmcjgpbhjpakhaaW.PrintMore Go.Proofs.Ytmcjgpbhjpakhaa.La Go.Proofs.Ytmcjgpbhjpakhaa.Mp
attribute [local go_sem] max2_int min2_int max_two min_two max_three min_three max_four min_four   -- for this text's walks alone
set_option linter.unusedVariables false
set_option linter.unusedSimpArgs false
def impl_posts_chosen.l0 : Nat → List Bool → Bool → List (S54) → List (S54) → Int → Int → Option ((List (S54)))
 | 0, _, _, _, _, _, _ => none
 | k + 1, x1, x2, x7, x12, x13, x14 => if x14 < x13 then (if 0 ≤ x14 then (if x14 < (x12.length : Int) then (if x14 < (x1.length : Int) then (if ((rdOf false x1 x14) == x2) = true then (if x7.length < 70368744177664 then (impl_posts_chosen.l0 k x1 x2 (x7 ++ [(⟨(rd_T54 x12 x14).f0, (rd_T54 x12 x14).f1⟩ : S54)]) x12 x13 (wrap64 (x14 + 1))) else (none)) else (impl_posts_chosen.l0 k x1 x2 x7 x12 x13 (wrap64 (x14 + 1)))) else (none)) else (none)) else (none)) else (some x7)
def impl_posts_chosen.f (k : Nat) (l0_0 : List (S54)) (l0_1 : List (List Int)) (l1 : List Bool) (a2 : Bool) : Option ((List (S54))) := impl_posts_chosen.l0 k l1 a2 (([] : List (S54))) l0_0 (l0_0.length : Int) 0
theorem impl_posts_chosen.mono_l : ∀ k, (∀ y0 y1 y2 y3 y4 y5, LeO (impl_posts_chosen.l0 k y0 y1 y2 y3 y4 y5) (impl_posts_chosen.l0 (k + 1) y0 y1 y2 y3 y4 y5))
 | 0 => fun _ _ _ _ _ _ r h => by simp [impl_posts_chosen.l0] at h
 | k + 1 => by
  have ih0 := impl_posts_chosen.mono_l k
  ·intro y0 y1 y2 y3 y4 y5
   unfold impl_posts_chosen.l0
   repeat' first
   | (with_reducible exact ih0 _ _ _ _ _ _)
   | (with_reducible exact LeO.refl _)
   | (with_reducible exact LeO.none _)
   | (with_reducible refine LeO.ite ?_ ?_)
   | (with_reducible refine LeO.bind ?_ (fun _ => ?_))
   | exact ih0 _ _ _ _ _ _
   | exact LeO.none _
   | refine LeO.ite ?_ ?_
   | refine LeO.bind ?_ (fun _ => ?_)
theorem impl_posts_chosen.mono : ∀ a0 a1 a2 a3 k, LeO (impl_posts_chosen.f k a0 a1 a2 a3) (impl_posts_chosen.f (k + 1) a0 a1 a2 a3) := by
 intro a0 a1 a2 a3 k
 have ih0 := impl_posts_chosen.mono_l k
 unfold impl_posts_chosen.f
 repeat' first
   | (with_reducible exact ih0 _ _ _ _ _ _)
   | (with_reducible exact LeO.refl _)
   | (with_reducible exact LeO.none _)
   | (with_reducible refine LeO.ite ?_ ?_)
   | (with_reducible refine LeO.bind ?_ (fun _ => ?_))
   | exact ih0 _ _ _ _ _ _
   | exact LeO.none _
   | refine LeO.ite ?_ ?_
   | refine LeO.bind ?_ (fun _ => ?_)
def impl_reachedFrom.f (k : Nat) (a0_0 : Int) (a0_1 : Int) (a0_2 : LA 10) (l1 : List (S54)) (a2 : Int) (a3 : Bool) : Option ((List (S54)) × Int) := (impl_postCode.f k a0_0 a0_1 a0_2 l1 a2 0).bind fun t370 => (if t370 = 0 then ((impl_Room_postsOf.f k a0_0 a0_1 a0_2 a2).bind fun bt371 => ((impl_posts_far.f k bt371.1 bt371.2 l1).bind fun t378 => ((impl_posts_chosen.f k bt371.1 bt371.2 t378 a3).bind fun t381 => (some (t381, 0))))) else (some (([] : List (S54)), t370)))
theorem impl_reachedFrom.mono : ∀ a0 a1 a2 a3 a4 a5 k, LeO (impl_reachedFrom.f k a0 a1 a2 a3 a4 a5) (impl_reachedFrom.f (k + 1) a0 a1 a2 a3 a4 a5) := by
 intro a0 a1 a2 a3 a4 a5 k
 unfold impl_reachedFrom.f
 repeat' first
   | (with_reducible exact impl_Room_postsOf.mono _ _ _ _ _)
   | (with_reducible exact impl_postCode.mono _ _ _ _ _ _ _)
   | (with_reducible exact impl_posts_chosen.mono _ _ _ _ _)
   | (with_reducible exact impl_posts_far.mono _ _ _ _)
   | (with_reducible exact LeO.refl _)
   | (with_reducible exact LeO.none _)
   | (with_reducible refine LeO.ite ?_ ?_)
   | (with_reducible refine LeO.bind ?_ (fun _ => ?_))
   | exact impl_Room_postsOf.mono _ _ _ _ _
   | exact impl_postCode.mono _ _ _ _ _ _ _
   | exact impl_posts_chosen.mono _ _ _ _ _
   | exact impl_posts_far.mono _ _ _ _
   | exact LeO.none _
   | refine LeO.ite ?_ ?_
   | refine LeO.bind ?_ (fun _ => ?_)
def laws_markSpotS.l0 : Nat → List (S54) → Int → Int → Option (Int × (List (S54)))
 | 0, _, _, _ => none
 | k + 1, x0, x1, x5 => if x5 < (x0.length : Int) then (if 0 ≤ x5 then ((some (x0.set (x5 : Int).toNat (⟨IntKind.i8.wrap (x1), (rd_T54 x0 x5).f1⟩ : S54) : List (S54))).bind fun y389 => (laws_markSpotS.l0 k (y389.set (x5 : Int).toNat (⟨(rd_T54 y389 x5).f0, IntKind.i8.wrap (wrap64 (x1 + 1))⟩ : S54)) (wrap64 ((wrap64 (x1 + 1)) + 1)) (wrap64 (x5 + 1)))) else (none)) else (some (x1, x0))
def laws_markSpotS.f (k : Nat) (l0 : List (S54)) (a1 : Int) : Option (Int × (List (S54))) := laws_markSpotS.l0 k l0 a1 0
theorem laws_markSpotS.mono_l : ∀ k, (∀ y0 y1 y2, LeO (laws_markSpotS.l0 k y0 y1 y2) (laws_markSpotS.l0 (k + 1) y0 y1 y2))
 | 0 => fun _ _ _ r h => by simp [laws_markSpotS.l0] at h
 | k + 1 => by
  have ih0 := laws_markSpotS.mono_l k
  ·intro y0 y1 y2
   unfold laws_markSpotS.l0
   repeat' first
   | (with_reducible exact ih0 _ _ _)
   | (with_reducible exact LeO.refl _)
   | (with_reducible exact LeO.none _)
   | (with_reducible refine LeO.ite ?_ ?_)
   | (with_reducible refine LeO.bind ?_ (fun _ => ?_))
   | exact ih0 _ _ _
   | exact LeO.none _
   | refine LeO.ite ?_ ?_
   | refine LeO.bind ?_ (fun _ => ?_)
theorem laws_markSpotS.mono : ∀ a0 a1 k, LeO (laws_markSpotS.f k a0 a1) (laws_markSpotS.f (k + 1) a0 a1) := by
 intro a0 a1 k
 have ih0 := laws_markSpotS.mono_l k
 unfold laws_markSpotS.f
 repeat' first
   | (with_reducible exact ih0 _ _ _)
   | (with_reducible exact LeO.refl _)
   | (with_reducible exact LeO.none _)
   | (with_reducible refine LeO.ite ?_ ?_)
   | (with_reducible refine LeO.bind ?_ (fun _ => ?_))
   | exact ih0 _ _ _
   | exact LeO.none _
   | refine LeO.ite ?_ ?_
   | refine LeO.bind ?_ (fun _ => ?_)
def laws_heldSpotS.l0 : Nat → List (S54) → Int → Int → Option (Int)
 | 0, _, _, _ => none
 | k + 1, x0, x1, x5 => if x5 < (x0.length : Int) then (if 0 ≤ x5 then (if ((rd_T54 x0 x5).f0) = (IntKind.i8.wrap (x1)) then (if ((rd_T54 x0 x5).f1) = (IntKind.i8.wrap (wrap64 (x1 + 1))) then (laws_heldSpotS.l0 k x0 (wrap64 ((wrap64 (x1 + 1)) + 1)) (wrap64 (x5 + 1))) else (some (-1))) else (some (-1))) else (none)) else (some x1)
def laws_heldSpotS.f (k : Nat) (l0 : List (S54)) (a1 : Int) : Option (Int) := laws_heldSpotS.l0 k l0 a1 0
theorem laws_heldSpotS.mono_l : ∀ k, (∀ y0 y1 y2, LeO (laws_heldSpotS.l0 k y0 y1 y2) (laws_heldSpotS.l0 (k + 1) y0 y1 y2))
 | 0 => fun _ _ _ r h => by simp [laws_heldSpotS.l0] at h
 | k + 1 => by
  have ih0 := laws_heldSpotS.mono_l k
  ·intro y0 y1 y2
   unfold laws_heldSpotS.l0
   repeat' first
   | (with_reducible exact ih0 _ _ _)
   | (with_reducible exact LeO.refl _)
   | (with_reducible exact LeO.none _)
   | (with_reducible refine LeO.ite ?_ ?_)
   | (with_reducible refine LeO.bind ?_ (fun _ => ?_))
   | exact ih0 _ _ _
   | exact LeO.none _
   | refine LeO.ite ?_ ?_
   | refine LeO.bind ?_ (fun _ => ?_)
theorem laws_heldSpotS.mono : ∀ a0 a1 k, LeO (laws_heldSpotS.f k a0 a1) (laws_heldSpotS.f (k + 1) a0 a1) := by
 intro a0 a1 k
 have ih0 := laws_heldSpotS.mono_l k
 unfold laws_heldSpotS.f
 repeat' first
   | (with_reducible exact ih0 _ _ _)
   | (with_reducible exact LeO.refl _)
   | (with_reducible exact LeO.none _)
   | (with_reducible refine LeO.ite ?_ ?_)
   | (with_reducible refine LeO.bind ?_ (fun _ => ?_))
   | exact ih0 _ _ _
   | exact LeO.none _
   | refine LeO.ite ?_ ?_
   | refine LeO.bind ?_ (fun _ => ?_)
end Go.Proofs.Ytmcjgpbhjpakhaa.PB
end
