/- The statement FnDoor of this program: what its proof uses, part 9 of 11. The call returns true for all arguments. No condition of its own. -/
import Derived.WalkSpells
import Derived.Laws.EntriesVeiled
import Derived.Test.YtjieacofpegmpaaZFnDoor7
section
namespace Go.Proofs.Ytjieacofpegmpaa.PD
open Go.RowKit Go.Proofs.YtjieacofpegmpaaW.PrintWords Go.Proofs.YtjieacofpegmpaaW.PrintLast Go.Proofs.YtjieacofpegmpaaW.PrintMore Go.Proofs.Ytjieacofpegmpaa.La
attribute [local go_sem] max2_int min2_int max_two min_two max_three min_three max_four min_four   -- for this text's walks alone
set_option linter.unusedVariables false
set_option linter.unusedSimpArgs false
theorem contains_k (l : List Int) (x : Int) (hl : l.length ≤ 1000000) : ∃ k, slices_Contains_int64_int64.f k l x = some (decide (x ∈ l)) := by
  have key : ∀ (m i : Nat), i + m = l.length → (∀ j, j < i → l.getD j 0 ≠ x) → ∃ k r, slices_Index_int64_int64.l0 k l x (l.length : Int) (i : Int) = some r ∧ decide (r ≥ 0) = decide (x ∈ l) := by
    intro m
    induction m with
    | zero =>
      intro i hi hn
      refine ⟨1, -1, ?_, ?_⟩
      · simp only [slices_Index_int64_int64.l0]
        rw [if_neg (by omega)]
      · have : x ∉ l := by
          intro hx
          obtain ⟨j, hj, rfl⟩ := List.mem_iff_getElem.1 hx
          exact hn j (by omega) (by simp [List.getD_eq_getElem?_getD, List.getElem?_eq_getElem hj])
        simp [this]
    | succ m ih =>
      intro i hi hn
      by_cases hx : l.getD i 0 = x
      · refine ⟨1, i, ?_, ?_⟩
        · simp only [slices_Index_int64_int64.l0]
          rw [if_pos (by omega), if_pos (by omega), if_pos (by omega), if_pos (by simp [rd, ← hx])]
        · have hil : i < l.length := by omega
          have : x ∈ l := by
            rw [← hx]
            simp [List.getD_eq_getElem?_getD, List.getElem?_eq_getElem hil]
          simp [this]
      · obtain ⟨k, r, hk, hr⟩ := ih (i + 1) (by omega) (fun j hj => by
          rcases Nat.lt_succ_iff_lt_or_eq.1 hj with h | h
          · exact hn j h
          · subst h; exact hx)
        refine ⟨k + 1, r, ?_, hr⟩
        simp only [slices_Index_int64_int64.l0]
        have hw : wrap64 ((i : Int) + 1) = ((i + 1 : Nat) : Int) := by unfold wrap64; omega
        rw [if_pos (by omega), if_pos (by omega), if_pos (by omega), if_neg (by simp only [rd, Int.toNat_natCast]; exact fun h => hx h.symm), hw]
        exact hk
  obtain ⟨k, r, hk, hr⟩ := key l.length 0 (by omega) (fun j hj => absurd hj (by omega))
  refine ⟨k, ?_⟩
  unfold slices_Contains_int64_int64.f slices_Index_int64_int64.f
  have hk' : slices_Index_int64_int64.l0 k l x (l.length : Int) 0 = some r := hk
  rw [hk', Option.bind_some, hr]
theorem contains_any (A : Option Addr) (c : Nat) (l : List Int) (x : Int) (W : World) (hl : l.length ≤ 1000000) (hc : l.length ≤ c) (hr : Kd.C (Kd.int .i64) W A l.length l) :
    Calls Try.prog 87 #[.slice A l.length c, .int .i64 x] W fun e w' => e = .returned (.bool (decide (x ∈ l))) ∧ Drawn0 W w' := by
  obtain ⟨k, hk⟩ := contains_k l x hl
  exact slices_Contains_int64_int64.calls k A c l x _ W hr hc hk
def ordersM {σ : Type} (n : Nat) (step : σ → List Int → Option σ) : Nat → List Int → σ → Option σ
  | 0, _, _ => none
  | fuel + 1, l, s => if l.length = n then step s l else (List.range n).foldlM (fun s (i : Nat) => if (i : Int) ∈ l then some s else ordersM n step fuel (l ++ [(i : Int)]) s) s
theorem isfn_orders : ∀ (args : Array Value) (W : World), Sem.run Try.prog (callFunc 86 args) W = .ok (.enter 86 args) W := fun _ _ => by kernel_rfl
section
variable {σ : Type} (Inv : σ → World → Prop) (step : σ → List Int → Option σ) (F : Nat) (caps : Array Value) (S : Nat → Prop) (B : Nat)
structure EachOk : Prop where
  fn : IsFn F
  stable : ∀ s W W', Inv s W → Below W.heap.size W W' → Inv s W'
  each : ∀ s s' W v l, Inv s W → Kd.R (Kd.int .i64) 2 W B (fun k => ¬ S k) v l → step s l = some s' →
    Calls Try.prog F (#[v] ++ caps) W fun e w' => e = .returned (.tuple #[]) ∧ Inv s' w' ∧ Kept W w' S ∧ Below B W w'
set_option maxHeartbeats 16000000 in
set_option maxRecDepth 100000 in
theorem choose_any (hE : EachOk Inv step F caps S B) (hS : ∀ k, S k → B ≤ k) (n : Nat) (hn : n ≤ 1000) (bn be bc : Nat) (hsn : ¬ S bn) (hse : ¬ S be) (hsc : ¬ S bc) :
    ∀ (fuel : Nat) (W : World) (v : Value) (l : List Int) (s s1 : σ), Inv s W → W.heap[bn]? = some (.cells #[.int .i64 n] 3 (0, 0)) → W.heap[be]? = some (.cells #[.func (.func F) #[] caps] 75 (0, 0)) →
      W.heap[bc]? = some (.cells #[.func (.func 86) #[] #[.pointer (some ⟨bn, 0, none⟩), .pointer (some ⟨be, 0, none⟩), .pointer (some ⟨bc, 0, none⟩)]] 75 (0, 0)) →
      B ≤ W.heap.size → (∀ k, S k → k < W.heap.size) → l.length ≤ n → Kd.R (Kd.int .i64) 2 W B (fun k => ¬ S k) v l → ordersM n step fuel l s = some s1 →
      Calls Try.prog 86 #[v, .pointer (some ⟨bn, 0, none⟩), .pointer (some ⟨be, 0, none⟩), .pointer (some ⟨bc, 0, none⟩)] W fun e w' => e = .returned (.tuple #[]) ∧ Inv s1 w' ∧ Kept W w' S ∧ Below B W w' := by
  intro fuel
  induction fuel with
  | zero => intro W v l s s1 _ _ _ _ _ _ _ _ h; simp [ordersM] at h
  | succ fuel ih =>
    intro W v l s s1 hi hbn hbe hbc hbw hB hl hr h
    have HBW := Aside0.mk hbw
    clear hbw
    obtain ⟨A, c, rfl, hlc, hc⟩ := Kd.R_reads hr
    have IH := Aside0.mk ih
    have HE := Aside0.mk hE
    have HS := Aside0.mk hS
    have HI := Aside0.mk hi
    have HN := Aside0.mk hbn
    have HBE := Aside0.mk hbe
    have HBC := Aside0.mk hbc
    have HR := Aside0.mk hr
    have HC := Aside0.mk hc
    have HB := Aside0.mk hB
    have HF := Aside0.mk isfn_orders
    have hcn := blk_cell hbn 0
    have hce := blk_cell hbe 0
    have hcc := blk_cell hbc 0
    have hcf := hE.fn
    unfold IsFn at hcf
    clear ih hE hS hi hbn hbe hbc hr hc hB
    by_cases hln : l.length = n
    · simp only [ordersM, if_pos hln] at h
      have H := Aside0.mk h
      have heq : ((l.length : Int) == (n : Int)) = true := by simp [hln]
      clear h hln
      go_enter Try.func86, Try.ntmps86
      go_wp2_with fail
      with_reducible refine (HE.out.each s s1 _ _ l HI.out HR.out H.out).mono ?_
      rintro e w' ⟨rfl, hpost⟩
      have HP := Aside0.mk hpost
      clear hpost
      go_wp2
      exact bodyPost_ret (results_none rfl _ _ _) rfl ⟨rfl, HP.out⟩
    · simp only [ordersM, if_neg hln] at h
      have H := Aside0.mk h
      have heq : ((l.length : Int) == (n : Int)) = false := by simp; omega
      have hlt : l.length < n := by omega
      clear h hln
      go_enter Try.func86, Try.ntmps86
      go_wp2_with fail
      go_loopw [14] (fun i wr => ∃ (k : Nat) (sk : σ), k ≤ n ∧ i = .int .i64 k ∧ Aside0 (Inv sk wr) ∧ Aside0 (Kept W wr S) ∧ Aside0 (Below B W wr) ∧ Aside0 ((List.range' k (n - k)).foldlM (fun s (i : Nat) => if (i : Int) ∈ l then some s else ordersM n step fuel (l ++ [(i : Int)]) s) sk = some s1)) (fun i _ => n - (intOf i).toNat)
      case atStart => exact ⟨0, s, by omega, rfl, HI, ⟨Kept.refl _ _⟩, ⟨Below.refl _ _⟩, ⟨by rw [← List.range_eq_range']; exact H.out⟩⟩
      case round =>
        obtain ⟨k, sk, hk, rfl, HI2, HK, HB2, HM⟩ := hrel
        have hbn2 := blk_kept HN.out HK.out hsn
        have hbe2 := blk_kept HBE.out HK.out hse
        have hbc2 := blk_kept HBC.out HK.out hsc
        have HN2 := Aside0.mk hbn2
        have HBE2 := Aside0.mk hbe2
        have HBC2 := Aside0.mk hbc2
        have hcn2 := blk_cell hbn2 0
        have hce2 := blk_cell hbe2 0
        have hcc2 := blk_cell hbc2 0
        have HR2 := Aside0.mk (Kd.R_kept HR.out HK.out (fun k h => h))
        have HC2 := Aside0.mk ((Kd.R_reads' HR2.out).2.2)
        clear hbn2 hbe2 hbc2 hcn hce hcc
        by_cases hlt2 : k < n
        · have hM := HM.out
          rw [show n - k = (n - (k + 1)) + 1 by omega, List.range'_succ] at hM
          obtain ⟨s2, hs2, hM2⟩ := foldlM_cons_some hM
          have HM2 := Aside0.mk hM2
          have HS2 := Aside0.mk hs2
          clear hM hs2 hM2
          cases hin : decide ((k : Int) ∈ l) with
          | true =>
            have HIN := Aside0.mk hin
            clear hin
            go_wp2_with fail
            with_reducible refine (contains_any A c l (k : Int) _ (by omega) hlc HC2.out).mono ?_
            rw [HIN.out]
            rintro e w' ⟨rfl, ⟨nd, rfl⟩⟩
            go_wp2
            go_roundw
            case rel =>
              have e2 : sk = s2 := by
                have := HS2.out
                rw [if_pos (of_decide_eq_true HIN.out)] at this
                exact Option.some.inj this
              subst e2
              exact ⟨k + 1, sk, by omega, by go_num, ⟨HE.out.stable _ _ _ HI2.out (pw_below_drewN (Below.refl _ _) _)⟩, ⟨HK.out.drewN _⟩, ⟨pw_below_drewN HB2.out _⟩, HM2⟩
            case measure => simp [intOf]; omega
          | false =>
            have hS3 := HS2.out
            rw [if_neg (of_decide_eq_false hin)] at hS3
            have HS3 := Aside0.mk hS3
            clear hS3
            have HIN := Aside0.mk hin
            clear hin
            go_wp2_with fail
            with_reducible refine (contains_any A c l (k : Int) _ (by omega) hlc HC2.out).mono ?_
            rw [HIN.out]
            rintro e w' ⟨rfl, hd⟩
            have HD := Aside0.mk hd.below
            clear hd
            have hbc3 := (blk_kept HBC2.out (Kept.of_below HD.out S) hsc)
            have HN3 := Aside0.mk (blk_kept HN2.out (Kept.of_below HD.out S) hsn)
            have HBE3 := Aside0.mk (blk_kept HBE2.out (Kept.of_below HD.out S) hse)
            have HBC3 := Aside0.mk hbc3
            have hcc3 : w'.cell? ⟨bc, 0, none⟩ = some (.func (.func 86) #[] #[.pointer (some ⟨bn, 0, none⟩), .pointer (some ⟨be, 0, none⟩), .pointer (some ⟨bc, 0, none⟩)]) := blk_cell hbc3 0
            have hltc : bc < w'.heap.size := blk_lt hbc3
            have HC3 := Aside0.mk (Kd.C_below HC2.out HD.out)
            have HC4 := Aside0.mk (show Kd.C (Kd.int .i64) w'.drew A l.length l from HC3.out)
            have HI3 := Aside0.mk (HE.out.stable _ _ _ HI2.out HD.out)
            have HK3 := Aside0.mk (HK.out.below HD.out)
            have HSZ := Aside0.mk (Nat.le_trans HK.out.1 HD.out.size)
            clear hbc3 hcn2 hce2 hcc2
            go_wp2_with fail
            have hfar : ∀ w2 : World, Below w'.heap.size w' w2 → w2.cell? ⟨bc, 0, none⟩ = some (.func (.func 86) #[] #[.pointer (some ⟨bn, 0, none⟩), .pointer (some ⟨be, 0, none⟩), .pointer (some ⟨bc, 0, none⟩)]) := fun w2 hb => (hb.cell (p := ⟨bc, 0, none⟩) hltc).trans hcc3
            have HFAR := Aside0.mk hfar
            clear hfar
            have HC5 := Aside0.mk (show Kd.C (Kd.int .i64) (w'.alloc (.cells #[.int .i64 (k : Int)] 2)).drew A l.length l from Kd.C_alloc HC3.out _)
            go_region_held3 (fun w2 => w2.cell? ⟨bc, 0, none⟩ = some (.func (.func 86) #[] #[.pointer (some ⟨bn, 0, none⟩), .pointer (some ⟨be, 0, none⟩), .pointer (some ⟨bc, 0, none⟩)]))
              (first | assumption | exact hcc3 | exact HFAR.out _ HB1.out | exact HFAR.out _ (below_alloc HB1.out _) | exact HFAR.out _ (below_drew (below_alloc (Below.refl _ w') _)) | exact HFAR.out _ HBF.out | exact HFAR.out _ HB4.out)
              (first
                | (go_at_call 49; (with_reducible refine (clone64 A c l w'.drew (by omega) HC4.out).mono ?_); rintro e w1 ⟨v1, rfl, ho1, hb1⟩; have HO1 := Aside0.mk (show Kd.R (Kd.int .i64) 2 w1 w'.heap.size (fun _ => True) v1 l from ho1); have HB1 : Aside0 (Below w'.heap.size w' w1) := ⟨below_then (w := w') (w1 := w'.drew) (below_drew (Below.refl _ w')) (Nat.le_refl _) hb1⟩; clear ho1 hb1)
                | (go_at_call 49; (with_reducible refine (clone64 A c l (w'.alloc (.cells #[.int .i64 (k : Int)] 2)).drew (by omega) HC5.out).mono ?_); rintro e w1 ⟨v1, rfl, ho1, hb1⟩; have HBF : Aside0 (Below w'.heap.size w' w1) := ⟨below_then (w := w') (w1 := (w'.alloc (.cells #[.int .i64 (k : Int)] 2)).drew) (below_drew (below_alloc (Below.refl _ w') _)) (by simp) hb1⟩; have HOF : Aside0 (Kd.R (Kd.int .i64) 2 w1 w'.heap.size (fun _ => True) v1 l) := ⟨Kd.R_lower ho1 (by simp)⟩; have HRF : Aside0 (Kd.C (Kd.int .i64) w1 (some ⟨w'.heap.size, 0, none⟩) 1 [(k : Int)]) := ⟨one_read ((hb1.block w'.heap.size (by simp)).trans (heap_alloc_new w' _))⟩; clear ho1 hb1)
                | (refine Kd.R_append_step (Kd.int .i64) (w0 := w') w'.heap.size (by rfl) _ _ 24 2 (.int .i64 0) 8 (by rfl) Try.underlying24 info2 rfl (by decide) (by omega) v1 l (k : Int) [.int .i64 (k : Int)] (fun _ => True) (fun _ => False) (by rfl) (by rfl) (by exact rfl) (fun _ h => h.elim) (fun _ _ => trivial) HO1.out HB1.out HB1.out.size (by omega) ?_; intro v4 w4 ho4 hb4 hg4 hat4; have HO4 : Aside0 (Kd.R (Kd.int .i64) 2 w4 w'.heap.size (fun _ => True) v4 (l ++ [(k : Int)])) := ⟨ho4⟩; have HB4 : Aside0 (Below w'.heap.size w' w4) := ⟨hb4⟩; clear ho4 hb4 hg4 hat4; have HI4 := Aside0.mk (HE.out.stable _ _ _ HI3.out HB4.out); have HN4 := Aside0.mk (blk_kept HN3.out (Kept.of_below HB4.out S) hsn); have HBE4 := Aside0.mk (blk_kept HBE3.out (Kept.of_below HB4.out S) hse); have HBC4 := Aside0.mk (blk_kept HBC3.out (Kept.of_below HB4.out S) hsc); have HS4 := Aside0.mk (fun q (hq : S q) => Nat.lt_of_lt_of_le (HB.out q hq) (Nat.le_trans HSZ.out HB4.out.size)); have HL4 := Aside0.mk (show (l ++ [(k : Int)]).length ≤ n by simp; omega); have HBW4 := Aside0.mk (Nat.le_trans (Nat.le_trans HBW.out HSZ.out) HB4.out.size); have HO5 := Aside0.mk (Kd.R_lower (base' := B) (Kd.R_mono (ok' := fun q => ¬ S q) (Kd.R_bound HO4.out) (fun q hq hs => by have h1 := HB.out q hs; have h2 := HSZ.out; have h3 := hq.2.1; omega)) (Nat.le_trans HBW.out HSZ.out)))
                | (refine Kd.R_append_rows_step (Kd.int .i64) (w0 := w') w'.heap.size (by rfl) _ _ 24 2 (.int .i64 0) 8 (by rfl) Try.underlying24 info2 rfl (by decide) (by omega) v1 l [(k : Int)] _ _ _ (fun _ => True) (fun _ => False) (by rfl) (by rfl) HOF.out HRF.out (fun _ _ h => h) (fun _ h => h.elim) (fun _ _ => trivial) HBF.out HBF.out.size (by omega) ?_; intro v4 w4 ho4 hb4 hg4 hat4; have HO4 : Aside0 (Kd.R (Kd.int .i64) 2 w4 w'.heap.size (fun _ => True) v4 (l ++ [(k : Int)])) := ⟨ho4⟩; have HB4 : Aside0 (Below w'.heap.size w' w4) := ⟨hb4⟩; clear ho4 hb4 hg4 hat4; have HI4 := Aside0.mk (HE.out.stable _ _ _ HI3.out HB4.out); have HN4 := Aside0.mk (blk_kept HN3.out (Kept.of_below HB4.out S) hsn); have HBE4 := Aside0.mk (blk_kept HBE3.out (Kept.of_below HB4.out S) hse); have HBC4 := Aside0.mk (blk_kept HBC3.out (Kept.of_below HB4.out S) hsc); have HS4 := Aside0.mk (fun q (hq : S q) => Nat.lt_of_lt_of_le (HB.out q hq) (Nat.le_trans HSZ.out HB4.out.size)); have HL4 := Aside0.mk (show (l ++ [(k : Int)]).length ≤ n by simp; omega); have HBW4 := Aside0.mk (Nat.le_trans (Nat.le_trans HBW.out HSZ.out) HB4.out.size); have HO5 := Aside0.mk (Kd.R_lower (base' := B) (Kd.R_mono (ok' := fun q => ¬ S q) (Kd.R_bound HO4.out) (fun q hq hs => by have h1 := HB.out q hs; have h2 := HSZ.out; have h3 := hq.2.1; omega)) (Nat.le_trans HBW.out HSZ.out)))
                | (go_at_call 86; (with_reducible refine (IH.out _ v4 (l ++ [(k : Int)]) sk s2 HI4.out HN4.out HBE4.out HBC4.out HBW4.out HS4.out HL4.out HO5.out HS3.out).mono ?_); rintro e w5 ⟨rfl, hi5, hk5, hb5⟩; have HI5 := Aside0.mk hi5; have HK5 := Aside0.mk hk5; have HB5 := Aside0.mk hb5; have hcc5 : w5.cell? ⟨bc, 0, none⟩ = some (.func (.func 86) #[] #[.pointer (some ⟨bn, 0, none⟩), .pointer (some ⟨be, 0, none⟩), .pointer (some ⟨bc, 0, none⟩)]) := blk_cell (blk_kept HBC4.out hk5 hsc) 0; clear hi5 hk5 hb5))
            all_goals
              go_wp2
              go_roundw
              case rel => exact ⟨k + 1, s2, by omega, by go_num, HI5, ⟨(HK3.out.below HB4.out).then_ HK5.out (fun _ h => .inl h)⟩, ⟨(below_then (below_then HB2.out (Nat.le_trans HBW.out HK.out.1) HD.out) (Nat.le_trans HBW.out HSZ.out) HB4.out).trans HB5.out⟩, HM2⟩
              case measure => simp [intOf]; omega
        · have hge : ¬ (k : Int) < n := by omega
          have hM := HM.out
          rw [show n - k = 0 by omega, List.range'_zero, List.foldlM_nil] at hM
          obtain rfl := Option.some.inj hM
          clear hM
          go_wp2
          go_end0
          exact ⟨rfl, HI2.out, HK.out, HB2.out⟩
set_option maxHeartbeats 4000000 in
set_option maxRecDepth 100000 in
theorem orders_any (hE : EachOk Inv step F caps S B) (hS : ∀ k, S k → B ≤ k) (n : Nat) (hn : n ≤ 1000) (fuel : Nat) (W : World) (s s1 : σ) (hi : Inv s W) (hB : B ≤ W.heap.size) (hlt : ∀ k, S k → k < W.heap.size) (h : ordersM n step fuel [] s = some s1) :
    Calls Try.prog 62 #[.int .i64 n, .func (.func F) #[] caps] W fun e w' => e = .returned (.tuple #[]) ∧ Inv s1 w' ∧ Kept W w' S ∧ Below B W w' := by
  have HE := Aside0.mk hE
  have HS := Aside0.mk hS
  have HI := Aside0.mk hi
  have HB := Aside0.mk hB
  have HLT := Aside0.mk hlt
  have H := Aside0.mk h
  have hmf : ∀ (fn : Fn) (first cap : Array Value) (w : World), (Instr.makeFunc fn first cap).run Try.prog w = .ok (.func fn first cap) w := fun _ _ _ _ => rfl
  clear hE hS hi hB hlt h
  go_enter Try.func62, Try.ntmps62
  go_wp2_with fail
  have hbel := below_alloc (below_alloc (below_alloc (Below.refl W.heap.size W) (.cells #[.int .i64 n] 3)) (.cells #[.func (.func F) #[] caps] 75)) (.cells #[.func (.func 86) #[] #[.pointer (some ⟨W.heap.size, 0, none⟩), .pointer (some ⟨W.heap.size + 1, 0, none⟩), .pointer (some ⟨W.heap.size + 1 + 1, 0, none⟩)]] 75)
  have hb1 : ((W.alloc (.cells #[.int .i64 n] 3)).alloc (.cells #[.func (.func F) #[] caps] 75)).heap[W.heap.size]? = some (.cells #[.int .i64 n] 3 (0, 0)) := (blk_alloc (blk_new W _) _)
  with_reducible refine (choose_any Inv step F caps S B HE.out HS.out n hn W.heap.size (W.heap.size + 1) (W.heap.size + 1 + 1) (fun h => absurd (HLT.out _ h) (Nat.lt_irrefl _)) (fun h => by have := HLT.out _ h; omega) (fun h => by have := HLT.out _ h; omega) fuel _ _ [] s s1 (HE.out.stable _ _ _ HI.out hbel) (blk_alloc hb1 _) (blk_alloc (blk_new2 _ _ (by simp)) _) (blk_new2 _ _ (by simp)) (Nat.le_trans HB.out hbel.size) (fun q hq => Nat.lt_of_lt_of_le (HLT.out q hq) hbel.size) (by simp) (Kd.R_nil _ _ _ _ _) H.out).mono ?_
  rintro e w' ⟨rfl, hi', hk', hb'⟩
  have HP := Aside0.mk (And.intro hi' (And.intro ((Kept.of_below hbel S).then_ hk' (fun _ h => .inl h)) ((hbel.mono HB.out).trans hb')))
  clear hi' hk' hb' hbel hb1
  go_wp2
  go_end0
  exact ⟨rfl, HP.out⟩
end
def bestStep (k : Nat) (l0 : List S55) (s : List Int × Int) (order : List Int) : Option (List Int × Int) :=
  (impl_waiting.f k l0 order).bind fun m => if s.2 < 0 then some (order, m) else if m < s.2 then some (order, m) else some s
def impl_BestDoor.f (k : Nat) (l0 : List S55) : Option (List Int × Int × Int) :=
  (impl_ValidParties.f l0).bind fun ok => if ok = true then (ordersM l0.length (bestStep k l0) (l0.length + 1) [] (([] : List Int), (-1 : Int))).bind fun r => some (r.1, r.2, 0) else some ([], 0, 1)
theorem ordersM_le {σ : Type} (n : Nat) {f g : σ → List Int → Option σ} (h : ∀ s a, LeO (f s a) (g s a)) : ∀ (fuel : Nat) (l : List Int) (s : σ), LeO (ordersM n f fuel l s) (ordersM n g fuel l s)
  | 0, _, _ => LeO.none _
  | fuel + 1, l, s => by
    simp only [ordersM]
    refine LeO.ite (h s l) (foldlM_le (fun s a => LeO.ite (LeO.refl _) (ordersM_le n h fuel _ s)) _ s)
theorem bestStep_le (k : Nat) (l0 : List S55) (s : List Int × Int) (a : List Int) : LeO (bestStep k l0 s a) (bestStep (k + 1) l0 s a) := by
  unfold bestStep
  exact LeO.bind (impl_waiting.mono _ _ k) (fun _ => LeO.refl _)
theorem impl_BestDoor.mono : ∀ a0 k, LeO (impl_BestDoor.f k a0) (impl_BestDoor.f (k + 1) a0) := by
  intro a0 k
  unfold impl_BestDoor.f
  exact LeO.bind (LeO.refl _) (fun _ => LeO.ite (LeO.bind (ordersM_le _ (bestStep_le k a0) _ _ _) (fun _ => LeO.refl _)) (LeO.refl _))
def BestInv (l0 : List S55) (A0 : Option Addr) (c0 B t1 t2 t3 : Nat) (w0 : World) (s : List Int × Int) (W : World) : Prop :=
  W.heap[t1]? = some (.cells #[.slice A0 l0.length c0] 27 (0, 0)) ∧ W.heap[t2]? = some (.cells #[.int .i64 s.2] 2 (0, 0)) ∧ (∃ vb, W.heap[t3]? = some (.cells #[vb] 24 (0, 0)) ∧ Kd.R (Kd.int .i64) 2 W B (fun k => ¬ (k = t2 ∨ k = t3)) vb s.1) ∧
    Below B w0 W ∧ B ≤ W.heap.size
theorem BestInv.stable {l0 : List S55} {A0 : Option Addr} {c0 B t1 t2 t3 : Nat} {w0 : World} {s : List Int × Int} {W W' : World} (h : BestInv l0 A0 c0 B t1 t2 t3 w0 s W) (hb : Below W.heap.size W W') : BestInv l0 A0 c0 B t1 t2 t3 w0 s W' := by
  obtain ⟨h1, h2, ⟨vb, h3, h4⟩, h5, h6⟩ := h
  exact ⟨(hb.block _ (blk_lt h1)).trans h1, (hb.block _ (blk_lt h2)).trans h2, ⟨vb, (hb.block _ (blk_lt h3)).trans h3, Kd.R_below h4 hb⟩, below_then h5 h6 hb, Nat.le_trans h6 hb.size⟩
theorem isfn_best : IsFn 63 := fun _ _ => by kernel_rfl
set_option maxHeartbeats 8000000 in
set_option maxRecDepth 100000 in
theorem best_each (k : Nat) (l0 : List S55) (A0 : Option Addr) (c0 B t1 t2 t3 : Nat) (hc0 : l0.length ≤ c0) (h12 : t1 ≠ t2) (h13 : t1 ≠ t3) (h23 : t2 ≠ t3) (hB1 : B ≤ t1) (hB2 : B ≤ t2) (hB3 : B ≤ t3)
    (w0 : World) (hpast : ∀ W : World, Below B w0 W → Kd.C k55 W A0 l0.length l0)
    (s s' : List Int × Int) (W : World) (v : Value) (l : List Int) (hi : BestInv l0 A0 c0 B t1 t2 t3 w0 s W) (hr : Kd.R (Kd.int .i64) 2 W B (fun k => ¬ (k = t2 ∨ k = t3)) v l) (h : bestStep k l0 s l = some s') :
    Calls Try.prog 63 (#[v] ++ #[.pointer (some ⟨t1, 0, none⟩), .pointer (some ⟨t2, 0, none⟩), .pointer (some ⟨t3, 0, none⟩)]) W fun e w' => e = .returned (.tuple #[]) ∧ BestInv l0 A0 c0 B t1 t2 t3 w0 s' w' ∧ Kept W w' (fun k => k = t2 ∨ k = t3) ∧ Below B W w' := by
  obtain ⟨A, c, rfl, hlc, hc⟩ := Kd.R_reads hr
  obtain ⟨m, hm, h⟩ := Option.bind_eq_some_iff.1 h
  obtain ⟨h1, h2, ⟨vb, h3, h4⟩, h5, h6⟩ := hi
  have hx1 := blk_cell h1 0
  have H1 := Aside0.mk h1
  have H2 := Aside0.mk h2
  have H3 := Aside0.mk h3
  have H4 := Aside0.mk h4
  have H5 := Aside0.mk h5
  have H6 := Aside0.mk h6
  have HR := Aside0.mk hr
  have HC := Aside0.mk hc
  have HM := Aside0.mk hm
  have HP := Aside0.mk hpast
  have HH := Aside0.mk h
  have N12 := Aside0.mk h12
  have N13 := Aside0.mk h13
  have N23 := Aside0.mk h23
  clear h1 h2 h3 h4 h5 h6 hr hc hm hpast h h12 h13 h23
  obtain ⟨sb, sn⟩ := s
  show Calls Try.prog 63 #[.slice A l.length c, .pointer (some ⟨t1, 0, none⟩), .pointer (some ⟨t2, 0, none⟩), .pointer (some ⟨t3, 0, none⟩)] W _
  by_cases hnew : sn < 0 ∨ m < sn
  · have hs' : s' = (l, m) := by
      have := HH.out
      simp only at this
      rcases hnew with h | h
      · rw [if_pos h] at this; exact (Option.some.inj this).symm
      · by_cases h0 : sn < 0
        · rw [if_pos h0] at this; exact (Option.some.inj this).symm
        · rw [if_neg h0, if_pos h] at this; exact (Option.some.inj this).symm
    subst hs'
    clear HH
    have fin : ∀ w1 : World, Below W.heap.size W w1 → BestInv l0 A0 c0 B t1 t2 t3 w0 (l, m) ((w1.setCell ⟨t3, 0, none⟩ (.slice A l.length c)).setCell ⟨t2, 0, none⟩ (.int .i64 m)) ∧ Kept W ((w1.setCell ⟨t3, 0, none⟩ (.slice A l.length c)).setCell ⟨t2, 0, none⟩ (.int .i64 m)) (fun k => k = t2 ∨ k = t3) ∧ Below B W ((w1.setCell ⟨t3, 0, none⟩ (.slice A l.length c)).setCell ⟨t2, 0, none⟩ (.int .i64 m)) := by
      intro w1 hb
      have g1 := (hb.block _ (blk_lt H1.out)).trans H1.out
      have g2 := (hb.block _ (blk_lt H2.out)).trans H2.out
      have g3 := (hb.block _ (blk_lt H3.out)).trans H3.out
      have hbB : Below B W ((w1.setCell ⟨t3, 0, none⟩ (.slice A l.length c)).setCell ⟨t2, 0, none⟩ (.int .i64 m)) := ((hb.mono H6.out).setCell (p := ⟨t3, 0, none⟩) hB3 _).setCell (p := ⟨t2, 0, none⟩) hB2 _
      refine ⟨⟨blk_far (blk_far g1 N13.out _) N12.out _, ?_, ⟨.slice A l.length c, ?_, ?_⟩, H5.out.trans hbB, Nat.le_trans H6.out hbB.size⟩, ?_, hbB⟩
      · have := blk_set (blk_far g2 (p := ⟨t3, 0, none⟩) N23.out (.slice A l.length c)) 0 (.int .i64 m)
        simpa using this
      · have := blk_far (blk_set g3 0 (.slice A l.length c)) (p := ⟨t2, 0, none⟩) (fun h => N23.out h.symm) (.int .i64 m)
        simpa using this
      · exact Kd.R_far (Kd.R_far (Kd.R_below HR.out hb) (fun q hq h => hq (.inr h)) _) (fun q hq h => hq (.inl h)) _
      · exact ((Kept.of_below hb _).setCell (.inl (.inr rfl)) _).setCell (.inl (.inl rfl)) _
    have FIN := Aside0.mk fin
    clear fin
    by_cases h0 : sn < 0
    · clear hnew
      go_enter Try.func63, Try.ntmps63
      go_wp2_with fail
      with_reducible refine (impl_waiting.calls k A0 c0 l0 A c l m _ (HP.out _ H5.out) hc0 HC.out hlc HM.out).mono ?_
      rintro e w1 ⟨rfl, hb⟩
      have hx2 : w1.cell? ⟨t2, 0, none⟩ = some (.int .i64 sn) := blk_cell ((hb.block _ (blk_lt H2.out)).trans H2.out) 0
      have hf2 : w1.frozen? ⟨t2, 0, none⟩ = false := blk_frozen ((hb.block _ (blk_lt H2.out)).trans H2.out) 0
      have hx3 : w1.cell? ⟨t3, 0, none⟩ = some vb := blk_cell ((hb.block _ (blk_lt H3.out)).trans H3.out) 0
      have hf3 : w1.frozen? ⟨t3, 0, none⟩ = false := blk_frozen ((hb.block _ (blk_lt H3.out)).trans H3.out) 0
      have HB := Aside0.mk hb
      clear hb
      have hne := N23.out
      have hne' : t3 ≠ t2 := fun h => hne h.symm
      go_wp2
      go_end0
      exact ⟨rfl, FIN.out _ HB.out⟩
    · have hlt : m < sn := by omega
      clear hnew
      go_enter Try.func63, Try.ntmps63
      go_wp2_with fail
      with_reducible refine (impl_waiting.calls k A0 c0 l0 A c l m _ (HP.out _ H5.out) hc0 HC.out hlc HM.out).mono ?_
      rintro e w1 ⟨rfl, hb⟩
      have hx2 : w1.cell? ⟨t2, 0, none⟩ = some (.int .i64 sn) := blk_cell ((hb.block _ (blk_lt H2.out)).trans H2.out) 0
      have hf2 : w1.frozen? ⟨t2, 0, none⟩ = false := blk_frozen ((hb.block _ (blk_lt H2.out)).trans H2.out) 0
      have hx3 : w1.cell? ⟨t3, 0, none⟩ = some vb := blk_cell ((hb.block _ (blk_lt H3.out)).trans H3.out) 0
      have hf3 : w1.frozen? ⟨t3, 0, none⟩ = false := blk_frozen ((hb.block _ (blk_lt H3.out)).trans H3.out) 0
      have HB := Aside0.mk hb
      clear hb
      have hne := N23.out
      have hne' : t3 ≠ t2 := fun h => hne h.symm
      go_wp2
      go_end0
      exact ⟨rfl, FIN.out _ HB.out⟩
  · have hs' : s' = (sb, sn) := by
      have := HH.out
      simp only at this
      rw [if_neg (fun h => hnew (.inl h)), if_neg (fun h => hnew (.inr h))] at this
      exact (Option.some.inj this).symm
    subst hs'
    clear HH
    have h0 : ¬ sn < 0 := fun h => hnew (.inl h)
    have hlt : ¬ m < sn := fun h => hnew (.inr h)
    have HI : Aside0 (BestInv l0 A0 c0 B t1 t2 t3 w0 (sb, sn) W) := ⟨H1.out, H2.out, ⟨vb, H3.out, H4.out⟩, H5.out, H6.out⟩
    clear hnew
    go_enter Try.func63, Try.ntmps63
    go_wp2_with fail
    with_reducible refine (impl_waiting.calls k A0 c0 l0 A c l m _ (HP.out _ H5.out) hc0 HC.out hlc HM.out).mono ?_
    rintro e w1 ⟨rfl, hb⟩
    have hx2 : w1.cell? ⟨t2, 0, none⟩ = some (.int .i64 sn) := blk_cell ((hb.block _ (blk_lt H2.out)).trans H2.out) 0
    have HB := Aside0.mk hb
    clear hb
    go_wp2
    go_end0
    exact ⟨rfl, HI.out.stable HB.out, Kept.of_below HB.out _, HB.out.mono H6.out⟩
set_option maxHeartbeats 8000000 in
set_option maxRecDepth 100000 in
theorem impl_BestDoor.calls (k : Nat) (A0 : Option Addr) (c0 : Nat) (l0 : List S55) (r1 : List Int) (r2 : Int) (r3 : Int) (w : World) (hr0 : Kd.C k55 w A0 l0.length l0) (hc0 : l0.length ≤ c0) (h : impl_BestDoor.f k l0 = some (r1, r2, r3)) :
    Calls Try.prog 29 #[.slice A0 l0.length c0] w fun e w' => ∃ v0_ : Value, e = .returned (.tuple #[v0_, .int .i64 r2, .int .i64 r3]) ∧ Kd.R (Kd.int .i64) 2 w' w.heap.size (fun _ => True) v0_ r1 ∧ Below w.heap.size w w' := by
  obtain ⟨ok, hok, h⟩ := Option.bind_eq_some_iff.1 h
  have HOK := Aside0.mk hok
  have HR := Aside0.mk hr0
  have HC := Aside0.mk hc0
  have hmf : ∀ (fn : Fn) (first cap : Array Value) (w : World), (Instr.makeFunc fn first cap).run Try.prog w = .ok (.func fn first cap) w := fun _ _ _ _ => rfl
  have hreads : ∀ W : World, Below w.heap.size w W → Kd.C k55 W A0 l0.length l0 := fun W hb => Kd.C_below hr0 hb
  have HRD := Aside0.mk hreads
  clear hok hr0 hc0 hreads
  cases ok with
  | false =>
    rw [if_neg (by simp)] at h
    simp only [Option.some.injEq, Prod.mk.injEq] at h
    obtain ⟨rfl, rfl, rfl⟩ := h
    go_enter Try.func29, Try.ntmps29
    go_wp2_with fail
    with_reducible refine (impl_ValidParties.calls A0 c0 l0 false _ (HRD.out _ (below_alloc (Below.refl _ _) _)) HC.out HOK.out).mono ?_
    rintro e w1 ⟨rfl, hb⟩
    have HB := Aside0.mk (below_then (below_alloc (Below.refl w.heap.size w) _) (by simp) hb)
    clear hb
    go_wp2
    go_ret3
    exact ⟨_, rfl, Kd.R_nil _ _ _ _ _, HB.out⟩
  | true =>
    rw [if_pos rfl] at h
    obtain ⟨r, hr, h⟩ := Option.bind_eq_some_iff.1 h
    simp only [Option.some.injEq, Prod.mk.injEq] at h
    obtain ⟨rfl, rfl, rfl⟩ := h
    have H := Aside0.mk hr
    have hlen : l0.length ≤ 1000 := by
      have := HOK.out
      simp only [impl_ValidParties.f, Option.some.injEq, Bool.and_eq_true, decide_eq_true_eq] at this
      omega
    clear hr
    go_enter Try.func29, Try.ntmps29
    go_wp2_with fail
    with_reducible refine (impl_ValidParties.calls A0 c0 l0 true _ (HRD.out _ (below_alloc (Below.refl _ _) _)) HC.out HOK.out).mono ?_
    rintro e w1 ⟨rfl, hb⟩
    have hbk := (hb.block w.heap.size (by simp)).trans (blk_new w (.cells #[.slice A0 l0.length c0] 27))
    have hx1 : w1.cell? ⟨w.heap.size, 0, none⟩ = some (.slice A0 l0.length c0) := blk_cell hbk 0
    have HBK := Aside0.mk hbk
    have HB := Aside0.mk (below_then (below_alloc (Below.refl w.heap.size w) (.cells #[.slice A0 l0.length c0] 27)) (by simp) hb)
    have hsz : w.heap.size < w1.heap.size := blk_lt hbk
    clear hb hbk
    go_wp2_with fail
    have hbel := below_alloc (below_alloc (Below.refl w1.heap.size w1) (.cells #[.slice none 0 0] 24)) (.cells #[.int .i64 (-1)] 2)
    have hB1 : Below w.heap.size w ((w1.alloc (.cells #[.slice none 0 0] 24)).alloc (.cells #[.int .i64 (-1)] 2)) := below_then HB.out (Nat.le_of_lt hsz) hbel
    have hinv : BestInv l0 A0 c0 w.heap.size w.heap.size (w1.heap.size + 1) w1.heap.size w ([], -1) ((w1.alloc (.cells #[.slice none 0 0] 24)).alloc (.cells #[.int .i64 (-1)] 2)) :=
      ⟨blk_alloc (blk_alloc HBK.out _) _, blk_new2 _ _ (by simp), ⟨_, blk_alloc (blk_new _ _) _, Kd.R_nil _ _ _ _ _⟩, hB1, hB1.size⟩
    have hE : EachOk (BestInv l0 A0 c0 w.heap.size w.heap.size (w1.heap.size + 1) w1.heap.size w) (bestStep k l0) 63 #[.pointer (some ⟨w.heap.size, 0, none⟩), .pointer (some ⟨w1.heap.size + 1, 0, none⟩), .pointer (some ⟨w1.heap.size, 0, none⟩)] (fun k => k = w1.heap.size + 1 ∨ k = w1.heap.size) w.heap.size :=
      { fn := isfn_best, stable := fun s W W' hi hb => hi.stable hb
        each := fun s s' W v l hi hr h => best_each k l0 A0 c0 w.heap.size w.heap.size (w1.heap.size + 1) w1.heap.size HC.out (by omega) (by omega) (by omega) (Nat.le_refl _) (by omega) (by omega) w HRD.out s s' W v l hi hr h }
    have HE := Aside0.mk hE
    have HI := Aside0.mk hinv
    have HB1 := Aside0.mk hB1
    clear hE hinv hB1 hbel
    with_reducible refine (orders_any _ (bestStep k l0) _ _ _ w.heap.size HE.out (fun q hq => by rcases hq with rfl | rfl <;> omega) l0.length hlen (l0.length + 1) _ ([], -1) r HI.out HB1.out.size (fun q hq => by rcases hq with rfl | rfl <;> simp <;> omega) H.out).mono ?_
    rintro e w2 ⟨rfl, ⟨g1, g2, ⟨vb, g3, g4⟩, g5, g6⟩, hk, hb2⟩
    have hy2 : w2.cell? ⟨w1.heap.size + 1, 0, none⟩ = some (.int .i64 r.2) := blk_cell g2 0
    have hy3 : w2.cell? ⟨w1.heap.size, 0, none⟩ = some vb := blk_cell g3 0
    have G4 := Aside0.mk g4
    have G5 := Aside0.mk g5
    clear g1 g2 g3 g4 g5 g6 hk hb2
    go_wp2_with fail
    go_quiet (fail)
    go_wp2
    go_ret3
    exact ⟨_, rfl, Kd.R_drewN (Kd.R_mono G4.out (fun _ _ => trivial)) _, pw_below_drewN G5.out _⟩
mutual
def spec_l07Orders.l0 : Nat → Int → List Int → List (List Int) → Int → Option ((List (List Int)))
 | 0, _, _, _, _ => none
 | k + 1, x0, x1, x5, x6 => if x6 < x0 then ((spec_l00Has.f k x1 x6).bind fun t337 => (if t337 = true then (spec_l07Orders.l0 k x0 x1 x5 (wrap64 (x6 + 1))) else ((spec_l00Own.f x1).bind fun t338 => (if t338.length < 17592186044416 then ((spec_l07Orders.f k x0 (t338 ++ [x6])).bind fun t344 => (if x5.length + t344.length < 5864062014805 then (spec_l07Orders.l0 k x0 x1 (x5 ++ t344) (wrap64 (x6 + 1))) else (none))) else (none))))) else (some x5)
def spec_l07Orders.f : Nat → Int → List Int → Option ((List (List Int)))
 | 0, _, _ => none
 | k + 1, a0, l1 => if (l1.length : Int) = a0 then ((spec_l00Own.f l1).bind fun t328 => (some (([t328] : List (List Int))))) else (spec_l07Orders.l0 k a0 l1 (([] : List (List Int))) 0)
end
theorem spec_l07Orders.mono_l : ∀ k, (∀ y0 y1, LeO (spec_l07Orders.f k y0 y1) (spec_l07Orders.f (k + 1) y0 y1)) ∧ (∀ y0 y1 y2 y3, LeO (spec_l07Orders.l0 k y0 y1 y2 y3) (spec_l07Orders.l0 (k + 1) y0 y1 y2 y3))
 | 0 => ⟨fun _ _ r h => by simp [spec_l07Orders.f] at h, fun _ _ _ _ r h => by simp [spec_l07Orders.l0] at h⟩
 | k + 1 => by
  obtain ⟨ih0, ih1⟩ := spec_l07Orders.mono_l k
  refine ⟨?_, ?_⟩
  ·intro y0 y1
   unfold spec_l07Orders.f
   repeat' first
   | (with_reducible exact ih0 _ _)
   | (with_reducible exact ih1 _ _ _ _)
   | (with_reducible exact spec_l00Has.mono _ _ _)
   | (with_reducible exact LeO.refl _)
   | (with_reducible exact LeO.none _)
   | (with_reducible refine LeO.ite ?_ ?_)
   | (with_reducible refine LeO.bind ?_ (fun _ => ?_))
   | exact ih0 _ _
   | exact ih1 _ _ _ _
   | exact spec_l00Has.mono _ _ _
   | exact LeO.none _
   | refine LeO.ite ?_ ?_
   | refine LeO.bind ?_ (fun _ => ?_)
  ·intro y0 y1 y2 y3
   unfold spec_l07Orders.l0
   repeat' first
   | (with_reducible exact ih0 _ _)
   | (with_reducible exact ih1 _ _ _ _)
   | (with_reducible exact spec_l00Has.mono _ _ _)
   | (with_reducible exact LeO.refl _)
   | (with_reducible exact LeO.none _)
   | (with_reducible refine LeO.ite ?_ ?_)
   | (with_reducible refine LeO.bind ?_ (fun _ => ?_))
   | exact ih0 _ _
   | exact ih1 _ _ _ _
   | exact spec_l00Has.mono _ _ _
   | exact LeO.none _
   | refine LeO.ite ?_ ?_
   | refine LeO.bind ?_ (fun _ => ?_)
theorem spec_l07Orders.mono : ∀ a0 a1 k, LeO (spec_l07Orders.f k a0 a1) (spec_l07Orders.f (k + 1) a0 a1) := by
 intro a0 a1 k
 obtain ⟨ih0, ih1⟩ := spec_l07Orders.mono_l k
 exact ih0 a0 a1
set_option maxHeartbeats 8000000 in
set_option maxRecDepth 100000 in
theorem spec_l07Orders.calls (k : Nat) : ∀ (a0 : Int) (A1 : Option Addr) (c1 : Nat) (l1 : List Int) (r : List (List Int)) (w : World) (hr1 : Kd.C (Kd.int .i64) w A1 l1.length l1) (hc1 : l1.length ≤ c1) (h : spec_l07Orders.f k a0 l1 = some r),
  Calls Try.prog 64 #[.int .i64 a0, .slice A1 l1.length c1] w fun e w' => ∃ v0_ : Value, e = .returned (v0_) ∧ Kd.N (Kd.slice 2 (Kd.int .i64)) 24 w' w.heap.size (fun k_ => (w.heap.size ≤ k_)) v0_ r ∧ Below w.heap.size w w' := by
 induction k using Nat.strongRecOn with
 | _ k ih =>
 intro a0 A1 c1 l1 r w hr1 hc1 h
 cases k with
 | zero => exact absurd h (by simp [spec_l07Orders.f])
 | succ k =>
 simp only [spec_l07Orders.f] at h
 have HR1 := Aside0.mk hr1
 have HC1 := Aside0.mk hc1
 clear hr1 hc1
 have HB := Aside0.mk (Below.refl w.heap.size w)
 have H : (if (l1.length : Int) = a0 then ((spec_l00Own.f l1).bind fun t328 => (some (([t328] : List (List Int))))) else (spec_l07Orders.l0 k a0 l1 (([] : List (List Int))) 0)) = some r := h
 clear h
 by_cases c3 : (l1.length : Int) = a0
 ·rw [if_pos c3] at H
  have c3b0 : ((l1.length : Int) == a0) = true := beq_iff_eq.mpr c3
  have c3b1 : ((l1.length : Int) != a0) = false := bne_eq_false_iff_eq.mpr c3
  clear c3
  replace H := Option.bind_eq_some_iff.mp H
  obtain ⟨t328, A40, H⟩ := H
  replace H : (some (([t328] : List (List Int)))) = some r := H
  have A4 := Aside0.mk A40
  clear A40
  obtain ⟨y331, hy331⟩ : ∃ y_ : List (List Int), y_ = (([t328] : List (List Int))) := ⟨_, rfl⟩
  replace H : (some y331) = some r := by first | (rw [hy331]; with_reducible exact H) | (have H2_ := (Option.bind_some _ _).symm.trans H; rw [hy331]; with_reducible exact H2_) | (have H2_ := (Option.bind_some _ _).symm.trans H; with_reducible exact H2_) | with_reducible exact H | (rw [hy331]; exact H) | exact H
  have Ny331 := Aside0.mk hy331
  clear hy331
  obtain rfl := Option.some.inj H
  go_enter Try.func64, Try.ntmps64
  go_wp2_with (first | ((with_reducible refine gate_callee (f := 36) rfl ?_); refine goesL_ (some 12) rfl rfl Try.func36 (by kernel_rfl) rfl #[.slice A1 l1.length c1] rfl (by (try simp only [List.map_toArray, List.map_cons, List.map_nil]); first | done | rfl | (simp only [List.length_drop, List.length_take]; rfl)) ?_; (with_reducible refine (spec_l00Own.calls _ _ l1 t328 _ ?side1 ?side2 A4.out).mono ?_); (case side1 => repeat (first | exact HR1.out | (with_reducible refine Kd.C_alloc ?_ _) | (with_reducible refine Kd.C_drewN ?_ _) | (with_reducible refine Kd.C_drew ?_))); (case side2 => exact HC1.out); rintro e w5 ⟨v329, rfl, ho0, hb⟩; refine ⟨_, rfl, ?_⟩; have n0_ := Aside0.mk (Kd.R_lower (Kd.R_newM (M := fun k_ => (w.heap.size ≤ k_)) ho0 (below_size (by repeat (first | (with_reducible first | exact HB.out | apply below_alloc | apply pw_below_drewN | apply below_drew1) | exact HB.out))) (fun k_ h_ => h_)) (below_size (by repeat (first | (with_reducible first | exact HB.out | apply below_alloc | apply pw_below_drewN | apply below_drew1) | exact HB.out)))); have n1_ := bst HB hb; clear HB; have HO330 := n0_; have HB := n1_; clear n0_ n1_; (try clear hb); (try clear hb2); (try clear hk); (try clear hi); (try clear ho0); obtain ⟨Ao6, co6, eo6⟩ := Kd.R_slice HO330.out; subst eo6) | ((with_reducible refine gate_dst (N := 13) rfl ?_); refine Kd.N_lit (Kd.slice 2 (Kd.int .i64)) _ 24 ?hg (N' := 13) ?hd (xs := ([t328] : List (List Int))) (inner := [.slice Ao6 t328.length co6]) (ok := (fun k_ => (w.heap.size ≤ k_))) (okp := (fun k_ => (w.heap.size ≤ k_))) ?hr ?hp (fun _ hk => hk) ((show ∀ k_, w5.heap.size ≤ k_ → (fun k_ => (w.heap.size ≤ k_)) k_ from fun k_ hk => (Nat.le_trans (below_size (by repeat (first | (with_reducible first | exact HB.out | apply below_alloc | apply pw_below_drewN | apply below_drew1) | exact HB.out))) hk)) _ (Nat.le_refl _)) (Below.refl _ _) (Nat.le_refl _) (by simp) ?_; (case hd => rfl); (case hg => rfl); (case hr => first | (go_simp; done) | (go_simp; rfl)); (case hp => exact (Reps.one (show Kd.FK (Kd.slice 2 (Kd.int .i64)) _ _ t328 [.slice Ao6 t328.length co6] from (Kd.FK_slice_mk (Kd.R_reads' (Kd.R_mono (ok' := (fun k_ => (w.heap.size ≤ k_))) (HO330.out) (fun k_ hk => hk.1))).2.1 (Kd.R_F (Kd.R_mono (ok' := (fun k_ => (w.heap.size ≤ k_))) (HO330.out) (fun k_ hk => hk.1))))) (Reps.none _ _))); intro v332 w7 ho8 hb hg_ hnew_; clear hg_ hnew_; (first | rw [← Ny331.out] at ho8 | (simp only [Int.reduceToNat] at ho8; rw [← Ny331.out] at ho8)); have n0_ := Aside0.mk (Kd.N_lower ho8 (below_size (by repeat (first | (with_reducible first | exact HB.out | apply below_alloc | apply pw_below_drewN | apply below_drew1) | exact HB.out)))); have n1_ := bst HB hb; clear HB; clear HO330; have HO333 := n0_; have HB := n1_; clear n0_ n1_; clear hb ho8))
  go_ret
  exact ⟨_, by first | rfl | (simp [errW_none, errW_some] <;> rfl) | (simp [*, errW_none, errW_some] <;> rfl), by (with_reducible repeat (first | apply Kd.N_alloc | apply Kd.N_drewN | apply Kd.N_drew)); exact HO333.out, pb HB⟩
 ·rw [if_neg c3] at H
  have c3b0 : ((l1.length : Int) == a0) = false := beq_eq_false_iff_ne.mpr c3
  have c3b1 : ((l1.length : Int) != a0) = true := bne_iff_ne.mpr c3
  obtain ⟨y334, hy334⟩ : ∃ y_ : List (List Int), y_ = (([] : List (List Int))) := ⟨_, rfl⟩
  replace H : (spec_l07Orders.l0 k a0 l1 y334 0) = some r := by first | (rw [hy334]; with_reducible exact H) | (have H2_ := (Option.bind_some _ _).symm.trans H; rw [hy334]; with_reducible exact H2_) | (have H2_ := (Option.bind_some _ _).symm.trans H; with_reducible exact H2_) | with_reducible exact H | (rw [hy334]; exact H) | exact H
  have Ny334 := Aside0.mk hy334
  clear hy334
  have H' := Aside0.mk H
  clear H
  go_enter Try.func64, Try.ntmps64
  go_wp2_with (first | ((with_reducible refine gate_dst (N := 14) rfl ?_); refine Kd.N_lit (Kd.slice 2 (Kd.int .i64)) _ 24 ?hg (N' := 14) ?hd (xs := ([] : List (List Int))) (inner := []) (ok := (fun k_ => (w.heap.size ≤ k_))) (okp := (fun k_ => (w.heap.size ≤ k_))) ?hr ?hp (fun _ hk => hk) ((show ∀ k_, w.heap.size ≤ k_ → (fun k_ => (w.heap.size ≤ k_)) k_ from fun k_ hk => (Nat.le_trans (below_size (by repeat (first | (with_reducible first | exact HB.out | apply below_alloc | apply pw_below_drewN | apply below_drew1) | exact HB.out))) hk)) _ (Nat.le_refl _)) (Below.refl _ _) (Nat.le_refl _) (by simp) ?_; (case hd => rfl); (case hg => rfl); (case hr => first | (go_simp; done) | (go_simp; rfl)); (case hp => exact (Reps.none _ _)); intro v335 w9 ho10 hb hg_ hnew_; clear hg_ hnew_; (first | rw [← Ny334.out] at ho10 | (simp only [Int.reduceToNat] at ho10; rw [← Ny334.out] at ho10)); have n0_ := Aside0.mk (Kd.N_lower ho10 (below_size (by repeat (first | (with_reducible first | exact HB.out | apply below_alloc | apply pw_below_drewN | apply below_drew1) | exact HB.out)))); have n1_ := bst HB hb; clear HB; have HO336 := n0_; have HB := n1_; clear n0_ n1_; clear hb ho10))
  go_loopg [5, 6] k (fun kq v5 v6 w' => ∃ (x5_1 : List (List Int)) (x6_1 : Int), v6 = .int .i64 x6_1 ∧ Aside0 (spec_l07Orders.l0 kq a0 l1 x5_1 x6_1 = some r) ∧ Aside0 (kq ≤ k) ∧ Aside0 (Kd.N (Kd.slice 2 (Kd.int .i64)) 24 w' w.heap.size (fun k_ => (w.heap.size ≤ k_)) v5 x5_1) ∧ Aside0 (Below w.heap.size w w'))
  case atStart => exact ⟨(y334), (0), (by first | rfl | (simp; done) | (simp [*]; done)), H', ⟨Nat.le_refl _⟩, ⟨by (with_reducible repeat (first | apply Kd.N_alloc | apply Kd.N_drewN | apply Kd.N_drew)); exact HO336.out⟩, ⟨pb HB⟩⟩
  case round =>
   clear H'
   try clear c1
   try clear p2
   try clear c3
   try clear c3b0
   try clear c3b1
   try clear c6
   obtain ⟨x5_1, x6_1, rfl, HA, HK1, HO_5, HB⟩ := hrel
   cases gk with
   | zero => exact absurd HA.out (by simp [spec_l07Orders.l0])
   | succ k1 =>
    have H := HA.out
    clear HA
    simp only [spec_l07Orders.l0] at H
    by_cases c11 : x6_1 < a0
    ·rw [if_pos c11] at H
     have c11b0 : decide (x6_1 < a0) = true := decide_eq_true c11
     clear c11
     replace H := Option.bind_eq_some_iff.mp H
     obtain ⟨t337, A120, H⟩ := H
     replace H : (if t337 = true then (spec_l07Orders.l0 k1 a0 l1 x5_1 (wrap64 (x6_1 + 1))) else ((spec_l00Own.f l1).bind fun t338 => (if t338.length < 17592186044416 then ((spec_l07Orders.f k1 a0 (t338 ++ [x6_1])).bind fun t344 => (if x5_1.length + t344.length < 5864062014805 then (spec_l07Orders.l0 k1 a0 l1 (x5_1 ++ t344) (wrap64 (x6_1 + 1))) else (none))) else (none)))) = some r := H
     have A12 := Aside0.mk A120
     clear A120
     by_cases c13 : t337 = true
     ·subst c13
      have H1 : (spec_l07Orders.l0 k1 a0 l1 x5_1 (wrap64 (x6_1 + 1))) = some r := by rw [if_pos rfl] at H; exact H
      clear H
      have H := H1
      clear H1
      have H' := Aside0.mk H
      clear H
      go_wp2_with (first | ((with_reducible refine gate_callee (f := 74) rfl ?_); refine goesL_ (some 22) rfl rfl Try.func74 (by kernel_rfl) rfl #[.slice A1 l1.length c1, .int .i64 x6_1] rfl (by (try simp only [List.map_toArray, List.map_cons, List.map_nil]); first | done | rfl | (simp only [List.length_drop, List.length_take]; rfl)) ?_; (with_reducible refine (spec_l00Has.calls k1 _ _ l1 x6_1 true _ ?side1 ?side2 A12.out).mono ?_); (case side1 => repeat (first | exact (Kd.C_below HR1.out HB.out) | (with_reducible refine Kd.C_alloc ?_ _) | (with_reducible refine Kd.C_drewN ?_ _) | (with_reducible refine Kd.C_drew ?_))); (case side2 => exact HC1.out); rintro e w' ⟨rfl, ⟨nd, rfl⟩⟩; refine ⟨_, rfl, ?_⟩))
      go_roundg k1
      case measure => have := HK1.out; omega
      case rel => exact ⟨(x5_1), (wrap64 (x6_1 + 1)), (by first | rfl | (simp; done) | (simp [*]; done)), H', ⟨by have := HK1.out; omega⟩, ⟨by (with_reducible repeat (first | apply Kd.N_alloc | apply Kd.N_drewN | apply Kd.N_drew)); exact HO_5.out⟩, ⟨pb HB⟩⟩
     ·replace c13 := Bool.eq_false_iff.mpr c13
      subst c13
      have H1 : ((spec_l00Own.f l1).bind fun t338 => (if t338.length < 17592186044416 then ((spec_l07Orders.f k1 a0 (t338 ++ [x6_1])).bind fun t344 => (if x5_1.length + t344.length < 5864062014805 then (spec_l07Orders.l0 k1 a0 l1 (x5_1 ++ t344) (wrap64 (x6_1 + 1))) else (none))) else (none))) = some r := by rw [if_neg (show ¬ (false = true) by decide)] at H; exact H
      clear H
      have H := H1
      clear H1
      replace H := Option.bind_eq_some_iff.mp H
      obtain ⟨t338, A140, H⟩ := H
      replace H : (if t338.length < 17592186044416 then ((spec_l07Orders.f k1 a0 (t338 ++ [x6_1])).bind fun t344 => (if x5_1.length + t344.length < 5864062014805 then (spec_l07Orders.l0 k1 a0 l1 (x5_1 ++ t344) (wrap64 (x6_1 + 1))) else (none))) else (none)) = some r := H
      have A14 := Aside0.mk A140
      clear A140
      by_cases c15 : t338.length < 17592186044416
      ·rw [if_pos c15] at H
       have LMc15 := Aside0.mk c15
       clear c15
       obtain ⟨y341, hy341⟩ : ∃ y_ : List Int, y_ = (t338 ++ [x6_1]) := ⟨_, rfl⟩
       replace H : ((spec_l07Orders.f k1 a0 y341).bind fun t344 => (if x5_1.length + t344.length < 5864062014805 then (spec_l07Orders.l0 k1 a0 l1 (x5_1 ++ t344) (wrap64 (x6_1 + 1))) else (none))) = some r := by first | (rw [hy341]; with_reducible exact H) | (have H2_ := (Option.bind_some _ _).symm.trans H; rw [hy341]; with_reducible exact H2_) | (have H2_ := (Option.bind_some _ _).symm.trans H; with_reducible exact H2_) | with_reducible exact H | (rw [hy341]; exact H) | exact H
       have Ny341 := Aside0.mk hy341
       clear hy341
       replace H := Option.bind_eq_some_iff.mp H
       obtain ⟨t344, A160, H⟩ := H
       replace H : (if x5_1.length + t344.length < 5864062014805 then (spec_l07Orders.l0 k1 a0 l1 (x5_1 ++ t344) (wrap64 (x6_1 + 1))) else (none)) = some r := H
       have A16 := Aside0.mk A160
       clear A160
       by_cases c17 : x5_1.length + t344.length < 5864062014805
       ·rw [if_pos c17] at H
        have LMc17 := Aside0.mk c17
        clear c17
        obtain ⟨y347, hy347⟩ : ∃ y_ : List (List Int), y_ = (x5_1 ++ t344) := ⟨_, rfl⟩
        replace H : (spec_l07Orders.l0 k1 a0 l1 y347 (wrap64 (x6_1 + 1))) = some r := by first | (rw [hy347]; with_reducible exact H) | (have H2_ := (Option.bind_some _ _).symm.trans H; rw [hy347]; with_reducible exact H2_) | (have H2_ := (Option.bind_some _ _).symm.trans H; with_reducible exact H2_) | with_reducible exact H | (rw [hy347]; exact H) | exact H
        have Ny347 := Aside0.mk hy347
        clear hy347
        have H' := Aside0.mk H
        clear H
        go_wp2_with (first | ((with_reducible refine gate_callee (f := 74) rfl ?_); refine goesL_ (some 22) rfl rfl Try.func74 (by kernel_rfl) rfl #[.slice A1 l1.length c1, .int .i64 x6_1] rfl (by (try simp only [List.map_toArray, List.map_cons, List.map_nil]); first | done | rfl | (simp only [List.length_drop, List.length_take]; rfl)) ?_; (with_reducible refine (spec_l00Has.calls k1 _ _ l1 x6_1 false _ ?side1 ?side2 A12.out).mono ?_); (case side1 => repeat (first | exact (Kd.C_below HR1.out HB.out) | (with_reducible refine Kd.C_alloc ?_ _) | (with_reducible refine Kd.C_drewN ?_ _) | (with_reducible refine Kd.C_drew ?_))); (case side2 => exact HC1.out); rintro e w' ⟨rfl, ⟨nd, rfl⟩⟩; refine ⟨_, rfl, ?_⟩) | ((with_reducible refine gate_callee (f := 36) rfl ?_); refine goesL_ (some 27) rfl rfl Try.func36 (by kernel_rfl) rfl #[.slice A1 l1.length c1] rfl (by (try simp only [List.map_toArray, List.map_cons, List.map_nil]); first | done | rfl | (simp only [List.length_drop, List.length_take]; rfl)) ?_; (with_reducible refine (spec_l00Own.calls _ _ l1 t338 _ ?side1 ?side2 A14.out).mono ?_); (case side1 => repeat (first | exact (Kd.C_below HR1.out (pb HB)) | (with_reducible refine Kd.C_alloc ?_ _) | (with_reducible refine Kd.C_drewN ?_ _) | (with_reducible refine Kd.C_drew ?_))); (case side2 => exact HC1.out); rintro e w18 ⟨v339, rfl, ho0, hb⟩; refine ⟨_, rfl, ?_⟩; have n0_ := Aside0.mk (Kd.N_elder' (by (with_reducible repeat (first | apply Kd.N_alloc | apply Kd.N_drewN | apply Kd.N_drew)); exact HO_5.out) (Kd.R_base ho0) hb); have n1_ := Aside0.mk (Kd.R_lower (Kd.R_newM (M := fun k_ => (w.heap.size ≤ k_)) ho0 (below_size (by repeat (first | (with_reducible first | exact HB.out | apply below_alloc | apply pw_below_drewN | apply below_drew1) | exact HB.out))) (fun k_ h_ => h_)) (below_size (by repeat (first | (with_reducible first | exact HB.out | apply below_alloc | apply pw_below_drewN | apply below_drew1) | exact HB.out)))); have n2_ := bst HB hb; clear HO_5; clear HB; have HO_5 := n0_; have HO340 := n1_; have HB := n2_; clear n0_ n1_ n2_; (try clear hb); (try clear hb2); (try clear hk); (try clear hi); (try clear ho0)) | ((with_reducible refine gate_builtin (b := .append) (xs := #[.tmp 27, .tmp 29]) rfl ?_); at_builtin; refine Kd.R_append (Kd.int .i64) (w0 := w) w.heap.size rfl (.tmp 27) (.tmp 29) 24 2 (.int .i64 0) 8 rfl Try.underlying24 info2 rfl (by decide) (by omega) v339 t338 x6_1 [.int .i64 x6_1] (fun k_ => (w.heap.size ≤ k_)) (fun _ => False) rfl rfl ?aP (fun _ hk => hk.elim) ?aF ?aO ?aB ?aS ?aL ?_; (case aP => exact rfl); (case aB => exact (pb HB)); (case aF => exact (fun k_ hk => (Nat.le_trans (below_size (by repeat (first | (with_reducible first | exact HB.out | apply below_alloc | apply pw_below_drewN | apply below_drew1) | exact HB.out))) hk))); (case aO => exact (by (with_reducible repeat (first | apply Kd.R_alloc | apply Kd.R_drewN | apply Kd.R_drew)); exact Kd.R_mono HO340.out (fun _ hk => hk.1))); (case aS => exact (below_size (by repeat (first | (with_reducible first | exact HB.out | apply below_alloc | apply pw_below_drewN | apply below_drew1) | exact HB.out)))); (case aL => have := LMc15.out; omega); intro v342 w19 ho hb hg hat; rw [← Ny341.out] at ho; have n0_ := Aside0.mk (Kd.N_afterv (ok := (fun k_ => (w.heap.size ≤ k_))) (by (with_reducible repeat (first | apply Kd.N_alloc | apply Kd.N_drewN | apply Kd.N_drew)); exact HO_5.out) hg hat); have n1_ := Aside0.mk (hb); have n2_ := Aside0.mk (ho); clear HO_5; clear HB; clear HO340; have HO_5 := n0_; have HB := n1_; have HO343 := n2_; clear n0_ n1_ n2_; clear ho hb hg hat; obtain ⟨Ao20, co20, eo20⟩ := Kd.R_slice HO343.out; subst eo20) | ((with_reducible refine gate_callee (f := 64) rfl ?_); refine goesL_ (some 31) rfl rfl Try.func64 (by kernel_rfl) rfl #[.int .i64 a0, .slice Ao20 y341.length co20] rfl (by (try simp only [List.map_toArray, List.map_cons, List.map_nil]); first | done | rfl | (simp only [List.length_drop, List.length_take]; rfl)) ?_; (with_reducible refine (ih k1 (by have := HK1.out; omega) a0 _ _ y341 t344 _ ?side1 ?side2 A16.out).mono ?_); (case side1 => repeat (first | exact (Kd.R_reads' HO343.out).2.2 | (with_reducible refine Kd.C_alloc ?_ _) | (with_reducible refine Kd.C_drewN ?_ _) | (with_reducible refine Kd.C_drew ?_))); (case side2 => exact (Kd.R_reads' HO343.out).2.1); rintro e w21 ⟨v345, rfl, ho0, hb⟩; refine ⟨_, rfl, ?_⟩; have n0_ := Aside0.mk (Kd.N_elder' (by (with_reducible repeat (first | apply Kd.N_alloc | apply Kd.N_drewN | apply Kd.N_drew)); exact HO_5.out) (Kd.N_base ho0) hb); have n1_ := krb HO343 hb; have n2_ := Aside0.mk (Kd.N_lower (Kd.N_mono (ok' := fun k_ => (w.heap.size ≤ k_) ∧ some k_ ≠ (u5 : Value).ownBlock ∧ some k_ ≠ (.slice Ao20 y341.length co20 : Value).ownBlock) ho0 (fun k_ hk_ => ⟨(Nat.le_trans (below_size (by repeat (first | (with_reducible first | exact HB.out | apply below_alloc | apply pw_below_drewN | apply below_drew1) | exact HB.out))) hk_), (Kd.fresh' (Kd.N_lt (by (with_reducible repeat (first | apply Kd.N_alloc | apply Kd.N_drewN | apply Kd.N_drew)); exact HO_5.out)) k_ hk_), (Kd.fresh' (Kd.R_lt (by (with_reducible repeat (first | apply Kd.R_alloc | apply Kd.R_drewN | apply Kd.R_drew)); exact HO343.out)) k_ hk_)⟩)) (below_size (by repeat (first | (with_reducible first | exact HB.out | apply below_alloc | apply pw_below_drewN | apply below_drew1) | exact HB.out)))); have n3_ := bst HB hb; clear HO_5; clear HO343; clear HB; have HO_5 := n0_; have HO343 := n1_; have HO346 := n2_; have HB := n3_; clear n0_ n1_ n2_ n3_; (try clear hb); (try clear hb2); (try clear hk); (try clear hi); (try clear ho0); obtain ⟨Ao23, co23, eo23⟩ := Kd.N_slice HO346.out; subst eo23) | ((with_reducible refine gate_builtin (b := .append) (xs := #[.tmp 24, .tmp 31]) rfl ?_); at_builtin; refine Kd.N_append_rows (Kd.slice 2 (Kd.int .i64)) (w0 := w) w.heap.size rfl (.tmp 24) (.tmp 31) 66 24 (.slice none 0 0) 24 rfl Try.underlying66 info24 rfl (by decide) (by omega) u5 x5_1 t344 _ _ _ (fun k_ => (w.heap.size ≤ k_) ∧ some k_ ≠ (.slice Ao20 y341.length co20 : Value).ownBlock) (fun k_ => ((fun k_ => (w.heap.size ≤ k_) ∧ some k_ ≠ (.slice Ao20 y341.length co20 : Value).ownBlock)) k_ ∧ some k_ ≠ (u5 : Value).ownBlock) rfl rfl ?aO ?aR (fun _ hk => hk) ?aF ?aB ?aS ?aL ?_; (case aR => exact (by skip; exact Kd.N_F (Kd.N_mono (ok' := (fun k_ => ((fun k_ => (w.heap.size ≤ k_) ∧ some k_ ≠ (.slice Ao20 y341.length co20 : Value).ownBlock)) k_ ∧ some k_ ≠ (u5 : Value).ownBlock)) (HO346.out) (fun k_ hk => ⟨⟨hk.1, hk.2.2⟩, hk.2.1⟩)))); (case aB => exact (pb HB)); (case aF => exact (fun k_ hk => ⟨(Nat.le_trans (below_size (by repeat (first | (with_reducible first | exact HB.out | apply below_alloc | apply pw_below_drewN | apply below_drew1) | exact HB.out))) hk), Kd.fresh' (Kd.R_lt (by (with_reducible repeat (first | apply Kd.R_alloc | apply Kd.R_drewN | apply Kd.R_drew)); exact HO343.out)) k_ hk⟩)); (case aO => exact (by (with_reducible repeat (first | apply Kd.N_alloc | apply Kd.N_drewN | apply Kd.N_drew)); exact Kd.N_mono HO_5.out (fun _ hk => ⟨hk.1.1, hk.1.2⟩))); (case aS => exact (below_size (by repeat (first | (with_reducible first | exact HB.out | apply below_alloc | apply pw_below_drewN | apply below_drew1) | exact HB.out)))); (case aL => have := LMc17.out; omega); intro v348 w22 ho hb hg hat; rw [← Ny347.out] at ho; have n0_ := Aside0.mk (Kd.R_over' (by (with_reducible repeat (first | apply Kd.R_alloc | apply Kd.R_drewN | apply Kd.R_drew)); exact HO343.out) (Kd.N_typed (by (with_reducible repeat (first | apply Kd.N_alloc | apply Kd.N_drewN | apply Kd.N_drew)); exact HO_5.out)) (by decide) hg); have n1_ := Aside0.mk (Kd.N_afterv (ok := (fun k_ => (w.heap.size ≤ k_) ∧ some k_ ≠ (.slice Ao20 y341.length co20 : Value).ownBlock)) (by (with_reducible repeat (first | apply Kd.N_alloc | apply Kd.N_drewN | apply Kd.N_drew)); exact Kd.N_mono HO346.out (fun _ hk => ⟨⟨hk.1, hk.2.2⟩, hk.2.1⟩)) hg hat); have n2_ := Aside0.mk (hb); have n3_ := Aside0.mk (ho); clear HO343; clear HO346; clear HB; clear HO_5; have HO343 := n0_; have HO346 := n1_; have HB := n2_; have HO349 := n3_; clear n0_ n1_ n2_ n3_; clear ho hb hg hat))
        go_roundg k1
        case measure => have := HK1.out; omega
        case rel => exact ⟨(y347), (wrap64 (x6_1 + 1)), (by first | rfl | (simp; done) | (simp [*]; done)), H', ⟨by have := HK1.out; omega⟩, ⟨by (with_reducible repeat (first | apply Kd.N_alloc | apply Kd.N_drewN | apply Kd.N_drew)); exact Kd.N_mono HO349.out (fun _ hk => hk.1)⟩, ⟨pb HB⟩⟩
       ·rw [if_neg c17] at H
        exact absurd H (by simp)
      ·rw [if_neg c15] at H
       exact absurd H (by simp)
    ·rw [if_neg c11] at H
     have c11b0 : decide (x6_1 < a0) = false := decide_eq_false c11
     clear c11
     obtain rfl := Option.some.inj H
     go_wp2
     go_ret
     exact ⟨_, by first | rfl | (simp [errW_none, errW_some] <;> rfl) | (simp [*, errW_none, errW_some] <;> rfl), by (with_reducible repeat (first | apply Kd.N_alloc | apply Kd.N_drewN | apply Kd.N_drew)); exact HO_5.out, pb HB⟩
end Go.Proofs.Ytjieacofpegmpaa.PD
end
section
namespace Go.Proofs.Ytjieacofpegmpaa.PD
open Go.RowKit Go.Proofs.YtjieacofpegmpaaW.PrintWords Go.Proofs.YtjieacofpegmpaaW.PrintLast Go.Proofs.YtjieacofpegmpaaW.PrintMore Go.Proofs.Ytjieacofpegmpaa.La
attribute [local go_sem] max2_int min2_int max_two min_two max_three min_three max_four min_four   -- for this text's walks alone
set_option linter.unusedVariables false
set_option linter.unusedSimpArgs false
def spec_BestDoor.l0 : Nat → List (S55) → List (List Int) → List Int → Int → Int → Option (List Int × Int × Int)
 | 0, _, _, _, _, _ => none
 | k + 1, x0, x5, x6, x7, x8 => if x8 < (x5.length : Int) then (if 0 ≤ x8 then ((spec_l07Waiting.f k x0 (rd_L6 x5 x8)).bind fun t363 => (if t363 < x7 then (spec_BestDoor.l0 k x0 x5 (rd_L6 x5 x8) t363 (wrap64 (x8 + 1))) else (spec_BestDoor.l0 k x0 x5 x6 x7 (wrap64 (x8 + 1))))) else (none)) else (some (x6, x7, 0))
def spec_BestDoor.f (k : Nat) (l0 : List (S55)) : Option (List Int × Int × Int) := (spec_l07Parties.f k l0).bind fun t350 => (if t350 = true then ((spec_l07Orders.f k (l0.length : Int) (([] : List Int))).bind fun t357 => (if 0 < (t357.length : Int) then ((spec_l07Waiting.f k l0 (rd_L6 t357 0)).bind fun t361 => (spec_BestDoor.l0 k l0 t357 (rd_L6 t357 0) t361 1)) else (none))) else (some ((([] : List Int)), 0, 1)))
theorem spec_BestDoor.mono_l : ∀ k, (∀ y0 y1 y2 y3 y4, LeO (spec_BestDoor.l0 k y0 y1 y2 y3 y4) (spec_BestDoor.l0 (k + 1) y0 y1 y2 y3 y4))
 | 0 => fun _ _ _ _ _ r h => by simp [spec_BestDoor.l0] at h
 | k + 1 => by
  have ih0 := spec_BestDoor.mono_l k
  ·intro y0 y1 y2 y3 y4
   unfold spec_BestDoor.l0
   repeat' first
   | (with_reducible exact ih0 _ _ _ _ _)
   | (with_reducible exact spec_l07Orders.mono _ _ _)
   | (with_reducible exact spec_l07Parties.mono _ _)
   | (with_reducible exact spec_l07Waiting.mono _ _ _)
   | (with_reducible exact LeO.refl _)
   | (with_reducible exact LeO.none _)
   | (with_reducible refine LeO.ite ?_ ?_)
   | (with_reducible refine LeO.bind ?_ (fun _ => ?_))
   | exact ih0 _ _ _ _ _
   | exact spec_l07Orders.mono _ _ _
   | exact spec_l07Parties.mono _ _
   | exact spec_l07Waiting.mono _ _ _
   | exact LeO.none _
   | refine LeO.ite ?_ ?_
   | refine LeO.bind ?_ (fun _ => ?_)
theorem spec_BestDoor.mono : ∀ a0 k, LeO (spec_BestDoor.f k a0) (spec_BestDoor.f (k + 1) a0) := by
 intro a0 k
 have ih0 := spec_BestDoor.mono_l k
 unfold spec_BestDoor.f
 repeat' first
   | (with_reducible exact ih0 _ _ _ _ _)
   | (with_reducible exact spec_l07Orders.mono _ _ _)
   | (with_reducible exact spec_l07Parties.mono _ _)
   | (with_reducible exact spec_l07Waiting.mono _ _ _)
   | (with_reducible exact LeO.refl _)
   | (with_reducible exact LeO.none _)
   | (with_reducible refine LeO.ite ?_ ?_)
   | (with_reducible refine LeO.bind ?_ (fun _ => ?_))
   | exact ih0 _ _ _ _ _
   | exact spec_l07Orders.mono _ _ _
   | exact spec_l07Parties.mono _ _
   | exact spec_l07Waiting.mono _ _ _
   | exact LeO.none _
   | refine LeO.ite ?_ ?_
   | refine LeO.bind ?_ (fun _ => ?_)
set_option maxHeartbeats 8000000 in
set_option maxRecDepth 100000 in
theorem spec_BestDoor.calls (k : Nat) (A0 : Option Addr) (c0 : Nat) (l0 : List (S55)) (r1 : List Int) (r2 : Int) (r3 : Int) (w : World) (hr0 : Kd.C k55 w A0 l0.length l0) (hc0 : l0.length ≤ c0) (h : spec_BestDoor.f k l0 = some (r1, r2, r3)) :
  Calls Try.prog 30 #[.slice A0 l0.length c0] w fun e w' => ∃ v0_ : Value, e = .returned (.tuple #[v0_, .int .i64 r2, .int .i64 r3]) ∧ Kd.V (Kd.int .i64) 2 w' w.heap.size (fun k_ => (w.heap.size ≤ k_)) v0_ r1 ∧ Below w.heap.size w w' := by
 have HR0 := Aside0.mk hr0
 have HC0 := Aside0.mk hc0
 clear hr0 hc0
 have HB := Aside0.mk (Below.refl w.heap.size w)
 have H : ((spec_l07Parties.f k l0).bind fun t350 => (if t350 = true then ((spec_l07Orders.f k (l0.length : Int) (([] : List Int))).bind fun t357 => (if 0 < (t357.length : Int) then ((spec_l07Waiting.f k l0 (rd_L6 t357 0)).bind fun t361 => (spec_BestDoor.l0 k l0 t357 (rd_L6 t357 0) t361 1)) else (none))) else (some ((([] : List Int)), 0, 1)))) = some (r1, r2, r3) := h
 clear h
 replace H := Option.bind_eq_some_iff.mp H
 obtain ⟨t350, A20, H⟩ := H
 replace H : (if t350 = true then ((spec_l07Orders.f k (l0.length : Int) (([] : List Int))).bind fun t357 => (if 0 < (t357.length : Int) then ((spec_l07Waiting.f k l0 (rd_L6 t357 0)).bind fun t361 => (spec_BestDoor.l0 k l0 t357 (rd_L6 t357 0) t361 1)) else (none))) else (some ((([] : List Int)), 0, 1))) = some (r1, r2, r3) := H
 have A2 := Aside0.mk A20
 clear A20
 by_cases c3 : t350 = true
 ·subst c3
  have H1 : ((spec_l07Orders.f k (l0.length : Int) (([] : List Int))).bind fun t357 => (if 0 < (t357.length : Int) then ((spec_l07Waiting.f k l0 (rd_L6 t357 0)).bind fun t361 => (spec_BestDoor.l0 k l0 t357 (rd_L6 t357 0) t361 1)) else (none))) = some (r1, r2, r3) := by rw [if_pos rfl] at H; exact H
  clear H
  have H := H1
  clear H1
  obtain ⟨y354, hy354⟩ : ∃ y_ : List Int, y_ = (([] : List Int)) := ⟨_, rfl⟩
  replace H : ((spec_l07Orders.f k (l0.length : Int) y354).bind fun t357 => (if 0 < (t357.length : Int) then ((spec_l07Waiting.f k l0 (rd_L6 t357 0)).bind fun t361 => (spec_BestDoor.l0 k l0 t357 (rd_L6 t357 0) t361 1)) else (none))) = some (r1, r2, r3) := by first | (rw [hy354]; with_reducible exact H) | (have H2_ := (Option.bind_some _ _).symm.trans H; rw [hy354]; with_reducible exact H2_) | (have H2_ := (Option.bind_some _ _).symm.trans H; with_reducible exact H2_) | with_reducible exact H | (rw [hy354]; exact H) | exact H
  have Ny354 := Aside0.mk hy354
  clear hy354
  replace H := Option.bind_eq_some_iff.mp H
  obtain ⟨t357, A40, H⟩ := H
  replace H : (if 0 < (t357.length : Int) then ((spec_l07Waiting.f k l0 (rd_L6 t357 0)).bind fun t361 => (spec_BestDoor.l0 k l0 t357 (rd_L6 t357 0) t361 1)) else (none)) = some (r1, r2, r3) := H
  have A4 := Aside0.mk A40
  clear A40
  by_cases c5 : 0 < (t357.length : Int)
  ·rw [if_pos c5] at H
   have c5b0 : decide (0 < (t357.length : Int)) = true := decide_eq_true c5
   have c5b1 : decide (0 < t357.length) = true := decide_eq_true (by omega)
   clear c5
   replace H := Option.bind_eq_some_iff.mp H
   obtain ⟨t361, A60, H⟩ := H
   replace H : (spec_BestDoor.l0 k l0 t357 (rd_L6 t357 0) t361 1) = some (r1, r2, r3) := H
   have A6 := Aside0.mk A60
   clear A60
   have H' := Aside0.mk H
   clear H
   go_enter Try.func30, Try.ntmps30
   go_wp2_with (first | ((with_reducible refine gate_callee (f := 35) rfl ?_); refine goesL_ (some 11) rfl rfl Try.func35 (by kernel_rfl) rfl #[.slice A0 l0.length c0] rfl (by (try simp only [List.map_toArray, List.map_cons, List.map_nil]); first | done | rfl | (simp only [List.length_drop, List.length_take]; rfl)) ?_; (with_reducible refine (spec_l07Parties.calls k _ _ l0 true _ ?side1 ?side2 A2.out).mono ?_); (case side1 => repeat (first | exact HR0.out | (with_reducible refine Kd.C_alloc ?_ _) | (with_reducible refine Kd.C_drewN ?_ _) | (with_reducible refine Kd.C_drew ?_))); (case side2 => exact HC0.out); rintro e w' ⟨rfl, ⟨nd, rfl⟩⟩; refine ⟨_, rfl, ?_⟩) | ((with_reducible refine gate_dst (N := 16) rfl ?_); refine Kd.R_lit (Kd.int .i64) _ 2 ?hg (N := 16) ?hd (xs := ([] : List Int)) (inner := []) (ok := fun _ => True) (okp := fun _ => True) ?hr ?hp (fun _ hk => hk) trivial (Below.refl _ _) (Nat.le_refl _) (by simp) ?_; (case hd => rfl); (case hg => rfl); (case hr => first | (go_simp; done) | (go_simp; rfl)); (case hp => exact (Reps.none _ _)); intro v355 w7 ho8 hb hg_ hnew_; clear hg_ hnew_; (first | rw [← Ny354.out] at ho8 | (simp only [Int.reduceToNat] at ho8; rw [← Ny354.out] at ho8)); have n0_ := Aside0.mk (Kd.R_lower (Kd.R_newM (M := fun k_ => (w.heap.size ≤ k_)) ho8 (below_size (by repeat (first | (with_reducible first | exact HB.out | apply below_alloc | apply pw_below_drewN | apply below_drew1) | exact HB.out))) (fun k_ h_ => h_)) (below_size (by repeat (first | (with_reducible first | exact HB.out | apply below_alloc | apply pw_below_drewN | apply below_drew1) | exact HB.out)))); have n1_ := bst HB hb; clear HB; have HO356 := n0_; have HB := n1_; clear n0_ n1_; clear hb ho8; obtain ⟨Ao9, co9, eo9⟩ := Kd.R_slice HO356.out; subst eo9) | ((with_reducible refine gate_callee (f := 64) rfl ?_); refine goesL_ (some 17) rfl rfl Try.func64 (by kernel_rfl) rfl #[.int .i64 (l0.length : Int), .slice Ao9 y354.length co9] rfl (by (try simp only [List.map_toArray, List.map_cons, List.map_nil]); first | done | rfl | (simp only [List.length_drop, List.length_take]; rfl)) ?_; (with_reducible refine (spec_l07Orders.calls k (l0.length : Int) _ _ y354 t357 _ ?side1 ?side2 A4.out).mono ?_); (case side1 => repeat (first | exact (Kd.R_reads' HO356.out).2.2 | (with_reducible refine Kd.C_alloc ?_ _) | (with_reducible refine Kd.C_drewN ?_ _) | (with_reducible refine Kd.C_drew ?_))); (case side2 => exact (Kd.R_reads' HO356.out).2.1); rintro e w10 ⟨v358, rfl, ho0, hb⟩; refine ⟨_, rfl, ?_⟩; have n0_ := krb HO356 hb; have n1_ := Aside0.mk (Kd.N_lower (Kd.N_mono (ok' := fun k_ => (w.heap.size ≤ k_) ∧ some k_ ≠ (.slice Ao9 y354.length co9 : Value).ownBlock) ho0 (fun k_ hk_ => ⟨(Nat.le_trans (below_size (by repeat (first | (with_reducible first | exact HB.out | apply below_alloc | apply pw_below_drewN | apply below_drew1) | exact HB.out))) hk_), (Kd.fresh' (Kd.R_lt (by (with_reducible repeat (first | apply Kd.R_alloc | apply Kd.R_drewN | apply Kd.R_drew)); exact HO356.out)) k_ hk_)⟩)) (below_size (by repeat (first | (with_reducible first | exact HB.out | apply below_alloc | apply pw_below_drewN | apply below_drew1) | exact HB.out)))); have n2_ := bst HB hb; clear HO356; clear HB; have HO356 := n0_; have HO359 := n1_; have HB := n2_; clear n0_ n1_ n2_; (try clear hb); (try clear hb2); (try clear hk); (try clear hi); (try clear ho0); obtain ⟨Ao11, co11, eo11⟩ := Kd.N_slice HO359.out; subst eo11; have p360 : 0 ≤ (0 : Int) := (by omega); have q360 : 0 < (t357.length : Int) := of_decide_eq_true (by first | (with_reducible assumption) | assumption); obtain ⟨ad360, A360_0, c360_0, e360, hx360_0, hl360_0, hi360_0⟩ := at_L6 (Kd.N_reads' HO359.out).2.2 0 p360 q360; cases e360; obtain ⟨ce360, hce360, hMe360, hcc360⟩ := Kd.N_get HO359.out [] 0 p360 (by first | exact q360 | exact of_decide_eq_true (by first | (with_reducible assumption) | assumption) | (have e_ := (Kd.N_reads' HO359.out).1; omega)); obtain ⟨ua360_0, uc360_0, rfl, ul360_0, ge360_0⟩ := Kd.FK_slice_open hMe360; have hv360_0 := hcc360 0 _ rfl; rw [Nat.add_zero, show ((Kd.slice 2 (Kd.int .i64))).sz = 1 from rfl, Nat.mul_one] at hv360_0; replace hv360_0 := Option.some.inj (hv360_0.symm.trans hx360_0); injection hv360_0 with hva_ hvn_ hvc_; rw [hva_] at ge360_0; rw [hvc_] at ul360_0; have HL360_0 := Aside0.mk (show Kd.V (Kd.int .i64) 2 _ w.heap.size _ _ (rd_L6 t357 0) from Kd.V_mk ul360_0 ge360_0); clear hva_ hvn_ hvc_ ge360_0 ul360_0; clear hcc360 hce360; have qi360 : (0 < t357.length) = True := eq_true (by omega); (try rw [show ((0 : Int)).toNat = 0 from rfl] at hx360_0); (try rw [Addr.add_zero'] at hx360_0); have HR360_0 := Aside0.mk hi360_0; have HC360_0 := Aside0.mk hl360_0; clear hi360_0 hl360_0; replace p360 := eq_true p360; replace q360 := eq_true q360) | ((with_reducible refine gate_callee (f := 61) rfl ?_); refine goesL_ (some 23) rfl rfl Try.func61 (by kernel_rfl) rfl #[.slice A0 l0.length c0, .slice A360_0 (rd_L6 t357 0).length c360_0] rfl (by (try simp only [List.map_toArray, List.map_cons, List.map_nil]); first | done | rfl | (simp only [List.length_drop, List.length_take]; rfl)) ?_; (with_reducible refine (spec_l07Waiting.calls k _ _ l0 _ _ (rd_L6 t357 0) t361 _ ?side1 ?side2 ?side3 ?side4 A6.out).mono ?_); (case side1 => repeat (first | exact (Kd.C_below HR0.out HB.out) | (with_reducible refine Kd.C_alloc ?_ _) | (with_reducible refine Kd.C_drewN ?_ _) | (with_reducible refine Kd.C_drew ?_))); (case side2 => exact HC0.out); (case side3 => repeat (first | exact (by repeat (first | (with_reducible exact HR360_0.out) | (with_reducible refine Kd.C_alloc ?_ _) | (with_reducible refine Kd.C_drewN ?_ _) | (with_reducible refine Kd.C_drew ?_) | exact HR360_0.out)) | (with_reducible refine Kd.C_alloc ?_ _) | (with_reducible refine Kd.C_drewN ?_ _) | (with_reducible refine Kd.C_drew ?_))); (case side4 => exact HC360_0.out); rintro e w12 ⟨rfl, hb⟩; refine ⟨_, rfl, ?_⟩; have n0_ := krb HO356 hb; have n1_ := Aside0.mk (Kd.N_below (by (with_reducible repeat (first | apply Kd.N_alloc | apply Kd.N_drewN | apply Kd.N_drew)); exact HO359.out) hb); have n2_ := Aside0.mk (Kd.V_below (by (with_reducible repeat (first | apply Kd.V_alloc | apply Kd.V_drewN | apply Kd.V_drew)); exact HL360_0.out) hb); have n3_ := Aside0.mk (Kd.C_below (by repeat (first | (with_reducible exact HR360_0.out) | (with_reducible refine Kd.C_alloc ?_ _) | (with_reducible refine Kd.C_drewN ?_ _) | (with_reducible refine Kd.C_drew ?_) | exact HR360_0.out)) hb); have n4_ := bst HB hb; clear HO356; clear HO359; clear HL360_0; clear HR360_0; clear HB; have HO356 := n0_; have HO359 := n1_; have HL360_0 := n2_; have HR360_0 := n3_; have HB := n4_; clear n0_ n1_ n2_ n3_ n4_; (try clear hb); (try clear hb2); (try clear hk); (try clear hi)))
   go_loopg [6, 7, 8] k (fun kq v6 v7 v8 w' => ∃ (x6_1 : List Int) (x7_1 : Int) (x8_1 : Int), v7 = .int .i64 x7_1 ∧ v8 = .int .i64 x8_1 ∧ Aside0 (spec_BestDoor.l0 kq l0 t357 x6_1 x7_1 x8_1 = some (r1, r2, r3)) ∧ Aside0 (kq ≤ k) ∧ Aside0 (Kd.N (Kd.slice 2 (Kd.int .i64)) 24 w' w.heap.size (fun k_ => (w.heap.size ≤ k_)) (.slice (some ad360) t357.length co11) t357) ∧ Aside0 (Kd.V (Kd.int .i64) 2 w' w.heap.size (fun k_ => (w.heap.size ≤ k_) ∧ some k_ ≠ ((.slice (some ad360) t357.length co11) : Value).ownBlock) v6 x6_1) ∧ Aside0 (Kd.C (Kd.int .i64) w' A360_0 (rd_L6 t357 0).length (rd_L6 t357 0)) ∧ Aside0 (Below w.heap.size w w'))
   case atStart => exact ⟨(rd_L6 t357 0), (t361), (1), (by first | rfl | (simp; done) | (simp [*]; done)), (by first | rfl | (simp; done) | (simp [*]; done)), H', ⟨Nat.le_refl _⟩, ⟨by (with_reducible repeat (first | apply Kd.N_alloc | apply Kd.N_drewN | apply Kd.N_drew)); exact Kd.N_mono HO359.out (fun _ hk => hk.1)⟩, ⟨by (with_reducible repeat (first | apply Kd.V_alloc | apply Kd.V_drewN | apply Kd.V_drew)); exact Kd.V_mono HL360_0.out (fun _ hk => ⟨hk.1.1, hk.2⟩)⟩, ⟨by repeat (first | (with_reducible exact HR360_0.out) | (with_reducible refine Kd.C_alloc ?_ _) | (with_reducible refine Kd.C_drewN ?_ _) | (with_reducible refine Kd.C_drew ?_) | exact HR360_0.out)⟩, ⟨pb HB⟩⟩
   case round =>
    clear H'
    try clear p2
    try clear c3
    try clear p3
    try clear q3
    try clear hx3
    try clear qi3
    try clear c5
    try clear c5b0
    try clear c5b1
    try clear c6
    try clear hx360_0
    try clear p360
    try clear q360
    obtain ⟨x6_1, x7_1, x8_1, rfl, rfl, HA, HK1, HO_5, HO_6, HR360_0, HB⟩ := hrel
    cases gk with
    | zero => exact absurd HA.out (by simp [spec_BestDoor.l0])
    | succ k1 =>
     have H := HA.out
     clear HA
     simp only [spec_BestDoor.l0] at H
     by_cases c13 : x8_1 < (t357.length : Int)
     ·rw [if_pos c13] at H
      have c13b0 : decide (x8_1 < (t357.length : Int)) = true := decide_eq_true c13
      clear c13
      by_cases c14 : 0 ≤ x8_1
      ·rw [if_pos c14] at H
       have c14b0 : decide (0 ≤ x8_1) = true := decide_eq_true c14
       clear c14
       replace H := Option.bind_eq_some_iff.mp H
       obtain ⟨t363, A150, H⟩ := H
       replace H : (if t363 < x7_1 then (spec_BestDoor.l0 k1 l0 t357 (rd_L6 t357 x8_1) t363 (wrap64 (x8_1 + 1))) else (spec_BestDoor.l0 k1 l0 t357 x6_1 x7_1 (wrap64 (x8_1 + 1)))) = some (r1, r2, r3) := H
       have A15 := Aside0.mk A150
       clear A150
       by_cases c16 : t363 < x7_1
       ·rw [if_pos c16] at H
        have c16b0 : decide (t363 < x7_1) = true := decide_eq_true c16
        clear c16
        have H' := Aside0.mk H
        clear H
        have p362 : 0 ≤ (x8_1 : Int) := of_decide_eq_true (by first | (with_reducible assumption) | assumption)
        have q362 : x8_1 < (t357.length : Int) := of_decide_eq_true (by first | (with_reducible assumption) | assumption)
        obtain ⟨ad362, A362_0, c362_0, e362, hx362_0, hl362_0, hi362_0⟩ := at_L6 (Kd.N_reads' HO_5.out).2.2 x8_1 p362 q362
        obtain rfl : ad360 = ad362 := (by injection e362)
        obtain ⟨ce362, hce362, hMe362, hcc362⟩ := Kd.N_get HO_5.out [] x8_1 p362 (by first | exact q362 | exact of_decide_eq_true (by first | (with_reducible assumption) | assumption) | (have e_ := (Kd.N_reads' HO_5.out).1; omega))
        obtain ⟨ua362_0, uc362_0, rfl, ul362_0, ge362_0⟩ := Kd.FK_slice_open hMe362
        have hv362_0 := hcc362 0 _ rfl
        rw [Nat.add_zero, show ((Kd.slice 2 (Kd.int .i64))).sz = 1 from rfl, Nat.mul_one] at hv362_0
        replace hv362_0 := Option.some.inj (hv362_0.symm.trans hx362_0)
        injection hv362_0 with hva_ hvn_ hvc_
        rw [hva_] at ge362_0
        rw [hvc_] at ul362_0
        have HL362_0 := Aside0.mk (show Kd.V (Kd.int .i64) 2 _ w.heap.size _ _ (rd_L6 t357 x8_1) from Kd.V_mk ul362_0 ge362_0)
        clear hva_ hvn_ hvc_ ge362_0 ul362_0
        clear hcc362 hce362
        have HR362_0 := Aside0.mk hi362_0
        have HC362_0 := Aside0.mk hl362_0
        clear hi362_0 hl362_0
        replace p362 := eq_true p362
        replace q362 := eq_true q362
        go_wp2_with (first | ((with_reducible refine gate_callee (f := 61) rfl ?_); refine goesL_ (some 35) rfl rfl Try.func61 (by kernel_rfl) rfl #[.slice A0 l0.length c0, .slice A362_0 (rd_L6 t357 x8_1).length c362_0] rfl (by (try simp only [List.map_toArray, List.map_cons, List.map_nil]); first | done | rfl | (simp only [List.length_drop, List.length_take]; rfl)) ?_; (with_reducible refine (spec_l07Waiting.calls k1 _ _ l0 _ _ (rd_L6 t357 x8_1) t363 _ ?side1 ?side2 ?side3 ?side4 A15.out).mono ?_); (case side1 => repeat (first | exact (Kd.C_below HR0.out HB.out) | (with_reducible refine Kd.C_alloc ?_ _) | (with_reducible refine Kd.C_drewN ?_ _) | (with_reducible refine Kd.C_drew ?_))); (case side2 => exact HC0.out); (case side3 => repeat (first | exact (by repeat (first | (with_reducible exact HR362_0.out) | (with_reducible refine Kd.C_alloc ?_ _) | (with_reducible refine Kd.C_drewN ?_ _) | (with_reducible refine Kd.C_drew ?_) | exact HR362_0.out)) | (with_reducible refine Kd.C_alloc ?_ _) | (with_reducible refine Kd.C_drewN ?_ _) | (with_reducible refine Kd.C_drew ?_))); (case side4 => exact HC362_0.out); rintro e w17 ⟨rfl, hb⟩; refine ⟨_, rfl, ?_⟩; have n0_ := Aside0.mk (Kd.N_below (by (with_reducible repeat (first | apply Kd.N_alloc | apply Kd.N_drewN | apply Kd.N_drew)); exact HO_5.out) hb); have n1_ := Aside0.mk (Kd.V_below (by (with_reducible repeat (first | apply Kd.V_alloc | apply Kd.V_drewN | apply Kd.V_drew)); exact HO_6.out) hb); have n2_ := Aside0.mk (Kd.V_below (by (with_reducible repeat (first | apply Kd.V_alloc | apply Kd.V_drewN | apply Kd.V_drew)); exact HL362_0.out) hb); have n3_ := Aside0.mk (Kd.C_below (by repeat (first | (with_reducible exact HR360_0.out) | (with_reducible refine Kd.C_alloc ?_ _) | (with_reducible refine Kd.C_drewN ?_ _) | (with_reducible refine Kd.C_drew ?_) | exact HR360_0.out)) hb); have n4_ := Aside0.mk (Kd.C_below (by repeat (first | (with_reducible exact HR362_0.out) | (with_reducible refine Kd.C_alloc ?_ _) | (with_reducible refine Kd.C_drewN ?_ _) | (with_reducible refine Kd.C_drew ?_) | exact HR362_0.out)) hb); have n5_ := bst HB hb; clear HO_5; clear HO_6; clear HL362_0; clear HR360_0; clear HR362_0; clear HB; have HO_5 := n0_; have HO_6 := n1_; have HL362_0 := n2_; have HR360_0 := n3_; have HR362_0 := n4_; have HB := n5_; clear n0_ n1_ n2_ n3_ n4_ n5_; (try clear hb); (try clear hb2); (try clear hk); (try clear hi); have p364 : 0 ≤ (x8_1 : Int) := of_decide_eq_true (by first | (with_reducible assumption) | assumption); have q364 : x8_1 < (t357.length : Int) := of_decide_eq_true (by first | (with_reducible assumption) | assumption); obtain ⟨ad364, A364_0, c364_0, e364, hx364_0, hl364_0, hi364_0⟩ := at_L6 (Kd.N_reads' HO_5.out).2.2 x8_1 p364 q364; obtain rfl : ad360 = ad364 := (by injection e364); obtain ⟨ce364, hce364, hMe364, hcc364⟩ := Kd.N_get HO_5.out [] x8_1 p364 (by first | exact q364 | exact of_decide_eq_true (by first | (with_reducible assumption) | assumption) | (have e_ := (Kd.N_reads' HO_5.out).1; omega)); obtain ⟨ua364_0, uc364_0, rfl, ul364_0, ge364_0⟩ := Kd.FK_slice_open hMe364; have hv364_0 := hcc364 0 _ rfl; rw [Nat.add_zero, show ((Kd.slice 2 (Kd.int .i64))).sz = 1 from rfl, Nat.mul_one] at hv364_0; replace hv364_0 := Option.some.inj (hv364_0.symm.trans hx364_0); injection hv364_0 with hva_ hvn_ hvc_; rw [hva_] at ge364_0; rw [hvc_] at ul364_0; have HL364_0 := Aside0.mk (show Kd.V (Kd.int .i64) 2 _ w.heap.size _ _ (rd_L6 t357 x8_1) from Kd.V_mk ul364_0 ge364_0); clear hva_ hvn_ hvc_ ge364_0 ul364_0; clear hcc364 hce364; have HR364_0 := Aside0.mk hi364_0; have HC364_0 := Aside0.mk hl364_0; clear hi364_0 hl364_0; replace p364 := eq_true p364; replace q364 := eq_true q364))
        go_roundg k1
        case measure => have := HK1.out; omega
        case rel => exact ⟨(rd_L6 t357 x8_1), (t363), (wrap64 (x8_1 + 1)), (by first | rfl | (simp; done) | (simp [*]; done)), (by first | rfl | (simp; done) | (simp [*]; done)), H', ⟨by have := HK1.out; omega⟩, ⟨by (with_reducible repeat (first | apply Kd.N_alloc | apply Kd.N_drewN | apply Kd.N_drew)); exact HO_5.out⟩, ⟨by (with_reducible repeat (first | apply Kd.V_alloc | apply Kd.V_drewN | apply Kd.V_drew)); exact HL364_0.out⟩, ⟨by repeat (first | (with_reducible exact HR360_0.out) | (with_reducible refine Kd.C_alloc ?_ _) | (with_reducible refine Kd.C_drewN ?_ _) | (with_reducible refine Kd.C_drew ?_) | exact HR360_0.out)⟩, ⟨pb HB⟩⟩
       ·rw [if_neg c16] at H
        have c16b0 : decide (t363 < x7_1) = false := decide_eq_false c16
        clear c16
        have H' := Aside0.mk H
        clear H
        have p362 : 0 ≤ (x8_1 : Int) := of_decide_eq_true (by first | (with_reducible assumption) | assumption)
        have q362 : x8_1 < (t357.length : Int) := of_decide_eq_true (by first | (with_reducible assumption) | assumption)
        obtain ⟨ad362, A362_0, c362_0, e362, hx362_0, hl362_0, hi362_0⟩ := at_L6 (Kd.N_reads' HO_5.out).2.2 x8_1 p362 q362
        obtain rfl : ad360 = ad362 := (by injection e362)
        obtain ⟨ce362, hce362, hMe362, hcc362⟩ := Kd.N_get HO_5.out [] x8_1 p362 (by first | exact q362 | exact of_decide_eq_true (by first | (with_reducible assumption) | assumption) | (have e_ := (Kd.N_reads' HO_5.out).1; omega))
        obtain ⟨ua362_0, uc362_0, rfl, ul362_0, ge362_0⟩ := Kd.FK_slice_open hMe362
        have hv362_0 := hcc362 0 _ rfl
        rw [Nat.add_zero, show ((Kd.slice 2 (Kd.int .i64))).sz = 1 from rfl, Nat.mul_one] at hv362_0
        replace hv362_0 := Option.some.inj (hv362_0.symm.trans hx362_0)
        injection hv362_0 with hva_ hvn_ hvc_
        rw [hva_] at ge362_0
        rw [hvc_] at ul362_0
        have HL362_0 := Aside0.mk (show Kd.V (Kd.int .i64) 2 _ w.heap.size _ _ (rd_L6 t357 x8_1) from Kd.V_mk ul362_0 ge362_0)
        clear hva_ hvn_ hvc_ ge362_0 ul362_0
        clear hcc362 hce362
        have HR362_0 := Aside0.mk hi362_0
        have HC362_0 := Aside0.mk hl362_0
        clear hi362_0 hl362_0
        replace p362 := eq_true p362
        replace q362 := eq_true q362
        go_wp2_with (first | ((with_reducible refine gate_callee (f := 61) rfl ?_); refine goesL_ (some 35) rfl rfl Try.func61 (by kernel_rfl) rfl #[.slice A0 l0.length c0, .slice A362_0 (rd_L6 t357 x8_1).length c362_0] rfl (by (try simp only [List.map_toArray, List.map_cons, List.map_nil]); first | done | rfl | (simp only [List.length_drop, List.length_take]; rfl)) ?_; (with_reducible refine (spec_l07Waiting.calls k1 _ _ l0 _ _ (rd_L6 t357 x8_1) t363 _ ?side1 ?side2 ?side3 ?side4 A15.out).mono ?_); (case side1 => repeat (first | exact (Kd.C_below HR0.out HB.out) | (with_reducible refine Kd.C_alloc ?_ _) | (with_reducible refine Kd.C_drewN ?_ _) | (with_reducible refine Kd.C_drew ?_))); (case side2 => exact HC0.out); (case side3 => repeat (first | exact (by repeat (first | (with_reducible exact HR362_0.out) | (with_reducible refine Kd.C_alloc ?_ _) | (with_reducible refine Kd.C_drewN ?_ _) | (with_reducible refine Kd.C_drew ?_) | exact HR362_0.out)) | (with_reducible refine Kd.C_alloc ?_ _) | (with_reducible refine Kd.C_drewN ?_ _) | (with_reducible refine Kd.C_drew ?_))); (case side4 => exact HC362_0.out); rintro e w18 ⟨rfl, hb⟩; refine ⟨_, rfl, ?_⟩; have n0_ := Aside0.mk (Kd.N_below (by (with_reducible repeat (first | apply Kd.N_alloc | apply Kd.N_drewN | apply Kd.N_drew)); exact HO_5.out) hb); have n1_ := Aside0.mk (Kd.V_below (by (with_reducible repeat (first | apply Kd.V_alloc | apply Kd.V_drewN | apply Kd.V_drew)); exact HO_6.out) hb); have n2_ := Aside0.mk (Kd.V_below (by (with_reducible repeat (first | apply Kd.V_alloc | apply Kd.V_drewN | apply Kd.V_drew)); exact HL362_0.out) hb); have n3_ := Aside0.mk (Kd.C_below (by repeat (first | (with_reducible exact HR360_0.out) | (with_reducible refine Kd.C_alloc ?_ _) | (with_reducible refine Kd.C_drewN ?_ _) | (with_reducible refine Kd.C_drew ?_) | exact HR360_0.out)) hb); have n4_ := Aside0.mk (Kd.C_below (by repeat (first | (with_reducible exact HR362_0.out) | (with_reducible refine Kd.C_alloc ?_ _) | (with_reducible refine Kd.C_drewN ?_ _) | (with_reducible refine Kd.C_drew ?_) | exact HR362_0.out)) hb); have n5_ := bst HB hb; clear HO_5; clear HO_6; clear HL362_0; clear HR360_0; clear HR362_0; clear HB; have HO_5 := n0_; have HO_6 := n1_; have HL362_0 := n2_; have HR360_0 := n3_; have HR362_0 := n4_; have HB := n5_; clear n0_ n1_ n2_ n3_ n4_ n5_; (try clear hb); (try clear hb2); (try clear hk); (try clear hi)))
        go_roundg k1
        case measure => have := HK1.out; omega
        case rel => exact ⟨(x6_1), (x7_1), (wrap64 (x8_1 + 1)), (by first | rfl | (simp; done) | (simp [*]; done)), (by first | rfl | (simp; done) | (simp [*]; done)), H', ⟨by have := HK1.out; omega⟩, ⟨by (with_reducible repeat (first | apply Kd.N_alloc | apply Kd.N_drewN | apply Kd.N_drew)); exact HO_5.out⟩, ⟨by (with_reducible repeat (first | apply Kd.V_alloc | apply Kd.V_drewN | apply Kd.V_drew)); exact HO_6.out⟩, ⟨by repeat (first | (with_reducible exact HR360_0.out) | (with_reducible refine Kd.C_alloc ?_ _) | (with_reducible refine Kd.C_drewN ?_ _) | (with_reducible refine Kd.C_drew ?_) | exact HR360_0.out)⟩, ⟨pb HB⟩⟩
      ·rw [if_neg c14] at H
       exact absurd H (by simp)
     ·rw [if_neg c13] at H
      have c13b0 : decide (x8_1 < (t357.length : Int)) = false := decide_eq_false c13
      clear c13
      simp only [Option.some.injEq, Prod.mk.injEq] at H
      obtain ⟨rfl, rfl, rfl⟩ := H
      go_wp2
      go_ret3
      exact ⟨_, by first | rfl | (simp [errW_none, errW_some] <;> rfl) | (simp [*, errW_none, errW_some] <;> rfl), by (with_reducible repeat (first | apply Kd.V_alloc | apply Kd.V_drewN | apply Kd.V_drew)); exact Kd.V_mono HO_6.out (fun _ hk => hk.1), pb HB⟩
  ·rw [if_neg c5] at H
   exact absurd H (by simp)
 ·replace c3 := Bool.eq_false_iff.mpr c3
  subst c3
  have H1 : (some ((([] : List Int)), 0, 1)) = some (r1, r2, r3) := by rw [if_neg (show ¬ (false = true) by decide)] at H; exact H
  clear H
  have H := H1
  clear H1
  obtain ⟨y351, hy351⟩ : ∃ y_ : List Int, y_ = (([] : List Int)) := ⟨_, rfl⟩
  replace H : (some (y351, 0, 1)) = some (r1, r2, r3) := by first | (rw [hy351]; with_reducible exact H) | (have H2_ := (Option.bind_some _ _).symm.trans H; rw [hy351]; with_reducible exact H2_) | (have H2_ := (Option.bind_some _ _).symm.trans H; with_reducible exact H2_) | with_reducible exact H | (rw [hy351]; exact H) | exact H
  have Ny351 := Aside0.mk hy351
  clear hy351
  simp only [Option.some.injEq, Prod.mk.injEq] at H
  obtain ⟨rfl, rfl, rfl⟩ := H
  go_enter Try.func30, Try.ntmps30
  go_wp2_with (first | ((with_reducible refine gate_callee (f := 35) rfl ?_); refine goesL_ (some 11) rfl rfl Try.func35 (by kernel_rfl) rfl #[.slice A0 l0.length c0] rfl (by (try simp only [List.map_toArray, List.map_cons, List.map_nil]); first | done | rfl | (simp only [List.length_drop, List.length_take]; rfl)) ?_; (with_reducible refine (spec_l07Parties.calls k _ _ l0 false _ ?side1 ?side2 A2.out).mono ?_); (case side1 => repeat (first | exact HR0.out | (with_reducible refine Kd.C_alloc ?_ _) | (with_reducible refine Kd.C_drewN ?_ _) | (with_reducible refine Kd.C_drew ?_))); (case side2 => exact HC0.out); rintro e w' ⟨rfl, ⟨nd, rfl⟩⟩; refine ⟨_, rfl, ?_⟩) | ((with_reducible refine gate_dst (N := 13) rfl ?_); refine Kd.R_lit (Kd.int .i64) _ 2 ?hg (N := 13) ?hd (xs := ([] : List Int)) (inner := []) (ok := fun _ => True) (okp := fun _ => True) ?hr ?hp (fun _ hk => hk) trivial (Below.refl _ _) (Nat.le_refl _) (by simp) ?_; (case hd => rfl); (case hg => rfl); (case hr => first | (go_simp; done) | (go_simp; rfl)); (case hp => exact (Reps.none _ _)); intro v352 w19 ho20 hb hg_ hnew_; clear hg_ hnew_; (first | rw [← Ny351.out] at ho20 | (simp only [Int.reduceToNat] at ho20; rw [← Ny351.out] at ho20)); have n0_ := Aside0.mk (Kd.R_lower (Kd.R_newM (M := fun k_ => (w.heap.size ≤ k_)) ho20 (below_size (by repeat (first | (with_reducible first | exact HB.out | apply below_alloc | apply pw_below_drewN | apply below_drew1) | exact HB.out))) (fun k_ h_ => h_)) (below_size (by repeat (first | (with_reducible first | exact HB.out | apply below_alloc | apply pw_below_drewN | apply below_drew1) | exact HB.out)))); have n1_ := bst HB hb; clear HB; have HO353 := n0_; have HB := n1_; clear n0_ n1_; clear hb ho20))
  go_ret3
  exact ⟨_, by first | rfl | (simp [errW_none, errW_some] <;> rfl) | (simp [*, errW_none, errW_some] <;> rfl), Kd.R_V (by (with_reducible repeat (first | apply Kd.R_alloc | apply Kd.R_drewN | apply Kd.R_drew)); exact Kd.R_mono HO353.out (fun _ hk => hk.1)), pb HB⟩
def spec_l00Same.l0 : Nat → List Int → List Int → Int → Option (Bool)
 | 0, _, _, _ => none
 | k + 1, x0, x1, x5 => if x5 < (x0.length : Int) then (if 0 ≤ x5 then (if x5 < (x1.length : Int) then (if (rd x0 x5) = (rd x1 x5) then (spec_l00Same.l0 k x0 x1 (wrap64 (x5 + 1))) else (some false)) else (none)) else (none)) else (some true)
def spec_l00Same.f (k : Nat) (l0 : List Int) (l1 : List Int) : Option (Bool) := if (l0.length : Int) = (l1.length : Int) then (spec_l00Same.l0 k l0 l1 0) else (some false)
theorem spec_l00Same.mono_l : ∀ k, (∀ y0 y1 y2, LeO (spec_l00Same.l0 k y0 y1 y2) (spec_l00Same.l0 (k + 1) y0 y1 y2))
 | 0 => fun _ _ _ r h => by simp [spec_l00Same.l0] at h
 | k + 1 => by
  have ih0 := spec_l00Same.mono_l k
  ·intro y0 y1 y2
   unfold spec_l00Same.l0
   repeat' first
   | (with_reducible exact ih0 _ _ _)
   | (with_reducible exact LeO.refl _)
   | (with_reducible exact LeO.none _)
   | (with_reducible refine LeO.ite ?_ ?_)
   | (with_reducible refine LeO.bind ?_ (fun _ => ?_))
   | exact ih0 _ _ _
   | exact LeO.none _
   | refine LeO.ite ?_ ?_
   | refine LeO.bind ?_ (fun _ => ?_)
theorem spec_l00Same.mono : ∀ a0 a1 k, LeO (spec_l00Same.f k a0 a1) (spec_l00Same.f (k + 1) a0 a1) := by
 intro a0 a1 k
 have ih0 := spec_l00Same.mono_l k
 unfold spec_l00Same.f
 repeat' first
   | (with_reducible exact ih0 _ _ _)
   | (with_reducible exact LeO.refl _)
   | (with_reducible exact LeO.none _)
   | (with_reducible refine LeO.ite ?_ ?_)
   | (with_reducible refine LeO.bind ?_ (fun _ => ?_))
   | exact ih0 _ _ _
   | exact LeO.none _
   | refine LeO.ite ?_ ?_
   | refine LeO.bind ?_ (fun _ => ?_)
set_option maxHeartbeats 8000000 in
set_option maxRecDepth 100000 in
theorem spec_l00Same.calls (k : Nat) (A0 : Option Addr) (c0 : Nat) (l0 : List Int) (A1 : Option Addr) (c1 : Nat) (l1 : List Int) (r : Bool) (w : World) (hr0 : Kd.C (Kd.int .i64) w A0 l0.length l0) (hc0 : l0.length ≤ c0) (hr1 : Kd.C (Kd.int .i64) w A1 l1.length l1) (hc1 : l1.length ≤ c1) (h : spec_l00Same.f k l0 l1 = some r) :
  Calls Try.prog 65 #[.slice A0 l0.length c0, .slice A1 l1.length c1] w fun e w' => e = .returned (.bool r) ∧ Drawn0 w w' := by
 have HR0 := Aside0.mk hr0
 have HC0 := Aside0.mk hc0
 clear hr0 hc0
 have HR1 := Aside0.mk hr1
 have HC1 := Aside0.mk hc1
 clear hr1 hc1
 have H : (if (l0.length : Int) = (l1.length : Int) then (spec_l00Same.l0 k l0 l1 0) else (some false)) = some r := h
 clear h
 by_cases c3 : (l0.length : Int) = (l1.length : Int)
 ·rw [if_pos c3] at H
  have c3b0 : ((l0.length : Int) == (l1.length : Int)) = true := beq_iff_eq.mpr c3
  have c3b1 : ((l0.length : Int) != (l1.length : Int)) = false := bne_eq_false_iff_eq.mpr c3
  have c3b2 : (l0.length == l1.length) = true := by first | simpa using c3 | (simp at c3 ⊢; omega)
  clear c3
  have H' := Aside0.mk H
  clear H
  go_enter Try.func65, Try.ntmps65
  go_wp2
  repeat (go_quiet (fail); try go_wp2)
  go_loopg [5] k (fun kq v5 w' => ∃ (x5_1 : Int), v5 = .int .i64 x5_1 ∧ Aside0 (spec_l00Same.l0 kq l0 l1 x5_1 = some r) ∧ Aside0 (kq ≤ k) ∧ Drawn0 w w')
  case atStart => exact ⟨(0), (by first | rfl | (simp; done) | (simp [*]; done)), H', ⟨Nat.le_refl _⟩, by repeat (first | exact Drawn0.refl _ | apply Drawn0.step)⟩
  case round =>
   clear H'
   try clear c1
   try clear p2
   try clear c3
   try clear c3b0
   try clear c3b1
   try clear c3b2
   obtain ⟨x5_1, rfl, HA, HK1, ⟨m1, rfl⟩⟩ := hrel
   cases gk with
   | zero => exact absurd HA.out (by simp [spec_l00Same.l0])
   | succ k1 =>
    have H := HA.out
    clear HA
    simp only [spec_l00Same.l0] at H
    by_cases c4 : x5_1 < (l0.length : Int)
    ·rw [if_pos c4] at H
     have c4b0 : decide (x5_1 < (l0.length : Int)) = true := decide_eq_true c4
     clear c4
     by_cases c5 : 0 ≤ x5_1
     ·rw [if_pos c5] at H
      have c5b0 : decide (0 ≤ x5_1) = true := decide_eq_true c5
      clear c5
      by_cases c6 : x5_1 < (l1.length : Int)
      ·rw [if_pos c6] at H
       have c6b0 : decide (x5_1 < (l1.length : Int)) = true := decide_eq_true c6
       clear c6
       by_cases c7 : (rd l0 x5_1) = (rd l1 x5_1)
       ·rw [if_pos c7] at H
        have c7b0 : ((rd l0 x5_1) == (rd l1 x5_1)) = true := beq_iff_eq.mpr c7
        have c7b1 : ((rd l0 x5_1) != (rd l1 x5_1)) = false := bne_eq_false_iff_eq.mpr c7
        clear c7
        have H' := Aside0.mk H
        clear H
        have p365 : 0 ≤ (x5_1 : Int) := of_decide_eq_true (by first | (with_reducible assumption) | assumption)
        have q365 : x5_1 < (l0.length : Int) := of_decide_eq_true (by first | (with_reducible assumption) | assumption)
        obtain ⟨ad365, e365, hx365_0⟩ := Kd.at_int HR0.out x5_1 p365 q365
        cases e365
        replace p365 := eq_true p365
        replace q365 := eq_true q365
        have p366 : 0 ≤ (x5_1 : Int) := of_decide_eq_true (by first | (with_reducible assumption) | assumption)
        have q366 : x5_1 < (l1.length : Int) := of_decide_eq_true (by first | (with_reducible assumption) | assumption)
        obtain ⟨ad366, e366, hx366_0⟩ := Kd.at_int HR1.out x5_1 p366 q366
        cases e366
        replace p366 := eq_true p366
        replace q366 := eq_true q366
        go_wp2
        repeat (go_quiet (fail); try go_wp2)
        go_roundg k1
        case measure => have := HK1.out; omega
        case rel => exact ⟨(wrap64 (x5_1 + 1)), (by first | rfl | (simp; done) | (simp [*]; done)), H', ⟨by have := HK1.out; omega⟩, by repeat (first | exact Drawn0.refl _ | apply Drawn0.step)⟩
       ·rw [if_neg c7] at H
        have c7b0 : ((rd l0 x5_1) == (rd l1 x5_1)) = false := beq_eq_false_iff_ne.mpr c7
        have c7b1 : ((rd l0 x5_1) != (rd l1 x5_1)) = true := bne_iff_ne.mpr c7
        obtain rfl := Option.some.inj H
        have p365 : 0 ≤ (x5_1 : Int) := of_decide_eq_true (by first | (with_reducible assumption) | assumption)
        have q365 : x5_1 < (l0.length : Int) := of_decide_eq_true (by first | (with_reducible assumption) | assumption)
        obtain ⟨ad365, e365, hx365_0⟩ := Kd.at_int HR0.out x5_1 p365 q365
        cases e365
        replace p365 := eq_true p365
        replace q365 := eq_true q365
        have p366 : 0 ≤ (x5_1 : Int) := of_decide_eq_true (by first | (with_reducible assumption) | assumption)
        have q366 : x5_1 < (l1.length : Int) := of_decide_eq_true (by first | (with_reducible assumption) | assumption)
        obtain ⟨ad366, e366, hx366_0⟩ := Kd.at_int HR1.out x5_1 p366 q366
        cases e366
        replace p366 := eq_true p366
        replace q366 := eq_true q366
        go_wp2
        repeat (go_quiet (fail); try go_wp2)
        go_ret
        exact ⟨by first | rfl | (simp; done) | (simp [*]; done), by repeat (first | exact Drawn0.refl _ | apply Drawn0.step)⟩
      ·rw [if_neg c6] at H
       exact absurd H (by simp)
     ·rw [if_neg c5] at H
      exact absurd H (by simp)
    ·rw [if_neg c4] at H
     have c4b0 : decide (x5_1 < (l0.length : Int)) = false := decide_eq_false c4
     clear c4
     obtain rfl := Option.some.inj H
     go_wp2
     repeat (go_quiet (fail); try go_wp2)
     go_ret
     exact ⟨by first | rfl | (simp; done) | (simp [*]; done), by repeat (first | exact Drawn0.refl _ | apply Drawn0.step)⟩
 ·rw [if_neg c3] at H
  have c3b0 : ((l0.length : Int) == (l1.length : Int)) = false := beq_eq_false_iff_ne.mpr c3
  have c3b1 : ((l0.length : Int) != (l1.length : Int)) = true := bne_iff_ne.mpr c3
  have c3b2 : (l0.length == l1.length) = false := by first | simpa using c3 | (simp at c3 ⊢; omega)
  obtain rfl := Option.some.inj H
  go_enter Try.func65, Try.ntmps65
  go_wp2
  repeat (go_quiet (fail); try go_wp2)
  go_ret
  exact ⟨by first | rfl | (simp; done) | (simp [*]; done), by repeat (first | exact Drawn0.refl _ | apply Drawn0.step)⟩
def spec_A2Same.f (k : Nat) (l0 : List Int) (l1 : List Int) : Option (Bool) := (spec_l00Same.f k l0 l1).bind fun t367 => (some t367)
theorem spec_A2Same.mono : ∀ a0 a1 k, LeO (spec_A2Same.f k a0 a1) (spec_A2Same.f (k + 1) a0 a1) := by
 intro a0 a1 k
 unfold spec_A2Same.f
 repeat' first
   | (with_reducible exact spec_l00Same.mono _ _ _)
   | (with_reducible exact LeO.refl _)
   | (with_reducible exact LeO.none _)
   | (with_reducible refine LeO.ite ?_ ?_)
   | (with_reducible refine LeO.bind ?_ (fun _ => ?_))
   | exact spec_l00Same.mono _ _ _
   | exact LeO.none _
   | refine LeO.ite ?_ ?_
   | refine LeO.bind ?_ (fun _ => ?_)
set_option maxHeartbeats 8000000 in
set_option maxRecDepth 100000 in
theorem spec_A2Same.calls (k : Nat) (A0 : Option Addr) (c0 : Nat) (l0 : List Int) (A1 : Option Addr) (c1 : Nat) (l1 : List Int) (r : Bool) (w : World) (hr0 : Kd.C (Kd.int .i64) w A0 l0.length l0) (hc0 : l0.length ≤ c0) (hr1 : Kd.C (Kd.int .i64) w A1 l1.length l1) (hc1 : l1.length ≤ c1) (h : spec_A2Same.f k l0 l1 = some r) :
  Calls Try.prog 31 #[.slice A0 l0.length c0, .slice A1 l1.length c1] w fun e w' => e = .returned (.bool r) ∧ Drawn0 w w' := by
 have HR0 := Aside0.mk hr0
 have HC0 := Aside0.mk hc0
 clear hr0 hc0
 have HR1 := Aside0.mk hr1
 have HC1 := Aside0.mk hc1
 clear hr1 hc1
 have H : ((spec_l00Same.f k l0 l1).bind fun t367 => (some t367)) = some r := h
 clear h
 replace H := Option.bind_eq_some_iff.mp H
 obtain ⟨t367, A30, H⟩ := H
 replace H : (some t367) = some r := H
 have A3 := Aside0.mk A30
 clear A30
 obtain rfl := Option.some.inj H
 go_enter Try.func31, Try.ntmps31
 go_wp2_with (first | ((with_reducible refine gate_callee (f := 65) rfl ?_); refine goesL_ (some 7) rfl rfl Try.func65 (by kernel_rfl) rfl #[.slice A0 l0.length c0, .slice A1 l1.length c1] rfl (by (try simp only [List.map_toArray, List.map_cons, List.map_nil]); first | done | rfl | (simp only [List.length_drop, List.length_take]; rfl)) ?_; (with_reducible refine (spec_l00Same.calls k _ _ l0 _ _ l1 t367 _ ?side1 ?side2 ?side3 ?side4 A3.out).mono ?_); (case side1 => repeat (first | exact HR0.out | (with_reducible refine Kd.C_alloc ?_ _) | (with_reducible refine Kd.C_drewN ?_ _) | (with_reducible refine Kd.C_drew ?_))); (case side2 => exact HC0.out); (case side3 => repeat (first | exact HR1.out | (with_reducible refine Kd.C_alloc ?_ _) | (with_reducible refine Kd.C_drewN ?_ _) | (with_reducible refine Kd.C_drew ?_))); (case side4 => exact HC1.out); rintro e w' ⟨rfl, ⟨nd, rfl⟩⟩; refine ⟨_, rfl, ?_⟩))
 go_ret
 exact ⟨by first | rfl | (simp; done) | (simp [*]; done), by repeat (first | exact Drawn0.refl _ | apply Drawn0.step)⟩
def impl_LongestWait.l0 : Nat → List (S55) → Int → Int → List Int → Int → Int → Option (Int × Int × Int)
 | 0, _, _, _, _, _, _ => none
 | k + 1, x0, x8, x9, x26, x27, x28 => if x28 < x27 then (if 0 ≤ x28 then (if x28 < (x26.length : Int) then (if x28 < (x0.length : Int) then (if (wrap64 ((rd x26 x28) - (wrap64 ((rd_T55 x0 x28).f0)))) > x9 then (impl_LongestWait.l0 k x0 x28 (wrap64 ((rd x26 x28) - (wrap64 ((rd_T55 x0 x28).f0)))) x26 x27 (wrap64 (x28 + 1))) else (impl_LongestWait.l0 k x0 x8 x9 x26 x27 (wrap64 (x28 + 1)))) else (none)) else (none)) else (none)) else (some (x8, x9, 0))
def impl_LongestWait.f (k : Nat) (l0 : List (S55)) (l1 : List Int) : Option (Int × Int × Int) := (impl_orderCode.f k l0 l1).bind fun t368 => (if t368 = 0 then (if (l0.length : Int) = 0 then (some (0, 0, 6)) else ((impl_doorTimes.f k l0 l1).bind fun t369 => (impl_LongestWait.l0 k l0 0 (-1) t369 (t369.length : Int) 0))) else (some (0, 0, t368)))
theorem impl_LongestWait.mono_l : ∀ k, (∀ y0 y1 y2 y3 y4 y5, LeO (impl_LongestWait.l0 k y0 y1 y2 y3 y4 y5) (impl_LongestWait.l0 (k + 1) y0 y1 y2 y3 y4 y5))
 | 0 => fun _ _ _ _ _ _ r h => by simp [impl_LongestWait.l0] at h
 | k + 1 => by
  have ih0 := impl_LongestWait.mono_l k
  ·intro y0 y1 y2 y3 y4 y5
   unfold impl_LongestWait.l0
   repeat' first
   | (with_reducible exact ih0 _ _ _ _ _ _)
   | (with_reducible exact impl_doorTimes.mono _ _ _)
   | (with_reducible exact impl_orderCode.mono _ _ _)
   | (with_reducible exact LeO.refl _)
   | (with_reducible exact LeO.none _)
   | (with_reducible refine LeO.ite ?_ ?_)
   | (with_reducible refine LeO.bind ?_ (fun _ => ?_))
   | exact ih0 _ _ _ _ _ _
   | exact impl_doorTimes.mono _ _ _
   | exact impl_orderCode.mono _ _ _
   | exact LeO.none _
   | refine LeO.ite ?_ ?_
   | refine LeO.bind ?_ (fun _ => ?_)
theorem impl_LongestWait.mono : ∀ a0 a1 k, LeO (impl_LongestWait.f k a0 a1) (impl_LongestWait.f (k + 1) a0 a1) := by
 intro a0 a1 k
 have ih0 := impl_LongestWait.mono_l k
 unfold impl_LongestWait.f
 repeat' first
   | (with_reducible exact ih0 _ _ _ _ _ _)
   | (with_reducible exact impl_doorTimes.mono _ _ _)
   | (with_reducible exact impl_orderCode.mono _ _ _)
   | (with_reducible exact LeO.refl _)
   | (with_reducible exact LeO.none _)
   | (with_reducible refine LeO.ite ?_ ?_)
   | (with_reducible refine LeO.bind ?_ (fun _ => ?_))
   | exact ih0 _ _ _ _ _ _
   | exact impl_doorTimes.mono _ _ _
   | exact impl_orderCode.mono _ _ _
   | exact LeO.none _
   | refine LeO.ite ?_ ?_
   | refine LeO.bind ?_ (fun _ => ?_)
set_option maxHeartbeats 8000000 in
set_option maxRecDepth 100000 in
theorem impl_LongestWait.calls (k : Nat) (A0 : Option Addr) (c0 : Nat) (l0 : List (S55)) (A1 : Option Addr) (c1 : Nat) (l1 : List Int) (r1 : Int) (r2 : Int) (r3 : Int) (w : World) (hr0 : Kd.C k55 w A0 l0.length l0) (hc0 : l0.length ≤ c0) (hr1 : Kd.C (Kd.int .i64) w A1 l1.length l1) (hc1 : l1.length ≤ c1) (h : impl_LongestWait.f k l0 l1 = some (r1, r2, r3)) :
  Calls Try.prog 33 #[.slice A0 l0.length c0, .slice A1 l1.length c1] w fun e w' => e = .returned (.tuple #[.int .i64 r1, .int .i64 r2, .int .i64 r3]) ∧ Below w.heap.size w w' := by
 have HR0 := Aside0.mk hr0
 have HC0 := Aside0.mk hc0
 clear hr0 hc0
 have HR1 := Aside0.mk hr1
 have HC1 := Aside0.mk hc1
 clear hr1 hc1
 have HB := Aside0.mk (Below.refl w.heap.size w)
 have H : ((impl_orderCode.f k l0 l1).bind fun t368 => (if t368 = 0 then (if (l0.length : Int) = 0 then (some (0, 0, 6)) else ((impl_doorTimes.f k l0 l1).bind fun t369 => (impl_LongestWait.l0 k l0 0 (-1) t369 (t369.length : Int) 0))) else (some (0, 0, t368)))) = some (r1, r2, r3) := h
 clear h
 replace H := Option.bind_eq_some_iff.mp H
 obtain ⟨t368, A30, H⟩ := H
 replace H : (if t368 = 0 then (if (l0.length : Int) = 0 then (some (0, 0, 6)) else ((impl_doorTimes.f k l0 l1).bind fun t369 => (impl_LongestWait.l0 k l0 0 (-1) t369 (t369.length : Int) 0))) else (some (0, 0, t368))) = some (r1, r2, r3) := H
 have A3 := Aside0.mk A30
 clear A30
 by_cases c4 : t368 = 0
 ·rw [if_pos c4] at H
  have c4b0 : (t368 == 0) = true := beq_iff_eq.mpr c4
  have c4b1 : (t368 != 0) = false := bne_eq_false_iff_eq.mpr c4
  clear c4
  by_cases c5 : (l0.length : Int) = 0
  ·rw [if_pos c5] at H
   have c5b0 : ((l0.length : Int) == 0) = true := beq_iff_eq.mpr c5
   have c5b1 : ((l0.length : Int) != 0) = false := bne_eq_false_iff_eq.mpr c5
   clear c5
   simp only [Option.some.injEq, Prod.mk.injEq] at H
   obtain ⟨rfl, rfl, rfl⟩ := H
   go_enter Try.func33, Try.ntmps33
   go_wp2_with (first | ((with_reducible refine gate_callee (f := 56) rfl ?_); refine goesL_ (some 15) rfl rfl Try.func56 (by kernel_rfl) rfl #[.slice A0 l0.length c0, .slice A1 l1.length c1] rfl (by (try simp only [List.map_toArray, List.map_cons, List.map_nil]); first | done | rfl | (simp only [List.length_drop, List.length_take]; rfl)) ?_; (with_reducible refine (impl_orderCode.calls k _ _ l0 _ _ l1 t368 _ ?side1 ?side2 ?side3 ?side4 A3.out).mono ?_); (case side1 => repeat (first | exact HR0.out | (with_reducible refine Kd.C_alloc ?_ _) | (with_reducible refine Kd.C_drewN ?_ _) | (with_reducible refine Kd.C_drew ?_))); (case side2 => exact HC0.out); (case side3 => repeat (first | exact HR1.out | (with_reducible refine Kd.C_alloc ?_ _) | (with_reducible refine Kd.C_drewN ?_ _) | (with_reducible refine Kd.C_drew ?_))); (case side4 => exact HC1.out); rintro e w6 ⟨rfl, hb⟩; refine ⟨_, rfl, ?_⟩; have n0_ := bst HB hb; clear HB; have HB := n0_; clear n0_; (try clear hb); (try clear hb2); (try clear hk); (try clear hi)))
   go_ret3
   exact ⟨by first | rfl | (simp [errW_none, errW_some] <;> rfl) | (simp [*, errW_none, errW_some] <;> rfl), pb HB⟩
  ·rw [if_neg c5] at H
   have c5b0 : ((l0.length : Int) == 0) = false := beq_eq_false_iff_ne.mpr c5
   have c5b1 : ((l0.length : Int) != 0) = true := bne_iff_ne.mpr c5
   have c5b2 : ¬ (l0 = []) := fun h_ => c5 (by rw [h_]; rfl)
   replace H := Option.bind_eq_some_iff.mp H
   obtain ⟨t369, A70, H⟩ := H
   replace H : (impl_LongestWait.l0 k l0 0 (-1) t369 (t369.length : Int) 0) = some (r1, r2, r3) := H
   have A7 := Aside0.mk A70
   clear A70
   have H' := Aside0.mk H
   clear H
   go_enter Try.func33, Try.ntmps33
   go_wp2_with (first | ((with_reducible refine gate_callee (f := 56) rfl ?_); refine goesL_ (some 15) rfl rfl Try.func56 (by kernel_rfl) rfl #[.slice A0 l0.length c0, .slice A1 l1.length c1] rfl (by (try simp only [List.map_toArray, List.map_cons, List.map_nil]); first | done | rfl | (simp only [List.length_drop, List.length_take]; rfl)) ?_; (with_reducible refine (impl_orderCode.calls k _ _ l0 _ _ l1 t368 _ ?side1 ?side2 ?side3 ?side4 A3.out).mono ?_); (case side1 => repeat (first | exact HR0.out | (with_reducible refine Kd.C_alloc ?_ _) | (with_reducible refine Kd.C_drewN ?_ _) | (with_reducible refine Kd.C_drew ?_))); (case side2 => exact HC0.out); (case side3 => repeat (first | exact HR1.out | (with_reducible refine Kd.C_alloc ?_ _) | (with_reducible refine Kd.C_drewN ?_ _) | (with_reducible refine Kd.C_drew ?_))); (case side4 => exact HC1.out); rintro e w8 ⟨rfl, hb⟩; refine ⟨_, rfl, ?_⟩; have n0_ := bst HB hb; clear HB; have HB := n0_; clear n0_; (try clear hb); (try clear hb2); (try clear hk); (try clear hi)) | ((with_reducible refine gate_callee (f := 57) rfl ?_); refine goesL_ (some 26) rfl rfl Try.func57 (by kernel_rfl) rfl #[.slice A0 l0.length c0, .slice A1 l1.length c1] rfl (by (try simp only [List.map_toArray, List.map_cons, List.map_nil]); first | done | rfl | (simp only [List.length_drop, List.length_take]; rfl)) ?_; (with_reducible refine (impl_doorTimes.calls k _ _ l0 _ _ l1 t369 _ ?side1 ?side2 ?side3 ?side4 A7.out).mono ?_); (case side1 => repeat (first | exact (Kd.C_below HR0.out HB.out) | (with_reducible refine Kd.C_alloc ?_ _) | (with_reducible refine Kd.C_drewN ?_ _) | (with_reducible refine Kd.C_drew ?_))); (case side2 => exact HC0.out); (case side3 => repeat (first | exact (Kd.C_below HR1.out HB.out) | (with_reducible refine Kd.C_alloc ?_ _) | (with_reducible refine Kd.C_drewN ?_ _) | (with_reducible refine Kd.C_drew ?_))); (case side4 => exact HC1.out); rintro e w9 ⟨v370, rfl, ho0, hb⟩; refine ⟨_, rfl, ?_⟩; have n0_ := Aside0.mk (Kd.R_lower ho0 (below_size (by repeat (first | (with_reducible first | exact HB.out | apply below_alloc | apply pw_below_drewN | apply below_drew1) | exact HB.out)))); have n1_ := bst HB hb; clear HB; have HO371 := n0_; have HB := n1_; clear n0_ n1_; (try clear hb); (try clear hb2); (try clear hk); (try clear hi); (try clear ho0); obtain ⟨Ao10, co10, eo10⟩ := Kd.R_slice HO371.out; subst eo10))
   go_loopg [8, 9, 28] k (fun kq v8 v9 v28 w' => ∃ (x8_1 : Int) (x9_1 : Int) (x28_1 : Int), v8 = .int .i64 x8_1 ∧ v9 = .int .i64 x9_1 ∧ v28 = .int .i64 x28_1 ∧ Aside0 (impl_LongestWait.l0 kq l0 x8_1 x9_1 t369 (t369.length : Int) x28_1 = some (r1, r2, r3)) ∧ Aside0 (kq ≤ k) ∧ Aside0 (Kd.R (Kd.int .i64) 2 w' w.heap.size (fun _ => True) (.slice Ao10 t369.length co10) t369) ∧ Aside0 (Below w.heap.size w w'))
   case atStart => exact ⟨(0), ((-1)), (0), (by first | rfl | (simp; done) | (simp [*]; done)), (by first | rfl | (simp; done) | (simp [*]; done)), (by first | rfl | (simp; done) | (simp [*]; done)), H', ⟨Nat.le_refl _⟩, ⟨by (with_reducible repeat (first | apply Kd.R_alloc | apply Kd.R_drewN | apply Kd.R_drew)); exact HO371.out⟩, ⟨pb HB⟩⟩
   case round =>
    clear H'
    try clear c1
    try clear p2
    try clear c3
    try clear c4
    try clear c4b0
    try clear c4b1
    try clear c5
    try clear c5b0
    try clear c5b1
    try clear c5b2
    obtain ⟨x8_1, x9_1, x28_1, rfl, rfl, rfl, HA, HK1, HO_26, HB⟩ := hrel
    cases gk with
    | zero => exact absurd HA.out (by simp [impl_LongestWait.l0])
    | succ k1 =>
     have H := HA.out
     clear HA
     simp only [impl_LongestWait.l0] at H
     by_cases c11 : x28_1 < (t369.length : Int)
     ·rw [if_pos c11] at H
      have c11b0 : decide (x28_1 < (t369.length : Int)) = true := decide_eq_true c11
      clear c11
      by_cases c12 : 0 ≤ x28_1
      ·rw [if_pos c12] at H
       have c12b0 : decide (0 ≤ x28_1) = true := decide_eq_true c12
       clear c12
       by_cases c13 : x28_1 < (t369.length : Int)
       ·rw [if_pos c13] at H
        have c13b0 : decide (x28_1 < (t369.length : Int)) = true := decide_eq_true c13
        clear c13
        by_cases c14 : x28_1 < (l0.length : Int)
        ·rw [if_pos c14] at H
         have c14b0 : decide (x28_1 < (l0.length : Int)) = true := decide_eq_true c14
         clear c14
         by_cases c15 : (wrap64 ((rd t369 x28_1) - (wrap64 ((rd_T55 l0 x28_1).f0)))) > x9_1
         ·rw [if_pos c15] at H
          have c15b0 : decide (x9_1 < (wrap64 ((rd t369 x28_1) - (wrap64 ((rd_T55 l0 x28_1).f0))))) = true := decide_eq_true c15
          clear c15
          have H' := Aside0.mk H
          clear H
          have p372 : 0 ≤ (x28_1 : Int) := of_decide_eq_true (by first | (with_reducible assumption) | assumption)
          have q372 : x28_1 < (t369.length : Int) := of_decide_eq_true (by first | (with_reducible assumption) | assumption)
          obtain ⟨ad372, e372, hx372_0⟩ := Kd.at_int (Kd.R_reads' HO_26.out).2.2 x28_1 p372 q372
          cases e372
          replace p372 := eq_true p372
          replace q372 := eq_true q372
          have p373 : 0 ≤ (x28_1 : Int) := of_decide_eq_true (by first | (with_reducible assumption) | assumption)
          have q373 : x28_1 < (l0.length : Int) := of_decide_eq_true (by first | (with_reducible assumption) | assumption)
          obtain ⟨ad373, e373, hx373_0, hx373_1⟩ := at_T55 HR0.out x28_1 p373 q373
          cases e373
          try replace hx373_0 := (HB.out.cell (World.block_lt_of_cell? w _ hx373_0)).trans hx373_0
          try replace hx373_1 := (HB.out.cell (World.block_lt_of_cell? w _ hx373_1)).trans hx373_1
          replace p373 := eq_true p373
          replace q373 := eq_true q373
          go_wp2
          go_roundg k1
          case measure => have := HK1.out; omega
          case rel => exact ⟨(x28_1), (wrap64 ((rd t369 x28_1) - (wrap64 ((rd_T55 l0 x28_1).f0)))), (wrap64 (x28_1 + 1)), (by first | rfl | (simp; done) | (simp [*]; done)), (by first | rfl | (simp; done) | (simp [*]; done)), (by first | rfl | (simp; done) | (simp [*]; done)), H', ⟨by have := HK1.out; omega⟩, ⟨by (with_reducible repeat (first | apply Kd.R_alloc | apply Kd.R_drewN | apply Kd.R_drew)); exact HO_26.out⟩, ⟨pb HB⟩⟩
         ·rw [if_neg c15] at H
          have c15b0 : decide (x9_1 < (wrap64 ((rd t369 x28_1) - (wrap64 ((rd_T55 l0 x28_1).f0))))) = false := decide_eq_false c15
          clear c15
          have H' := Aside0.mk H
          clear H
          have p372 : 0 ≤ (x28_1 : Int) := of_decide_eq_true (by first | (with_reducible assumption) | assumption)
          have q372 : x28_1 < (t369.length : Int) := of_decide_eq_true (by first | (with_reducible assumption) | assumption)
          obtain ⟨ad372, e372, hx372_0⟩ := Kd.at_int (Kd.R_reads' HO_26.out).2.2 x28_1 p372 q372
          cases e372
          replace p372 := eq_true p372
          replace q372 := eq_true q372
          have p373 : 0 ≤ (x28_1 : Int) := of_decide_eq_true (by first | (with_reducible assumption) | assumption)
          have q373 : x28_1 < (l0.length : Int) := of_decide_eq_true (by first | (with_reducible assumption) | assumption)
          obtain ⟨ad373, e373, hx373_0, hx373_1⟩ := at_T55 HR0.out x28_1 p373 q373
          cases e373
          try replace hx373_0 := (HB.out.cell (World.block_lt_of_cell? w _ hx373_0)).trans hx373_0
          try replace hx373_1 := (HB.out.cell (World.block_lt_of_cell? w _ hx373_1)).trans hx373_1
          replace p373 := eq_true p373
          replace q373 := eq_true q373
          go_wp2
          go_roundg k1
          case measure => have := HK1.out; omega
          case rel => exact ⟨(x8_1), (x9_1), (wrap64 (x28_1 + 1)), (by first | rfl | (simp; done) | (simp [*]; done)), (by first | rfl | (simp; done) | (simp [*]; done)), (by first | rfl | (simp; done) | (simp [*]; done)), H', ⟨by have := HK1.out; omega⟩, ⟨by (with_reducible repeat (first | apply Kd.R_alloc | apply Kd.R_drewN | apply Kd.R_drew)); exact HO_26.out⟩, ⟨pb HB⟩⟩
        ·rw [if_neg c14] at H
         exact absurd H (by simp)
       ·rw [if_neg c13] at H
        exact absurd H (by simp)
      ·rw [if_neg c12] at H
       exact absurd H (by simp)
     ·rw [if_neg c11] at H
      have c11b0 : decide (x28_1 < (t369.length : Int)) = false := decide_eq_false c11
      clear c11
      simp only [Option.some.injEq, Prod.mk.injEq] at H
      obtain ⟨rfl, rfl, rfl⟩ := H
      go_wp2
      go_ret3
      exact ⟨by first | rfl | (simp [errW_none, errW_some] <;> rfl) | (simp [*, errW_none, errW_some] <;> rfl), pb HB⟩
 ·rw [if_neg c4] at H
  have c4b0 : (t368 == 0) = false := beq_eq_false_iff_ne.mpr c4
  have c4b1 : (t368 != 0) = true := bne_iff_ne.mpr c4
  simp only [Option.some.injEq, Prod.mk.injEq] at H
  obtain ⟨rfl, rfl, rfl⟩ := H
  go_enter Try.func33, Try.ntmps33
  go_wp2_with (first | ((with_reducible refine gate_callee (f := 56) rfl ?_); refine goesL_ (some 15) rfl rfl Try.func56 (by kernel_rfl) rfl #[.slice A0 l0.length c0, .slice A1 l1.length c1] rfl (by (try simp only [List.map_toArray, List.map_cons, List.map_nil]); first | done | rfl | (simp only [List.length_drop, List.length_take]; rfl)) ?_; (with_reducible refine (impl_orderCode.calls k _ _ l0 _ _ l1 t368 _ ?side1 ?side2 ?side3 ?side4 A3.out).mono ?_); (case side1 => repeat (first | exact HR0.out | (with_reducible refine Kd.C_alloc ?_ _) | (with_reducible refine Kd.C_drewN ?_ _) | (with_reducible refine Kd.C_drew ?_))); (case side2 => exact HC0.out); (case side3 => repeat (first | exact HR1.out | (with_reducible refine Kd.C_alloc ?_ _) | (with_reducible refine Kd.C_drewN ?_ _) | (with_reducible refine Kd.C_drew ?_))); (case side4 => exact HC1.out); rintro e w16 ⟨rfl, hb⟩; refine ⟨_, rfl, ?_⟩; have n0_ := bst HB hb; clear HB; have HB := n0_; clear n0_; (try clear hb); (try clear hb2); (try clear hk); (try clear hi)))
  go_ret3
  exact ⟨by first | rfl | (simp [errW_none, errW_some] <;> rfl) | (simp [*, errW_none, errW_some] <;> rfl), pb HB⟩
end Go.Proofs.Ytjieacofpegmpaa.PD
end
section
namespace Go.Proofs.Ytjieacofpegmpaa.PD
open Go.RowKit Go.Proofs.YtjieacofpegmpaaW.PrintWords Go.Proofs.YtjieacofpegmpaaW.PrintLast Go.Proofs.YtjieacofpegmpaaW.PrintMore Go.Proofs.Ytjieacofpegmpaa.La
attribute [local go_sem] max2_int min2_int max_two min_two max_three min_three max_four min_four   -- for this text's walks alone
set_option linter.unusedVariables false
set_option linter.unusedSimpArgs false
mutual
def spec_LongestWait.j0 : Nat → List (S55) → List Int → Int → Bool → Option (Int × Int × Int)
 | 0, _, _, _, _ => none
 | k + 1, x0, x1, x7, x22 => if x22 = true then (spec_LongestWait.j1 k x0 x1 6) else (spec_LongestWait.j1 k x0 x1 x7)
def spec_LongestWait.j1 : Nat → List (S55) → List Int → Int → Option (Int × Int × Int)
 | 0, _, _, _ => none
 | k + 1, x0, x1, x7 => if x7 = 0 then ((spec_l07Times.f k x0 x1).bind fun t375 => (spec_LongestWait.l0 k x0 t375 0 (-1) 0)) else (some (0, 0, x7))
def spec_LongestWait.l0 : Nat → List (S55) → List Int → Int → Int → Int → Option (Int × Int × Int)
 | 0, _, _, _, _, _ => none
 | k + 1, x0, x8, x9, x10, x11 => if x11 < (x0.length : Int) then (if 0 ≤ x11 then (if x11 < (x8.length : Int) then (if (wrap64 ((rd x8 x11) - (wrap64 ((rd_T55 x0 x11).f0)))) > x10 then (spec_LongestWait.l0 k x0 x8 x11 (wrap64 ((rd x8 x11) - (wrap64 ((rd_T55 x0 x11).f0)))) (wrap64 (x11 + 1))) else (spec_LongestWait.l0 k x0 x8 x9 x10 (wrap64 (x11 + 1)))) else (none)) else (none)) else (some (x9, x10, 0))
end
def spec_LongestWait.f (k : Nat) (l0 : List (S55)) (l1 : List Int) : Option (Int × Int × Int) := (spec_l07Ordered.f k l0 l1).bind fun t374 => (if t374 = 0 then (spec_LongestWait.j0 k l0 l1 t374 ((l0.length : Int) == 0)) else (spec_LongestWait.j0 k l0 l1 t374 false))
theorem spec_LongestWait.mono_l : ∀ k, (∀ y0 y1 y2 y3, LeO (spec_LongestWait.j0 k y0 y1 y2 y3) (spec_LongestWait.j0 (k + 1) y0 y1 y2 y3)) ∧ (∀ y0 y1 y2, LeO (spec_LongestWait.j1 k y0 y1 y2) (spec_LongestWait.j1 (k + 1) y0 y1 y2)) ∧ (∀ y0 y1 y2 y3 y4, LeO (spec_LongestWait.l0 k y0 y1 y2 y3 y4) (spec_LongestWait.l0 (k + 1) y0 y1 y2 y3 y4))
 | 0 => ⟨fun _ _ _ _ r h => by simp [spec_LongestWait.j0] at h, fun _ _ _ r h => by simp [spec_LongestWait.j1] at h, fun _ _ _ _ _ r h => by simp [spec_LongestWait.l0] at h⟩
 | k + 1 => by
  obtain ⟨ih0, ih1, ih2⟩ := spec_LongestWait.mono_l k
  refine ⟨?_, ?_, ?_⟩
  ·intro y0 y1 y2 y3
   unfold spec_LongestWait.j0
   repeat' first
   | (with_reducible exact ih0 _ _ _ _)
   | (with_reducible exact ih1 _ _ _)
   | (with_reducible exact ih2 _ _ _ _ _)
   | (with_reducible exact spec_l07Ordered.mono _ _ _)
   | (with_reducible exact spec_l07Times.mono _ _ _)
   | (with_reducible exact LeO.refl _)
   | (with_reducible exact LeO.none _)
   | (with_reducible refine LeO.ite ?_ ?_)
   | (with_reducible refine LeO.bind ?_ (fun _ => ?_))
   | exact ih0 _ _ _ _
   | exact ih1 _ _ _
   | exact ih2 _ _ _ _ _
   | exact spec_l07Ordered.mono _ _ _
   | exact spec_l07Times.mono _ _ _
   | exact LeO.none _
   | refine LeO.ite ?_ ?_
   | refine LeO.bind ?_ (fun _ => ?_)
  ·intro y0 y1 y2
   unfold spec_LongestWait.j1
   repeat' first
   | (with_reducible exact ih0 _ _ _ _)
   | (with_reducible exact ih1 _ _ _)
   | (with_reducible exact ih2 _ _ _ _ _)
   | (with_reducible exact spec_l07Ordered.mono _ _ _)
   | (with_reducible exact spec_l07Times.mono _ _ _)
   | (with_reducible exact LeO.refl _)
   | (with_reducible exact LeO.none _)
   | (with_reducible refine LeO.ite ?_ ?_)
   | (with_reducible refine LeO.bind ?_ (fun _ => ?_))
   | exact ih0 _ _ _ _
   | exact ih1 _ _ _
   | exact ih2 _ _ _ _ _
   | exact spec_l07Ordered.mono _ _ _
   | exact spec_l07Times.mono _ _ _
   | exact LeO.none _
   | refine LeO.ite ?_ ?_
   | refine LeO.bind ?_ (fun _ => ?_)
  ·intro y0 y1 y2 y3 y4
   unfold spec_LongestWait.l0
   repeat' first
   | (with_reducible exact ih0 _ _ _ _)
   | (with_reducible exact ih1 _ _ _)
   | (with_reducible exact ih2 _ _ _ _ _)
   | (with_reducible exact spec_l07Ordered.mono _ _ _)
   | (with_reducible exact spec_l07Times.mono _ _ _)
   | (with_reducible exact LeO.refl _)
   | (with_reducible exact LeO.none _)
   | (with_reducible refine LeO.ite ?_ ?_)
   | (with_reducible refine LeO.bind ?_ (fun _ => ?_))
   | exact ih0 _ _ _ _
   | exact ih1 _ _ _
   | exact ih2 _ _ _ _ _
   | exact spec_l07Ordered.mono _ _ _
   | exact spec_l07Times.mono _ _ _
   | exact LeO.none _
   | refine LeO.ite ?_ ?_
   | refine LeO.bind ?_ (fun _ => ?_)
theorem spec_LongestWait.mono : ∀ a0 a1 k, LeO (spec_LongestWait.f k a0 a1) (spec_LongestWait.f (k + 1) a0 a1) := by
 intro a0 a1 k
 obtain ⟨ih0, ih1, ih2⟩ := spec_LongestWait.mono_l k
 unfold spec_LongestWait.f
 repeat' first
   | (with_reducible exact ih0 _ _ _ _)
   | (with_reducible exact ih1 _ _ _)
   | (with_reducible exact ih2 _ _ _ _ _)
   | (with_reducible exact spec_l07Ordered.mono _ _ _)
   | (with_reducible exact spec_l07Times.mono _ _ _)
   | (with_reducible exact LeO.refl _)
   | (with_reducible exact LeO.none _)
   | (with_reducible refine LeO.ite ?_ ?_)
   | (with_reducible refine LeO.bind ?_ (fun _ => ?_))
   | exact ih0 _ _ _ _
   | exact ih1 _ _ _
   | exact ih2 _ _ _ _ _
   | exact spec_l07Ordered.mono _ _ _
   | exact spec_l07Times.mono _ _ _
   | exact LeO.none _
   | refine LeO.ite ?_ ?_
   | refine LeO.bind ?_ (fun _ => ?_)
set_option maxHeartbeats 8000000 in
set_option maxRecDepth 100000 in
theorem spec_LongestWait.calls (k : Nat) (A0 : Option Addr) (c0 : Nat) (l0 : List (S55)) (A1 : Option Addr) (c1 : Nat) (l1 : List Int) (r1 : Int) (r2 : Int) (r3 : Int) (w : World) (hr0 : Kd.C k55 w A0 l0.length l0) (hc0 : l0.length ≤ c0) (hr1 : Kd.C (Kd.int .i64) w A1 l1.length l1) (hc1 : l1.length ≤ c1) (h : spec_LongestWait.f k l0 l1 = some (r1, r2, r3)) :
  Calls Try.prog 34 #[.slice A0 l0.length c0, .slice A1 l1.length c1] w fun e w' => e = .returned (.tuple #[.int .i64 r1, .int .i64 r2, .int .i64 r3]) ∧ Below w.heap.size w w' := by
 have HR0 := Aside0.mk hr0
 have HC0 := Aside0.mk hc0
 clear hr0 hc0
 have HR1 := Aside0.mk hr1
 have HC1 := Aside0.mk hc1
 clear hr1 hc1
 have HB := Aside0.mk (Below.refl w.heap.size w)
 have H : ((spec_l07Ordered.f k l0 l1).bind fun t374 => (if t374 = 0 then (spec_LongestWait.j0 k l0 l1 t374 ((l0.length : Int) == 0)) else (spec_LongestWait.j0 k l0 l1 t374 false))) = some (r1, r2, r3) := h
 clear h
 replace H := Option.bind_eq_some_iff.mp H
 obtain ⟨t374, A30, H⟩ := H
 replace H : (if t374 = 0 then (spec_LongestWait.j0 k l0 l1 t374 ((l0.length : Int) == 0)) else (spec_LongestWait.j0 k l0 l1 t374 false)) = some (r1, r2, r3) := H
 have A3 := Aside0.mk A30
 clear A30
 have HC4 := Aside0.mk H
 clear H
 go_enter Try.func34, Try.ntmps34
 go_upto_region 2 with (first | (go_at_call 58; (with_reducible refine (spec_l07Ordered.calls k _ _ l0 _ _ l1 t374 _ ?side1 ?side2 ?side3 ?side4 A3.out).mono ?_); (case side1 => repeat (first | exact HR0.out | (with_reducible refine Kd.C_alloc ?_ _) | (with_reducible refine Kd.C_drewN ?_ _) | (with_reducible refine Kd.C_drew ?_))); (case side2 => exact HC0.out); (case side3 => repeat (first | exact HR1.out | (with_reducible refine Kd.C_alloc ?_ _) | (with_reducible refine Kd.C_drewN ?_ _) | (with_reducible refine Kd.C_drew ?_))); (case side4 => exact HC1.out); rintro e w' ⟨rfl, ⟨nd, rfl⟩⟩; (try first | exact ⟨rfl, _, World.drewN_drewN _ _ _⟩ | exact ⟨rfl, _, Eq.trans (World.drewN_drewN _ _ _) (congrArg (World.drewN _) (Nat.add_assoc _ _ _))⟩)))
 repeat (go_quiet (first | (go_at_call 58; (with_reducible refine (spec_l07Ordered.calls k _ _ l0 _ _ l1 t374 _ ?side1 ?side2 ?side3 ?side4 A3.out).mono ?_); (case side1 => repeat (first | exact HR0.out | (with_reducible refine Kd.C_alloc ?_ _) | (with_reducible refine Kd.C_drewN ?_ _) | (with_reducible refine Kd.C_drew ?_))); (case side2 => exact HC0.out); (case side3 => repeat (first | exact HR1.out | (with_reducible refine Kd.C_alloc ?_ _) | (with_reducible refine Kd.C_drewN ?_ _) | (with_reducible refine Kd.C_drew ?_))); (case side4 => exact HC1.out); rintro e w' ⟨rfl, ⟨nd, rfl⟩⟩; (try first | exact ⟨rfl, _, World.drewN_drewN _ _ _⟩ | exact ⟨rfl, _, Eq.trans (World.drewN_drewN _ _ _) (congrArg (World.drewN _) (Nat.add_assoc _ _ _))⟩))); go_upto_region 2 with (first | (go_at_call 58; (with_reducible refine (spec_l07Ordered.calls k _ _ l0 _ _ l1 t374 _ ?side1 ?side2 ?side3 ?side4 A3.out).mono ?_); (case side1 => repeat (first | exact HR0.out | (with_reducible refine Kd.C_alloc ?_ _) | (with_reducible refine Kd.C_drewN ?_ _) | (with_reducible refine Kd.C_drew ?_))); (case side2 => exact HC0.out); (case side3 => repeat (first | exact HR1.out | (with_reducible refine Kd.C_alloc ?_ _) | (with_reducible refine Kd.C_drewN ?_ _) | (with_reducible refine Kd.C_drew ?_))); (case side4 => exact HC1.out); rintro e w' ⟨rfl, ⟨nd, rfl⟩⟩; (try first | exact ⟨rfl, _, World.drewN_drewN _ _ _⟩ | exact ⟨rfl, _, Eq.trans (World.drewN_drewN _ _ _) (congrArg (World.drewN _) (Nat.add_assoc _ _ _))⟩))))
 (try simp only [Act.put, List.setIfInBounds_toArray, List.set_cons_zero, List.set_cons_succ])
 go_cut [22] (fun v22 wc => ∃ (kq : Nat) (x22_3 : Bool), v22 = .bool x22_3 ∧ Aside0 (spec_LongestWait.j0 kq l0 l1 t374 x22_3 = some (r1, r2, r3)) ∧ Aside0 (kq ≤ k) ∧ Aside0 (Below w.heap.size w wc))
 case first =>
  have H := HC4.out
  clear HC4
  by_cases c5 : t374 = 0
  ·rw [if_pos c5] at H
   have c5b0 : (t374 == 0) = true := beq_iff_eq.mpr c5
   have c5b1 : (t374 != 0) = false := bne_eq_false_iff_eq.mpr c5
   clear c5
   (first | rw [c5b0] | (simp only [i64_w, i32_w]; rw [c5b0]) | skip)
   have H' := Aside0.mk H
   clear H
   go_wp2
   repeat (go_quiet (fail); try go_wp2)
   go_meet
   case rel => exact ⟨_, (((l0.length : Int) == 0)), (by first | rfl | (simp; done) | (simp [*]; done)), H', ⟨by first | omega | exact Nat.le_refl _⟩, ⟨pb HB⟩⟩
  ·rw [if_neg c5] at H
   have c5b0 : (t374 == 0) = false := beq_eq_false_iff_ne.mpr c5
   have c5b1 : (t374 != 0) = true := bne_iff_ne.mpr c5
   (first | rw [c5b0] | (simp only [i64_w, i32_w]; rw [c5b0]) | skip)
   have H' := Aside0.mk H
   clear H
   go_wp2
   repeat (go_quiet (fail); try go_wp2)
   go_meet
   case rel => exact ⟨_, (false), (by first | rfl | (simp; done) | (simp [*]; done)), H', ⟨by first | omega | exact Nat.le_refl _⟩, ⟨pb HB⟩⟩
 case rest =>
  clear HC4
  try clear c1
  try clear p2
  try clear c3
  try clear c5
  try clear c5b0
  try clear c5b1
  obtain ⟨kq, x22_3, rfl, HA, HJ3, HB⟩ := hcut
  cases kq with
  | zero => exact absurd HA.out (by simp [spec_LongestWait.j0])
  | succ kj3 =>
   have H := HA.out
   clear HA
   simp only [spec_LongestWait.j0] at H
   have HC6 := Aside0.mk H
   clear H
   go_upto_if 22 with (fail)
   repeat (go_quiet (fail); go_upto_if 22 with (fail))
   go_cut [7] (fun v7 wc => ∃ (kq : Nat) (x7_5 : Int), v7 = .int .i64 x7_5 ∧ Aside0 (spec_LongestWait.j1 kq l0 l1 x7_5 = some (r1, r2, r3)) ∧ Aside0 (kq ≤ kj3) ∧ Aside0 (Below w.heap.size w wc))
   case first =>
    have H := HC6.out
    clear HC6
    by_cases c7 : x22_3 = true
    ·subst c7
     have H1 : (spec_LongestWait.j1 kj3 l0 l1 6) = some (r1, r2, r3) := by rw [if_pos rfl] at H; exact H
     clear H
     have H := H1
     clear H1
     have H' := Aside0.mk H
     clear H
     go_wp2
     repeat (go_quiet (fail); try go_wp2)
     go_meet
     case rel => exact ⟨_, (6), (by first | rfl | (simp; done) | (simp [*]; done)), H', ⟨by have := HJ3.out; first | omega | exact Nat.le_refl _⟩, ⟨pb HB⟩⟩
    ·replace c7 := Bool.eq_false_iff.mpr c7
     subst c7
     have H1 : (spec_LongestWait.j1 kj3 l0 l1 t374) = some (r1, r2, r3) := by rw [if_neg (show ¬ (false = true) by decide)] at H; exact H
     clear H
     have H := H1
     clear H1
     have H' := Aside0.mk H
     clear H
     go_wp2
     repeat (go_quiet (fail); try go_wp2)
     go_meet
     case rel => exact ⟨_, (t374), (by first | rfl | (simp; done) | (simp [*]; done)), H', ⟨by have := HJ3.out; first | omega | exact Nat.le_refl _⟩, ⟨pb HB⟩⟩
   case rest =>
    clear HC6
    try clear c1
    try clear p2
    try clear c3
    try clear c5
    try clear c5b0
    try clear c5b1
    try clear c7
    try clear p2
    obtain ⟨kq, x7_5, rfl, HA, HJ5, HB⟩ := hcut
    cases kq with
    | zero => exact absurd HA.out (by simp [spec_LongestWait.j1])
    | succ kj5 =>
     have H := HA.out
     clear HA
     simp only [spec_LongestWait.j1] at H
     by_cases c8 : x7_5 = 0
     ·rw [if_pos c8] at H
      have c8b0 : (x7_5 == 0) = true := beq_iff_eq.mpr c8
      have c8b1 : (x7_5 != 0) = false := bne_eq_false_iff_eq.mpr c8
      clear c8
      replace H := Option.bind_eq_some_iff.mp H
      obtain ⟨t375, A90, H⟩ := H
      replace H : (spec_LongestWait.l0 kj5 l0 t375 0 (-1) 0) = some (r1, r2, r3) := H
      have A9 := Aside0.mk A90
      clear A90
      have H' := Aside0.mk H
      clear H
      have hwr_ : ∀ z_ : Int, IntKind.i64.wrap z_ = wrap64 z_ := IntWalk.i64_left
      go_wp2_with (first | (go_at_call 59; (with_reducible refine (spec_l07Times.calls kj5 _ _ l0 _ _ l1 t375 _ ?side1 ?side2 ?side3 ?side4 A9.out).mono ?_); (case side1 => repeat (first | exact (Kd.C_below HR0.out HB.out) | (with_reducible refine Kd.C_alloc ?_ _) | (with_reducible refine Kd.C_drewN ?_ _) | (with_reducible refine Kd.C_drew ?_))); (case side2 => exact HC0.out); (case side3 => repeat (first | exact (Kd.C_below HR1.out HB.out) | (with_reducible refine Kd.C_alloc ?_ _) | (with_reducible refine Kd.C_drewN ?_ _) | (with_reducible refine Kd.C_drew ?_))); (case side4 => exact HC1.out); rintro e w10 ⟨v376, rfl, ho0, hb⟩; have n0_ := Aside0.mk (Kd.R_lower ho0 (below_size (by repeat (first | (with_reducible first | exact HB.out | apply below_alloc | apply pw_below_drewN | apply below_drew1) | exact HB.out)))); have n1_ := bst HB hb; clear HB; have HO377 := n0_; have HB := n1_; clear n0_ n1_; (try clear hb); (try clear hb2); (try clear hk); (try clear hi); (try clear ho0)))
      repeat (go_quiet (first | (go_at_call 59; (with_reducible refine (spec_l07Times.calls kj5 _ _ l0 _ _ l1 t375 _ ?side1 ?side2 ?side3 ?side4 A9.out).mono ?_); (case side1 => repeat (first | exact (Kd.C_below HR0.out HB.out) | (with_reducible refine Kd.C_alloc ?_ _) | (with_reducible refine Kd.C_drewN ?_ _) | (with_reducible refine Kd.C_drew ?_))); (case side2 => exact HC0.out); (case side3 => repeat (first | exact (Kd.C_below HR1.out HB.out) | (with_reducible refine Kd.C_alloc ?_ _) | (with_reducible refine Kd.C_drewN ?_ _) | (with_reducible refine Kd.C_drew ?_))); (case side4 => exact HC1.out); rintro e w10 ⟨v376, rfl, ho0, hb⟩; have n0_ := Aside0.mk (Kd.R_lower ho0 (below_size (by repeat (first | (with_reducible first | exact HB.out | apply below_alloc | apply pw_below_drewN | apply below_drew1) | exact HB.out)))); have n1_ := bst HB hb; clear HB; have HO377 := n0_; have HB := n1_; clear n0_ n1_; (try clear hb); (try clear hb2); (try clear hk); (try clear hi); (try clear ho0))); try go_wp2_with (first | (go_at_call 59; (with_reducible refine (spec_l07Times.calls kj5 _ _ l0 _ _ l1 t375 _ ?side1 ?side2 ?side3 ?side4 A9.out).mono ?_); (case side1 => repeat (first | exact (Kd.C_below HR0.out HB.out) | (with_reducible refine Kd.C_alloc ?_ _) | (with_reducible refine Kd.C_drewN ?_ _) | (with_reducible refine Kd.C_drew ?_))); (case side2 => exact HC0.out); (case side3 => repeat (first | exact (Kd.C_below HR1.out HB.out) | (with_reducible refine Kd.C_alloc ?_ _) | (with_reducible refine Kd.C_drewN ?_ _) | (with_reducible refine Kd.C_drew ?_))); (case side4 => exact HC1.out); rintro e w10 ⟨v376, rfl, ho0, hb⟩; have n0_ := Aside0.mk (Kd.R_lower ho0 (below_size (by repeat (first | (with_reducible first | exact HB.out | apply below_alloc | apply pw_below_drewN | apply below_drew1) | exact HB.out)))); have n1_ := bst HB hb; clear HB; have HO377 := n0_; have HB := n1_; clear n0_ n1_; (try clear hb); (try clear hb2); (try clear hk); (try clear hi); (try clear ho0))))
      go_loopg [9, 10, 11] kj5 (fun kq v9 v10 v11 w' => ∃ (x9_3 : Int) (x10_3 : Int) (x11_3 : Int), v9 = .int .i64 x9_3 ∧ v10 = .int .i64 x10_3 ∧ v11 = .int .i64 x11_3 ∧ Aside0 (spec_LongestWait.l0 kq l0 t375 x9_3 x10_3 x11_3 = some (r1, r2, r3)) ∧ Aside0 (kq ≤ kj5) ∧ Aside0 (Kd.R (Kd.int .i64) 2 w' w.heap.size (fun _ => True) v376 t375) ∧ Aside0 (Below w.heap.size w w'))
      case atStart => exact ⟨(0), ((-1)), (0), (by first | rfl | (simp; done) | (simp [*]; done)), (by first | rfl | (simp; done) | (simp [*]; done)), (by first | rfl | (simp; done) | (simp [*]; done)), H', ⟨Nat.le_refl _⟩, ⟨by (with_reducible repeat (first | apply Kd.R_alloc | apply Kd.R_drewN | apply Kd.R_drew)); exact HO377.out⟩, ⟨pb HB⟩⟩
      case round =>
       clear H'
       try clear c1
       try clear p2
       try clear c3
       try clear c5
       try clear c5b0
       try clear c5b1
       try clear c7
       try clear c8
       try clear c8b0
       try clear c8b1
       try clear p2
       obtain ⟨x9_3, x10_3, x11_3, rfl, rfl, rfl, HA, HK3, HO_8, HB⟩ := hrel
       cases gk with
       | zero => exact absurd HA.out (by simp [spec_LongestWait.l0])
       | succ k3 =>
        have H := HA.out
        clear HA
        simp only [spec_LongestWait.l0] at H
        by_cases c11 : x11_3 < (l0.length : Int)
        ·rw [if_pos c11] at H
         have c11b0 : decide (x11_3 < (l0.length : Int)) = true := decide_eq_true c11
         clear c11
         by_cases c12 : 0 ≤ x11_3
         ·rw [if_pos c12] at H
          have c12b0 : decide (0 ≤ x11_3) = true := decide_eq_true c12
          clear c12
          by_cases c13 : x11_3 < (t375.length : Int)
          ·rw [if_pos c13] at H
           have c13b0 : decide (x11_3 < (t375.length : Int)) = true := decide_eq_true c13
           clear c13
           by_cases c14 : (wrap64 ((rd t375 x11_3) - (wrap64 ((rd_T55 l0 x11_3).f0)))) > x10_3
           ·rw [if_pos c14] at H
            have c14b0 : decide (x10_3 < (wrap64 ((rd t375 x11_3) - (wrap64 ((rd_T55 l0 x11_3).f0))))) = true := decide_eq_true c14
            clear c14
            have H' := Aside0.mk H
            clear H
            obtain ⟨Ao15, co15, eo15⟩ := Kd.R_slice HO_8.out
            subst eo15
            have p378 : 0 ≤ (x11_3 : Int) := of_decide_eq_true (by first | (with_reducible assumption) | assumption)
            have q378 : x11_3 < (t375.length : Int) := of_decide_eq_true (by first | (with_reducible assumption) | assumption)
            obtain ⟨ad378, e378, hx378_0⟩ := Kd.at_int (Kd.R_reads' HO_8.out).2.2 x11_3 p378 q378
            cases e378
            replace p378 := eq_true p378
            replace q378 := eq_true q378
            have p379 : 0 ≤ (x11_3 : Int) := of_decide_eq_true (by first | (with_reducible assumption) | assumption)
            have q379 : x11_3 < (l0.length : Int) := of_decide_eq_true (by first | (with_reducible assumption) | assumption)
            obtain ⟨ad379, e379, hx379_0, hx379_1⟩ := at_T55 HR0.out x11_3 p379 q379
            cases e379
            try replace hx379_0 := (HB.out.cell (World.block_lt_of_cell? w _ hx379_0)).trans hx379_0
            try replace hx379_1 := (HB.out.cell (World.block_lt_of_cell? w _ hx379_1)).trans hx379_1
            replace p379 := eq_true p379
            replace q379 := eq_true q379
            go_wp2
            repeat (go_quiet (fail); try go_wp2)
            go_roundg k3
            case measure => have := HJ3.out; have := HJ5.out; have := HK3.out; omega
            case rel => exact ⟨(x11_3), (wrap64 ((rd t375 x11_3) - (wrap64 ((rd_T55 l0 x11_3).f0)))), (wrap64 (x11_3 + 1)), (by first | rfl | (simp; done) | (simp [*]; done)), (by first | rfl | (simp; done) | (simp [*]; done)), (by first | rfl | (simp; done) | (simp [*]; done)), H', ⟨by have := HJ3.out; have := HJ5.out; have := HK3.out; omega⟩, ⟨by (with_reducible repeat (first | apply Kd.R_alloc | apply Kd.R_drewN | apply Kd.R_drew)); exact HO_8.out⟩, ⟨pb HB⟩⟩
           ·rw [if_neg c14] at H
            have c14b0 : decide (x10_3 < (wrap64 ((rd t375 x11_3) - (wrap64 ((rd_T55 l0 x11_3).f0))))) = false := decide_eq_false c14
            clear c14
            have H' := Aside0.mk H
            clear H
            obtain ⟨Ao16, co16, eo16⟩ := Kd.R_slice HO_8.out
            subst eo16
            have p378 : 0 ≤ (x11_3 : Int) := of_decide_eq_true (by first | (with_reducible assumption) | assumption)
            have q378 : x11_3 < (t375.length : Int) := of_decide_eq_true (by first | (with_reducible assumption) | assumption)
            obtain ⟨ad378, e378, hx378_0⟩ := Kd.at_int (Kd.R_reads' HO_8.out).2.2 x11_3 p378 q378
            cases e378
            replace p378 := eq_true p378
            replace q378 := eq_true q378
            have p379 : 0 ≤ (x11_3 : Int) := of_decide_eq_true (by first | (with_reducible assumption) | assumption)
            have q379 : x11_3 < (l0.length : Int) := of_decide_eq_true (by first | (with_reducible assumption) | assumption)
            obtain ⟨ad379, e379, hx379_0, hx379_1⟩ := at_T55 HR0.out x11_3 p379 q379
            cases e379
            try replace hx379_0 := (HB.out.cell (World.block_lt_of_cell? w _ hx379_0)).trans hx379_0
            try replace hx379_1 := (HB.out.cell (World.block_lt_of_cell? w _ hx379_1)).trans hx379_1
            replace p379 := eq_true p379
            replace q379 := eq_true q379
            go_wp2
            repeat (go_quiet (fail); try go_wp2)
            go_roundg k3
            case measure => have := HJ3.out; have := HJ5.out; have := HK3.out; omega
            case rel => exact ⟨(x9_3), (x10_3), (wrap64 (x11_3 + 1)), (by first | rfl | (simp; done) | (simp [*]; done)), (by first | rfl | (simp; done) | (simp [*]; done)), (by first | rfl | (simp; done) | (simp [*]; done)), H', ⟨by have := HJ3.out; have := HJ5.out; have := HK3.out; omega⟩, ⟨by (with_reducible repeat (first | apply Kd.R_alloc | apply Kd.R_drewN | apply Kd.R_drew)); exact HO_8.out⟩, ⟨pb HB⟩⟩
          ·rw [if_neg c13] at H
           exact absurd H (by simp)
         ·rw [if_neg c12] at H
          exact absurd H (by simp)
        ·rw [if_neg c11] at H
         have c11b0 : decide (x11_3 < (l0.length : Int)) = false := decide_eq_false c11
         clear c11
         simp only [Option.some.injEq, Prod.mk.injEq] at H
         obtain ⟨rfl, rfl, rfl⟩ := H
         go_wp2
         repeat (go_quiet (fail); try go_wp2)
         go_ret3
         exact ⟨by first | rfl | (simp [errW_none, errW_some] <;> rfl) | (simp [*, errW_none, errW_some] <;> rfl), pb HB⟩
     ·rw [if_neg c8] at H
      have c8b0 : (x7_5 == 0) = false := beq_eq_false_iff_ne.mpr c8
      have c8b1 : (x7_5 != 0) = true := bne_iff_ne.mpr c8
      simp only [Option.some.injEq, Prod.mk.injEq] at H
      obtain ⟨rfl, rfl, rfl⟩ := H
      go_wp2
      repeat (go_quiet (fail); try go_wp2)
      go_ret3
      exact ⟨by first | rfl | (simp [errW_none, errW_some] <;> rfl) | (simp [*, errW_none, errW_some] <;> rfl), pb HB⟩
end Go.Proofs.Ytjieacofpegmpaa.PD
end
