/- The statement FnExactLeadAll of this program: what its proof uses, part 11 of 15. The call returns true for all arguments. No condition of its own. -/
import Derived.Test.YtjpponjekcemjaaZFnExactLeadAll9
section
namespace Go.Proofs.Ytjpponjekcemjaa.PB
open Go.RowKit Go.Proofs.YtjpponjekcemjaaW.PrintWords Go.Proofs.YtjpponjekcemjaaW.PrintLast Go.Proofs.YtjpponjekcemjaaW.PrintMore Go.Proofs.Ytjpponjekcemjaa.La
attribute [local go_sem] max2_int min2_int max_two min_two max_three min_three max_four min_four   -- for this text's walks alone
set_option linter.unusedVariables false
set_option linter.unusedSimpArgs false
def impl_File_isChain.l0 : Nat → List (S39) → List (S39) → Int → Int → Option (Bool)
 | 0, _, _, _, _ => none
 | k + 1, x0, x5, x6, x7 => if x7 < x6 then (if 0 ≤ x7 then (if x7 < (x5.length : Int) then (if x7 ≤ (x0.length : Int) then ((impl_Spot_91.f k (x0.take (x7 : Int).toNat) ((rd_T39 x5 x7).f0) ((rd_T39 x5 x7).f1)).bind fun t259 => (if t259 = true then (some false) else (if x7 > 0 then (if 0 ≤ (wrap64 (x7 - 1)) then (if (wrap64 (x7 - 1)) < (x0.length : Int) then ((impl_SideTo.f k ((rd_T39 x0 (wrap64 (x7 - 1))).f0) ((rd_T39 x0 (wrap64 (x7 - 1))).f1) ((rd_T39 x5 x7).f0) ((rd_T39 x5 x7).f1)).bind fun t261 => (if t261 < 0 then (some false) else (impl_File_isChain.l0 k x0 x5 x6 (wrap64 (x7 + 1))))) else (none)) else (none)) else (impl_File_isChain.l0 k x0 x5 x6 (wrap64 (x7 + 1)))))) else (none)) else (none)) else (none)) else ((impl_Spot_95.f x0).bind fun t251 => ((impl_within.f t251 1 12).bind fun t252 => (some t252)))
def impl_File_isChain.f (k : Nat) (l0 : List (S39)) : Option (Bool) := impl_File_isChain.l0 k l0 l0 (l0.length : Int) 0
theorem impl_File_isChain.mono_l : ∀ k, (∀ y0 y1 y2 y3, LeO (impl_File_isChain.l0 k y0 y1 y2 y3) (impl_File_isChain.l0 (k + 1) y0 y1 y2 y3))
 | 0 => fun _ _ _ _ r h => by simp [impl_File_isChain.l0] at h
 | k + 1 => by
  have ih0 := impl_File_isChain.mono_l k
  ·intro y0 y1 y2 y3
   unfold impl_File_isChain.l0
   repeat' first
   | (with_reducible exact ih0 _ _ _ _)
   | (with_reducible exact impl_SideTo.mono _ _ _ _ _)
   | (with_reducible exact impl_Spot_91.mono _ _ _ _)
   | (with_reducible exact LeO.refl _)
   | (with_reducible exact LeO.none _)
   | (with_reducible refine LeO.ite ?_ ?_)
   | (with_reducible refine LeO.bind ?_ (fun _ => ?_))
   | exact ih0 _ _ _ _
   | exact impl_SideTo.mono _ _ _ _ _
   | exact impl_Spot_91.mono _ _ _ _
   | exact LeO.none _
   | refine LeO.ite ?_ ?_
   | refine LeO.bind ?_ (fun _ => ?_)
theorem impl_File_isChain.mono : ∀ a0 k, LeO (impl_File_isChain.f k a0) (impl_File_isChain.f (k + 1) a0) := by
 intro a0 k
 have ih0 := impl_File_isChain.mono_l k
 unfold impl_File_isChain.f
 repeat' first
   | (with_reducible exact ih0 _ _ _ _)
   | (with_reducible exact impl_SideTo.mono _ _ _ _ _)
   | (with_reducible exact impl_Spot_91.mono _ _ _ _)
   | (with_reducible exact LeO.refl _)
   | (with_reducible exact LeO.none _)
   | (with_reducible refine LeO.ite ?_ ?_)
   | (with_reducible refine LeO.bind ?_ (fun _ => ?_))
   | exact ih0 _ _ _ _
   | exact impl_SideTo.mono _ _ _ _ _
   | exact impl_Spot_91.mono _ _ _ _
   | exact LeO.none _
   | refine LeO.ite ?_ ?_
   | refine LeO.bind ?_ (fun _ => ?_)
def impl_File_isChain.T4 : Bool × List (List Nat × List Nat) := (true, [([], []), ([], []), ([0, 1], [0, 1]), ([], []), ([2, 3], [2, 3]), ([4, 4], [4]), ([5], [5]), ([6, 5], [5, 6]), ([7, 5, 5], [5, 7]), ([8], [8]), ([8], [8]), ([10, 8], [8, 10]), ([9, 11, 8], [8, 9, 11]), ([12, 8], [8, 12]), ([8], [8]), ([13, 14, 8, 8], [8, 13, 14]), ([15, 8], [8, 15]), ([8, 16, 5], [5, 8, 16]), ([5, 17], [5, 17])])
def impl_File_isChain.B4 : List Nat := [0, 0, 3, 0, 15, 31, 63, 127, 255, 511, 511, 1535, 4095, 8191, 511, 32767, 65535, 131071, 262143]
theorem impl_File_isChain.tab4 : rtab .any (opsOf Try.f83 4) = impl_File_isChain.T4 := by kernel_rfl
theorem impl_File_isChain.bits4 : waitsOk impl_File_isChain.T4.2 impl_File_isChain.B4 = true := by kernel_rfl
set_option maxHeartbeats 8000000 in
set_option maxRecDepth 100000 in
theorem impl_File_isChain.calls (k : Nat) (A0 : Option Addr) (c0 : Nat) (l0 : List (S39)) (r : Bool) (w : World) (hr0 : Kd.C k39 w A0 l0.length l0) (hc0 : l0.length ≤ c0) (h : impl_File_isChain.f k l0 = some r) :
  Calls Try.prog 83 #[.slice A0 l0.length c0] w fun e w' => e = .returned (.bool r) ∧ Below w.heap.size w w' := by
 have hu39 := Try.underlying39
 have HR0 := Aside0.mk hr0
 have HC0 := Aside0.mk hc0
 clear hr0 hc0
 have HB := Aside0.mk (Below.refl w.heap.size w)
 have H : (impl_File_isChain.l0 k l0 l0 (l0.length : Int) 0) = some r := h
 clear h
 have H' := Aside0.mk H
 clear H
 go_enter Try.func83, Try.ntmps83
 go_wp2
 go_loopg [7] k (fun kq v7 w' => ∃ (x7_1 : Int), v7 = .int .i64 x7_1 ∧ Aside0 (impl_File_isChain.l0 kq l0 l0 (l0.length : Int) x7_1 = some r) ∧ Aside0 (kq ≤ k) ∧ Aside0 (Below w.heap.size w w'))
 case atStart => exact ⟨(0), (by first | rfl | (simp; done) | (simp [*]; done)), H', ⟨Nat.le_refl _⟩, ⟨pb HB⟩⟩
 case round =>
  clear H'; obtain ⟨x7_1, rfl, HA, HK1, HB⟩ := hrel
  cases gk with
  | zero => exact absurd HA.out (by simp [impl_File_isChain.l0])
  | succ k1 =>
   have H := HA.out; clear HA; simp only [impl_File_isChain.l0] at H
   by_cases c2 : x7_1 < (l0.length : Int)
   ·rw [if_pos c2] at H
    have c2b0 : decide (x7_1 < (l0.length : Int)) = true := decide_eq_true c2; clear c2
    by_cases c3 : 0 ≤ x7_1
    ·rw [if_pos c3] at H
     have c3b0 : decide (0 ≤ x7_1) = true := decide_eq_true c3; clear c3
     by_cases c4 : x7_1 < (l0.length : Int)
     ·rw [if_pos c4] at H
      have c4b0 : decide (x7_1 < (l0.length : Int)) = true := decide_eq_true c4; clear c4; have c5b0 := eq_true (oda : 0 ≤ x7_1)
      by_cases c6 : x7_1 ≤ (l0.length : Int)
      ·rw [if_pos c6] at H
       have c6b0 := eq_true c6; have c6b1 : decide (x7_1 ≤ (l0.length : Int)) = true := decide_eq_true c6; clear c6; obtain ⟨y255, hy255⟩ : ∃ y_ : List (S39), y_ = (l0.take (x7_1 : Int).toNat) := ⟨_, rfl⟩
       replace H : ((impl_Spot_91.f k1 y255 ((rd_T39 l0 x7_1).f0) ((rd_T39 l0 x7_1).f1)).bind fun t259 => (if t259 = true then (some false) else (if x7_1 > 0 then (if 0 ≤ (wrap64 (x7_1 - 1)) then (if (wrap64 (x7_1 - 1)) < (l0.length : Int) then ((impl_SideTo.f k1 ((rd_T39 l0 (wrap64 (x7_1 - 1))).f0) ((rd_T39 l0 (wrap64 (x7_1 - 1))).f1) ((rd_T39 l0 x7_1).f0) ((rd_T39 l0 x7_1).f1)).bind fun t261 => (if t261 < 0 then (some false) else (impl_File_isChain.l0 k1 l0 l0 (l0.length : Int) (wrap64 (x7_1 + 1))))) else (none)) else (none)) else (impl_File_isChain.l0 k1 l0 l0 (l0.length : Int) (wrap64 (x7_1 + 1)))))) = some r := by first | (rw [hy255]; with_reducible exact H) | (have H2_ := (Option.bind_some _ _).symm.trans H; rw [hy255]; with_reducible exact H2_) | (have H2_ := (Option.bind_some _ _).symm.trans H; with_reducible exact H2_) | with_reducible exact H | (rw [hy255]; exact H) | exact H
       have Ny255 := Aside0.mk hy255; clear hy255; obtain ⟨t259, A7, H⟩ := obn H
       by_cases c8 : t259 = true
       ·subst c8
        have H1 : (some false) = some r := by rw [if_pos rfl] at H; exact H
        clear H; have H := H1; clear H1; obtain rfl := Option.some.inj H; have p253 : 0 ≤ (x7_1 : Int) := oda; have q253 : x7_1 < (l0.length : Int) := oda; obtain ⟨ad253, e253, hx253_0, hx253_1⟩ := at_T39 HR0.out x7_1 p253 q253; cases e253
        try replace hx253_0 := cb HB hx253_0
        try replace hx253_1 := cb HB hx253_1
        replace p253 := eq_true p253; replace q253 := eq_true q253
        try go_wp2_with (first | ((with_reducible refine gate_dst (N := 4) rfl ?_); refine box_event ?hg (N := 4) ?hd (cs := #[.int .i8 0, .int .i8 0]) (t := 39) ?hr ?_; (case hd => rfl); (case hg => rfl); (case hr => first | (go_simp; done) | (go_simp; rfl)); intro gb254 hg w9 hbox hb; have n0_ := bst HB hb; have n1_ := Aside0.mk (hbox); have n2_ := gwl HB hg; have n3_ := gwl HB hg; clear HB; have HB := n0_; have BK254 := n1_; have GW254 := n2_; have GE254 := n3_; clear n0_ n1_ n2_ n3_; clear hb hbox hg; have hcz10_0 : w9.cell? ⟨gb254, 0, none⟩ = some (.int .i8 0) := (blk_cell BK254.out 0).trans rfl; have hcz10_1 : w9.cell? ⟨gb254, 1, none⟩ = some (.int .i8 0) := (blk_cell BK254.out 1).trans rfl; have hfz10_0 := blk_frozen BK254.out 0; have hfz10_1 := blk_frozen BK254.out 1))
        have n0_ : Aside0 (((w9.setCell ⟨gb254, 0, none⟩ (.int .i8 ((rd_T39 l0 x7_1).f0))).setCell ⟨gb254, 1, none⟩ (.int .i8 ((rd_T39 l0 x7_1).f1))).heap[gb254]? = some (.cells #[.int .i8 ((rd_T39 l0 x7_1).f0), .int .i8 ((rd_T39 l0 x7_1).f1)] 39 (0, 0))) := ⟨by (with_reducible repeat (first | refine blk_drewN ?_ _ | refine blk_drew ?_ | refine blk_alloc ?_ _)); refine blk_put (cs := #[.int .i8 ((rd_T39 l0 x7_1).f0), .int .i8 0]) ?_ 1 _ rfl; (with_reducible repeat (first | refine blk_drewN ?_ _ | refine blk_drew ?_ | refine blk_alloc ?_ _)); refine blk_put (cs := #[.int .i8 0, .int .i8 0]) ?_ 0 _ rfl; (with_reducible repeat (first | refine blk_drewN ?_ _ | refine blk_drew ?_ | refine blk_alloc ?_ _)); exact BK254.out⟩; have n1_ : Aside0 (Below w.heap.size w ((w9.setCell ⟨gb254, 0, none⟩ (.int .i8 ((rd_T39 l0 x7_1).f0))).setCell ⟨gb254, 1, none⟩ (.int .i8 ((rd_T39 l0 x7_1).f1)))) := ⟨pbs HB⟩; (try clear BK254); (try clear HB); generalize ((w9.setCell ⟨gb254, 0, none⟩ (.int .i8 ((rd_T39 l0 x7_1).f0))).setCell ⟨gb254, 1, none⟩ (.int .i8 ((rd_T39 l0 x7_1).f1))) = w11 at n0_ n1_ ⊢; have BK254 := n0_; have HB := n1_; clear n0_ n1_; replace BK254 := Aside0.mk (blk_drew BK254.out); replace HB := Aside0.mk (below_drew1 HB.out); have q13 : (x7_1 : Int) ≤ ((l0.length : Int) : Int) := oda; obtain ⟨i013, hi013, _, hsz13, _⟩ := info_parts info39; have hroom13 : l0.length ≤ c0 := HC0.out; have hC13 : Kd.C k39 _ (some ad253) l0.length l0 := HR0.out; have hcut13 := cut_to (P := Try.prog) 37 39 .i64 Try.underlying37 hi013 (some ad253) l0.length c0 x7_1 (oda) q13 hroom13; have hr13 := Kd.C_take (m := (x7_1 : Int).toNat) hC13 (by omega); have hy13 : y255.length = (x7_1 : Int).toNat := (by rw [Ny255.out, List.length_take]; omega); rw [← Ny255.out] at hr13; rw [← hy13] at hcut13; have HR258 := Aside0.mk hr13; have HC258 := Aside0.mk (show y255.length ≤ c0 from by omega); clear hr13 hC13 hroom13 hi013 hsz13; have KY13 := Aside0.mk hy13; clear hy13; replace q13 := eq_true q13
        refine start_ (n := 19) (S := fun w' => w'.cell? ⟨gb254, 0, none⟩ = some (.int .i8 ((rd_T39 l0 x7_1).f0)) ∧ w'.cell? ⟨gb254, 1, none⟩ = some (.int .i8 ((rd_T39 l0 x7_1).f1))) (ds := []) (bA 19 0) (by kernel_rfl) rfl rfl ⟨(blk_cell BK254.out 0).trans rfl, (blk_cell BK254.out 1).trans rfl⟩ (fun hHeld => ?_); refine with_tabW impl_File_isChain.tab4 impl_File_isChain.bits4 (fun HT_ HW_ => ?_)
        generalize w11.drew = w12 at BK254 HB HR258 hHeld ⊢; refine pu 0 12 19 1 HT_ ?_; refine pu 1 13 19 3 HT_ ?_; refine pu 2 14 19 7 HT_ ?_; refine tk 3 15 19 15 HT_ HW_ hHeld ?_; refine one_ (i := 4) (N := some 16) (bA 19 31) rfl rfl (one_of HT_.out (by kernel_rfl)) (by decide) (fun K hK => ?_); refine gs Try.func91 #[.slice (some ad253) y255.length c0, .agg #[.int .i8 ((rd_T39 l0 x7_1).f0), .int .i8 ((rd_T39 l0 x7_1).f1)]] ?_; with_reducible refine (impl_Spot_91.calls k1 _ _ y255 ((rd_T39 l0 x7_1).f0) ((rd_T39 l0 x7_1).f1) true _ ?side1 ?side2 A7.out).mono ?_; (case side1 => repeat (first | exact (Kd.C_below HR258.out HB.out) | (with_reducible refine Kd.C_alloc ?_ _) | (with_reducible refine Kd.C_drewN ?_ _) | (with_reducible refine Kd.C_drew ?_))); (case side2 => exact HC258.out)
        rintro e w14 ⟨rfl, hb⟩
        refine ⟨_, rfl, ?_⟩; replace BK254 := bkb BK254 hb; replace HB := bst HB hb; (try clear hb); (try clear hb2); (try clear hk); (try clear hi); refine hK.out _ _ ⟨(blk_cell BK254.out 0).trans rfl, (blk_cell BK254.out 1).trans rfl⟩ (fun hHeld => ?_); clear hK K; refine nm 16 ?_; refine pu 5 17 19 63 HT_ ?_; refine pn 6 18 19 127 HT_ ?_; refine pn 7 19 19 255 HT_ ?_; refine pn 8 20 19 511 HT_ ?_; refine pn 9 21 19 1023 HT_ ?_; refine pn 10 22 19 2047 HT_ ?_; refine pn 11 23 19 4095 HT_ ?_; refine pn 12 24 19 8191 HT_ ?_; refine pn 13 25 19 16383 HT_ ?_; refine pn 14 26 19 32767 HT_ ?_; refine pn 15 27 19 65535 HT_ ?_; refine pn 16 28 19 131071 HT_ ?_; refine pn 17 29 19 262143 HT_ ?_; refine pu 18 30 19 524287 HT_ ?_; refine done_ (done_of HT_.out (by kernel_rfl)) ?_
        try go_wp2
        go_ret
        exact ⟨by first | rfl | (simp [errW_none, errW_some] <;> rfl) | (simp [*, errW_none, errW_some] <;> rfl), pbs HB⟩
       ·replace c8 := Bool.eq_false_iff.mpr c8
        subst c8
        have H1 : (if x7_1 > 0 then (if 0 ≤ (wrap64 (x7_1 - 1)) then (if (wrap64 (x7_1 - 1)) < (l0.length : Int) then ((impl_SideTo.f k1 ((rd_T39 l0 (wrap64 (x7_1 - 1))).f0) ((rd_T39 l0 (wrap64 (x7_1 - 1))).f1) ((rd_T39 l0 x7_1).f0) ((rd_T39 l0 x7_1).f1)).bind fun t261 => (if t261 < 0 then (some false) else (impl_File_isChain.l0 k1 l0 l0 (l0.length : Int) (wrap64 (x7_1 + 1))))) else (none)) else (none)) else (impl_File_isChain.l0 k1 l0 l0 (l0.length : Int) (wrap64 (x7_1 + 1)))) = some r := by rw [if_neg (show ¬ (false = true) by decide)] at H; exact H
        clear H; have H := H1; clear H1
        by_cases c15 : x7_1 > 0
        ·rw [if_pos c15] at H
         have c15b0 : decide (0 < x7_1) = true := decide_eq_true c15; clear c15; obtain ⟨ji16, hji16⟩ : ∃ j_ : Int, (wrap64 (x7_1 - 1)) = j_ := ⟨_, rfl⟩
         replace H : (if 0 ≤ (ji16) then (if (ji16) < (l0.length : Int) then ((impl_SideTo.f k1 ((rd_T39 l0 (ji16)).f0) ((rd_T39 l0 (ji16)).f1) ((rd_T39 l0 x7_1).f0) ((rd_T39 l0 x7_1).f1)).bind fun t261 => (if t261 < 0 then (some false) else (impl_File_isChain.l0 k1 l0 l0 (l0.length : Int) (wrap64 (x7_1 + 1))))) else (none)) else (none)) = some r := by first | (rw [hji16] at H; exact H) | (simp only [hji16] at H ⊢; exact H)
         (try rw [hji16] at A7); have hji16w : (IntKind.i64.wrap (x7_1 - 1)) = ji16 := (i64_w _).trans hji16
         by_cases c17 : 0 ≤ (ji16)
         ·rw [if_pos c17] at H
          have c17b0 : decide (0 ≤ (ji16)) = true := decide_eq_true c17; clear c17
          by_cases c18 : (ji16) < (l0.length : Int)
          ·rw [if_pos c18] at H
           have c18b0 : decide ((ji16) < (l0.length : Int)) = true := decide_eq_true c18; clear c18; obtain ⟨t261, A19, H⟩ := obn H
           by_cases c20 : t261 < 0
           ·rw [if_pos c20] at H
            have c20b0 : decide (t261 < 0) = true := decide_eq_true c20; clear c20; obtain rfl := Option.some.inj H; have p253 : 0 ≤ (x7_1 : Int) := oda; have q253 : x7_1 < (l0.length : Int) := oda; obtain ⟨ad253, e253, hx253_0, hx253_1⟩ := at_T39 HR0.out x7_1 p253 q253; cases e253
            try replace hx253_0 := cb HB hx253_0
            try replace hx253_1 := cb HB hx253_1
            replace p253 := eq_true p253; replace q253 := eq_true q253
            try go_wp2_with (first | ((with_reducible refine gate_dst (N := 4) rfl ?_); refine box_event ?hg (N := 4) ?hd (cs := #[.int .i8 0, .int .i8 0]) (t := 39) ?hr ?_; (case hd => rfl); (case hg => rfl); (case hr => first | (go_simp; done) | (go_simp; rfl)); intro gb254 hg w21 hbox hb; have n0_ := bst HB hb; have n1_ := Aside0.mk (hbox); have n2_ := gwl HB hg; have n3_ := gwl HB hg; clear HB; have HB := n0_; have BK254 := n1_; have GW254 := n2_; have GE254 := n3_; clear n0_ n1_ n2_ n3_; clear hb hbox hg; have hcz22_0 : w21.cell? ⟨gb254, 0, none⟩ = some (.int .i8 0) := (blk_cell BK254.out 0).trans rfl; have hcz22_1 : w21.cell? ⟨gb254, 1, none⟩ = some (.int .i8 0) := (blk_cell BK254.out 1).trans rfl; have hfz22_0 := blk_frozen BK254.out 0; have hfz22_1 := blk_frozen BK254.out 1))
            have n0_ : Aside0 (((w21.setCell ⟨gb254, 0, none⟩ (.int .i8 ((rd_T39 l0 x7_1).f0))).setCell ⟨gb254, 1, none⟩ (.int .i8 ((rd_T39 l0 x7_1).f1))).heap[gb254]? = some (.cells #[.int .i8 ((rd_T39 l0 x7_1).f0), .int .i8 ((rd_T39 l0 x7_1).f1)] 39 (0, 0))) := ⟨by (with_reducible repeat (first | refine blk_drewN ?_ _ | refine blk_drew ?_ | refine blk_alloc ?_ _)); refine blk_put (cs := #[.int .i8 ((rd_T39 l0 x7_1).f0), .int .i8 0]) ?_ 1 _ rfl; (with_reducible repeat (first | refine blk_drewN ?_ _ | refine blk_drew ?_ | refine blk_alloc ?_ _)); refine blk_put (cs := #[.int .i8 0, .int .i8 0]) ?_ 0 _ rfl; (with_reducible repeat (first | refine blk_drewN ?_ _ | refine blk_drew ?_ | refine blk_alloc ?_ _)); exact BK254.out⟩; have n1_ : Aside0 (Below w.heap.size w ((w21.setCell ⟨gb254, 0, none⟩ (.int .i8 ((rd_T39 l0 x7_1).f0))).setCell ⟨gb254, 1, none⟩ (.int .i8 ((rd_T39 l0 x7_1).f1)))) := ⟨pbs HB⟩; (try clear BK254); (try clear HB); generalize ((w21.setCell ⟨gb254, 0, none⟩ (.int .i8 ((rd_T39 l0 x7_1).f0))).setCell ⟨gb254, 1, none⟩ (.int .i8 ((rd_T39 l0 x7_1).f1))) = w23 at n0_ n1_ ⊢; have BK254 := n0_; have HB := n1_; clear n0_ n1_; replace BK254 := Aside0.mk (blk_drew BK254.out); replace HB := Aside0.mk (below_drew1 HB.out); have q25 : (x7_1 : Int) ≤ ((l0.length : Int) : Int) := oda; obtain ⟨i025, hi025, _, hsz25, _⟩ := info_parts info39; have hroom25 : l0.length ≤ c0 := HC0.out; have hC25 : Kd.C k39 _ (some ad253) l0.length l0 := HR0.out; have hcut25 := cut_to (P := Try.prog) 37 39 .i64 Try.underlying37 hi025 (some ad253) l0.length c0 x7_1 (oda) q25 hroom25; have hr25 := Kd.C_take (m := (x7_1 : Int).toNat) hC25 (by omega); have hy25 : y255.length = (x7_1 : Int).toNat := (by rw [Ny255.out, List.length_take]; omega); rw [← Ny255.out] at hr25; rw [← hy25] at hcut25; have HR258 := Aside0.mk hr25; have HC258 := Aside0.mk (show y255.length ≤ c0 from by omega); clear hr25 hC25 hroom25 hi025 hsz25; have KY25 := Aside0.mk hy25; clear hy25; replace q25 := eq_true q25; have p260 : 0 ≤ ((ji16) : Int) := oda; have q260 : (ji16) < (l0.length : Int) := oda; obtain ⟨ad260, e260, hx260_0, hx260_1⟩ := at_T39 HR0.out (ji16) p260 q260; have hw260_1 := hx260_1; have hw260_0 := hx260_0; obtain rfl : ad253 = ad260 := (by injection e260)
            try replace hx260_0 := cb HB hx260_0
            try replace hx260_1 := cb HB hx260_1
            replace p260 := eq_true p260; replace q260 := eq_true q260
            refine start_ (n := 19) (S := fun w' => w'.cell? ⟨gb254, 0, none⟩ = some (.int .i8 ((rd_T39 l0 x7_1).f0)) ∧ w'.cell? ⟨gb254, 1, none⟩ = some (.int .i8 ((rd_T39 l0 x7_1).f1)) ∧ w'.cell? (ad253.add (((ji16)).toNat * 2)) = some (.int .i8 ((rd_T39 l0 (ji16)).f0)) ∧ w'.cell? ⟨(ad253.add (((ji16)).toNat * 2)).block, (ad253.add (((ji16)).toNat * 2)).off + 1, none⟩ = some (.int .i8 ((rd_T39 l0 (ji16)).f1))) (ds := []) (bA 19 0) (by kernel_rfl) rfl rfl ⟨(blk_cell BK254.out 0).trans rfl, (blk_cell BK254.out 1).trans rfl, (cb HB hw260_0), (cb HB hw260_1)⟩ (fun hHeld => ?_); refine with_tabW impl_File_isChain.tab4 impl_File_isChain.bits4 (fun HT_ HW_ => ?_)
            generalize w23.drew = w24 at BK254 HB HR258 hx260_0 hx260_1 hHeld ⊢; refine pu 0 12 19 1 HT_ ?_; refine pu 1 13 19 3 HT_ ?_; refine pu 2 14 19 7 HT_ ?_; refine tk 3 15 19 15 HT_ HW_ hHeld ?_; refine one_ (i := 4) (N := some 16) (bA 19 31) rfl rfl (one_of HT_.out (by kernel_rfl)) (by decide) (fun K hK => ?_); refine gs Try.func91 #[.slice (some ad253) y255.length c0, .agg #[.int .i8 ((rd_T39 l0 x7_1).f0), .int .i8 ((rd_T39 l0 x7_1).f1)]] ?_; with_reducible refine (impl_Spot_91.calls k1 _ _ y255 ((rd_T39 l0 x7_1).f0) ((rd_T39 l0 x7_1).f1) false _ ?side1 ?side2 A7.out).mono ?_; (case side1 => repeat (first | exact (Kd.C_below HR258.out HB.out) | (with_reducible refine Kd.C_alloc ?_ _) | (with_reducible refine Kd.C_drewN ?_ _) | (with_reducible refine Kd.C_drew ?_))); (case side2 => exact HC258.out)
            rintro e w26 ⟨rfl, hb⟩
            refine ⟨_, rfl, ?_⟩; replace BK254 := bkb BK254 hb; replace HB := bst HB hb; (try clear hb); (try clear hb2); (try clear hk); (try clear hi); refine hK.out _ _ ⟨(blk_cell BK254.out 0).trans rfl, (blk_cell BK254.out 1).trans rfl, (cb HB hw260_0), (cb HB hw260_1)⟩ (fun hHeld => ?_); clear hK K; refine nm 16 ?_; refine pu 5 17 19 63 HT_ ?_; refine pu 6 18 19 127 HT_ ?_; refine pu 7 19 19 255 HT_ ?_; refine pu 8 20 19 511 HT_ ?_; refine pu 9 21 19 1023 HT_ ?_; refine pu 10 22 19 2047 HT_ ?_; refine pu 11 23 19 4095 HT_ ?_; refine pu 12 24 19 8191 HT_ ?_; refine tk 13 25 19 16383 HT_ HW_ hHeld ?_; refine tk 14 26 19 32767 HT_ HW_ hHeld ?_; refine one_ (i := 15) (N := some 27) (bA 19 65535) rfl rfl (one_of HT_.out (by kernel_rfl)) (by decide) (fun K hK => ?_); refine goes_ Try.func94 (by kernel_rfl) rfl #[.agg #[.int .i8 ((rd_T39 l0 (ji16)).f0), .int .i8 ((rd_T39 l0 (ji16)).f1)], .agg #[.int .i8 ((rd_T39 l0 x7_1).f0), .int .i8 ((rd_T39 l0 x7_1).f1)]] (by rfl) rfl rfl (by (try simp only [List.map_toArray, List.map_cons, List.map_nil]); first | done | (simp only [hji16]; rfl) | rfl | (simp only [List.length_drop, List.length_take]; rfl)) ?_; with_reducible refine (impl_SideTo.calls k1 ((rd_T39 l0 (ji16)).f0) ((rd_T39 l0 (ji16)).f1) ((rd_T39 l0 x7_1).f0) ((rd_T39 l0 x7_1).f1) t261 _ A19.out).mono ?_
            rintro e w27 ⟨rfl, hb⟩
            refine ⟨_, rfl, ?_⟩; replace BK254 := bkb BK254 hb; replace HB := bst HB hb; (try clear hb); (try clear hb2); (try clear hk); (try clear hi); refine hK.out _ _ ⟨(blk_cell BK254.out 0).trans rfl, (blk_cell BK254.out 1).trans rfl, (cb HB hw260_0), (cb HB hw260_1)⟩ (fun hHeld => ?_); clear hK K; refine nm 27 ?_; refine pu 16 28 19 131071 HT_ ?_; refine pu 17 29 19 262143 HT_ ?_; refine pu 18 30 19 524287 HT_ ?_; refine done_ (done_of HT_.out (by kernel_rfl)) ?_
            try go_wp2
            go_ret
            exact ⟨by first | rfl | (simp [errW_none, errW_some] <;> rfl) | (simp only [← hji16]; first | rfl | (simp [errW_none, errW_some] <;> rfl)) | (simp [*, errW_none, errW_some] <;> rfl), pbs HB⟩
           ·rw [if_neg c20] at H
            have c20b0 : decide (t261 < 0) = false := decide_eq_false c20; clear c20; have H' := Aside0.mk H; clear H; have p253 : 0 ≤ (x7_1 : Int) := oda; have q253 : x7_1 < (l0.length : Int) := oda; obtain ⟨ad253, e253, hx253_0, hx253_1⟩ := at_T39 HR0.out x7_1 p253 q253; cases e253
            try replace hx253_0 := cb HB hx253_0
            try replace hx253_1 := cb HB hx253_1
            replace p253 := eq_true p253; replace q253 := eq_true q253
            try go_wp2_with (first | ((with_reducible refine gate_dst (N := 4) rfl ?_); refine box_event ?hg (N := 4) ?hd (cs := #[.int .i8 0, .int .i8 0]) (t := 39) ?hr ?_; (case hd => rfl); (case hg => rfl); (case hr => first | (go_simp; done) | (go_simp; rfl)); intro gb254 hg w28 hbox hb; have n0_ := bst HB hb; have n1_ := Aside0.mk (hbox); have n2_ := gwl HB hg; have n3_ := gwl HB hg; clear HB; have HB := n0_; have BK254 := n1_; have GW254 := n2_; have GE254 := n3_; clear n0_ n1_ n2_ n3_; clear hb hbox hg; have hcz29_0 : w28.cell? ⟨gb254, 0, none⟩ = some (.int .i8 0) := (blk_cell BK254.out 0).trans rfl; have hcz29_1 : w28.cell? ⟨gb254, 1, none⟩ = some (.int .i8 0) := (blk_cell BK254.out 1).trans rfl; have hfz29_0 := blk_frozen BK254.out 0; have hfz29_1 := blk_frozen BK254.out 1))
            have n0_ : Aside0 (((w28.setCell ⟨gb254, 0, none⟩ (.int .i8 ((rd_T39 l0 x7_1).f0))).setCell ⟨gb254, 1, none⟩ (.int .i8 ((rd_T39 l0 x7_1).f1))).heap[gb254]? = some (.cells #[.int .i8 ((rd_T39 l0 x7_1).f0), .int .i8 ((rd_T39 l0 x7_1).f1)] 39 (0, 0))) := ⟨by (with_reducible repeat (first | refine blk_drewN ?_ _ | refine blk_drew ?_ | refine blk_alloc ?_ _)); refine blk_put (cs := #[.int .i8 ((rd_T39 l0 x7_1).f0), .int .i8 0]) ?_ 1 _ rfl; (with_reducible repeat (first | refine blk_drewN ?_ _ | refine blk_drew ?_ | refine blk_alloc ?_ _)); refine blk_put (cs := #[.int .i8 0, .int .i8 0]) ?_ 0 _ rfl; (with_reducible repeat (first | refine blk_drewN ?_ _ | refine blk_drew ?_ | refine blk_alloc ?_ _)); exact BK254.out⟩; have n1_ : Aside0 (Below w.heap.size w ((w28.setCell ⟨gb254, 0, none⟩ (.int .i8 ((rd_T39 l0 x7_1).f0))).setCell ⟨gb254, 1, none⟩ (.int .i8 ((rd_T39 l0 x7_1).f1)))) := ⟨pbs HB⟩; (try clear BK254); (try clear HB); generalize ((w28.setCell ⟨gb254, 0, none⟩ (.int .i8 ((rd_T39 l0 x7_1).f0))).setCell ⟨gb254, 1, none⟩ (.int .i8 ((rd_T39 l0 x7_1).f1))) = w30 at n0_ n1_ ⊢; have BK254 := n0_; have HB := n1_; clear n0_ n1_; replace BK254 := Aside0.mk (blk_drew BK254.out); replace HB := Aside0.mk (below_drew1 HB.out); have q32 : (x7_1 : Int) ≤ ((l0.length : Int) : Int) := oda; obtain ⟨i032, hi032, _, hsz32, _⟩ := info_parts info39; have hroom32 : l0.length ≤ c0 := HC0.out; have hC32 : Kd.C k39 _ (some ad253) l0.length l0 := HR0.out; have hcut32 := cut_to (P := Try.prog) 37 39 .i64 Try.underlying37 hi032 (some ad253) l0.length c0 x7_1 (oda) q32 hroom32; have hr32 := Kd.C_take (m := (x7_1 : Int).toNat) hC32 (by omega); have hy32 : y255.length = (x7_1 : Int).toNat := (by rw [Ny255.out, List.length_take]; omega); rw [← Ny255.out] at hr32; rw [← hy32] at hcut32; have HR258 := Aside0.mk hr32; have HC258 := Aside0.mk (show y255.length ≤ c0 from by omega); clear hr32 hC32 hroom32 hi032 hsz32; have KY32 := Aside0.mk hy32; clear hy32; replace q32 := eq_true q32; have p260 : 0 ≤ ((ji16) : Int) := oda; have q260 : (ji16) < (l0.length : Int) := oda; obtain ⟨ad260, e260, hx260_0, hx260_1⟩ := at_T39 HR0.out (ji16) p260 q260; have hw260_1 := hx260_1; have hw260_0 := hx260_0; obtain rfl : ad253 = ad260 := (by injection e260)
            try replace hx260_0 := cb HB hx260_0
            try replace hx260_1 := cb HB hx260_1
            replace p260 := eq_true p260; replace q260 := eq_true q260
            refine start_ (n := 19) (S := fun w' => w'.cell? ⟨gb254, 0, none⟩ = some (.int .i8 ((rd_T39 l0 x7_1).f0)) ∧ w'.cell? ⟨gb254, 1, none⟩ = some (.int .i8 ((rd_T39 l0 x7_1).f1)) ∧ w'.cell? (ad253.add (((ji16)).toNat * 2)) = some (.int .i8 ((rd_T39 l0 (ji16)).f0)) ∧ w'.cell? ⟨(ad253.add (((ji16)).toNat * 2)).block, (ad253.add (((ji16)).toNat * 2)).off + 1, none⟩ = some (.int .i8 ((rd_T39 l0 (ji16)).f1))) (ds := []) (bA 19 0) (by kernel_rfl) rfl rfl ⟨(blk_cell BK254.out 0).trans rfl, (blk_cell BK254.out 1).trans rfl, (cb HB hw260_0), (cb HB hw260_1)⟩ (fun hHeld => ?_); refine with_tabW impl_File_isChain.tab4 impl_File_isChain.bits4 (fun HT_ HW_ => ?_)
            generalize w30.drew = w31 at BK254 HB HR258 hx260_0 hx260_1 hHeld ⊢; refine pu 0 12 19 1 HT_ ?_; refine pu 1 13 19 3 HT_ ?_; refine pu 2 14 19 7 HT_ ?_; refine tk 3 15 19 15 HT_ HW_ hHeld ?_; refine one_ (i := 4) (N := some 16) (bA 19 31) rfl rfl (one_of HT_.out (by kernel_rfl)) (by decide) (fun K hK => ?_); refine gs Try.func91 #[.slice (some ad253) y255.length c0, .agg #[.int .i8 ((rd_T39 l0 x7_1).f0), .int .i8 ((rd_T39 l0 x7_1).f1)]] ?_; with_reducible refine (impl_Spot_91.calls k1 _ _ y255 ((rd_T39 l0 x7_1).f0) ((rd_T39 l0 x7_1).f1) false _ ?side1 ?side2 A7.out).mono ?_; (case side1 => repeat (first | exact (Kd.C_below HR258.out HB.out) | (with_reducible refine Kd.C_alloc ?_ _) | (with_reducible refine Kd.C_drewN ?_ _) | (with_reducible refine Kd.C_drew ?_))); (case side2 => exact HC258.out)
            rintro e w33 ⟨rfl, hb⟩
            refine ⟨_, rfl, ?_⟩; replace BK254 := bkb BK254 hb; replace HB := bst HB hb; (try clear hb); (try clear hb2); (try clear hk); (try clear hi); refine hK.out _ _ ⟨(blk_cell BK254.out 0).trans rfl, (blk_cell BK254.out 1).trans rfl, (cb HB hw260_0), (cb HB hw260_1)⟩ (fun hHeld => ?_); clear hK K; refine nm 16 ?_; refine pu 5 17 19 63 HT_ ?_; refine pu 6 18 19 127 HT_ ?_; refine pu 7 19 19 255 HT_ ?_; refine pu 8 20 19 511 HT_ ?_; refine pu 9 21 19 1023 HT_ ?_; refine pu 10 22 19 2047 HT_ ?_; refine pu 11 23 19 4095 HT_ ?_; refine pu 12 24 19 8191 HT_ ?_; refine tk 13 25 19 16383 HT_ HW_ hHeld ?_; refine tk 14 26 19 32767 HT_ HW_ hHeld ?_; refine one_ (i := 15) (N := some 27) (bA 19 65535) rfl rfl (one_of HT_.out (by kernel_rfl)) (by decide) (fun K hK => ?_); refine goes_ Try.func94 (by kernel_rfl) rfl #[.agg #[.int .i8 ((rd_T39 l0 (ji16)).f0), .int .i8 ((rd_T39 l0 (ji16)).f1)], .agg #[.int .i8 ((rd_T39 l0 x7_1).f0), .int .i8 ((rd_T39 l0 x7_1).f1)]] (by rfl) rfl rfl (by (try simp only [List.map_toArray, List.map_cons, List.map_nil]); first | done | (simp only [hji16]; rfl) | rfl | (simp only [List.length_drop, List.length_take]; rfl)) ?_; with_reducible refine (impl_SideTo.calls k1 ((rd_T39 l0 (ji16)).f0) ((rd_T39 l0 (ji16)).f1) ((rd_T39 l0 x7_1).f0) ((rd_T39 l0 x7_1).f1) t261 _ A19.out).mono ?_
            rintro e w34 ⟨rfl, hb⟩
            refine ⟨_, rfl, ?_⟩; replace BK254 := bkb BK254 hb; replace HB := bst HB hb; (try clear hb); (try clear hb2); (try clear hk); (try clear hi); refine hK.out _ _ ⟨(blk_cell BK254.out 0).trans rfl, (blk_cell BK254.out 1).trans rfl, (cb HB hw260_0), (cb HB hw260_1)⟩ (fun hHeld => ?_); clear hK K; refine nm 27 ?_; refine pu 16 28 19 131071 HT_ ?_; refine pu 17 29 19 262143 HT_ ?_; refine pu 18 30 19 524287 HT_ ?_; refine done_ (done_of HT_.out (by kernel_rfl)) ?_
            try go_wp2
            go_roundg k1
            case measure => have := HK1.out; omega
            case rel => exact ⟨(wrap64 (x7_1 + 1)), (by first | rfl | (simp; done) | (simp [*]; done)), H', ⟨by have := HK1.out; omega⟩, ⟨pbs HB⟩⟩
          ·rw [if_neg c18] at H
           exact absurd H (by simp)
         ·rw [if_neg c17] at H
          exact absurd H (by simp)
        ·rw [if_neg c15] at H
         have c15b0 : decide (0 < x7_1) = false := decide_eq_false c15; clear c15; have H' := Aside0.mk H; clear H; have p253 : 0 ≤ (x7_1 : Int) := oda; have q253 : x7_1 < (l0.length : Int) := oda; obtain ⟨ad253, e253, hx253_0, hx253_1⟩ := at_T39 HR0.out x7_1 p253 q253; cases e253
         try replace hx253_0 := cb HB hx253_0
         try replace hx253_1 := cb HB hx253_1
         replace p253 := eq_true p253; replace q253 := eq_true q253
         try go_wp2_with (first | ((with_reducible refine gate_dst (N := 4) rfl ?_); refine box_event ?hg (N := 4) ?hd (cs := #[.int .i8 0, .int .i8 0]) (t := 39) ?hr ?_; (case hd => rfl); (case hg => rfl); (case hr => first | (go_simp; done) | (go_simp; rfl)); intro gb254 hg w35 hbox hb; have n0_ := bst HB hb; have n1_ := Aside0.mk (hbox); have n2_ := gwl HB hg; have n3_ := gwl HB hg; clear HB; have HB := n0_; have BK254 := n1_; have GW254 := n2_; have GE254 := n3_; clear n0_ n1_ n2_ n3_; clear hb hbox hg; have hcz36_0 : w35.cell? ⟨gb254, 0, none⟩ = some (.int .i8 0) := (blk_cell BK254.out 0).trans rfl; have hcz36_1 : w35.cell? ⟨gb254, 1, none⟩ = some (.int .i8 0) := (blk_cell BK254.out 1).trans rfl; have hfz36_0 := blk_frozen BK254.out 0; have hfz36_1 := blk_frozen BK254.out 1))
         have n0_ : Aside0 (((w35.setCell ⟨gb254, 0, none⟩ (.int .i8 ((rd_T39 l0 x7_1).f0))).setCell ⟨gb254, 1, none⟩ (.int .i8 ((rd_T39 l0 x7_1).f1))).heap[gb254]? = some (.cells #[.int .i8 ((rd_T39 l0 x7_1).f0), .int .i8 ((rd_T39 l0 x7_1).f1)] 39 (0, 0))) := ⟨by (with_reducible repeat (first | refine blk_drewN ?_ _ | refine blk_drew ?_ | refine blk_alloc ?_ _)); refine blk_put (cs := #[.int .i8 ((rd_T39 l0 x7_1).f0), .int .i8 0]) ?_ 1 _ rfl; (with_reducible repeat (first | refine blk_drewN ?_ _ | refine blk_drew ?_ | refine blk_alloc ?_ _)); refine blk_put (cs := #[.int .i8 0, .int .i8 0]) ?_ 0 _ rfl; (with_reducible repeat (first | refine blk_drewN ?_ _ | refine blk_drew ?_ | refine blk_alloc ?_ _)); exact BK254.out⟩; have n1_ : Aside0 (Below w.heap.size w ((w35.setCell ⟨gb254, 0, none⟩ (.int .i8 ((rd_T39 l0 x7_1).f0))).setCell ⟨gb254, 1, none⟩ (.int .i8 ((rd_T39 l0 x7_1).f1)))) := ⟨pbs HB⟩; (try clear BK254); (try clear HB); generalize ((w35.setCell ⟨gb254, 0, none⟩ (.int .i8 ((rd_T39 l0 x7_1).f0))).setCell ⟨gb254, 1, none⟩ (.int .i8 ((rd_T39 l0 x7_1).f1))) = w37 at n0_ n1_ ⊢; have BK254 := n0_; have HB := n1_; clear n0_ n1_; replace BK254 := Aside0.mk (blk_drew BK254.out); replace HB := Aside0.mk (below_drew1 HB.out); have q39 : (x7_1 : Int) ≤ ((l0.length : Int) : Int) := oda; obtain ⟨i039, hi039, _, hsz39, _⟩ := info_parts info39; have hroom39 : l0.length ≤ c0 := HC0.out; have hC39 : Kd.C k39 _ (some ad253) l0.length l0 := HR0.out; have hcut39 := cut_to (P := Try.prog) 37 39 .i64 Try.underlying37 hi039 (some ad253) l0.length c0 x7_1 (oda) q39 hroom39; have hr39 := Kd.C_take (m := (x7_1 : Int).toNat) hC39 (by omega); have hy39 : y255.length = (x7_1 : Int).toNat := (by rw [Ny255.out, List.length_take]; omega); rw [← Ny255.out] at hr39; rw [← hy39] at hcut39; have HR258 := Aside0.mk hr39; have HC258 := Aside0.mk (show y255.length ≤ c0 from by omega); clear hr39 hC39 hroom39 hi039 hsz39; have KY39 := Aside0.mk hy39; clear hy39; replace q39 := eq_true q39
         refine start_ (n := 19) (S := fun w' => w'.cell? ⟨gb254, 0, none⟩ = some (.int .i8 ((rd_T39 l0 x7_1).f0)) ∧ w'.cell? ⟨gb254, 1, none⟩ = some (.int .i8 ((rd_T39 l0 x7_1).f1))) (ds := []) (bA 19 0) (by kernel_rfl) rfl rfl ⟨(blk_cell BK254.out 0).trans rfl, (blk_cell BK254.out 1).trans rfl⟩ (fun hHeld => ?_); refine with_tabW impl_File_isChain.tab4 impl_File_isChain.bits4 (fun HT_ HW_ => ?_)
         generalize w37.drew = w38 at BK254 HB HR258 hHeld ⊢; refine pu 0 12 19 1 HT_ ?_; refine pu 1 13 19 3 HT_ ?_; refine pu 2 14 19 7 HT_ ?_; refine tk 3 15 19 15 HT_ HW_ hHeld ?_; refine one_ (i := 4) (N := some 16) (bA 19 31) rfl rfl (one_of HT_.out (by kernel_rfl)) (by decide) (fun K hK => ?_); refine gs Try.func91 #[.slice (some ad253) y255.length c0, .agg #[.int .i8 ((rd_T39 l0 x7_1).f0), .int .i8 ((rd_T39 l0 x7_1).f1)]] ?_; with_reducible refine (impl_Spot_91.calls k1 _ _ y255 ((rd_T39 l0 x7_1).f0) ((rd_T39 l0 x7_1).f1) false _ ?side1 ?side2 A7.out).mono ?_; (case side1 => repeat (first | exact (Kd.C_below HR258.out HB.out) | (with_reducible refine Kd.C_alloc ?_ _) | (with_reducible refine Kd.C_drewN ?_ _) | (with_reducible refine Kd.C_drew ?_))); (case side2 => exact HC258.out)
         rintro e w40 ⟨rfl, hb⟩
         refine ⟨_, rfl, ?_⟩; replace BK254 := bkb BK254 hb; replace HB := bst HB hb; (try clear hb); (try clear hb2); (try clear hk); (try clear hi); refine hK.out _ _ ⟨(blk_cell BK254.out 0).trans rfl, (blk_cell BK254.out 1).trans rfl⟩ (fun hHeld => ?_); clear hK K; refine nm 16 ?_; refine pu 5 17 19 63 HT_ ?_; refine pu 6 18 19 127 HT_ ?_; refine pu 7 19 19 255 HT_ ?_; refine pu 8 20 19 511 HT_ ?_; refine pn 9 21 19 1023 HT_ ?_; refine pn 10 22 19 2047 HT_ ?_; refine pn 11 23 19 4095 HT_ ?_; refine pn 12 24 19 8191 HT_ ?_; refine pn 13 25 19 16383 HT_ ?_; refine pn 14 26 19 32767 HT_ ?_; refine pn 15 27 19 65535 HT_ ?_; refine pn 16 28 19 131071 HT_ ?_; refine pu 17 29 19 262143 HT_ ?_; refine pu 18 30 19 524287 HT_ ?_; refine done_ (done_of HT_.out (by kernel_rfl)) ?_
         try go_wp2
         go_roundg k1
         case measure => have := HK1.out; omega
         case rel => exact ⟨(wrap64 (x7_1 + 1)), (by first | rfl | (simp; done) | (simp [*]; done)), H', ⟨by have := HK1.out; omega⟩, ⟨pbs HB⟩⟩
      ·rw [if_neg c6] at H
       exact absurd H (by simp)
     ·rw [if_neg c4] at H
      exact absurd H (by simp)
    ·rw [if_neg c3] at H
     exact absurd H (by simp)
   ·rw [if_neg c2] at H
    have c2b0 : decide (x7_1 < (l0.length : Int)) = false := decide_eq_false c2; clear c2; obtain ⟨t251, A41, H⟩ := obn H; obtain ⟨t252, A42, H⟩ := obn H; obtain rfl := Option.some.inj H
    go_wp2_with (first | ((with_reducible refine gate_callee (f := 95) rfl ?_); refine gl (some 33) Try.func95 #[.slice A0 l0.length c0] ?_; (with_reducible refine (impl_Spot_95.calls _ _ l0 t251 _ ?side1 ?side2 A41.out).mono ?_); (case side1 => repeat (first | exact (Kd.C_below HR0.out HB.out) | (with_reducible refine Kd.C_alloc ?_ _) | (with_reducible refine Kd.C_drewN ?_ _) | (with_reducible refine Kd.C_drew ?_))); (case side2 => exact HC0.out); rintro e w' ⟨rfl, ⟨nd, rfl⟩⟩; refine ⟨_, rfl, ?_⟩) | ((with_reducible refine gate_callee (f := 61) rfl ?_); refine gl (some 34) Try.func61 #[.int .i64 t251, .int .i64 1, .int .i64 12] ?_; (with_reducible refine (impl_within.calls t251 1 12 t252 _ A42.out).mono ?_); rintro e w' ⟨rfl, ⟨nd, rfl⟩⟩; refine ⟨_, rfl, ?_⟩))
    go_ret
    exact ⟨by first | rfl | (simp [errW_none, errW_some] <;> rfl) | (simp [*, errW_none, errW_some] <;> rfl), pb HB⟩
end Go.Proofs.Ytjpponjekcemjaa.PB
end
section
namespace Go.Proofs.Ytjpponjekcemjaa.PB
open Go.RowKit Go.Proofs.YtjpponjekcemjaaW.PrintWords Go.Proofs.YtjpponjekcemjaaW.PrintLast Go.Proofs.YtjpponjekcemjaaW.PrintMore Go.Proofs.Ytjpponjekcemjaa.La
attribute [local go_sem] max2_int min2_int max_two min_two max_three min_three max_four min_four   -- for this text's walks alone
set_option linter.unusedVariables false
set_option linter.unusedSimpArgs false
def impl_Room_isCell.f (a0_0 : Int) (a0_1 : Int) (a0_2 : LA 10) (a1_0 : Int) (a1_1 : Int) : Option (Bool) := (impl_within.f (wrap64 (a1_0)) 0 (wrap64 ((mn (wrap64 (a0_0)) 10) - 1))).bind fun t264 => (if t264 = true then ((impl_within.f (wrap64 (a1_1)) 0 (wrap64 ((mn (wrap64 (a0_1)) 10) - 1))).bind fun t265 => (some t265)) else (some false))
set_option maxHeartbeats 8000000 in
set_option maxRecDepth 100000 in
theorem impl_Room_isCell.calls (a0_0 : Int) (a0_1 : Int) (a0_2 : LA 10) (a1_0 : Int) (a1_1 : Int) (r : Bool) (w : World) (h : impl_Room_isCell.f a0_0 a0_1 a0_2 a1_0 a1_1 = some r) :
  Calls Try.prog 89 #[.agg (mixA (Value.int .u16) [.int .i8 a0_0, .int .i8 a0_1] a0_2), .agg #[.int .i8 a1_0, .int .i8 a1_1]] w fun e w' => e = .returned (.bool r) ∧ Below w.heap.size w w' := by
 have hu34 := Try.underlying34
 have hu39 := Try.underlying39
 have HB := Aside0.mk (Below.refl w.heap.size w)
 have H : ((impl_within.f (wrap64 (a1_0)) 0 (wrap64 ((mn (wrap64 (a0_0)) 10) - 1))).bind fun t264 => (if t264 = true then ((impl_within.f (wrap64 (a1_1)) 0 (wrap64 ((mn (wrap64 (a0_1)) 10) - 1))).bind fun t265 => (some t265)) else (some false))) = some r := h
 clear h
 obtain ⟨ji3, hji3⟩ : ∃ j_ : Int, (mn (wrap64 (a0_0)) 10) = j_ := ⟨_, rfl⟩
 replace H : ((impl_within.f (wrap64 (a1_0)) 0 (wrap64 ((ji3) - 1))).bind fun t264 => (if t264 = true then ((impl_within.f (wrap64 (a1_1)) 0 (wrap64 ((mn (wrap64 (a0_1)) 10) - 1))).bind fun t265 => (some t265)) else (some false))) = some r := by first | (rw [hji3] at H; exact H) | (simp only [hji3] at H ⊢; exact H)
 (try (have hji3h : ji3 ≤ 10 := by (rw [← hji3]; unfold mn; (repeat' split) <;> omega)))
 (try (have hji3g : ji3 ≤ 64 := by omega))
 have hji3_ : (if 10 < (wrap64 (a0_0)) then 10 else (wrap64 (a0_0))) = ji3 := hji3
 obtain ⟨t264, A4, H⟩ := obn H
 by_cases c5 : t264 = true
 ·subst c5
  have H1 : ((impl_within.f (wrap64 (a1_1)) 0 (wrap64 ((mn (wrap64 (a0_1)) 10) - 1))).bind fun t265 => (some t265)) = some r := by rw [if_pos rfl] at H; exact H
  clear H; have H := H1; clear H1; obtain ⟨ji6, hji6⟩ : ∃ j_ : Int, (mn (wrap64 (a0_1)) 10) = j_ := ⟨_, rfl⟩
  replace H : ((impl_within.f (wrap64 (a1_1)) 0 (wrap64 ((ji6) - 1))).bind fun t265 => (some t265)) = some r := by first | (rw [hji6] at H; exact H) | (simp only [hji6] at H ⊢; exact H)
  (try rw [hji6] at A4); (try (have hji6h : ji6 ≤ 10 := by (rw [← hji6]; unfold mn; (repeat' split) <;> omega))); (try (have hji6g : ji6 ≤ 64 := by omega)); have hji6_ : (if 10 < (wrap64 (a0_1)) then 10 else (wrap64 (a0_1))) = ji6 := hji6; obtain ⟨t265, A7, H⟩ := obn H; obtain rfl := Option.some.inj H
  go_enter Try.func89, Try.ntmps89
  go_wp2_with (first | ((with_reducible refine gate_dst (N := 2) rfl ?_); (try (refine gate_guard (by rfl) ?_; dsimp only)); refine box_event ?hg (N := 2) ?hd (cs := (mixA (Value.int .u16) [.int .i8 a0_0, .int .i8 a0_1] a0_2)) (t := 34) ?hr ?_; (case hd => rfl); (case hg => rfl); (case hr => first | (go_simp; done) | (go_simp; rfl)); intro gb262 hg w8 hbox hb; have n0_ := bst HB hb; have n1_ := Aside0.mk (hbox); have n2_ := gwl HB hg; have n3_ := gwl HB hg; clear HB; have HB := n0_; have BK262 := n1_; have GW262 := n2_; have GE262 := n3_; clear n0_ n1_ n2_ n3_; clear hb hbox hg) | ((with_reducible refine gate_dst (N := 3) rfl ?_); (try (refine gate_guard (by rfl) ?_; dsimp only)); refine box_event ?hg (N := 3) ?hd (cs := #[.int .i8 a1_0, .int .i8 a1_1]) (t := 39) ?hr ?_; (case hd => rfl); (case hg => rfl); (case hr => first | (go_simp; done) | (go_simp; rfl)); intro gb263 hg w9 hbox hb; have n0_ := bkb BK262 hb; have n1_ := bst HB hb; have n2_ := Aside0.mk (hbox); have n3_ := gwl HB hg; have n4_ := gwl HB hg; have n5_ := nbl BK262 hg; have n6_ := nbg BK262 hg; clear BK262; clear HB; have BK262 := n0_; have HB := n1_; have BK263 := n2_; have GW263 := n3_; have GE263 := n4_; have NB262_263 := n5_; have NB263_262 := n6_; clear n0_ n1_ n2_ n3_ n4_ n5_ n6_; clear hb hbox hg; have hnb10 := NB263_262.out; have hnc10 := NB262_263.out; have hcz11_0 : w9.cell? ⟨gb263, 0, none⟩ = some (.int .i8 a1_0) := (blk_cell BK263.out 0).trans rfl; have hcz11_1 : w9.cell? ⟨gb263, 1, none⟩ = some (.int .i8 a1_1) := (blk_cell BK263.out 1).trans rfl; have hfz11_0 := blk_frozen BK263.out 0; have hfz11_1 := blk_frozen BK263.out 1; have hcz12_0 : w9.cell? ⟨gb262, 0, none⟩ = some (.int .i8 a0_0) := mix_cell0 BK262.out 0; have hcz12_1 : w9.cell? ⟨gb262, 1, none⟩ = some (.int .i8 a0_1) := mix_cell0 BK262.out 1; have hfz12_0 := blk_frozen BK262.out 0; have hfz12_1 := blk_frozen BK262.out 1) | ((with_reducible refine gate_callee (f := 61) rfl ?_); refine goesL_ (some 13) rfl rfl Try.func61 (by kernel_rfl) rfl #[.int .i64 (wrap64 (a1_0)), .int .i64 0, .int .i64 (wrap64 ((ji3) - 1))] rfl (by (try simp only [List.map_toArray, List.map_cons, List.map_nil]); first | done | (simp only [hji3]; rfl) | rfl | (simp only [List.length_drop, List.length_take]; rfl)) ?_; (with_reducible refine (impl_within.calls (wrap64 (a1_0)) 0 (wrap64 ((ji3) - 1)) true _ A4.out).mono ?_); rintro e w' ⟨rfl, ⟨nd, rfl⟩⟩; refine ⟨_, rfl, ?_⟩) | (go_at_call 61; (with_reducible refine (impl_within.calls (wrap64 (a1_1)) 0 (wrap64 ((ji6) - 1)) t265 _ A7.out).mono ?_); rintro e w' ⟨rfl, ⟨nd, rfl⟩⟩))
  go_ret
  exact ⟨by first | rfl | (simp [errW_none, errW_some] <;> rfl) | (simp only [← hji3, ← hji6]; first | rfl | (simp [errW_none, errW_some] <;> rfl)) | (simp [*, errW_none, errW_some] <;> rfl), pbs HB⟩
 ·replace c5 := Bool.eq_false_iff.mpr c5
  subst c5
  have H1 : (some false) = some r := by rw [if_neg (show ¬ (false = true) by decide)] at H; exact H
  clear H; have H := H1; clear H1; obtain rfl := Option.some.inj H
  go_enter Try.func89, Try.ntmps89
  go_wp2_with (first | ((with_reducible refine gate_dst (N := 2) rfl ?_); (try (refine gate_guard (by rfl) ?_; dsimp only)); refine box_event ?hg (N := 2) ?hd (cs := (mixA (Value.int .u16) [.int .i8 a0_0, .int .i8 a0_1] a0_2)) (t := 34) ?hr ?_; (case hd => rfl); (case hg => rfl); (case hr => first | (go_simp; done) | (go_simp; rfl)); intro gb262 hg w13 hbox hb; have n0_ := bst HB hb; have n1_ := Aside0.mk (hbox); have n2_ := gwl HB hg; have n3_ := gwl HB hg; clear HB; have HB := n0_; have BK262 := n1_; have GW262 := n2_; have GE262 := n3_; clear n0_ n1_ n2_ n3_; clear hb hbox hg) | ((with_reducible refine gate_dst (N := 3) rfl ?_); (try (refine gate_guard (by rfl) ?_; dsimp only)); refine box_event ?hg (N := 3) ?hd (cs := #[.int .i8 a1_0, .int .i8 a1_1]) (t := 39) ?hr ?_; (case hd => rfl); (case hg => rfl); (case hr => first | (go_simp; done) | (go_simp; rfl)); intro gb263 hg w14 hbox hb; have n0_ := bkb BK262 hb; have n1_ := bst HB hb; have n2_ := Aside0.mk (hbox); have n3_ := gwl HB hg; have n4_ := gwl HB hg; have n5_ := nbl BK262 hg; have n6_ := nbg BK262 hg; clear BK262; clear HB; have BK262 := n0_; have HB := n1_; have BK263 := n2_; have GW263 := n3_; have GE263 := n4_; have NB262_263 := n5_; have NB263_262 := n6_; clear n0_ n1_ n2_ n3_ n4_ n5_ n6_; clear hb hbox hg; have hnb15 := NB263_262.out; have hnc15 := NB262_263.out; have hcz16_0 : w14.cell? ⟨gb263, 0, none⟩ = some (.int .i8 a1_0) := (blk_cell BK263.out 0).trans rfl; have hcz16_1 : w14.cell? ⟨gb263, 1, none⟩ = some (.int .i8 a1_1) := (blk_cell BK263.out 1).trans rfl; have hfz16_0 := blk_frozen BK263.out 0; have hfz16_1 := blk_frozen BK263.out 1; have hcz17_0 : w14.cell? ⟨gb262, 0, none⟩ = some (.int .i8 a0_0) := mix_cell0 BK262.out 0; have hcz17_1 : w14.cell? ⟨gb262, 1, none⟩ = some (.int .i8 a0_1) := mix_cell0 BK262.out 1; have hfz17_0 := blk_frozen BK262.out 0; have hfz17_1 := blk_frozen BK262.out 1) | ((with_reducible refine gate_callee (f := 61) rfl ?_); refine goesL_ (some 13) rfl rfl Try.func61 (by kernel_rfl) rfl #[.int .i64 (wrap64 (a1_0)), .int .i64 0, .int .i64 (wrap64 ((ji3) - 1))] rfl (by (try simp only [List.map_toArray, List.map_cons, List.map_nil]); first | done | (simp only [hji3]; rfl) | rfl | (simp only [List.length_drop, List.length_take]; rfl)) ?_; (with_reducible refine (impl_within.calls (wrap64 (a1_0)) 0 (wrap64 ((ji3) - 1)) false _ A4.out).mono ?_); rintro e w' ⟨rfl, ⟨nd, rfl⟩⟩; refine ⟨_, rfl, ?_⟩))
  go_ret
  exact ⟨by first | rfl | (simp [errW_none, errW_some] <;> rfl) | (simp only [← hji3]; first | rfl | (simp [errW_none, errW_some] <;> rfl)) | (simp [*, errW_none, errW_some] <;> rfl), pbs HB⟩
def impl_Room_isFree.f (a0_0 : Int) (a0_1 : Int) (a0_2 : LA 10) (a1_0 : Int) (a1_1 : Int) : Option (Bool) := (impl_Room_isCell.f a0_0 a0_1 a0_2 a1_0 a1_1).bind fun t268 => (if t268 = true then (if 0 ≤ a1_1 then (if a1_1 < 10 then (if 0 ≤ a1_0 then (some ((Go.bits .and .u16 (shr .u16 (rd a0_2.l a1_1) a1_0) 1) == 0)) else (none)) else (none)) else (none)) else (some false))
def impl_Room_isFree.T1 : Bool × List (List Nat × List Nat) := (true, [([], []), ([], []), ([0, 1], [0, 1]), ([2, 2], [2]), ([3], [3]), ([4, 3], [3, 4]), ([3], [3]), ([6, 5, 3], [3, 5, 6]), ([7, 3], [3, 7]), ([3], [3]), ([9, 3], [3, 9]), ([8, 10, 3], [3, 8, 10]), ([11, 3], [3, 11]), ([12, 3], [3, 12]), ([3, 13], [3, 13]), ([14, 3, 0, 1, 2, 3, 4, 5, 6, 7, 8, 9, 10, 11, 12, 13, 14], [14])])
def impl_Room_isFree.B1 : List Nat := [0, 0, 3, 7, 15, 31, 15, 127, 255, 15, 527, 2047, 4095, 8191, 16383, 32767]
theorem impl_Room_isFree.tab1 : rtab .any (opsOf Try.f86 1) = impl_Room_isFree.T1 := by kernel_rfl
theorem impl_Room_isFree.bits1 : waitsOk impl_Room_isFree.T1.2 impl_Room_isFree.B1 = true := by kernel_rfl
set_option maxHeartbeats 8000000 in
set_option maxRecDepth 100000 in
theorem impl_Room_isFree.calls (a0_0 : Int) (a0_1 : Int) (a0_2 : LA 10) (a1_0 : Int) (a1_1 : Int) (r : Bool) (w : World) (h : impl_Room_isFree.f a0_0 a0_1 a0_2 a1_0 a1_1 = some r) :
  Calls Try.prog 86 #[.agg (mixA (Value.int .u16) [.int .i8 a0_0, .int .i8 a0_1] a0_2), .agg #[.int .i8 a1_0, .int .i8 a1_1]] w fun e w' => e = .returned (.bool r) ∧ Below w.heap.size w w' := by
 have hu34 := Try.underlying34
 have hu39 := Try.underlying39
 have HB := Aside0.mk (Below.refl w.heap.size w)
 have H : ((impl_Room_isCell.f a0_0 a0_1 a0_2 a1_0 a1_1).bind fun t268 => (if t268 = true then (if 0 ≤ a1_1 then (if a1_1 < 10 then (if 0 ≤ a1_0 then (some ((Go.bits .and .u16 (shr .u16 (rd a0_2.l a1_1) a1_0) 1) == 0)) else (none)) else (none)) else (none)) else (some false))) = some r := h
 clear h
 obtain ⟨t268, A3, H⟩ := obn H
 by_cases c4 : t268 = true
 ·subst c4
  have H1 : (if 0 ≤ a1_1 then (if a1_1 < 10 then (if 0 ≤ a1_0 then (some ((Go.bits .and .u16 (shr .u16 (rd a0_2.l a1_1) a1_0) 1) == 0)) else (none)) else (none)) else (none)) = some r := by rw [if_pos rfl] at H; exact H
  clear H; have H := H1; clear H1
  by_cases c5 : 0 ≤ a1_1
  ·rw [if_pos c5] at H
   have c5b0 : decide (0 ≤ a1_1) = true := decide_eq_true c5; clear c5
   by_cases c6 : a1_1 < 10
   ·rw [if_pos c6] at H
    have c6b0 : decide (a1_1 < 10) = true := decide_eq_true c6; clear c6
    by_cases c7 : 0 ≤ a1_0
    ·rw [if_pos c7] at H
     have c7b0 := eq_true c7; have c7b1 : decide (0 ≤ a1_0) = true := decide_eq_true c7; clear c7; obtain ⟨ji8, hji8⟩ : ∃ j_ : Int, (shr .u16 (rd a0_2.l a1_1) a1_0) = j_ := ⟨_, rfl⟩
     replace H : (some ((Go.bits .and .u16 (ji8) 1) == 0)) = some r := by first | (rw [hji8] at H; exact H) | (simp only [hji8] at H ⊢; exact H)
     (try rw [hji8] at A3); have hji8_ : ((rd a0_2.l a1_1) / 2 ^ min a1_0.toNat 16) = ji8 := hji8; have hji8z : a1_0 ≤ 16 → ((rd a0_2.l a1_1) / 2 ^ a1_0.toNat) = ji8 := shr_small hji8; obtain rfl := Option.some.inj H
     go_enter Try.func86, Try.ntmps86
     try go_wp2_with (first | ((with_reducible refine gate_dst (N := 2) rfl ?_); refine box_event ?hg (N := 2) ?hd (cs := (mixA (Value.int .u16) [.int .i8 a0_0, .int .i8 a0_1] a0_2)) (t := 34) ?hr ?_; (case hd => rfl); (case hg => rfl); (case hr => first | (go_simp; done) | (go_simp; rfl)); intro gb266 hg w9 hbox hb; have n0_ := bst HB hb; have n1_ := Aside0.mk (hbox); have n2_ := gwl HB hg; have n3_ := gwl HB hg; clear HB; have HB := n0_; have BK266 := n1_; have GW266 := n2_; have GE266 := n3_; clear n0_ n1_ n2_ n3_; clear hb hbox hg) | ((with_reducible refine gate_dst (N := 3) rfl ?_); refine box_event ?hg (N := 3) ?hd (cs := #[.int .i8 a1_0, .int .i8 a1_1]) (t := 39) ?hr ?_; (case hd => rfl); (case hg => rfl); (case hr => first | (go_simp; done) | (go_simp; rfl)); intro gb267 hg w10 hbox hb; have n0_ := bkb BK266 hb; have n1_ := bst HB hb; have n2_ := Aside0.mk (hbox); have n3_ := gwl HB hg; have n4_ := gwl HB hg; have n5_ := nbl BK266 hg; have n6_ := nbg BK266 hg; clear BK266; clear HB; have BK266 := n0_; have HB := n1_; have BK267 := n2_; have GW267 := n3_; have GE267 := n4_; have NB266_267 := n5_; have NB267_266 := n6_; clear n0_ n1_ n2_ n3_ n4_ n5_ n6_; clear hb hbox hg))
     replace BK266 := Aside0.mk (blk_drew BK266.out); replace BK267 := Aside0.mk (blk_drew BK267.out); replace HB := Aside0.mk (below_drew1 HB.out); have hpd13 : (0 ≤ a1_1) = True := eq_true (by first | omega | exact oda); have hqd13 : (a1_1 < 10) = True := eq_true (by first | omega | exact oda); have hrd13 : (a1_1 < ((10 : Nat) : Int)) = True := eq_true (by first | omega | exact oda)
     refine start_ (n := 16) (S := fun w' => w'.cell? ⟨gb267, 0, none⟩ = some (.int .i8 a1_0) ∧ w'.cell? ⟨gb267, 1, none⟩ = some (.int .i8 a1_1) ∧ w'.cell? ⟨gb266, 2 + a1_1.toNat, none⟩ = some (.int .u16 (rd a0_2.l a1_1)) ∧ World.rangeAt w' gb266 0 ([.int .i8 a0_0, .int .i8 a0_1] ++ a0_2.l.map (Value.int .u16))) (ds := []) (bA 16 0) (by kernel_rfl) rfl rfl ⟨(blk_cell BK267.out 0).trans rfl, (blk_cell BK267.out 1).trans rfl, mix_at BK266.out 2 rfl a1_1 (of_eq_true hpd13) (of_eq_true hqd13), mix_range BK266.out⟩ (fun hHeld => ?_); refine with_tabW impl_Room_isFree.tab1 impl_Room_isFree.bits1 (fun HT_ HW_ => ?_)
     generalize w10.drew = w11 at BK266 BK267 HB hHeld ⊢; refine take_ (i := 0) (N := some 5) (v := ?_) (a' := ?_) (bA 16 1) rfl rfl (take_ofW HT_.out HW_.out (by kernel_rfl)) (fun _ _ _ h => h) (Or.inl ⟨by rfl, ?_⟩) hHeld ?_ ?_; rotate_left
     ·rintro w' ⟨s0, s1, s2, s3⟩
      refine load_mix_run (P := Try.prog) 34 (.tmp 2) ?_ gb266 ?_ s3 Try.underlying34 rfl (by kernel_rfl) rfl
      all_goals rfl
     rotate_left
     ·simp only [Act.put, List.setIfInBounds_toArray, List.set_cons_zero, List.set_cons_succ, i64_w, i32_w]
      rfl
     refine tk 1 6 16 3 HT_ HW_ hHeld ?_; refine one_ (i := 2) (N := some 7) (bA 16 7) rfl rfl (one_of HT_.out (by kernel_rfl)) (by decide) (fun K hK => ?_); refine gs Try.func89 #[.agg (mixA (Value.int .u16) [.int .i8 a0_0, .int .i8 a0_1] a0_2), .agg #[.int .i8 a1_0, .int .i8 a1_1]] ?_; with_reducible refine (impl_Room_isCell.calls a0_0 a0_1 a0_2 a1_0 a1_1 true _ A3.out).mono ?_
     rintro e w12 ⟨rfl, hb⟩
     refine ⟨_, rfl, ?_⟩; replace BK266 := bkb BK266 hb; replace BK267 := bkb BK267 hb; replace HB := bst HB hb; (try clear hb); (try clear hb2); (try clear hk); (try clear hi); refine hK.out _ _ ⟨(blk_cell BK267.out 0).trans rfl, (blk_cell BK267.out 1).trans rfl, mix_at BK266.out 2 rfl a1_1 (of_eq_true hpd13) (of_eq_true hqd13), mix_range BK266.out⟩ (fun hHeld => ?_); clear hK K; refine nm 7 ?_; refine pu 3 8 16 15 HT_ ?_; refine pu 4 9 16 31 HT_ ?_; refine pu 6 11 16 95 HT_ ?_; refine pu 9 14 16 607 HT_ ?_; refine tk 5 10 16 639 HT_ HW_ hHeld ?_; refine pu 7 12 16 767 HT_ ?_; refine tk 8 13 16 1023 HT_ HW_ hHeld ?_; refine tk 10 15 16 2047 HT_ HW_ hHeld ?_; refine pu 11 16 16 4095 HT_ ?_; refine pu 12 17 16 8191 HT_ ?_; refine pu 13 18 16 16383 HT_ ?_; refine pu 14 19 16 32767 HT_ ?_; refine pu 15 4 16 65535 HT_ ?_; refine done_ (done_of HT_.out (by kernel_rfl)) ?_
     try go_wp2
     go_ret
     exact ⟨by first | rfl | (simp [errW_none, errW_some] <;> rfl) | (simp only [← hji8]; first | rfl | (simp [errW_none, errW_some] <;> rfl)) | (simp [*, errW_none, errW_some] <;> rfl), pbs HB⟩
    ·rw [if_neg c7] at H
     exact absurd H (by simp)
   ·rw [if_neg c6] at H
    exact absurd H (by simp)
  ·rw [if_neg c5] at H
   exact absurd H (by simp)
 ·replace c4 := Bool.eq_false_iff.mpr c4
  subst c4
  have H1 : (some false) = some r := by rw [if_neg (show ¬ (false = true) by decide)] at H; exact H
  clear H; have H := H1; clear H1; obtain rfl := Option.some.inj H
  go_enter Try.func86, Try.ntmps86
  try go_wp2_with (first | ((with_reducible refine gate_dst (N := 2) rfl ?_); refine box_event ?hg (N := 2) ?hd (cs := (mixA (Value.int .u16) [.int .i8 a0_0, .int .i8 a0_1] a0_2)) (t := 34) ?hr ?_; (case hd => rfl); (case hg => rfl); (case hr => first | (go_simp; done) | (go_simp; rfl)); intro gb266 hg w15 hbox hb; have n0_ := bst HB hb; have n1_ := Aside0.mk (hbox); have n2_ := gwl HB hg; have n3_ := gwl HB hg; clear HB; have HB := n0_; have BK266 := n1_; have GW266 := n2_; have GE266 := n3_; clear n0_ n1_ n2_ n3_; clear hb hbox hg) | ((with_reducible refine gate_dst (N := 3) rfl ?_); refine box_event ?hg (N := 3) ?hd (cs := #[.int .i8 a1_0, .int .i8 a1_1]) (t := 39) ?hr ?_; (case hd => rfl); (case hg => rfl); (case hr => first | (go_simp; done) | (go_simp; rfl)); intro gb267 hg w16 hbox hb; have n0_ := bkb BK266 hb; have n1_ := bst HB hb; have n2_ := Aside0.mk (hbox); have n3_ := gwl HB hg; have n4_ := gwl HB hg; have n5_ := nbl BK266 hg; have n6_ := nbg BK266 hg; clear BK266; clear HB; have BK266 := n0_; have HB := n1_; have BK267 := n2_; have GW267 := n3_; have GE267 := n4_; have NB266_267 := n5_; have NB267_266 := n6_; clear n0_ n1_ n2_ n3_ n4_ n5_ n6_; clear hb hbox hg))
  replace BK266 := Aside0.mk (blk_drew BK266.out); replace BK267 := Aside0.mk (blk_drew BK267.out); replace HB := Aside0.mk (below_drew1 HB.out)
  refine start_ (n := 16) (S := fun w' => w'.cell? ⟨gb267, 0, none⟩ = some (.int .i8 a1_0) ∧ w'.cell? ⟨gb267, 1, none⟩ = some (.int .i8 a1_1) ∧ World.rangeAt w' gb266 0 ([.int .i8 a0_0, .int .i8 a0_1] ++ a0_2.l.map (Value.int .u16))) (ds := []) (bA 16 0) (by kernel_rfl) rfl rfl ⟨(blk_cell BK267.out 0).trans rfl, (blk_cell BK267.out 1).trans rfl, mix_range BK266.out⟩ (fun hHeld => ?_); refine with_tabW impl_Room_isFree.tab1 impl_Room_isFree.bits1 (fun HT_ HW_ => ?_)
  generalize w16.drew = w17 at BK266 BK267 HB hHeld ⊢; refine take_ (i := 0) (N := some 5) (v := ?_) (a' := ?_) (bA 16 1) rfl rfl (take_ofW HT_.out HW_.out (by kernel_rfl)) (fun _ _ _ h => h) (Or.inl ⟨by rfl, ?_⟩) hHeld ?_ ?_; rotate_left
  ·rintro w' ⟨s0, s1, s2⟩
   refine load_mix_run (P := Try.prog) 34 (.tmp 2) ?_ gb266 ?_ s2 Try.underlying34 rfl (by kernel_rfl) rfl
   all_goals rfl
  rotate_left
  ·simp only [Act.put, List.setIfInBounds_toArray, List.set_cons_zero, List.set_cons_succ, i64_w, i32_w]
   rfl
  refine tk 1 6 16 3 HT_ HW_ hHeld ?_; refine one_ (i := 2) (N := some 7) (bA 16 7) rfl rfl (one_of HT_.out (by kernel_rfl)) (by decide) (fun K hK => ?_); refine gs Try.func89 #[.agg (mixA (Value.int .u16) [.int .i8 a0_0, .int .i8 a0_1] a0_2), .agg #[.int .i8 a1_0, .int .i8 a1_1]] ?_; with_reducible refine (impl_Room_isCell.calls a0_0 a0_1 a0_2 a1_0 a1_1 false _ A3.out).mono ?_
  rintro e w18 ⟨rfl, hb⟩
  refine ⟨_, rfl, ?_⟩; replace BK266 := bkb BK266 hb; replace BK267 := bkb BK267 hb; replace HB := bst HB hb; (try clear hb); (try clear hb2); (try clear hk); (try clear hi); refine hK.out _ _ ⟨(blk_cell BK267.out 0).trans rfl, (blk_cell BK267.out 1).trans rfl, mix_range BK266.out⟩ (fun hHeld => ?_); clear hK K; refine nm 7 ?_; refine pu 3 8 16 15 HT_ ?_; refine pn 4 9 16 31 HT_ ?_; refine pn 5 10 16 63 HT_ ?_; refine pn 6 11 16 127 HT_ ?_; refine pn 7 12 16 255 HT_ ?_; refine pn 8 13 16 511 HT_ ?_; refine pn 9 14 16 1023 HT_ ?_; refine pn 10 15 16 2047 HT_ ?_; refine pn 11 16 16 4095 HT_ ?_; refine pn 12 17 16 8191 HT_ ?_; refine pn 13 18 16 16383 HT_ ?_; refine pu 14 19 16 32767 HT_ ?_; refine pu 15 4 16 65535 HT_ ?_; refine done_ (done_of HT_.out (by kernel_rfl)) ?_
  try go_wp2
  go_ret
  exact ⟨by first | rfl | (simp [errW_none, errW_some] <;> rfl) | (simp [*, errW_none, errW_some] <;> rfl), pbs HB⟩
def impl_File_isFile_1.f (a0_0 : Int) (a0_1 : Int) (s1_0 : Int) (s1_1 : Int) (s1_2 : LA 10) : Option (Bool) := (impl_Room_isFree.f s1_0 s1_1 s1_2 a0_0 a0_1).bind fun t270 => (some (!t270))
set_option maxHeartbeats 8000000 in
set_option maxRecDepth 100000 in
theorem impl_File_isFile_1.calls (a0_0 : Int) (a0_1 : Int) (g1 : Nat) (s1_0 : Int) (s1_1 : Int) (s1_2 : LA 10) (r : Bool) (w : World) (hb1 : w.heap[g1]? = some (.cells (mixA (Value.int .u16) [.int .i8 s1_0, .int .i8 s1_1] s1_2) 34 (0, 0))) (h : impl_File_isFile_1.f a0_0 a0_1 s1_0 s1_1 s1_2 = some r) :
  Calls Try.prog 85 #[.agg #[.int .i8 a0_0, .int .i8 a0_1], .pointer (some ⟨g1, 0, none⟩)] w fun e w' => e = .returned (.bool r) ∧ Below w.heap.size w w' := by
 have hu39 := Try.underlying39
 have hu34 := Try.underlying34
 have BK1 := Aside0.mk hb1
 clear hb1
 have HB := Aside0.mk (Below.refl w.heap.size w)
 have H : ((impl_Room_isFree.f s1_0 s1_1 s1_2 a0_0 a0_1).bind fun t270 => (some (!t270))) = some r := h
 clear h
 obtain ⟨t270, A3, H⟩ := obn H
 obtain rfl := Option.some.inj H
 go_enter Try.func85, Try.ntmps85
 go_wp2_with (first | ((with_reducible refine gate_dst (N := 2) rfl ?_); refine box_event ?hg (N := 2) ?hd (cs := #[.int .i8 a0_0, .int .i8 a0_1]) (t := 39) ?hr ?_; (case hd => rfl); (case hg => rfl); (case hr => first | (go_simp; done) | (go_simp; rfl)); intro gb269 hg w4 hbox hb; have n0_ := bkb BK1 hb; have n1_ := bst HB hb; have n2_ := Aside0.mk (hbox); have n3_ := gwl HB hg; have n4_ := gwl HB hg; have n5_ := nbl BK1 hg; have n6_ := nbg BK1 hg; clear BK1; clear HB; have BK1 := n0_; have HB := n1_; have BK269 := n2_; have GW269 := n3_; have GE269 := n4_; have NB1_269 := n5_; have NB269_1 := n6_; clear n0_ n1_ n2_ n3_ n4_ n5_ n6_; clear hb hbox hg) | ((with_reducible refine gate_dst (N := 4) rfl ?_); refine wpList_run0 (v := .agg (mixA (Value.int .u16) [.int .i8 s1_0, .int .i8 s1_1] s1_2)) rfl (load_mix_run (P := Try.prog) 34 (.tmp 1) rfl g1 rfl (show World.rangeAt _ g1 0 ([.int .i8 s1_0, .int .i8 s1_1] ++ s1_2.l.map (Value.int .u16)) from mix_range (show (World.heap _)[g1]? = some (.cells (mixA (Value.int .u16) [.int .i8 s1_0, .int .i8 s1_1] s1_2) 34 (0, 0)) from by (with_reducible repeat (first | refine blk_drewN ?_ _ | refine blk_drew ?_ | refine blk_alloc ?_ _)); exact BK1.out)) Try.underlying34 rfl (by kernel_rfl) rfl) ?_; have hnb6 := NB269_1.out; have hnc6 := NB1_269.out; have hcz7_0 : w4.cell? ⟨gb269, 0, none⟩ = some (.int .i8 a0_0) := (blk_cell BK269.out 0).trans rfl; have hcz7_1 : w4.cell? ⟨gb269, 1, none⟩ = some (.int .i8 a0_1) := (blk_cell BK269.out 1).trans rfl; have hfz7_0 := blk_frozen BK269.out 0; have hfz7_1 := blk_frozen BK269.out 1) | ((with_reducible refine gate_callee (f := 86) rfl ?_); refine gl (some 6) Try.func86 #[.agg (mixA (Value.int .u16) [.int .i8 s1_0, .int .i8 s1_1] s1_2), .agg #[.int .i8 a0_0, .int .i8 a0_1]] ?_; (with_reducible refine (impl_Room_isFree.calls s1_0 s1_1 s1_2 a0_0 a0_1 t270 _ A3.out).mono ?_); rintro e w8 ⟨rfl, hb⟩; refine ⟨_, rfl, ?_⟩; replace BK1 := bkb BK1 hb; replace BK269 := bkb BK269 hb; replace HB := bst HB hb; (try clear hb); (try clear hb2); (try clear hk); (try clear hi)))
 go_ret
 exact ⟨by first | rfl | (simp [errW_none, errW_some] <;> rfl) | (simp [*, errW_none, errW_some] <;> rfl), pbs HB⟩
def impl_Spot_96__85.l0 : Nat → List (S39) → Int → Int → Int → Int → LA 10 → Option (Int)
 | 0, _, _, _, _, _, _ => none
 | k + 1, x0, x7, x8, x2000, x2001, x2002 => if x8 < x7 then (if 0 ≤ x8 then (if x8 < (x0.length : Int) then ((impl_File_isFile_1.f ((rd_T39 x0 x8).f0) ((rd_T39 x0 x8).f1) x2000 x2001 x2002).bind fun t272 => (if t272 = true then (some x8) else (impl_Spot_96__85.l0 k x0 x7 (wrap64 (x8 + 1)) x2000 x2001 x2002))) else (none)) else (none)) else (some (-1))
def impl_Spot_96__85.f (k : Nat) (l0 : List (S39)) (s1_0 : Int) (s1_1 : Int) (s1_2 : LA 10) : Option (Int) := impl_Spot_96__85.l0 k l0 (l0.length : Int) 0 s1_0 s1_1 s1_2
theorem impl_Spot_96__85.mono_l : ∀ k, (∀ y0 y1 y2 y3 y4 y5, LeO (impl_Spot_96__85.l0 k y0 y1 y2 y3 y4 y5) (impl_Spot_96__85.l0 (k + 1) y0 y1 y2 y3 y4 y5))
 | 0 => fun _ _ _ _ _ _ r h => by simp [impl_Spot_96__85.l0] at h
 | k + 1 => by
  have ih0 := impl_Spot_96__85.mono_l k
  ·intro y0 y1 y2 y3 y4 y5
   unfold impl_Spot_96__85.l0
   repeat' first
   | (with_reducible exact ih0 _ _ _ _ _ _)
   | (with_reducible exact LeO.refl _)
   | (with_reducible exact LeO.none _)
   | (with_reducible refine LeO.ite ?_ ?_)
   | (with_reducible refine LeO.bind ?_ (fun _ => ?_))
   | exact ih0 _ _ _ _ _ _
   | exact LeO.none _
   | refine LeO.ite ?_ ?_
   | refine LeO.bind ?_ (fun _ => ?_)
theorem impl_Spot_96__85.mono : ∀ a0 a1 a2 a3 k, LeO (impl_Spot_96__85.f k a0 a1 a2 a3) (impl_Spot_96__85.f (k + 1) a0 a1 a2 a3) := by
 intro a0 a1 a2 a3 k
 have ih0 := impl_Spot_96__85.mono_l k
 unfold impl_Spot_96__85.f
 repeat' first
   | (with_reducible exact ih0 _ _ _ _ _ _)
   | (with_reducible exact LeO.refl _)
   | (with_reducible exact LeO.none _)
   | (with_reducible refine LeO.ite ?_ ?_)
   | (with_reducible refine LeO.bind ?_ (fun _ => ?_))
   | exact ih0 _ _ _ _ _ _
   | exact LeO.none _
   | refine LeO.ite ?_ ?_
   | refine LeO.bind ?_ (fun _ => ?_)
set_option maxHeartbeats 8000000 in
set_option maxRecDepth 100000 in
theorem impl_Spot_96__85.calls (k : Nat) (A0 : Option Addr) (c0 : Nat) (l0 : List (S39)) (g1 : Nat) (s1_0 : Int) (s1_1 : Int) (s1_2 : LA 10) (r : Int) (w : World) (hb1 : w.heap[g1]? = some (.cells (mixA (Value.int .u16) [.int .i8 s1_0, .int .i8 s1_1] s1_2) 34 (0, 0))) (hr0 : Kd.C k39 w A0 l0.length l0) (hc0 : l0.length ≤ c0) (h : impl_Spot_96__85.f k l0 s1_0 s1_1 s1_2 = some r) :
  Calls Try.prog 96 #[.slice A0 l0.length c0, .func (.func 85) #[] #[.pointer (some ⟨g1, 0, none⟩)]] w fun e w' => e = .returned (.int .i64 r) ∧ Below w.heap.size w w' := by
 have hu39 := Try.underlying39
 have HR0 := Aside0.mk hr0
 have HC0 := Aside0.mk hc0
 clear hr0 hc0
 have BK1 := Aside0.mk hb1
 clear hb1
 have HB := Aside0.mk (Below.refl w.heap.size w)
 have H : (impl_Spot_96__85.l0 k l0 (l0.length : Int) 0 s1_0 s1_1 s1_2) = some r := h
 clear h
 have H' := Aside0.mk H
 clear H
 go_enter Try.func96, Try.ntmps96
 go_wp2
 go_loopg [8] k (fun kq v8 w' => ∃ (x8_1 : Int), v8 = .int .i64 x8_1 ∧ Aside0 (impl_Spot_96__85.l0 kq l0 (l0.length : Int) x8_1 s1_0 s1_1 s1_2 = some r) ∧ Aside0 (kq ≤ k) ∧ Aside0 (w'.heap[g1]? = some (.cells (mixA (Value.int .u16) [.int .i8 s1_0, .int .i8 s1_1] s1_2) 34 (0, 0))) ∧ Aside0 (Below w.heap.size w w'))
 case atStart => exact ⟨(0), (by first | rfl | (simp; done) | (simp [*]; done)), H', ⟨Nat.le_refl _⟩, ⟨pk BK1⟩, ⟨pbs HB⟩⟩
 case round =>
  clear H'
  try clear p2
  obtain ⟨x8_1, rfl, HA, HK1, BK1, HB⟩ := hrel
  cases gk with
  | zero => exact absurd HA.out (by simp [impl_Spot_96__85.l0])
  | succ k1 =>
   have H := HA.out; clear HA; simp only [impl_Spot_96__85.l0] at H
   by_cases c3 : x8_1 < (l0.length : Int)
   ·rw [if_pos c3] at H
    have c3b0 : decide (x8_1 < (l0.length : Int)) = true := decide_eq_true c3; clear c3
    by_cases c4 : 0 ≤ x8_1
    ·rw [if_pos c4] at H
     have c4b0 : decide (0 ≤ x8_1) = true := decide_eq_true c4; clear c4
     by_cases c5 : x8_1 < (l0.length : Int)
     ·rw [if_pos c5] at H
      have c5b0 : decide (x8_1 < (l0.length : Int)) = true := decide_eq_true c5; clear c5; obtain ⟨t272, A6, H⟩ := obn H
      by_cases c7 : t272 = true
      ·subst c7
       have H1 : (some x8_1) = some r := by rw [if_pos rfl] at H; exact H
       clear H; have H := H1; clear H1; obtain rfl := Option.some.inj H; have p271 : 0 ≤ (x8_1 : Int) := oda; have q271 : x8_1 < (l0.length : Int) := oda; obtain ⟨ad271, e271, hx271_0, hx271_1⟩ := at_T39 HR0.out x8_1 p271 q271; cases e271
       try replace hx271_0 := cb HB hx271_0
       try replace hx271_1 := cb HB hx271_1
       replace p271 := eq_true p271; replace q271 := eq_true q271
       go_wp2_with (first | (go_at_call 85; (with_reducible refine (impl_File_isFile_1.calls ((rd_T39 l0 x8_1).f0) ((rd_T39 l0 x8_1).f1) g1 s1_0 s1_1 s1_2 true _ ?side1 A6.out).mono ?_); (case side1 => exact (pk BK1)); rintro e w8 ⟨rfl, hb⟩; replace BK1 := bkb BK1 hb; replace HB := bst HB hb; (try clear hb); (try clear hb2); (try clear hk); (try clear hi)))
       go_ret
       exact ⟨by first | rfl | (simp [errW_none, errW_some] <;> rfl) | (simp [*, errW_none, errW_some] <;> rfl), pbs HB⟩
      ·replace c7 := Bool.eq_false_iff.mpr c7
       subst c7
       have H1 : (impl_Spot_96__85.l0 k1 l0 (l0.length : Int) (wrap64 (x8_1 + 1)) s1_0 s1_1 s1_2) = some r := by rw [if_neg (show ¬ (false = true) by decide)] at H; exact H
       clear H; have H := H1; clear H1; have H' := Aside0.mk H; clear H; have p271 : 0 ≤ (x8_1 : Int) := oda; have q271 : x8_1 < (l0.length : Int) := oda; obtain ⟨ad271, e271, hx271_0, hx271_1⟩ := at_T39 HR0.out x8_1 p271 q271; cases e271
       try replace hx271_0 := cb HB hx271_0
       try replace hx271_1 := cb HB hx271_1
       replace p271 := eq_true p271; replace q271 := eq_true q271
       go_wp2_with (first | (go_at_call 85; (with_reducible refine (impl_File_isFile_1.calls ((rd_T39 l0 x8_1).f0) ((rd_T39 l0 x8_1).f1) g1 s1_0 s1_1 s1_2 false _ ?side1 A6.out).mono ?_); (case side1 => exact (pk BK1)); rintro e w9 ⟨rfl, hb⟩; replace BK1 := bkb BK1 hb; replace HB := bst HB hb; (try clear hb); (try clear hb2); (try clear hk); (try clear hi)))
       go_roundg k1
       case measure => have := HK1.out; omega
       case rel => exact ⟨(wrap64 (x8_1 + 1)), (by first | rfl | (simp; done) | (simp [*]; done)), H', ⟨by have := HK1.out; omega⟩, ⟨pk BK1⟩, ⟨pbs HB⟩⟩
     ·rw [if_neg c5] at H
      exact absurd H (by simp)
    ·rw [if_neg c4] at H
     exact absurd H (by simp)
   ·rw [if_neg c3] at H
    have c3b0 : decide (x8_1 < (l0.length : Int)) = false := decide_eq_false c3; clear c3; obtain rfl := Option.some.inj H
    go_wp2
    go_ret
    exact ⟨by first | rfl | (simp [errW_none, errW_some] <;> rfl) | (simp [*, errW_none, errW_some] <;> rfl), pbs HB⟩
def impl_Spot_84__85.f (k : Nat) (l0 : List (S39)) (s1_0 : Int) (s1_1 : Int) (s1_2 : LA 10) : Option (Bool) := (impl_Spot_96__85.f k l0 s1_0 s1_1 s1_2).bind fun t273 => (some (decide (t273 ≥ 0)))
theorem impl_Spot_84__85.mono : ∀ a0 a1 a2 a3 k, LeO (impl_Spot_84__85.f k a0 a1 a2 a3) (impl_Spot_84__85.f (k + 1) a0 a1 a2 a3) := by
 intro a0 a1 a2 a3 k
 unfold impl_Spot_84__85.f
 repeat' first
   | (with_reducible exact impl_Spot_96__85.mono _ _ _ _ _)
   | (with_reducible exact LeO.refl _)
   | (with_reducible exact LeO.none _)
   | (with_reducible refine LeO.ite ?_ ?_)
   | (with_reducible refine LeO.bind ?_ (fun _ => ?_))
   | exact impl_Spot_96__85.mono _ _ _ _ _
   | exact LeO.none _
   | refine LeO.ite ?_ ?_
   | refine LeO.bind ?_ (fun _ => ?_)
set_option maxHeartbeats 8000000 in
set_option maxRecDepth 100000 in
theorem impl_Spot_84__85.calls (k : Nat) (A0 : Option Addr) (c0 : Nat) (l0 : List (S39)) (g1 : Nat) (s1_0 : Int) (s1_1 : Int) (s1_2 : LA 10) (r : Bool) (w : World) (hb1 : w.heap[g1]? = some (.cells (mixA (Value.int .u16) [.int .i8 s1_0, .int .i8 s1_1] s1_2) 34 (0, 0))) (hr0 : Kd.C k39 w A0 l0.length l0) (hc0 : l0.length ≤ c0) (h : impl_Spot_84__85.f k l0 s1_0 s1_1 s1_2 = some r) :
  Calls Try.prog 84 #[.slice A0 l0.length c0, .func (.func 85) #[] #[.pointer (some ⟨g1, 0, none⟩)]] w fun e w' => e = .returned (.bool r) ∧ Below w.heap.size w w' := by
 have HR0 := Aside0.mk hr0
 have HC0 := Aside0.mk hc0
 clear hr0 hc0
 have BK1 := Aside0.mk hb1
 clear hb1
 have HB := Aside0.mk (Below.refl w.heap.size w)
 have H : ((impl_Spot_96__85.f k l0 s1_0 s1_1 s1_2).bind fun t273 => (some (decide (t273 ≥ 0)))) = some r := h
 clear h
 obtain ⟨t273, A3, H⟩ := obn H
 obtain rfl := Option.some.inj H
 go_enter Try.func84, Try.ntmps84
 go_wp2_with (first | ((with_reducible refine gate_callee (f := 96) rfl ?_); refine gl (some 7) Try.func96 #[.slice A0 l0.length c0, .func (.func 85) #[] #[.pointer (some ⟨g1, 0, none⟩)]] ?_; (with_reducible refine (impl_Spot_96__85.calls k _ _ l0 g1 s1_0 s1_1 s1_2 t273 _ ?side1 ?side2 ?side3 A3.out).mono ?_); (case side1 => exact (pk BK1)); (case side2 => repeat (first | exact HR0.out | (with_reducible refine Kd.C_alloc ?_ _) | (with_reducible refine Kd.C_drewN ?_ _) | (with_reducible refine Kd.C_drew ?_))); (case side3 => exact HC0.out); rintro e w4 ⟨rfl, hb⟩; refine ⟨_, rfl, ?_⟩; replace BK1 := bkb BK1 hb; replace HB := bst HB hb; (try clear hb); (try clear hb2); (try clear hk); (try clear hi)))
 go_ret
 exact ⟨by first | rfl | (simp [errW_none, errW_some] <;> rfl) | (simp [*, errW_none, errW_some] <;> rfl), pbs HB⟩
def impl_File_isFile.f (k : Nat) (l0 : List (S39)) (a1_0 : Int) (a1_1 : Int) (a1_2 : LA 10) : Option (Bool) := (impl_File_isChain.f k l0).bind fun t275 => (if t275 = true then ((impl_Spot_84__85.f k l0 a1_0 a1_1 a1_2).bind fun t276 => (some (!t276))) else (some false))
theorem impl_File_isFile.mono : ∀ a0 a1 a2 a3 k, LeO (impl_File_isFile.f k a0 a1 a2 a3) (impl_File_isFile.f (k + 1) a0 a1 a2 a3) := by
 intro a0 a1 a2 a3 k
 unfold impl_File_isFile.f
 repeat' first
   | (with_reducible exact impl_File_isChain.mono _ _)
   | (with_reducible exact impl_Spot_84__85.mono _ _ _ _ _)
   | (with_reducible exact LeO.refl _)
   | (with_reducible exact LeO.none _)
   | (with_reducible refine LeO.ite ?_ ?_)
   | (with_reducible refine LeO.bind ?_ (fun _ => ?_))
   | exact impl_File_isChain.mono _ _
   | exact impl_Spot_84__85.mono _ _ _ _ _
   | exact LeO.none _
   | refine LeO.ite ?_ ?_
   | refine LeO.bind ?_ (fun _ => ?_)
set_option maxHeartbeats 8000000 in
set_option maxRecDepth 100000 in
theorem impl_File_isFile.calls (k : Nat) (A0 : Option Addr) (c0 : Nat) (l0 : List (S39)) (a1_0 : Int) (a1_1 : Int) (a1_2 : LA 10) (r : Bool) (w : World) (hr0 : Kd.C k39 w A0 l0.length l0) (hc0 : l0.length ≤ c0) (h : impl_File_isFile.f k l0 a1_0 a1_1 a1_2 = some r) :
  Calls Try.prog 57 #[.slice A0 l0.length c0, .agg (mixA (Value.int .u16) [.int .i8 a1_0, .int .i8 a1_1] a1_2)] w fun e w' => e = .returned (.bool r) ∧ Below w.heap.size w w' := by
 have hu34 := Try.underlying34
 have HR0 := Aside0.mk hr0
 have HC0 := Aside0.mk hc0
 clear hr0 hc0
 have HB := Aside0.mk (Below.refl w.heap.size w)
 have H : ((impl_File_isChain.f k l0).bind fun t275 => (if t275 = true then ((impl_Spot_84__85.f k l0 a1_0 a1_1 a1_2).bind fun t276 => (some (!t276))) else (some false))) = some r := h
 clear h
 obtain ⟨t275, A3, H⟩ := obn H
 by_cases c4 : t275 = true
 ·subst c4
  have H1 : ((impl_Spot_84__85.f k l0 a1_0 a1_1 a1_2).bind fun t276 => (some (!t276))) = some r := by rw [if_pos rfl] at H; exact H
  clear H; have H := H1; clear H1; obtain ⟨t276, A5, H⟩ := obn H; obtain rfl := Option.some.inj H
  go_enter Try.func57, Try.ntmps57
  go_wp2_with (first | ((with_reducible refine gate_dst (N := 3) rfl ?_); refine box_event ?hg (N := 3) ?hd (cs := (mixA (Value.int .u16) [.int .i8 a1_0, .int .i8 a1_1] a1_2)) (t := 34) ?hr ?_; (case hd => rfl); (case hg => rfl); (case hr => first | (go_simp; done) | (go_simp; rfl)); intro gb274 hg w6 hbox hb; have n0_ := bst HB hb; have n1_ := Aside0.mk (hbox); have n2_ := gwl HB hg; have n3_ := gwl HB hg; clear HB; have HB := n0_; have BK274 := n1_; have GW274 := n2_; have GE274 := n3_; clear n0_ n1_ n2_ n3_; clear hb hbox hg) | ((with_reducible refine gate_callee (f := 83) rfl ?_); refine gl (some 6) Try.func83 #[.slice A0 l0.length c0] ?_; (with_reducible refine (impl_File_isChain.calls k _ _ l0 true _ ?side1 ?side2 A3.out).mono ?_); (case side1 => repeat (first | exact (Kd.C_below HR0.out HB.out) | (with_reducible refine Kd.C_alloc ?_ _) | (with_reducible refine Kd.C_drewN ?_ _) | (with_reducible refine Kd.C_drew ?_))); (case side2 => exact HC0.out); rintro e w7 ⟨rfl, hb⟩; refine ⟨_, rfl, ?_⟩; replace BK274 := bkb BK274 hb; replace HB := bst HB hb; (try clear hb); (try clear hb2); (try clear hk); (try clear hi)) | (go_at_call 84; (with_reducible refine (impl_Spot_84__85.calls k _ _ l0 gb274 a1_0 a1_1 a1_2 t276 _ ?side1 ?side2 ?side3 A5.out).mono ?_); (case side1 => exact (pk BK274)); (case side2 => repeat (first | exact (Kd.C_below HR0.out HB.out) | (with_reducible refine Kd.C_alloc ?_ _) | (with_reducible refine Kd.C_drewN ?_ _) | (with_reducible refine Kd.C_drew ?_))); (case side3 => exact HC0.out); rintro e w8 ⟨rfl, hb⟩; replace BK274 := bkb BK274 hb; replace HB := bst HB hb; (try clear hb); (try clear hb2); (try clear hk); (try clear hi)))
  go_ret
  exact ⟨by first | rfl | (simp [errW_none, errW_some] <;> rfl) | (simp [*, errW_none, errW_some] <;> rfl), pbs HB⟩
 ·replace c4 := Bool.eq_false_iff.mpr c4
  subst c4
  have H1 : (some false) = some r := by rw [if_neg (show ¬ (false = true) by decide)] at H; exact H
  clear H; have H := H1; clear H1; obtain rfl := Option.some.inj H
  go_enter Try.func57, Try.ntmps57
  go_wp2_with (first | ((with_reducible refine gate_dst (N := 3) rfl ?_); refine box_event ?hg (N := 3) ?hd (cs := (mixA (Value.int .u16) [.int .i8 a1_0, .int .i8 a1_1] a1_2)) (t := 34) ?hr ?_; (case hd => rfl); (case hg => rfl); (case hr => first | (go_simp; done) | (go_simp; rfl)); intro gb274 hg w9 hbox hb; have n0_ := bst HB hb; have n1_ := Aside0.mk (hbox); have n2_ := gwl HB hg; have n3_ := gwl HB hg; clear HB; have HB := n0_; have BK274 := n1_; have GW274 := n2_; have GE274 := n3_; clear n0_ n1_ n2_ n3_; clear hb hbox hg) | ((with_reducible refine gate_callee (f := 83) rfl ?_); refine gl (some 6) Try.func83 #[.slice A0 l0.length c0] ?_; (with_reducible refine (impl_File_isChain.calls k _ _ l0 false _ ?side1 ?side2 A3.out).mono ?_); (case side1 => repeat (first | exact (Kd.C_below HR0.out HB.out) | (with_reducible refine Kd.C_alloc ?_ _) | (with_reducible refine Kd.C_drewN ?_ _) | (with_reducible refine Kd.C_drew ?_))); (case side2 => exact HC0.out); rintro e w10 ⟨rfl, hb⟩; refine ⟨_, rfl, ?_⟩; replace BK274 := bkb BK274 hb; replace HB := bst HB hb; (try clear hb); (try clear hb2); (try clear hk); (try clear hi)))
  go_ret
  exact ⟨by first | rfl | (simp [errW_none, errW_some] <;> rfl) | (simp [*, errW_none, errW_some] <;> rfl), pbs HB⟩
end Go.Proofs.Ytjpponjekcemjaa.PB
end
section
namespace Go.Proofs.Ytjpponjekcemjaa.PB
open Go.RowKit Go.Proofs.YtjpponjekcemjaaW.PrintWords Go.Proofs.YtjpponjekcemjaaW.PrintLast Go.Proofs.YtjpponjekcemjaaW.PrintMore Go.Proofs.Ytjpponjekcemjaa.La
attribute [local go_sem] max2_int min2_int max_two min_two max_three min_three max_four min_four   -- for this text's walks alone
set_option linter.unusedVariables false
set_option linter.unusedSimpArgs false
def impl_ValidFile.f (k : Nat) (a0_0 : Int) (a0_1 : Int) (a0_2 : LA 10) (l1 : List (S39)) : Option (Bool) := (impl_ValidRoom.f k a0_0 a0_1 a0_2).bind fun t278 => (if t278 = true then ((impl_File_isFile.f k l1 a0_0 a0_1 a0_2).bind fun t279 => (some t279)) else (some false))
theorem impl_ValidFile.mono : ∀ a0 a1 a2 a3 k, LeO (impl_ValidFile.f k a0 a1 a2 a3) (impl_ValidFile.f (k + 1) a0 a1 a2 a3) := by
 intro a0 a1 a2 a3 k
 unfold impl_ValidFile.f
 repeat' first
   | (with_reducible exact impl_File_isFile.mono _ _ _ _ _)
   | (with_reducible exact impl_ValidRoom.mono _ _ _ _)
   | (with_reducible exact LeO.refl _)
   | (with_reducible exact LeO.none _)
   | (with_reducible refine LeO.ite ?_ ?_)
   | (with_reducible refine LeO.bind ?_ (fun _ => ?_))
   | exact impl_File_isFile.mono _ _ _ _ _
   | exact impl_ValidRoom.mono _ _ _ _
   | exact LeO.none _
   | refine LeO.ite ?_ ?_
   | refine LeO.bind ?_ (fun _ => ?_)
set_option maxHeartbeats 8000000 in
set_option maxRecDepth 100000 in
theorem impl_ValidFile.calls (k : Nat) (a0_0 : Int) (a0_1 : Int) (a0_2 : LA 10) (A1 : Option Addr) (c1 : Nat) (l1 : List (S39)) (r : Bool) (w : World) (hr1 : Kd.C k39 w A1 l1.length l1) (hc1 : l1.length ≤ c1) (h : impl_ValidFile.f k a0_0 a0_1 a0_2 l1 = some r) :
  Calls Try.prog 35 #[.agg (mixA (Value.int .u16) [.int .i8 a0_0, .int .i8 a0_1] a0_2), .slice A1 l1.length c1] w fun e w' => e = .returned (.bool r) ∧ Below w.heap.size w w' := by
 have hu34 := Try.underlying34
 have HR1 := Aside0.mk hr1
 have HC1 := Aside0.mk hc1
 clear hr1 hc1
 have HB := Aside0.mk (Below.refl w.heap.size w)
 have H : ((impl_ValidRoom.f k a0_0 a0_1 a0_2).bind fun t278 => (if t278 = true then ((impl_File_isFile.f k l1 a0_0 a0_1 a0_2).bind fun t279 => (some t279)) else (some false))) = some r := h
 clear h
 obtain ⟨t278, A3, H⟩ := obn H
 by_cases c4 : t278 = true
 ·subst c4
  have H1 : ((impl_File_isFile.f k l1 a0_0 a0_1 a0_2).bind fun t279 => (some t279)) = some r := by rw [if_pos rfl] at H; exact H
  clear H; have H := H1; clear H1; obtain ⟨t279, A5, H⟩ := obn H; obtain rfl := Option.some.inj H
  go_enter Try.func35, Try.ntmps35
  go_wp2_with (first | ((with_reducible refine gate_dst (N := 2) rfl ?_); refine box_event ?hg (N := 2) ?hd (cs := (mixA (Value.int .u16) [.int .i8 a0_0, .int .i8 a0_1] a0_2)) (t := 34) ?hr ?_; (case hd => rfl); (case hg => rfl); (case hr => first | (go_simp; done) | (go_simp; rfl)); intro gb277 hg w6 hbox hb; have n0_ := bst HB hb; have n1_ := Aside0.mk (hbox); have n2_ := gwl HB hg; have n3_ := gwl HB hg; clear HB; have HB := n0_; have BK277 := n1_; have GW277 := n2_; have GE277 := n3_; clear n0_ n1_ n2_ n3_; clear hb hbox hg) | ((with_reducible refine gate_dst (N := 5) rfl ?_); refine wpList_run0 (v := .agg (mixA (Value.int .u16) [.int .i8 a0_0, .int .i8 a0_1] a0_2)) rfl (load_mix_run (P := Try.prog) 34 (.tmp 2) rfl gb277 rfl (show World.rangeAt _ gb277 0 ([.int .i8 a0_0, .int .i8 a0_1] ++ a0_2.l.map (Value.int .u16)) from mix_range (show (World.heap _)[gb277]? = some (.cells (mixA (Value.int .u16) [.int .i8 a0_0, .int .i8 a0_1] a0_2) 34 (0, 0)) from by (with_reducible repeat (first | refine blk_drewN ?_ _ | refine blk_drew ?_ | refine blk_alloc ?_ _)); exact BK277.out)) Try.underlying34 rfl (by kernel_rfl) rfl) ?_) | ((with_reducible refine gate_callee (f := 56) rfl ?_); refine gl (some 6) Try.func56 #[.agg (mixA (Value.int .u16) [.int .i8 a0_0, .int .i8 a0_1] a0_2)] ?_; (with_reducible refine (impl_ValidRoom.calls k a0_0 a0_1 a0_2 true _ A3.out).mono ?_); rintro e w8 ⟨rfl, hb⟩; refine ⟨_, rfl, ?_⟩; replace BK277 := bkb BK277 hb; replace HB := bst HB hb; (try clear hb); (try clear hb2); (try clear hk); (try clear hi)) | ((with_reducible refine gate_dst (N := 9) rfl ?_); refine wpList_run1 (v := .agg (mixA (Value.int .u16) [.int .i8 a0_0, .int .i8 a0_1] a0_2)) (by rfl) (load_mix_run (P := Try.prog) 34 (.tmp 2) rfl gb277 rfl (show World.rangeAt _ gb277 0 ([.int .i8 a0_0, .int .i8 a0_1] ++ a0_2.l.map (Value.int .u16)) from mix_range (show (World.heap _)[gb277]? = some (.cells (mixA (Value.int .u16) [.int .i8 a0_0, .int .i8 a0_1] a0_2) 34 (0, 0)) from by (with_reducible repeat (first | refine blk_drewN ?_ _ | refine blk_drew ?_ | refine blk_alloc ?_ _)); exact BK277.out)) Try.underlying34 rfl (by kernel_rfl) rfl) ?_) | (go_at_call 57; (with_reducible refine (impl_File_isFile.calls k _ _ l1 a0_0 a0_1 a0_2 t279 _ ?side1 ?side2 A5.out).mono ?_); (case side1 => repeat (first | exact (Kd.C_below HR1.out HB.out) | (with_reducible refine Kd.C_alloc ?_ _) | (with_reducible refine Kd.C_drewN ?_ _) | (with_reducible refine Kd.C_drew ?_))); (case side2 => exact HC1.out); rintro e w10 ⟨rfl, hb⟩; replace BK277 := bkb BK277 hb; replace HB := bst HB hb; (try clear hb); (try clear hb2); (try clear hk); (try clear hi)))
  go_ret
  exact ⟨by first | rfl | (simp [errW_none, errW_some] <;> rfl) | (simp [*, errW_none, errW_some] <;> rfl), pbs HB⟩
 ·replace c4 := Bool.eq_false_iff.mpr c4
  subst c4
  have H1 : (some false) = some r := by rw [if_neg (show ¬ (false = true) by decide)] at H; exact H
  clear H; have H := H1; clear H1; obtain rfl := Option.some.inj H
  go_enter Try.func35, Try.ntmps35
  go_wp2_with (first | ((with_reducible refine gate_dst (N := 2) rfl ?_); refine box_event ?hg (N := 2) ?hd (cs := (mixA (Value.int .u16) [.int .i8 a0_0, .int .i8 a0_1] a0_2)) (t := 34) ?hr ?_; (case hd => rfl); (case hg => rfl); (case hr => first | (go_simp; done) | (go_simp; rfl)); intro gb277 hg w11 hbox hb; have n0_ := bst HB hb; have n1_ := Aside0.mk (hbox); have n2_ := gwl HB hg; have n3_ := gwl HB hg; clear HB; have HB := n0_; have BK277 := n1_; have GW277 := n2_; have GE277 := n3_; clear n0_ n1_ n2_ n3_; clear hb hbox hg) | ((with_reducible refine gate_dst (N := 5) rfl ?_); refine wpList_run0 (v := .agg (mixA (Value.int .u16) [.int .i8 a0_0, .int .i8 a0_1] a0_2)) rfl (load_mix_run (P := Try.prog) 34 (.tmp 2) rfl gb277 rfl (show World.rangeAt _ gb277 0 ([.int .i8 a0_0, .int .i8 a0_1] ++ a0_2.l.map (Value.int .u16)) from mix_range (show (World.heap _)[gb277]? = some (.cells (mixA (Value.int .u16) [.int .i8 a0_0, .int .i8 a0_1] a0_2) 34 (0, 0)) from by (with_reducible repeat (first | refine blk_drewN ?_ _ | refine blk_drew ?_ | refine blk_alloc ?_ _)); exact BK277.out)) Try.underlying34 rfl (by kernel_rfl) rfl) ?_) | ((with_reducible refine gate_callee (f := 56) rfl ?_); refine gl (some 6) Try.func56 #[.agg (mixA (Value.int .u16) [.int .i8 a0_0, .int .i8 a0_1] a0_2)] ?_; (with_reducible refine (impl_ValidRoom.calls k a0_0 a0_1 a0_2 false _ A3.out).mono ?_); rintro e w13 ⟨rfl, hb⟩; refine ⟨_, rfl, ?_⟩; replace BK277 := bkb BK277 hb; replace HB := bst HB hb; (try clear hb); (try clear hb2); (try clear hk); (try clear hi)))
  go_ret
  exact ⟨by first | rfl | (simp [errW_none, errW_some] <;> rfl) | (simp [*, errW_none, errW_some] <;> rfl), pbs HB⟩
def impl_firstOf.l0 : Nat → List Int → Int → Int → Option (Int)
 | 0, _, _, _ => none
 | k + 1, x5, x6, x7 => if x7 < x6 then (if 0 ≤ x7 then (if x7 < (x5.length : Int) then (if (rd x5 x7) = 0 then (impl_firstOf.l0 k x5 x6 (wrap64 (x7 + 1))) else (some (rd x5 x7))) else (none)) else (none)) else (some 0)
def impl_firstOf.f (k : Nat) (l0 : List Int) : Option (Int) := impl_firstOf.l0 k l0 (l0.length : Int) 0
theorem impl_firstOf.mono_l : ∀ k, (∀ y0 y1 y2, LeO (impl_firstOf.l0 k y0 y1 y2) (impl_firstOf.l0 (k + 1) y0 y1 y2))
 | 0 => fun _ _ _ r h => by simp [impl_firstOf.l0] at h
 | k + 1 => by
  have ih0 := impl_firstOf.mono_l k
  ·intro y0 y1 y2
   unfold impl_firstOf.l0
   repeat' first
   | (with_reducible exact ih0 _ _ _)
   | (with_reducible exact LeO.refl _)
   | (with_reducible exact LeO.none _)
   | (with_reducible refine LeO.ite ?_ ?_)
   | (with_reducible refine LeO.bind ?_ (fun _ => ?_))
   | exact ih0 _ _ _
   | exact LeO.none _
   | refine LeO.ite ?_ ?_
   | refine LeO.bind ?_ (fun _ => ?_)
theorem impl_firstOf.mono : ∀ a0 k, LeO (impl_firstOf.f k a0) (impl_firstOf.f (k + 1) a0) := by
 intro a0 k
 have ih0 := impl_firstOf.mono_l k
 unfold impl_firstOf.f
 repeat' first
   | (with_reducible exact ih0 _ _ _)
   | (with_reducible exact LeO.refl _)
   | (with_reducible exact LeO.none _)
   | (with_reducible refine LeO.ite ?_ ?_)
   | (with_reducible refine LeO.bind ?_ (fun _ => ?_))
   | exact ih0 _ _ _
   | exact LeO.none _
   | refine LeO.ite ?_ ?_
   | refine LeO.bind ?_ (fun _ => ?_)
set_option maxHeartbeats 8000000 in
set_option maxRecDepth 100000 in
theorem impl_firstOf.calls (k : Nat) (A0 : Option Addr) (c0 : Nat) (l0 : List Int) (r : Int) (w : World) (hr0 : Kd.C (Kd.int .i64) w A0 l0.length l0) (hc0 : l0.length ≤ c0) (h : impl_firstOf.f k l0 = some r) :
  Calls Try.prog 58 #[.slice A0 l0.length c0] w fun e w' => e = .returned (.int .i64 r) ∧ Drawn0 w w' := by
 have HR0 := Aside0.mk hr0
 have HC0 := Aside0.mk hc0
 clear hr0 hc0
 have H : (impl_firstOf.l0 k l0 (l0.length : Int) 0) = some r := h
 clear h
 have H' := Aside0.mk H
 clear H
 go_enter Try.func58, Try.ntmps58
 go_wp2
 go_loopg [7] k (fun kq v7 w' => ∃ (x7_1 : Int), v7 = .int .i64 x7_1 ∧ Aside0 (impl_firstOf.l0 kq l0 (l0.length : Int) x7_1 = some r) ∧ Aside0 (kq ≤ k) ∧ Drawn0 w w')
 case atStart => exact ⟨(0), (by first | rfl | (simp; done) | (simp [*]; done)), H', ⟨Nat.le_refl _⟩, by repeat (first | exact Drawn0.refl _ | apply Drawn0.step)⟩
 case round =>
  clear H'; obtain ⟨x7_1, rfl, HA, HK1, ⟨m1, rfl⟩⟩ := hrel
  cases gk with
  | zero => exact absurd HA.out (by simp [impl_firstOf.l0])
  | succ k1 =>
   have H := HA.out; clear HA; simp only [impl_firstOf.l0] at H
   by_cases c2 : x7_1 < (l0.length : Int)
   ·rw [if_pos c2] at H
    have c2b0 : decide (x7_1 < (l0.length : Int)) = true := decide_eq_true c2; clear c2
    by_cases c3 : 0 ≤ x7_1
    ·rw [if_pos c3] at H
     have c3b0 : decide (0 ≤ x7_1) = true := decide_eq_true c3; clear c3
     by_cases c4 : x7_1 < (l0.length : Int)
     ·rw [if_pos c4] at H
      have c4b0 : decide (x7_1 < (l0.length : Int)) = true := decide_eq_true c4; clear c4
      by_cases c5 : (rd l0 x7_1) = 0
      ·rw [if_pos c5] at H
       have c5b0 : ((rd l0 x7_1) == 0) = true := beq_iff_eq.mpr c5; have c5b1 : ((rd l0 x7_1) != 0) = false := bne_eq_false_iff_eq.mpr c5; clear c5; have H' := Aside0.mk H; clear H; have p280 : 0 ≤ (x7_1 : Int) := oda; have q280 : x7_1 < (l0.length : Int) := oda; obtain ⟨ad280, e280, hx280_0⟩ := Kd.at_int HR0.out x7_1 p280 q280; cases e280; replace p280 := eq_true p280; replace q280 := eq_true q280
       go_wp2
       go_roundg k1
       case measure => have := HK1.out; omega
       case rel => exact ⟨(wrap64 (x7_1 + 1)), (by first | rfl | (simp; done) | (simp [*]; done)), H', ⟨by have := HK1.out; omega⟩, by repeat (first | exact Drawn0.refl _ | apply Drawn0.step)⟩
      ·rw [if_neg c5] at H
       have c5b0 : ((rd l0 x7_1) == 0) = false := beq_eq_false_iff_ne.mpr c5; have c5b1 : ((rd l0 x7_1) != 0) = true := bne_iff_ne.mpr c5; obtain rfl := Option.some.inj H; have p280 : 0 ≤ (x7_1 : Int) := oda; have q280 : x7_1 < (l0.length : Int) := oda; obtain ⟨ad280, e280, hx280_0⟩ := Kd.at_int HR0.out x7_1 p280 q280; cases e280; replace p280 := eq_true p280; replace q280 := eq_true q280
       go_wp2
       go_ret
       exact ⟨by first | rfl | (simp; done) | (simp [*]; done), by repeat (first | exact Drawn0.refl _ | apply Drawn0.step)⟩
     ·rw [if_neg c4] at H
      exact absurd H (by simp)
    ·rw [if_neg c3] at H
     exact absurd H (by simp)
   ·rw [if_neg c2] at H
    have c2b0 : decide (x7_1 < (l0.length : Int)) = false := decide_eq_false c2; clear c2; obtain rfl := Option.some.inj H
    go_wp2
    go_ret
    exact ⟨by first | rfl | (simp; done) | (simp [*]; done), by repeat (first | exact Drawn0.refl _ | apply Drawn0.step)⟩
def impl_unless.f (a0 : Bool) (a1 : Int) : Option (Int) := if a0 = true then (some 0) else (some a1)
set_option maxHeartbeats 8000000 in
set_option maxRecDepth 100000 in
theorem impl_unless.calls (a0 : Bool) (a1 : Int) (r : Int) (w : World) (h : impl_unless.f a0 a1 = some r) :
  Calls Try.prog 60 #[.bool a0, .int .i64 a1] w fun e w' => e = .returned (.int .i64 r) ∧ Drawn0 w w' := by
 have H : (if a0 = true then (some 0) else (some a1)) = some r := h
 clear h
 by_cases c3 : a0 = true
 ·subst c3
  have H1 : (some 0) = some r := by rw [if_pos rfl] at H; exact H
  clear H; have H := H1; clear H1; obtain rfl := Option.some.inj H
  go_enter Try.func60, Try.ntmps60
  go_wp2
  go_ret
  exact ⟨by first | rfl | (simp; done) | (simp [*]; done), by repeat (first | exact Drawn0.refl _ | apply Drawn0.step)⟩
 ·replace c3 := Bool.eq_false_iff.mpr c3
  subst c3
  have H1 : (some a1) = some r := by rw [if_neg (show ¬ (false = true) by decide)] at H; exact H
  clear H; have H := H1; clear H1; obtain rfl := Option.some.inj H
  go_enter Try.func60, Try.ntmps60
  go_wp2
  go_ret
  exact ⟨by first | rfl | (simp; done) | (simp [*]; done), by repeat (first | exact Drawn0.refl _ | apply Drawn0.step)⟩
def impl_cellCode_1.f (a0_0 : Int) (a0_1 : Int) (s1_0 : Int) (s1_1 : Int) (s1_2 : LA 10) : Option (Bool) := (impl_Room_isCell.f s1_0 s1_1 s1_2 a0_0 a0_1).bind fun t282 => (some (!t282))
set_option maxHeartbeats 8000000 in
set_option maxRecDepth 100000 in
theorem impl_cellCode_1.calls (a0_0 : Int) (a0_1 : Int) (g1 : Nat) (s1_0 : Int) (s1_1 : Int) (s1_2 : LA 10) (r : Bool) (w : World) (hb1 : w.heap[g1]? = some (.cells (mixA (Value.int .u16) [.int .i8 s1_0, .int .i8 s1_1] s1_2) 34 (0, 0))) (h : impl_cellCode_1.f a0_0 a0_1 s1_0 s1_1 s1_2 = some r) :
  Calls Try.prog 88 #[.agg #[.int .i8 a0_0, .int .i8 a0_1], .pointer (some ⟨g1, 0, none⟩)] w fun e w' => e = .returned (.bool r) ∧ Below w.heap.size w w' := by
 have hu39 := Try.underlying39
 have hu34 := Try.underlying34
 have BK1 := Aside0.mk hb1
 clear hb1
 have HB := Aside0.mk (Below.refl w.heap.size w)
 have H : ((impl_Room_isCell.f s1_0 s1_1 s1_2 a0_0 a0_1).bind fun t282 => (some (!t282))) = some r := h
 clear h
 obtain ⟨t282, A3, H⟩ := obn H
 obtain rfl := Option.some.inj H
 go_enter Try.func88, Try.ntmps88
 go_wp2_with (first | ((with_reducible refine gate_dst (N := 2) rfl ?_); refine box_event ?hg (N := 2) ?hd (cs := #[.int .i8 a0_0, .int .i8 a0_1]) (t := 39) ?hr ?_; (case hd => rfl); (case hg => rfl); (case hr => first | (go_simp; done) | (go_simp; rfl)); intro gb281 hg w4 hbox hb; have n0_ := bkb BK1 hb; have n1_ := bst HB hb; have n2_ := Aside0.mk (hbox); have n3_ := gwl HB hg; have n4_ := gwl HB hg; have n5_ := nbl BK1 hg; have n6_ := nbg BK1 hg; clear BK1; clear HB; have BK1 := n0_; have HB := n1_; have BK281 := n2_; have GW281 := n3_; have GE281 := n4_; have NB1_281 := n5_; have NB281_1 := n6_; clear n0_ n1_ n2_ n3_ n4_ n5_ n6_; clear hb hbox hg) | ((with_reducible refine gate_dst (N := 4) rfl ?_); refine wpList_run0 (v := .agg (mixA (Value.int .u16) [.int .i8 s1_0, .int .i8 s1_1] s1_2)) rfl (load_mix_run (P := Try.prog) 34 (.tmp 1) rfl g1 rfl (show World.rangeAt _ g1 0 ([.int .i8 s1_0, .int .i8 s1_1] ++ s1_2.l.map (Value.int .u16)) from mix_range (show (World.heap _)[g1]? = some (.cells (mixA (Value.int .u16) [.int .i8 s1_0, .int .i8 s1_1] s1_2) 34 (0, 0)) from by (with_reducible repeat (first | refine blk_drewN ?_ _ | refine blk_drew ?_ | refine blk_alloc ?_ _)); exact BK1.out)) Try.underlying34 rfl (by kernel_rfl) rfl) ?_; have hnb6 := NB281_1.out; have hnc6 := NB1_281.out; have hcz7_0 : w4.cell? ⟨gb281, 0, none⟩ = some (.int .i8 a0_0) := (blk_cell BK281.out 0).trans rfl; have hcz7_1 : w4.cell? ⟨gb281, 1, none⟩ = some (.int .i8 a0_1) := (blk_cell BK281.out 1).trans rfl; have hfz7_0 := blk_frozen BK281.out 0; have hfz7_1 := blk_frozen BK281.out 1) | ((with_reducible refine gate_callee (f := 89) rfl ?_); refine gl (some 6) Try.func89 #[.agg (mixA (Value.int .u16) [.int .i8 s1_0, .int .i8 s1_1] s1_2), .agg #[.int .i8 a0_0, .int .i8 a0_1]] ?_; (with_reducible refine (impl_Room_isCell.calls s1_0 s1_1 s1_2 a0_0 a0_1 t282 _ A3.out).mono ?_); rintro e w8 ⟨rfl, hb⟩; refine ⟨_, rfl, ?_⟩; replace BK1 := bkb BK1 hb; replace BK281 := bkb BK281 hb; replace HB := bst HB hb; (try clear hb); (try clear hb2); (try clear hk); (try clear hi)))
 go_ret
 exact ⟨by first | rfl | (simp [errW_none, errW_some] <;> rfl) | (simp [*, errW_none, errW_some] <;> rfl), pbs HB⟩
def impl_Spot_97__88.l0 : Nat → List (S39) → Int → Int → Int → Int → LA 10 → Option (Int)
 | 0, _, _, _, _, _, _ => none
 | k + 1, x0, x7, x8, x2000, x2001, x2002 => if x8 < x7 then (if 0 ≤ x8 then (if x8 < (x0.length : Int) then ((impl_cellCode_1.f ((rd_T39 x0 x8).f0) ((rd_T39 x0 x8).f1) x2000 x2001 x2002).bind fun t284 => (if t284 = true then (some x8) else (impl_Spot_97__88.l0 k x0 x7 (wrap64 (x8 + 1)) x2000 x2001 x2002))) else (none)) else (none)) else (some (-1))
def impl_Spot_97__88.f (k : Nat) (l0 : List (S39)) (s1_0 : Int) (s1_1 : Int) (s1_2 : LA 10) : Option (Int) := impl_Spot_97__88.l0 k l0 (l0.length : Int) 0 s1_0 s1_1 s1_2
theorem impl_Spot_97__88.mono_l : ∀ k, (∀ y0 y1 y2 y3 y4 y5, LeO (impl_Spot_97__88.l0 k y0 y1 y2 y3 y4 y5) (impl_Spot_97__88.l0 (k + 1) y0 y1 y2 y3 y4 y5))
 | 0 => fun _ _ _ _ _ _ r h => by simp [impl_Spot_97__88.l0] at h
 | k + 1 => by
  have ih0 := impl_Spot_97__88.mono_l k
  ·intro y0 y1 y2 y3 y4 y5
   unfold impl_Spot_97__88.l0
   repeat' first
   | (with_reducible exact ih0 _ _ _ _ _ _)
   | (with_reducible exact LeO.refl _)
   | (with_reducible exact LeO.none _)
   | (with_reducible refine LeO.ite ?_ ?_)
   | (with_reducible refine LeO.bind ?_ (fun _ => ?_))
   | exact ih0 _ _ _ _ _ _
   | exact LeO.none _
   | refine LeO.ite ?_ ?_
   | refine LeO.bind ?_ (fun _ => ?_)
theorem impl_Spot_97__88.mono : ∀ a0 a1 a2 a3 k, LeO (impl_Spot_97__88.f k a0 a1 a2 a3) (impl_Spot_97__88.f (k + 1) a0 a1 a2 a3) := by
 intro a0 a1 a2 a3 k
 have ih0 := impl_Spot_97__88.mono_l k
 unfold impl_Spot_97__88.f
 repeat' first
   | (with_reducible exact ih0 _ _ _ _ _ _)
   | (with_reducible exact LeO.refl _)
   | (with_reducible exact LeO.none _)
   | (with_reducible refine LeO.ite ?_ ?_)
   | (with_reducible refine LeO.bind ?_ (fun _ => ?_))
   | exact ih0 _ _ _ _ _ _
   | exact LeO.none _
   | refine LeO.ite ?_ ?_
   | refine LeO.bind ?_ (fun _ => ?_)
set_option maxHeartbeats 8000000 in
set_option maxRecDepth 100000 in
theorem impl_Spot_97__88.calls (k : Nat) (A0 : Option Addr) (c0 : Nat) (l0 : List (S39)) (g1 : Nat) (s1_0 : Int) (s1_1 : Int) (s1_2 : LA 10) (r : Int) (w : World) (hb1 : w.heap[g1]? = some (.cells (mixA (Value.int .u16) [.int .i8 s1_0, .int .i8 s1_1] s1_2) 34 (0, 0))) (hr0 : Kd.C k39 w A0 l0.length l0) (hc0 : l0.length ≤ c0) (h : impl_Spot_97__88.f k l0 s1_0 s1_1 s1_2 = some r) :
  Calls Try.prog 97 #[.slice A0 l0.length c0, .func (.func 88) #[] #[.pointer (some ⟨g1, 0, none⟩)]] w fun e w' => e = .returned (.int .i64 r) ∧ Below w.heap.size w w' := by
 have hu39 := Try.underlying39
 have HR0 := Aside0.mk hr0
 have HC0 := Aside0.mk hc0
 clear hr0 hc0
 have BK1 := Aside0.mk hb1
 clear hb1
 have HB := Aside0.mk (Below.refl w.heap.size w)
 have H : (impl_Spot_97__88.l0 k l0 (l0.length : Int) 0 s1_0 s1_1 s1_2) = some r := h
 clear h
 have H' := Aside0.mk H
 clear H
 go_enter Try.func97, Try.ntmps97
 go_wp2
 go_loopg [8] k (fun kq v8 w' => ∃ (x8_1 : Int), v8 = .int .i64 x8_1 ∧ Aside0 (impl_Spot_97__88.l0 kq l0 (l0.length : Int) x8_1 s1_0 s1_1 s1_2 = some r) ∧ Aside0 (kq ≤ k) ∧ Aside0 (w'.heap[g1]? = some (.cells (mixA (Value.int .u16) [.int .i8 s1_0, .int .i8 s1_1] s1_2) 34 (0, 0))) ∧ Aside0 (Below w.heap.size w w'))
 case atStart => exact ⟨(0), (by first | rfl | (simp; done) | (simp [*]; done)), H', ⟨Nat.le_refl _⟩, ⟨pk BK1⟩, ⟨pbs HB⟩⟩
 case round =>
  clear H'
  try clear p2
  obtain ⟨x8_1, rfl, HA, HK1, BK1, HB⟩ := hrel
  cases gk with
  | zero => exact absurd HA.out (by simp [impl_Spot_97__88.l0])
  | succ k1 =>
   have H := HA.out; clear HA; simp only [impl_Spot_97__88.l0] at H
   by_cases c3 : x8_1 < (l0.length : Int)
   ·rw [if_pos c3] at H
    have c3b0 : decide (x8_1 < (l0.length : Int)) = true := decide_eq_true c3; clear c3
    by_cases c4 : 0 ≤ x8_1
    ·rw [if_pos c4] at H
     have c4b0 : decide (0 ≤ x8_1) = true := decide_eq_true c4; clear c4
     by_cases c5 : x8_1 < (l0.length : Int)
     ·rw [if_pos c5] at H
      have c5b0 : decide (x8_1 < (l0.length : Int)) = true := decide_eq_true c5; clear c5; obtain ⟨t284, A6, H⟩ := obn H
      by_cases c7 : t284 = true
      ·subst c7
       have H1 : (some x8_1) = some r := by rw [if_pos rfl] at H; exact H
       clear H; have H := H1; clear H1; obtain rfl := Option.some.inj H; have p283 : 0 ≤ (x8_1 : Int) := oda; have q283 : x8_1 < (l0.length : Int) := oda; obtain ⟨ad283, e283, hx283_0, hx283_1⟩ := at_T39 HR0.out x8_1 p283 q283; cases e283
       try replace hx283_0 := cb HB hx283_0
       try replace hx283_1 := cb HB hx283_1
       replace p283 := eq_true p283; replace q283 := eq_true q283
       go_wp2_with (first | (go_at_call 88; (with_reducible refine (impl_cellCode_1.calls ((rd_T39 l0 x8_1).f0) ((rd_T39 l0 x8_1).f1) g1 s1_0 s1_1 s1_2 true _ ?side1 A6.out).mono ?_); (case side1 => exact (pk BK1)); rintro e w8 ⟨rfl, hb⟩; replace BK1 := bkb BK1 hb; replace HB := bst HB hb; (try clear hb); (try clear hb2); (try clear hk); (try clear hi)))
       go_ret
       exact ⟨by first | rfl | (simp [errW_none, errW_some] <;> rfl) | (simp [*, errW_none, errW_some] <;> rfl), pbs HB⟩
      ·replace c7 := Bool.eq_false_iff.mpr c7
       subst c7
       have H1 : (impl_Spot_97__88.l0 k1 l0 (l0.length : Int) (wrap64 (x8_1 + 1)) s1_0 s1_1 s1_2) = some r := by rw [if_neg (show ¬ (false = true) by decide)] at H; exact H
       clear H; have H := H1; clear H1; have H' := Aside0.mk H; clear H; have p283 : 0 ≤ (x8_1 : Int) := oda; have q283 : x8_1 < (l0.length : Int) := oda; obtain ⟨ad283, e283, hx283_0, hx283_1⟩ := at_T39 HR0.out x8_1 p283 q283; cases e283
       try replace hx283_0 := cb HB hx283_0
       try replace hx283_1 := cb HB hx283_1
       replace p283 := eq_true p283; replace q283 := eq_true q283
       go_wp2_with (first | (go_at_call 88; (with_reducible refine (impl_cellCode_1.calls ((rd_T39 l0 x8_1).f0) ((rd_T39 l0 x8_1).f1) g1 s1_0 s1_1 s1_2 false _ ?side1 A6.out).mono ?_); (case side1 => exact (pk BK1)); rintro e w9 ⟨rfl, hb⟩; replace BK1 := bkb BK1 hb; replace HB := bst HB hb; (try clear hb); (try clear hb2); (try clear hk); (try clear hi)))
       go_roundg k1
       case measure => have := HK1.out; omega
       case rel => exact ⟨(wrap64 (x8_1 + 1)), (by first | rfl | (simp; done) | (simp [*]; done)), H', ⟨by have := HK1.out; omega⟩, ⟨pk BK1⟩, ⟨pbs HB⟩⟩
     ·rw [if_neg c5] at H
      exact absurd H (by simp)
    ·rw [if_neg c4] at H
     exact absurd H (by simp)
   ·rw [if_neg c3] at H
    have c3b0 : decide (x8_1 < (l0.length : Int)) = false := decide_eq_false c3; clear c3; obtain rfl := Option.some.inj H
    go_wp2
    go_ret
    exact ⟨by first | rfl | (simp [errW_none, errW_some] <;> rfl) | (simp [*, errW_none, errW_some] <;> rfl), pbs HB⟩
def impl_Spot_87__88.f (k : Nat) (l0 : List (S39)) (s1_0 : Int) (s1_1 : Int) (s1_2 : LA 10) : Option (Bool) := (impl_Spot_97__88.f k l0 s1_0 s1_1 s1_2).bind fun t285 => (some (decide (t285 ≥ 0)))
theorem impl_Spot_87__88.mono : ∀ a0 a1 a2 a3 k, LeO (impl_Spot_87__88.f k a0 a1 a2 a3) (impl_Spot_87__88.f (k + 1) a0 a1 a2 a3) := by
 intro a0 a1 a2 a3 k
 unfold impl_Spot_87__88.f
 repeat' first
   | (with_reducible exact impl_Spot_97__88.mono _ _ _ _ _)
   | (with_reducible exact LeO.refl _)
   | (with_reducible exact LeO.none _)
   | (with_reducible refine LeO.ite ?_ ?_)
   | (with_reducible refine LeO.bind ?_ (fun _ => ?_))
   | exact impl_Spot_97__88.mono _ _ _ _ _
   | exact LeO.none _
   | refine LeO.ite ?_ ?_
   | refine LeO.bind ?_ (fun _ => ?_)
set_option maxHeartbeats 8000000 in
set_option maxRecDepth 100000 in
theorem impl_Spot_87__88.calls (k : Nat) (A0 : Option Addr) (c0 : Nat) (l0 : List (S39)) (g1 : Nat) (s1_0 : Int) (s1_1 : Int) (s1_2 : LA 10) (r : Bool) (w : World) (hb1 : w.heap[g1]? = some (.cells (mixA (Value.int .u16) [.int .i8 s1_0, .int .i8 s1_1] s1_2) 34 (0, 0))) (hr0 : Kd.C k39 w A0 l0.length l0) (hc0 : l0.length ≤ c0) (h : impl_Spot_87__88.f k l0 s1_0 s1_1 s1_2 = some r) :
  Calls Try.prog 87 #[.slice A0 l0.length c0, .func (.func 88) #[] #[.pointer (some ⟨g1, 0, none⟩)]] w fun e w' => e = .returned (.bool r) ∧ Below w.heap.size w w' := by
 have HR0 := Aside0.mk hr0
 have HC0 := Aside0.mk hc0
 clear hr0 hc0
 have BK1 := Aside0.mk hb1
 clear hb1
 have HB := Aside0.mk (Below.refl w.heap.size w)
 have H : ((impl_Spot_97__88.f k l0 s1_0 s1_1 s1_2).bind fun t285 => (some (decide (t285 ≥ 0)))) = some r := h
 clear h
 obtain ⟨t285, A3, H⟩ := obn H
 obtain rfl := Option.some.inj H
 go_enter Try.func87, Try.ntmps87
 go_wp2_with (first | ((with_reducible refine gate_callee (f := 97) rfl ?_); refine gl (some 7) Try.func97 #[.slice A0 l0.length c0, .func (.func 88) #[] #[.pointer (some ⟨g1, 0, none⟩)]] ?_; (with_reducible refine (impl_Spot_97__88.calls k _ _ l0 g1 s1_0 s1_1 s1_2 t285 _ ?side1 ?side2 ?side3 A3.out).mono ?_); (case side1 => exact (pk BK1)); (case side2 => repeat (first | exact HR0.out | (with_reducible refine Kd.C_alloc ?_ _) | (with_reducible refine Kd.C_drewN ?_ _) | (with_reducible refine Kd.C_drew ?_))); (case side3 => exact HC0.out); rintro e w4 ⟨rfl, hb⟩; refine ⟨_, rfl, ?_⟩; replace BK1 := bkb BK1 hb; replace HB := bst HB hb; (try clear hb); (try clear hb2); (try clear hk); (try clear hi)))
 go_ret
 exact ⟨by first | rfl | (simp [errW_none, errW_some] <;> rfl) | (simp [*, errW_none, errW_some] <;> rfl), pbs HB⟩
def impl_cellCode.f (k : Nat) (a0_0 : Int) (a0_1 : Int) (a0_2 : LA 10) (l1 : List (S39)) : Option (Int) := (impl_ValidRoom.f k a0_0 a0_1 a0_2).bind fun t287 => (if t287 = true then ((impl_Spot_87__88.f k l1 a0_0 a0_1 a0_2).bind fun t288 => ((impl_unless.f (!t288) 2).bind fun t289 => (some t289))) else (some 1))
theorem impl_cellCode.mono : ∀ a0 a1 a2 a3 k, LeO (impl_cellCode.f k a0 a1 a2 a3) (impl_cellCode.f (k + 1) a0 a1 a2 a3) := by
 intro a0 a1 a2 a3 k
 unfold impl_cellCode.f
 repeat' first
   | (with_reducible exact impl_Spot_87__88.mono _ _ _ _ _)
   | (with_reducible exact impl_ValidRoom.mono _ _ _ _)
   | (with_reducible exact LeO.refl _)
   | (with_reducible exact LeO.none _)
   | (with_reducible refine LeO.ite ?_ ?_)
   | (with_reducible refine LeO.bind ?_ (fun _ => ?_))
   | exact impl_Spot_87__88.mono _ _ _ _ _
   | exact impl_ValidRoom.mono _ _ _ _
   | exact LeO.none _
   | refine LeO.ite ?_ ?_
   | refine LeO.bind ?_ (fun _ => ?_)
set_option maxHeartbeats 8000000 in
set_option maxRecDepth 100000 in
theorem impl_cellCode.calls (k : Nat) (a0_0 : Int) (a0_1 : Int) (a0_2 : LA 10) (A1 : Option Addr) (c1 : Nat) (l1 : List (S39)) (r : Int) (w : World) (hr1 : Kd.C k39 w A1 l1.length l1) (hc1 : l1.length ≤ c1) (h : impl_cellCode.f k a0_0 a0_1 a0_2 l1 = some r) :
  Calls Try.prog 59 #[.agg (mixA (Value.int .u16) [.int .i8 a0_0, .int .i8 a0_1] a0_2), .slice A1 l1.length c1] w fun e w' => e = .returned (.int .i64 r) ∧ Below w.heap.size w w' := by
 have hu34 := Try.underlying34
 have HR1 := Aside0.mk hr1
 have HC1 := Aside0.mk hc1
 clear hr1 hc1
 have HB := Aside0.mk (Below.refl w.heap.size w)
 have H : ((impl_ValidRoom.f k a0_0 a0_1 a0_2).bind fun t287 => (if t287 = true then ((impl_Spot_87__88.f k l1 a0_0 a0_1 a0_2).bind fun t288 => ((impl_unless.f (!t288) 2).bind fun t289 => (some t289))) else (some 1))) = some r := h
 clear h
 obtain ⟨t287, A3, H⟩ := obn H
 by_cases c4 : t287 = true
 ·subst c4
  have H1 : ((impl_Spot_87__88.f k l1 a0_0 a0_1 a0_2).bind fun t288 => ((impl_unless.f (!t288) 2).bind fun t289 => (some t289))) = some r := by rw [if_pos rfl] at H; exact H
  clear H; have H := H1; clear H1; obtain ⟨t288, A5, H⟩ := obn H; obtain ⟨t289, A6, H⟩ := obn H; obtain rfl := Option.some.inj H
  go_enter Try.func59, Try.ntmps59
  go_wp2_with (first | ((with_reducible refine gate_dst (N := 2) rfl ?_); refine box_event ?hg (N := 2) ?hd (cs := (mixA (Value.int .u16) [.int .i8 a0_0, .int .i8 a0_1] a0_2)) (t := 34) ?hr ?_; (case hd => rfl); (case hg => rfl); (case hr => first | (go_simp; done) | (go_simp; rfl)); intro gb286 hg w7 hbox hb; have n0_ := bst HB hb; have n1_ := Aside0.mk (hbox); have n2_ := gwl HB hg; have n3_ := gwl HB hg; clear HB; have HB := n0_; have BK286 := n1_; have GW286 := n2_; have GE286 := n3_; clear n0_ n1_ n2_ n3_; clear hb hbox hg) | ((with_reducible refine gate_dst (N := 5) rfl ?_); refine wpList_run0 (v := .agg (mixA (Value.int .u16) [.int .i8 a0_0, .int .i8 a0_1] a0_2)) rfl (load_mix_run (P := Try.prog) 34 (.tmp 2) rfl gb286 rfl (show World.rangeAt _ gb286 0 ([.int .i8 a0_0, .int .i8 a0_1] ++ a0_2.l.map (Value.int .u16)) from mix_range (show (World.heap _)[gb286]? = some (.cells (mixA (Value.int .u16) [.int .i8 a0_0, .int .i8 a0_1] a0_2) 34 (0, 0)) from by (with_reducible repeat (first | refine blk_drewN ?_ _ | refine blk_drew ?_ | refine blk_alloc ?_ _)); exact BK286.out)) Try.underlying34 rfl (by kernel_rfl) rfl) ?_) | ((with_reducible refine gate_callee (f := 56) rfl ?_); refine gl (some 6) Try.func56 #[.agg (mixA (Value.int .u16) [.int .i8 a0_0, .int .i8 a0_1] a0_2)] ?_; (with_reducible refine (impl_ValidRoom.calls k a0_0 a0_1 a0_2 true _ A3.out).mono ?_); rintro e w9 ⟨rfl, hb⟩; refine ⟨_, rfl, ?_⟩; replace BK286 := bkb BK286 hb; replace HB := bst HB hb; (try clear hb); (try clear hb2); (try clear hk); (try clear hi)) | ((with_reducible refine gate_callee (f := 87) rfl ?_); refine gl (some 10) Try.func87 #[.slice A1 l1.length c1, .func (.func 88) #[] #[.pointer (some ⟨gb286, 0, none⟩)]] ?_; (with_reducible refine (impl_Spot_87__88.calls k _ _ l1 gb286 a0_0 a0_1 a0_2 t288 _ ?side1 ?side2 ?side3 A5.out).mono ?_); (case side1 => exact (pk BK286)); (case side2 => repeat (first | exact (Kd.C_below HR1.out HB.out) | (with_reducible refine Kd.C_alloc ?_ _) | (with_reducible refine Kd.C_drewN ?_ _) | (with_reducible refine Kd.C_drew ?_))); (case side3 => exact HC1.out); rintro e w10 ⟨rfl, hb⟩; refine ⟨_, rfl, ?_⟩; replace BK286 := bkb BK286 hb; replace HB := bst HB hb; (try clear hb); (try clear hb2); (try clear hk); (try clear hi)) | ((with_reducible refine gate_callee (f := 60) rfl ?_); refine gl (some 12) Try.func60 #[.bool (!t288), .int .i64 2] ?_; (with_reducible refine (impl_unless.calls (!t288) 2 t289 _ A6.out).mono ?_); rintro e w' ⟨rfl, ⟨nd, rfl⟩⟩; refine ⟨_, rfl, ?_⟩))
  go_ret
  exact ⟨by first | rfl | (simp [errW_none, errW_some] <;> rfl) | (simp [*, errW_none, errW_some] <;> rfl), pbs HB⟩
 ·replace c4 := Bool.eq_false_iff.mpr c4
  subst c4
  have H1 : (some 1) = some r := by rw [if_neg (show ¬ (false = true) by decide)] at H; exact H
  clear H; have H := H1; clear H1; obtain rfl := Option.some.inj H
  go_enter Try.func59, Try.ntmps59
  go_wp2_with (first | ((with_reducible refine gate_dst (N := 2) rfl ?_); refine box_event ?hg (N := 2) ?hd (cs := (mixA (Value.int .u16) [.int .i8 a0_0, .int .i8 a0_1] a0_2)) (t := 34) ?hr ?_; (case hd => rfl); (case hg => rfl); (case hr => first | (go_simp; done) | (go_simp; rfl)); intro gb286 hg w11 hbox hb; have n0_ := bst HB hb; have n1_ := Aside0.mk (hbox); have n2_ := gwl HB hg; have n3_ := gwl HB hg; clear HB; have HB := n0_; have BK286 := n1_; have GW286 := n2_; have GE286 := n3_; clear n0_ n1_ n2_ n3_; clear hb hbox hg) | ((with_reducible refine gate_dst (N := 5) rfl ?_); refine wpList_run0 (v := .agg (mixA (Value.int .u16) [.int .i8 a0_0, .int .i8 a0_1] a0_2)) rfl (load_mix_run (P := Try.prog) 34 (.tmp 2) rfl gb286 rfl (show World.rangeAt _ gb286 0 ([.int .i8 a0_0, .int .i8 a0_1] ++ a0_2.l.map (Value.int .u16)) from mix_range (show (World.heap _)[gb286]? = some (.cells (mixA (Value.int .u16) [.int .i8 a0_0, .int .i8 a0_1] a0_2) 34 (0, 0)) from by (with_reducible repeat (first | refine blk_drewN ?_ _ | refine blk_drew ?_ | refine blk_alloc ?_ _)); exact BK286.out)) Try.underlying34 rfl (by kernel_rfl) rfl) ?_) | ((with_reducible refine gate_callee (f := 56) rfl ?_); refine gl (some 6) Try.func56 #[.agg (mixA (Value.int .u16) [.int .i8 a0_0, .int .i8 a0_1] a0_2)] ?_; (with_reducible refine (impl_ValidRoom.calls k a0_0 a0_1 a0_2 false _ A3.out).mono ?_); rintro e w13 ⟨rfl, hb⟩; refine ⟨_, rfl, ?_⟩; replace BK286 := bkb BK286 hb; replace HB := bst HB hb; (try clear hb); (try clear hb2); (try clear hk); (try clear hi)))
  go_ret
  exact ⟨by first | rfl | (simp [errW_none, errW_some] <;> rfl) | (simp [*, errW_none, errW_some] <;> rfl), pbs HB⟩
def impl_stateCode_1.f (a0_0 : Int) (a0_1 : Int) (s1_0 : Int) (s1_1 : Int) (s1_2 : LA 10) : Option (Bool) := (impl_Room_isFree.f s1_0 s1_1 s1_2 a0_0 a0_1).bind fun t291 => (some (!t291))
set_option maxHeartbeats 8000000 in
set_option maxRecDepth 100000 in
theorem impl_stateCode_1.calls (a0_0 : Int) (a0_1 : Int) (g1 : Nat) (s1_0 : Int) (s1_1 : Int) (s1_2 : LA 10) (r : Bool) (w : World) (hb1 : w.heap[g1]? = some (.cells (mixA (Value.int .u16) [.int .i8 s1_0, .int .i8 s1_1] s1_2) 34 (0, 0))) (h : impl_stateCode_1.f a0_0 a0_1 s1_0 s1_1 s1_2 = some r) :
  Calls Try.prog 90 #[.agg #[.int .i8 a0_0, .int .i8 a0_1], .pointer (some ⟨g1, 0, none⟩)] w fun e w' => e = .returned (.bool r) ∧ Below w.heap.size w w' := by
 have hu39 := Try.underlying39
 have hu34 := Try.underlying34
 have BK1 := Aside0.mk hb1
 clear hb1
 have HB := Aside0.mk (Below.refl w.heap.size w)
 have H : ((impl_Room_isFree.f s1_0 s1_1 s1_2 a0_0 a0_1).bind fun t291 => (some (!t291))) = some r := h
 clear h
 obtain ⟨t291, A3, H⟩ := obn H
 obtain rfl := Option.some.inj H
 go_enter Try.func90, Try.ntmps90
 go_wp2_with (first | ((with_reducible refine gate_dst (N := 2) rfl ?_); refine box_event ?hg (N := 2) ?hd (cs := #[.int .i8 a0_0, .int .i8 a0_1]) (t := 39) ?hr ?_; (case hd => rfl); (case hg => rfl); (case hr => first | (go_simp; done) | (go_simp; rfl)); intro gb290 hg w4 hbox hb; have n0_ := bkb BK1 hb; have n1_ := bst HB hb; have n2_ := Aside0.mk (hbox); have n3_ := gwl HB hg; have n4_ := gwl HB hg; have n5_ := nbl BK1 hg; have n6_ := nbg BK1 hg; clear BK1; clear HB; have BK1 := n0_; have HB := n1_; have BK290 := n2_; have GW290 := n3_; have GE290 := n4_; have NB1_290 := n5_; have NB290_1 := n6_; clear n0_ n1_ n2_ n3_ n4_ n5_ n6_; clear hb hbox hg) | ((with_reducible refine gate_dst (N := 4) rfl ?_); refine wpList_run0 (v := .agg (mixA (Value.int .u16) [.int .i8 s1_0, .int .i8 s1_1] s1_2)) rfl (load_mix_run (P := Try.prog) 34 (.tmp 1) rfl g1 rfl (show World.rangeAt _ g1 0 ([.int .i8 s1_0, .int .i8 s1_1] ++ s1_2.l.map (Value.int .u16)) from mix_range (show (World.heap _)[g1]? = some (.cells (mixA (Value.int .u16) [.int .i8 s1_0, .int .i8 s1_1] s1_2) 34 (0, 0)) from by (with_reducible repeat (first | refine blk_drewN ?_ _ | refine blk_drew ?_ | refine blk_alloc ?_ _)); exact BK1.out)) Try.underlying34 rfl (by kernel_rfl) rfl) ?_; have hnb6 := NB290_1.out; have hnc6 := NB1_290.out; have hcz7_0 : w4.cell? ⟨gb290, 0, none⟩ = some (.int .i8 a0_0) := (blk_cell BK290.out 0).trans rfl; have hcz7_1 : w4.cell? ⟨gb290, 1, none⟩ = some (.int .i8 a0_1) := (blk_cell BK290.out 1).trans rfl; have hfz7_0 := blk_frozen BK290.out 0; have hfz7_1 := blk_frozen BK290.out 1) | ((with_reducible refine gate_callee (f := 86) rfl ?_); refine gl (some 6) Try.func86 #[.agg (mixA (Value.int .u16) [.int .i8 s1_0, .int .i8 s1_1] s1_2), .agg #[.int .i8 a0_0, .int .i8 a0_1]] ?_; (with_reducible refine (impl_Room_isFree.calls s1_0 s1_1 s1_2 a0_0 a0_1 t291 _ A3.out).mono ?_); rintro e w8 ⟨rfl, hb⟩; refine ⟨_, rfl, ?_⟩; replace BK1 := bkb BK1 hb; replace BK290 := bkb BK290 hb; replace HB := bst HB hb; (try clear hb); (try clear hb2); (try clear hk); (try clear hi)))
 go_ret
 exact ⟨by first | rfl | (simp [errW_none, errW_some] <;> rfl) | (simp [*, errW_none, errW_some] <;> rfl), pbs HB⟩
def impl_Spot_97__90.l0 : Nat → List (S39) → Int → Int → Int → Int → LA 10 → Option (Int)
 | 0, _, _, _, _, _, _ => none
 | k + 1, x0, x7, x8, x2000, x2001, x2002 => if x8 < x7 then (if 0 ≤ x8 then (if x8 < (x0.length : Int) then ((impl_stateCode_1.f ((rd_T39 x0 x8).f0) ((rd_T39 x0 x8).f1) x2000 x2001 x2002).bind fun t293 => (if t293 = true then (some x8) else (impl_Spot_97__90.l0 k x0 x7 (wrap64 (x8 + 1)) x2000 x2001 x2002))) else (none)) else (none)) else (some (-1))
def impl_Spot_97__90.f (k : Nat) (l0 : List (S39)) (s1_0 : Int) (s1_1 : Int) (s1_2 : LA 10) : Option (Int) := impl_Spot_97__90.l0 k l0 (l0.length : Int) 0 s1_0 s1_1 s1_2
theorem impl_Spot_97__90.mono_l : ∀ k, (∀ y0 y1 y2 y3 y4 y5, LeO (impl_Spot_97__90.l0 k y0 y1 y2 y3 y4 y5) (impl_Spot_97__90.l0 (k + 1) y0 y1 y2 y3 y4 y5))
 | 0 => fun _ _ _ _ _ _ r h => by simp [impl_Spot_97__90.l0] at h
 | k + 1 => by
  have ih0 := impl_Spot_97__90.mono_l k
  ·intro y0 y1 y2 y3 y4 y5
   unfold impl_Spot_97__90.l0
   repeat' first
   | (with_reducible exact ih0 _ _ _ _ _ _)
   | (with_reducible exact LeO.refl _)
   | (with_reducible exact LeO.none _)
   | (with_reducible refine LeO.ite ?_ ?_)
   | (with_reducible refine LeO.bind ?_ (fun _ => ?_))
   | exact ih0 _ _ _ _ _ _
   | exact LeO.none _
   | refine LeO.ite ?_ ?_
   | refine LeO.bind ?_ (fun _ => ?_)
theorem impl_Spot_97__90.mono : ∀ a0 a1 a2 a3 k, LeO (impl_Spot_97__90.f k a0 a1 a2 a3) (impl_Spot_97__90.f (k + 1) a0 a1 a2 a3) := by
 intro a0 a1 a2 a3 k
 have ih0 := impl_Spot_97__90.mono_l k
 unfold impl_Spot_97__90.f
 repeat' first
   | (with_reducible exact ih0 _ _ _ _ _ _)
   | (with_reducible exact LeO.refl _)
   | (with_reducible exact LeO.none _)
   | (with_reducible refine LeO.ite ?_ ?_)
   | (with_reducible refine LeO.bind ?_ (fun _ => ?_))
   | exact ih0 _ _ _ _ _ _
   | exact LeO.none _
   | refine LeO.ite ?_ ?_
   | refine LeO.bind ?_ (fun _ => ?_)
set_option maxHeartbeats 8000000 in
set_option maxRecDepth 100000 in
theorem impl_Spot_97__90.calls (k : Nat) (A0 : Option Addr) (c0 : Nat) (l0 : List (S39)) (g1 : Nat) (s1_0 : Int) (s1_1 : Int) (s1_2 : LA 10) (r : Int) (w : World) (hb1 : w.heap[g1]? = some (.cells (mixA (Value.int .u16) [.int .i8 s1_0, .int .i8 s1_1] s1_2) 34 (0, 0))) (hr0 : Kd.C k39 w A0 l0.length l0) (hc0 : l0.length ≤ c0) (h : impl_Spot_97__90.f k l0 s1_0 s1_1 s1_2 = some r) :
  Calls Try.prog 97 #[.slice A0 l0.length c0, .func (.func 90) #[] #[.pointer (some ⟨g1, 0, none⟩)]] w fun e w' => e = .returned (.int .i64 r) ∧ Below w.heap.size w w' := by
 have hu39 := Try.underlying39
 have HR0 := Aside0.mk hr0
 have HC0 := Aside0.mk hc0
 clear hr0 hc0
 have BK1 := Aside0.mk hb1
 clear hb1
 have HB := Aside0.mk (Below.refl w.heap.size w)
 have H : (impl_Spot_97__90.l0 k l0 (l0.length : Int) 0 s1_0 s1_1 s1_2) = some r := h
 clear h
 have H' := Aside0.mk H
 clear H
 go_enter Try.func97, Try.ntmps97
 go_wp2
 go_loopg [8] k (fun kq v8 w' => ∃ (x8_1 : Int), v8 = .int .i64 x8_1 ∧ Aside0 (impl_Spot_97__90.l0 kq l0 (l0.length : Int) x8_1 s1_0 s1_1 s1_2 = some r) ∧ Aside0 (kq ≤ k) ∧ Aside0 (w'.heap[g1]? = some (.cells (mixA (Value.int .u16) [.int .i8 s1_0, .int .i8 s1_1] s1_2) 34 (0, 0))) ∧ Aside0 (Below w.heap.size w w'))
 case atStart => exact ⟨(0), (by first | rfl | (simp; done) | (simp [*]; done)), H', ⟨Nat.le_refl _⟩, ⟨pk BK1⟩, ⟨pbs HB⟩⟩
 case round =>
  clear H'
  try clear p2
  obtain ⟨x8_1, rfl, HA, HK1, BK1, HB⟩ := hrel
  cases gk with
  | zero => exact absurd HA.out (by simp [impl_Spot_97__90.l0])
  | succ k1 =>
   have H := HA.out; clear HA; simp only [impl_Spot_97__90.l0] at H
   by_cases c3 : x8_1 < (l0.length : Int)
   ·rw [if_pos c3] at H
    have c3b0 : decide (x8_1 < (l0.length : Int)) = true := decide_eq_true c3; clear c3
    by_cases c4 : 0 ≤ x8_1
    ·rw [if_pos c4] at H
     have c4b0 : decide (0 ≤ x8_1) = true := decide_eq_true c4; clear c4
     by_cases c5 : x8_1 < (l0.length : Int)
     ·rw [if_pos c5] at H
      have c5b0 : decide (x8_1 < (l0.length : Int)) = true := decide_eq_true c5; clear c5; obtain ⟨t293, A6, H⟩ := obn H
      by_cases c7 : t293 = true
      ·subst c7
       have H1 : (some x8_1) = some r := by rw [if_pos rfl] at H; exact H
       clear H; have H := H1; clear H1; obtain rfl := Option.some.inj H; have p292 : 0 ≤ (x8_1 : Int) := oda; have q292 : x8_1 < (l0.length : Int) := oda; obtain ⟨ad292, e292, hx292_0, hx292_1⟩ := at_T39 HR0.out x8_1 p292 q292; cases e292
       try replace hx292_0 := cb HB hx292_0
       try replace hx292_1 := cb HB hx292_1
       replace p292 := eq_true p292; replace q292 := eq_true q292
       go_wp2_with (first | (go_at_call 90; (with_reducible refine (impl_stateCode_1.calls ((rd_T39 l0 x8_1).f0) ((rd_T39 l0 x8_1).f1) g1 s1_0 s1_1 s1_2 true _ ?side1 A6.out).mono ?_); (case side1 => exact (pk BK1)); rintro e w8 ⟨rfl, hb⟩; replace BK1 := bkb BK1 hb; replace HB := bst HB hb; (try clear hb); (try clear hb2); (try clear hk); (try clear hi)))
       go_ret
       exact ⟨by first | rfl | (simp [errW_none, errW_some] <;> rfl) | (simp [*, errW_none, errW_some] <;> rfl), pbs HB⟩
      ·replace c7 := Bool.eq_false_iff.mpr c7
       subst c7
       have H1 : (impl_Spot_97__90.l0 k1 l0 (l0.length : Int) (wrap64 (x8_1 + 1)) s1_0 s1_1 s1_2) = some r := by rw [if_neg (show ¬ (false = true) by decide)] at H; exact H
       clear H; have H := H1; clear H1; have H' := Aside0.mk H; clear H; have p292 : 0 ≤ (x8_1 : Int) := oda; have q292 : x8_1 < (l0.length : Int) := oda; obtain ⟨ad292, e292, hx292_0, hx292_1⟩ := at_T39 HR0.out x8_1 p292 q292; cases e292
       try replace hx292_0 := cb HB hx292_0
       try replace hx292_1 := cb HB hx292_1
       replace p292 := eq_true p292; replace q292 := eq_true q292
       go_wp2_with (first | (go_at_call 90; (with_reducible refine (impl_stateCode_1.calls ((rd_T39 l0 x8_1).f0) ((rd_T39 l0 x8_1).f1) g1 s1_0 s1_1 s1_2 false _ ?side1 A6.out).mono ?_); (case side1 => exact (pk BK1)); rintro e w9 ⟨rfl, hb⟩; replace BK1 := bkb BK1 hb; replace HB := bst HB hb; (try clear hb); (try clear hb2); (try clear hk); (try clear hi)))
       go_roundg k1
       case measure => have := HK1.out; omega
       case rel => exact ⟨(wrap64 (x8_1 + 1)), (by first | rfl | (simp; done) | (simp [*]; done)), H', ⟨by have := HK1.out; omega⟩, ⟨pk BK1⟩, ⟨pbs HB⟩⟩
     ·rw [if_neg c5] at H
      exact absurd H (by simp)
    ·rw [if_neg c4] at H
     exact absurd H (by simp)
   ·rw [if_neg c3] at H
    have c3b0 : decide (x8_1 < (l0.length : Int)) = false := decide_eq_false c3; clear c3; obtain rfl := Option.some.inj H
    go_wp2
    go_ret
    exact ⟨by first | rfl | (simp [errW_none, errW_some] <;> rfl) | (simp [*, errW_none, errW_some] <;> rfl), pbs HB⟩
def impl_Spot_87__90.f (k : Nat) (l0 : List (S39)) (s1_0 : Int) (s1_1 : Int) (s1_2 : LA 10) : Option (Bool) := (impl_Spot_97__90.f k l0 s1_0 s1_1 s1_2).bind fun t294 => (some (decide (t294 ≥ 0)))
theorem impl_Spot_87__90.mono : ∀ a0 a1 a2 a3 k, LeO (impl_Spot_87__90.f k a0 a1 a2 a3) (impl_Spot_87__90.f (k + 1) a0 a1 a2 a3) := by
 intro a0 a1 a2 a3 k
 unfold impl_Spot_87__90.f
 repeat' first
   | (with_reducible exact impl_Spot_97__90.mono _ _ _ _ _)
   | (with_reducible exact LeO.refl _)
   | (with_reducible exact LeO.none _)
   | (with_reducible refine LeO.ite ?_ ?_)
   | (with_reducible refine LeO.bind ?_ (fun _ => ?_))
   | exact impl_Spot_97__90.mono _ _ _ _ _
   | exact LeO.none _
   | refine LeO.ite ?_ ?_
   | refine LeO.bind ?_ (fun _ => ?_)
set_option maxHeartbeats 8000000 in
set_option maxRecDepth 100000 in
theorem impl_Spot_87__90.calls (k : Nat) (A0 : Option Addr) (c0 : Nat) (l0 : List (S39)) (g1 : Nat) (s1_0 : Int) (s1_1 : Int) (s1_2 : LA 10) (r : Bool) (w : World) (hb1 : w.heap[g1]? = some (.cells (mixA (Value.int .u16) [.int .i8 s1_0, .int .i8 s1_1] s1_2) 34 (0, 0))) (hr0 : Kd.C k39 w A0 l0.length l0) (hc0 : l0.length ≤ c0) (h : impl_Spot_87__90.f k l0 s1_0 s1_1 s1_2 = some r) :
  Calls Try.prog 87 #[.slice A0 l0.length c0, .func (.func 90) #[] #[.pointer (some ⟨g1, 0, none⟩)]] w fun e w' => e = .returned (.bool r) ∧ Below w.heap.size w w' := by
 have HR0 := Aside0.mk hr0
 have HC0 := Aside0.mk hc0
 clear hr0 hc0
 have BK1 := Aside0.mk hb1
 clear hb1
 have HB := Aside0.mk (Below.refl w.heap.size w)
 have H : ((impl_Spot_97__90.f k l0 s1_0 s1_1 s1_2).bind fun t294 => (some (decide (t294 ≥ 0)))) = some r := h
 clear h
 obtain ⟨t294, A3, H⟩ := obn H
 obtain rfl := Option.some.inj H
 go_enter Try.func87, Try.ntmps87
 go_wp2_with (first | ((with_reducible refine gate_callee (f := 97) rfl ?_); refine gl (some 7) Try.func97 #[.slice A0 l0.length c0, .func (.func 90) #[] #[.pointer (some ⟨g1, 0, none⟩)]] ?_; (with_reducible refine (impl_Spot_97__90.calls k _ _ l0 g1 s1_0 s1_1 s1_2 t294 _ ?side1 ?side2 ?side3 A3.out).mono ?_); (case side1 => exact (pk BK1)); (case side2 => repeat (first | exact HR0.out | (with_reducible refine Kd.C_alloc ?_ _) | (with_reducible refine Kd.C_drewN ?_ _) | (with_reducible refine Kd.C_drew ?_))); (case side3 => exact HC0.out); rintro e w4 ⟨rfl, hb⟩; refine ⟨_, rfl, ?_⟩; replace BK1 := bkb BK1 hb; replace HB := bst HB hb; (try clear hb); (try clear hb2); (try clear hk); (try clear hi)))
 go_ret
 exact ⟨by first | rfl | (simp [errW_none, errW_some] <;> rfl) | (simp [*, errW_none, errW_some] <;> rfl), pbs HB⟩
def impl_stateCode.f (k : Nat) (a0_0 : Int) (a0_1 : Int) (a0_2 : LA 10) (l1 : List (S39)) : Option (Int) := (impl_Spot_87__90.f k l1 a0_0 a0_1 a0_2).bind fun t296 => ((impl_unless.f (!t296) 4).bind fun t297 => (some t297))
theorem impl_stateCode.mono : ∀ a0 a1 a2 a3 k, LeO (impl_stateCode.f k a0 a1 a2 a3) (impl_stateCode.f (k + 1) a0 a1 a2 a3) := by
 intro a0 a1 a2 a3 k
 unfold impl_stateCode.f
 repeat' first
   | (with_reducible exact impl_Spot_87__90.mono _ _ _ _ _)
   | (with_reducible exact LeO.refl _)
   | (with_reducible exact LeO.none _)
   | (with_reducible refine LeO.ite ?_ ?_)
   | (with_reducible refine LeO.bind ?_ (fun _ => ?_))
   | exact impl_Spot_87__90.mono _ _ _ _ _
   | exact LeO.none _
   | refine LeO.ite ?_ ?_
   | refine LeO.bind ?_ (fun _ => ?_)
set_option maxHeartbeats 8000000 in
set_option maxRecDepth 100000 in
theorem impl_stateCode.calls (k : Nat) (a0_0 : Int) (a0_1 : Int) (a0_2 : LA 10) (A1 : Option Addr) (c1 : Nat) (l1 : List (S39)) (r : Int) (w : World) (hr1 : Kd.C k39 w A1 l1.length l1) (hc1 : l1.length ≤ c1) (h : impl_stateCode.f k a0_0 a0_1 a0_2 l1 = some r) :
  Calls Try.prog 62 #[.agg (mixA (Value.int .u16) [.int .i8 a0_0, .int .i8 a0_1] a0_2), .slice A1 l1.length c1] w fun e w' => e = .returned (.int .i64 r) ∧ Below w.heap.size w w' := by
 have hu34 := Try.underlying34
 have HR1 := Aside0.mk hr1
 have HC1 := Aside0.mk hc1
 clear hr1 hc1
 have HB := Aside0.mk (Below.refl w.heap.size w)
 have H : ((impl_Spot_87__90.f k l1 a0_0 a0_1 a0_2).bind fun t296 => ((impl_unless.f (!t296) 4).bind fun t297 => (some t297))) = some r := h
 clear h
 obtain ⟨t296, A3, H⟩ := obn H
 obtain ⟨t297, A4, H⟩ := obn H
 obtain rfl := Option.some.inj H
 go_enter Try.func62, Try.ntmps62
 go_wp2_with (first | ((with_reducible refine gate_dst (N := 2) rfl ?_); refine box_event ?hg (N := 2) ?hd (cs := (mixA (Value.int .u16) [.int .i8 a0_0, .int .i8 a0_1] a0_2)) (t := 34) ?hr ?_; (case hd => rfl); (case hg => rfl); (case hr => first | (go_simp; done) | (go_simp; rfl)); intro gb295 hg w5 hbox hb; have n0_ := bst HB hb; have n1_ := Aside0.mk (hbox); have n2_ := gwl HB hg; have n3_ := gwl HB hg; clear HB; have HB := n0_; have BK295 := n1_; have GW295 := n2_; have GE295 := n3_; clear n0_ n1_ n2_ n3_; clear hb hbox hg) | ((with_reducible refine gate_callee (f := 87) rfl ?_); refine gl (some 7) Try.func87 #[.slice A1 l1.length c1, .func (.func 90) #[] #[.pointer (some ⟨gb295, 0, none⟩)]] ?_; (with_reducible refine (impl_Spot_87__90.calls k _ _ l1 gb295 a0_0 a0_1 a0_2 t296 _ ?side1 ?side2 ?side3 A3.out).mono ?_); (case side1 => exact (pk BK295)); (case side2 => repeat (first | exact (Kd.C_below HR1.out HB.out) | (with_reducible refine Kd.C_alloc ?_ _) | (with_reducible refine Kd.C_drewN ?_ _) | (with_reducible refine Kd.C_drew ?_))); (case side3 => exact HC1.out); rintro e w6 ⟨rfl, hb⟩; refine ⟨_, rfl, ?_⟩; replace BK295 := bkb BK295 hb; replace HB := bst HB hb; (try clear hb); (try clear hb2); (try clear hk); (try clear hi)) | ((with_reducible refine gate_callee (f := 60) rfl ?_); refine gl (some 9) Try.func60 #[.bool (!t296), .int .i64 4] ?_; (with_reducible refine (impl_unless.calls (!t296) 4 t297 _ A4.out).mono ?_); rintro e w' ⟨rfl, ⟨nd, rfl⟩⟩; refine ⟨_, rfl, ?_⟩))
 go_ret
 exact ⟨by first | rfl | (simp [errW_none, errW_some] <;> rfl) | (simp [*, errW_none, errW_some] <;> rfl), pbs HB⟩
end Go.Proofs.Ytjpponjekcemjaa.PB
end
section
namespace Go.Proofs.Ytjpponjekcemjaa.PB
open Go.RowKit Go.Proofs.YtjpponjekcemjaaW.PrintWords Go.Proofs.YtjpponjekcemjaaW.PrintLast Go.Proofs.YtjpponjekcemjaaW.PrintMore Go.Proofs.Ytjpponjekcemjaa.La
attribute [local go_sem] max2_int min2_int max_two min_two max_three min_three max_four min_four   -- for this text's walks alone
set_option linter.unusedVariables false
set_option linter.unusedSimpArgs false
def impl_leadCode.f (k : Nat) (a0_0 : Int) (a0_1 : Int) (a0_2 : LA 10) (a1_0 : Int) (a1_1 : Int) (a2 : Int) : Option (Int) := (impl_cellCode.f k a0_0 a0_1 a0_2 (([(⟨a1_0, a1_1⟩ : S39)] : List (S39)))).bind fun t303 => ((impl_within.f a2 0 20000).bind fun t304 => ((impl_unless.f t304 2).bind fun t305 => ((impl_stateCode.f k a0_0 a0_1 a0_2 (([(⟨a1_0, a1_1⟩ : S39)] : List (S39)))).bind fun t309 => ((impl_firstOf.f k (([t303, t305, t309] : List Int))).bind fun t313 => (some t313)))))
theorem impl_leadCode.mono : ∀ a0 a1 a2 a3 a4 a5 k, LeO (impl_leadCode.f k a0 a1 a2 a3 a4 a5) (impl_leadCode.f (k + 1) a0 a1 a2 a3 a4 a5) := by
 intro a0 a1 a2 a3 a4 a5 k
 unfold impl_leadCode.f
 repeat' first
   | (with_reducible exact impl_cellCode.mono _ _ _ _ _)
   | (with_reducible exact impl_firstOf.mono _ _)
   | (with_reducible exact impl_stateCode.mono _ _ _ _ _)
   | (with_reducible exact LeO.refl _)
   | (with_reducible exact LeO.none _)
   | (with_reducible refine LeO.ite ?_ ?_)
   | (with_reducible refine LeO.bind ?_ (fun _ => ?_))
   | exact impl_cellCode.mono _ _ _ _ _
   | exact impl_firstOf.mono _ _
   | exact impl_stateCode.mono _ _ _ _ _
   | exact LeO.none _
   | refine LeO.ite ?_ ?_
   | refine LeO.bind ?_ (fun _ => ?_)
def impl_leadCode.T1 : Bool × List (List Nat × List Nat) := (true, [([], []), ([], []), ([1], [1]), ([0, 2], [0, 2]), ([], []), ([4, 3], [4]), ([5, 5], [5]), ([], []), ([], []), ([8], [8]), ([7, 9, 6], [7, 9]), ([3, 6, 10], [3, 6, 10]), ([11, 10], [11]), ([12, 12, 0, 1, 2, 3, 4, 5, 6, 7, 8, 9, 10, 11, 12], [12])])
def impl_leadCode.B1 : List Nat := [0, 0, 2, 7, 0, 31, 63, 0, 0, 256, 1023, 2047, 4095, 8191]
theorem impl_leadCode.tab1 : rtab .any (opsOf Try.f36 1) = impl_leadCode.T1 := by kernel_rfl
theorem impl_leadCode.bits1 : waitsOk impl_leadCode.T1.2 impl_leadCode.B1 = true := by kernel_rfl
set_option maxHeartbeats 8000000 in
set_option maxRecDepth 100000 in
theorem impl_leadCode.calls (k : Nat) (a0_0 : Int) (a0_1 : Int) (a0_2 : LA 10) (a1_0 : Int) (a1_1 : Int) (a2 : Int) (r : Int) (w : World) (h : impl_leadCode.f k a0_0 a0_1 a0_2 a1_0 a1_1 a2 = some r) :
  Calls Try.prog 36 #[.agg (mixA (Value.int .u16) [.int .i8 a0_0, .int .i8 a0_1] a0_2), .agg #[.int .i8 a1_0, .int .i8 a1_1], .int .i64 a2] w fun e w' => e = .returned (.int .i64 r) ∧ Below w.heap.size w w' := by
 have hu34 := Try.underlying34
 have hu39 := Try.underlying39
 have HB := Aside0.mk (Below.refl w.heap.size w)
 have H : ((impl_cellCode.f k a0_0 a0_1 a0_2 (([(⟨a1_0, a1_1⟩ : S39)] : List (S39)))).bind fun t303 => ((impl_within.f a2 0 20000).bind fun t304 => ((impl_unless.f t304 2).bind fun t305 => ((impl_stateCode.f k a0_0 a0_1 a0_2 (([(⟨a1_0, a1_1⟩ : S39)] : List (S39)))).bind fun t309 => ((impl_firstOf.f k (([t303, t305, t309] : List Int))).bind fun t313 => (some t313)))))) = some r := h
 clear h
 obtain ⟨y300, hy300⟩ : ∃ y_ : List (S39), y_ = (([(⟨a1_0, a1_1⟩ : S39)] : List (S39))) := ⟨_, rfl⟩
 replace H : ((impl_cellCode.f k a0_0 a0_1 a0_2 y300).bind fun t303 => ((impl_within.f a2 0 20000).bind fun t304 => ((impl_unless.f t304 2).bind fun t305 => ((impl_stateCode.f k a0_0 a0_1 a0_2 (([(⟨a1_0, a1_1⟩ : S39)] : List (S39)))).bind fun t309 => ((impl_firstOf.f k (([t303, t305, t309] : List Int))).bind fun t313 => (some t313)))))) = some r := by first | (rw [hy300]; with_reducible exact H) | (have H2_ := (Option.bind_some _ _).symm.trans H; rw [hy300]; with_reducible exact H2_) | (have H2_ := (Option.bind_some _ _).symm.trans H; with_reducible exact H2_) | with_reducible exact H | (rw [hy300]; exact H) | exact H
 have Ny300 := Aside0.mk hy300
 clear hy300
 obtain ⟨t303, A4, H⟩ := obn H
 obtain ⟨t304, A5, H⟩ := obn H
 obtain ⟨t305, A6, H⟩ := obn H
 obtain ⟨y306, hy306⟩ : ∃ y_ : List (S39), y_ = (([(⟨a1_0, a1_1⟩ : S39)] : List (S39))) := ⟨_, rfl⟩
 replace H : ((impl_stateCode.f k a0_0 a0_1 a0_2 y306).bind fun t309 => ((impl_firstOf.f k (([t303, t305, t309] : List Int))).bind fun t313 => (some t313))) = some r := by first | (rw [hy306]; with_reducible exact H) | (have H2_ := (Option.bind_some _ _).symm.trans H; rw [hy306]; with_reducible exact H2_) | (have H2_ := (Option.bind_some _ _).symm.trans H; with_reducible exact H2_) | with_reducible exact H | (rw [hy306]; exact H) | exact H
 have Ny306 := Aside0.mk hy306
 clear hy306
 obtain ⟨t309, A7, H⟩ := obn H
 obtain ⟨y310, hy310⟩ : ∃ y_ : List Int, y_ = (([t303, t305, t309] : List Int)) := ⟨_, rfl⟩
 replace H : ((impl_firstOf.f k y310).bind fun t313 => (some t313)) = some r := by first | (rw [hy310]; with_reducible exact H) | (have H2_ := (Option.bind_some _ _).symm.trans H; rw [hy310]; with_reducible exact H2_) | (have H2_ := (Option.bind_some _ _).symm.trans H; with_reducible exact H2_) | with_reducible exact H | (rw [hy310]; exact H) | exact H
 have Ny310 := Aside0.mk hy310
 clear hy310
 obtain ⟨t313, A8, H⟩ := obn H
 obtain rfl := Option.some.inj H
 go_enter Try.func36, Try.ntmps36
 try go_wp2_with (first | ((with_reducible refine gate_dst (N := 3) rfl ?_); refine box_event ?hg (N := 3) ?hd (cs := (mixA (Value.int .u16) [.int .i8 a0_0, .int .i8 a0_1] a0_2)) (t := 34) ?hr ?_; (case hd => rfl); (case hg => rfl); (case hr => first | (go_simp; done) | (go_simp; rfl)); intro gb298 hg w9 hbox hb; have n0_ := bst HB hb; have n1_ := Aside0.mk (hbox); have n2_ := gwl HB hg; have n3_ := gwl HB hg; clear HB; have HB := n0_; have BK298 := n1_; have GW298 := n2_; have GE298 := n3_; clear n0_ n1_ n2_ n3_; clear hb hbox hg) | ((with_reducible refine gate_dst (N := 4) rfl ?_); refine box_event ?hg (N := 4) ?hd (cs := #[.int .i8 a1_0, .int .i8 a1_1]) (t := 39) ?hr ?_; (case hd => rfl); (case hg => rfl); (case hr => first | (go_simp; done) | (go_simp; rfl)); intro gb299 hg w10 hbox hb; have n0_ := bkb BK298 hb; have n1_ := bst HB hb; have n2_ := Aside0.mk (hbox); have n3_ := gwl HB hg; have n4_ := gwl HB hg; have n5_ := nbl BK298 hg; have n6_ := nbg BK298 hg; clear BK298; clear HB; have BK298 := n0_; have HB := n1_; have BK299 := n2_; have GW299 := n3_; have GE299 := n4_; have NB298_299 := n5_; have NB299_298 := n6_; clear n0_ n1_ n2_ n3_ n4_ n5_ n6_; clear hb hbox hg))
 have n0_ := Aside0.mk (blk_drew BK298.out)
 have n1_ := Aside0.mk (blk_drew BK299.out)
 have n2_ := Aside0.mk (below_drew1 HB.out)
 clear BK298
 clear BK299
 clear HB
 have BK298 := n0_
 have BK299 := n1_
 have HB := n2_
 clear n0_ n1_ n2_
 refine start_ (n := 14) (S := fun w' => True) (ds := []) (bA 14 0) (by kernel_rfl) rfl rfl trivial (fun hHeld => ?_); refine with_tabW impl_leadCode.tab1 impl_leadCode.bits1 (fun HT_ HW_ => ?_)
 generalize w10.drew = w11 at BK298 BK299 HB hHeld ⊢
 refine pu 4 11 14 16 HT_ ?_
 refine inv_at [0, 1, 2, 3, 5, 6, 7, 8, 9, 10, 11, 12, 13] (fun a0_ b a w' => ∃ (v301 : Value) (v307 : Value) (v311 : Value), a = putSel a0_ b [(0, 7, .agg (mixA (Value.int .u16) [.int .i8 a0_0, .int .i8 a0_1] a0_2)), (1, 8, .agg #[.int .i8 a1_0, .int .i8 a1_1]), (2, 9, v301), (3, 10, .int .i64 t303), (5, 12, .bool t304), (6, 13, .int .i64 t305), (7, 14, .agg (mixA (Value.int .u16) [.int .i8 a0_0, .int .i8 a0_1] a0_2)), (8, 15, .agg #[.int .i8 a1_0, .int .i8 a1_1]), (9, 16, v307), (10, 17, .int .i64 t309), (11, 18, v311), (12, 19, .int .i64 t313), (13, 6, .int .i64 t313)] ∧ (w'.heap[gb298]? = some (.cells (mixA (Value.int .u16) [.int .i8 a0_0, .int .i8 a0_1] a0_2) 34 (0, 0))) ∧ (w'.heap[gb299]? = some (.cells #[.int .i8 a1_0, .int .i8 a1_1] 39 (0, 0))) ∧ (Below w.heap.size w w') ∧ (b 2 = true → Kd.R k39 39 w' w.heap.size (fun k_ => k_ ≠ gb299) v301 y300) ∧ (b 9 = true → Kd.R k39 39 w' w.heap.size (fun k_ => k_ ≠ gb299) v307 y306) ∧ (b 11 = true → Kd.R (Kd.int .i64) 2 w' w.heap.size (fun _ => True) v311 y310)) HT_.out HW_.out (by kernel_rfl) (by kernel_rfl) ?_ ?_ ?_
 ·exact ⟨.bool false, .bool false, .bool false, by simp only [putSel, Bool.false_eq_true, if_false], BK298.out, BK299.out, HB.out, fun h_ => absurd h_ (by decide), fun h_ => absurd h_ (by decide), fun h_ => absurd h_ (by decide)⟩
 ·skip
  clear BK298 BK299 HB; refine steps_cons ?_ ?_
  ·rintro b a w' ⟨v301, v307, v311, ha, Q_BK298, Q_BK299, Q_HB, Q_HO302, Q_HO308, Q_HO312⟩ hb_ hon hoff
   refine ⟨_, rfl, fun K hK => ?_⟩
   have e3 : a.tmps[3]? = some (.pointer (some ⟨gb298, 0, none⟩)) := by rw [ha]; exact (putSel_off rfl).trans rfl
   replace ha := Aside0.mk ha; have BK298 := Aside0.mk Q_BK298; have BK299 := Aside0.mk Q_BK299; have HB := Aside0.mk Q_HB; have hL_ : World.rangeAt w' gb298 0 ([.int .i8 a0_0, .int .i8 a0_1] ++ a0_2.l.map (Value.int .u16)) := mix_range BK298.out; refine value_ (w1 := w') (v := .agg (mixA (Value.int .u16) [.int .i8 a0_0, .int .i8 a0_1] a0_2)) (by rfl) rfl ?_ ?_
   ·exact load_mix_run (P := Try.prog) 34 (.tmp 3) rfl gb298 (by simp only [Act.eval, Array.getD_eq_getD_getElem?, e3, Option.getD_some]) hL_ Try.underlying34 rfl (by kernel_rfl) rfl
   refine hK.out _ _ ⟨v301, v307, v311, (by rw [ha.out]; exact putSel_upk 0 hb_ rfl rfl rfl), Q_BK298, Q_BK299, Q_HB, Q_HO302, Q_HO308, fun h0_ => absurd ((hoff 11 (by kernel_rfl)).symm.trans h0_) (by decide)⟩
  refine steps_cons ?_ ?_
  ·rintro b a w' ⟨v301, v307, v311, ha, Q_BK298, Q_BK299, Q_HB, Q_HO302, Q_HO308, Q_HO312⟩ hb_ hon hoff
   refine ⟨_, rfl, fun K hK => ?_⟩
   have e4 : a.tmps[4]? = some (.pointer (some ⟨gb299, 0, none⟩)) := by rw [ha]; exact (putSel_off rfl).trans rfl
   replace ha := Aside0.mk ha; have BK298 := Aside0.mk Q_BK298; have BK299 := Aside0.mk Q_BK299; have HB := Aside0.mk Q_HB; have hc0_ : w'.cell? ⟨gb299, 0, none⟩ = some (.int .i8 a1_0) := bc_ BK299.out 0; have hc1_ : w'.cell? ⟨gb299, 1, none⟩ = some (.int .i8 a1_1) := bc_ BK299.out 1; refine value_ (w1 := w') (v := .agg #[.int .i8 a1_0, .int .i8 a1_1]) (by rfl) rfl ?_ ?_
   ·go_simp
    (try simp only [i64_w])
    try rfl
   refine hK.out _ _ ⟨v301, v307, v311, (by rw [ha.out]; exact putSel_upk 1 hb_ rfl rfl rfl), Q_BK298, Q_BK299, Q_HB, fun h0_ => absurd ((hoff 2 (by kernel_rfl)).symm.trans h0_) (by decide), Q_HO308, fun h0_ => absurd ((hoff 11 (by kernel_rfl)).symm.trans h0_) (by decide)⟩
  refine steps_cons ?_ ?_
  ·rintro b a w' ⟨v301, v307, v311, ha, Q_BK298, Q_BK299, Q_HB, Q_HO302, Q_HO308, Q_HO312⟩ hb_ hon hoff
   refine ⟨_, rfl, fun K hK => ?_⟩
   have e8 : a.tmps[8]? = some (.agg #[.int .i8 a1_0, .int .i8 a1_1]) := by rw [ha]; exact putSel_on (e := (1, 8, .agg #[.int .i8 a1_0, .int .i8 a1_1])) 1 rfl rfl (hon 1 (by kernel_rfl)) rfl
   replace ha := Aside0.mk ha; have BK298 := Aside0.mk Q_BK298; have BK299 := Aside0.mk Q_BK299; have HB := Aside0.mk Q_HB
   refine Kd.R_lit_step k39 _ 39 ?hg (N := 9) ?hd (xs := ([(⟨a1_0, a1_1⟩ : S39)] : List (S39))) (inner := [.int .i8 a1_0, .int .i8 a1_1]) (ok := fun _ => True) (okp := fun _ => True) ?hr ?hp (fun _ hk => hk) trivial (Below.refl _ _) (Nat.le_refl _) (by simp) ?_; (case hd => rfl); (case hg => rfl); (case hr => first | (go_simp; done) | (go_simp; rfl)); (case hp => exact (Reps.c2 (show Kd.M k39 _ _ _ (⟨a1_0, a1_1⟩ : S39) [.int .i8 a1_0, .int .i8 a1_1] from (k39_mkM _ _ _ (⟨a1_0, a1_1⟩ : S39) )) (Reps.none _ _)))
   intro v301 w12 ho13 hb hg_ hnew_; clear hg_ hnew_; (first | rw [← Ny300.out] at ho13 | (simp only [Int.reduceToNat] at ho13; rw [← Ny300.out] at ho13)); have n0_ := Aside0.mk (Kd.R_lower (Kd.R_newB ho13 (g := gb299) (o := .cells #[.int .i8 a1_0, .int .i8 a1_1] 39 (0, 0)) (pk BK299)) (below_size (by repeat (first | (with_reducible first | exact HB.out | apply below_alloc | apply pw_below_drewN | apply below_drew1 | refine below_set ?_ GE298.out | refine below_set ?_ GE299.out) | exact HB.out)))); have n1_ := bkb BK298 hb; have n2_ := bkb BK299 hb; have n3_ := bst HB hb; have z_HO308 := fun (h0_ : b 9 = true) => (show Kd.R k39 39 w12 w.heap.size (fun k_ => k_ ≠ gb299) v307 y306 from by first | exact (Kd.R_elder' (by (with_reducible repeat (first | apply Kd.R_alloc | apply Kd.R_drewN | apply Kd.R_drew)); exact (Q_HO308 h0_)) (Kd.R_base ho13) hb) | exact Kd.R_mono (Kd.R_elder' (by (with_reducible repeat (first | apply Kd.R_alloc | apply Kd.R_drewN | apply Kd.R_drew)); exact (Q_HO308 h0_)) (Kd.R_base ho13) hb) (fun _ h_ => by first | trivial | exact h_ | exact h_.1)); clear BK298; clear BK299; clear HB; have HO302 := n0_; have BK298 := n1_; have BK299 := n2_; have HB := n3_; clear n0_ n1_ n2_ n3_; clear hb ho13; refine hK.out _ _ ⟨v301, v307, v311, (by rw [ha.out]; exact putSel_upk 2 hb_ rfl rfl rfl), (pk BK298), (pk BK299), (pbs HB), fun _ => (by (with_reducible repeat (first | apply Kd.R_alloc | apply Kd.R_drewN | apply Kd.R_drew)); exact Kd.R_mono HO302.out (fun _ hk => by first | exact hk.2 | trivial)), z_HO308, fun h0_ => absurd ((hoff 11 (by kernel_rfl)).symm.trans h0_) (by decide)⟩
  refine steps_cons ?_ ?_
  ·rintro b a w' ⟨v301, v307, v311, ha, Q_BK298, Q_BK299, Q_HB, Q_HO302, Q_HO308, Q_HO312⟩ hb_ hon hoff
   refine ⟨_, rfl, fun K hK => ?_⟩
   have e7 : a.tmps[7]? = some (.agg (mixA (Value.int .u16) [.int .i8 a0_0, .int .i8 a0_1] a0_2)) := by rw [ha]; exact putSel_on (e := (0, 7, .agg (mixA (Value.int .u16) [.int .i8 a0_0, .int .i8 a0_1] a0_2))) 0 rfl rfl (hon 0 (by kernel_rfl)) rfl
   have e9 : a.tmps[9]? = some (v301) := by rw [ha]; exact putSel_on (e := (2, 9, v301)) 2 rfl rfl (hon 2 (by kernel_rfl)) rfl
   replace ha := Aside0.mk ha; have BK298 := Aside0.mk Q_BK298; have BK299 := Aside0.mk Q_BK299; have HB := Aside0.mk Q_HB; have HO302 := Aside0.mk (Q_HO302 (hon 2 (by kernel_rfl))); obtain ⟨Ao15, co15, eo15⟩ := Kd.R_slice HO302.out; (first | subst eo15 | (injection eo15 with f1_ f2_ f3_; have f4_ := f1_.symm; have f5_ := f3_.symm; clear f1_ f2_ f3_; subst f4_; subst f5_)); refine goes_ Try.func59 (by kernel_rfl) rfl #[.agg (mixA (Value.int .u16) [.int .i8 a0_0, .int .i8 a0_1] a0_2), .slice Ao15 y300.length co15] (by rfl) rfl rfl (by first | (simp only [List.map_toArray, List.map_cons, List.map_nil, Act.eval, Array.getD_eq_getD_getElem?, Option.getD_some, e7, e9]; done) | (simp only [List.map_toArray, List.map_cons, List.map_nil, Act.eval, Array.getD_eq_getD_getElem?, Option.getD_some, e7, e9]; rfl)) ?_; with_reducible refine (impl_cellCode.calls k a0_0 a0_1 a0_2 _ _ y300 t303 _ ?side1 ?side2 A4.out).mono ?_; (case side1 => repeat (first | exact (Kd.R_reads' HO302.out).2.2 | (with_reducible refine Kd.C_alloc ?_ _) | (with_reducible refine Kd.C_drewN ?_ _) | (with_reducible refine Kd.C_drew ?_))); (case side2 => exact (Kd.R_reads' HO302.out).2.1)
   rintro e w16 ⟨rfl, hb⟩
   refine ⟨_, rfl, ?_⟩; have n0_ := krb HO302 hb; have n1_ := bkb BK298 hb; have n2_ := bkb BK299 hb; have n3_ := bst HB hb; have z_HO308 := fun (h0_ : b 9 = true) => (show Kd.R k39 39 w16 w.heap.size (fun k_ => k_ ≠ gb299) v307 y306 from by first | exact (Kd.R_below (by (with_reducible repeat (first | apply Kd.R_alloc | apply Kd.R_drewN | apply Kd.R_drew)); exact (Q_HO308 h0_)) hb) | exact Kd.R_mono (Kd.R_below (by (with_reducible repeat (first | apply Kd.R_alloc | apply Kd.R_drewN | apply Kd.R_drew)); exact (Q_HO308 h0_)) hb) (fun _ h_ => by first | trivial | exact h_ | exact h_.1)); clear HO302; clear BK298; clear BK299; clear HB; have HO302 := n0_; have BK298 := n1_; have BK299 := n2_; have HB := n3_; clear n0_ n1_ n2_ n3_; (try clear hb); (try clear hb2); (try clear hk); (try clear hi); refine hK.out _ _ ⟨.slice Ao15 y300.length co15, v307, v311, (by rw [ha.out]; exact putSel_upk 3 hb_ rfl rfl rfl), (pk BK298), (pk BK299), (pbs HB), fun _ => (by (with_reducible repeat (first | apply Kd.R_alloc | apply Kd.R_drewN | apply Kd.R_drew)); exact HO302.out), z_HO308, fun h0_ => absurd ((hoff 11 (by kernel_rfl)).symm.trans h0_) (by decide)⟩
  refine steps_cons ?_ ?_
  ·rintro b a w' ⟨v301, v307, v311, ha, Q_BK298, Q_BK299, Q_HB, Q_HO302, Q_HO308, Q_HO312⟩ hb_ hon hoff
   refine ⟨_, rfl, fun K hK => ?_⟩
   have e11 : a.tmps[11]? = some (.int .i64 a2) := by rw [ha]; exact (putSel_off rfl).trans rfl
   replace ha := Aside0.mk ha; have BK298 := Aside0.mk Q_BK298; have BK299 := Aside0.mk Q_BK299; have HB := Aside0.mk Q_HB; have HO302 := Aside0.mk (Q_HO302 (hon 2 (by kernel_rfl))); refine goes_ Try.func61 (by kernel_rfl) rfl #[.int .i64 a2, .int .i64 0, .int .i64 20000] (by rfl) rfl rfl (by first | (simp only [List.map_toArray, List.map_cons, List.map_nil, Act.eval, Array.getD_eq_getD_getElem?, Option.getD_some, e11]; done) | (simp only [List.map_toArray, List.map_cons, List.map_nil, Act.eval, Array.getD_eq_getD_getElem?, Option.getD_some, e11]; rfl)) ?_; with_reducible refine (impl_within.calls a2 0 20000 t304 _ A5.out).mono ?_
   rintro e w17 ⟨rfl, hb⟩
   refine ⟨_, rfl, ?_⟩; replace hb := Drawn0.below hb; have n0_ := krb HO302 hb; have n1_ := bkb BK298 hb; have n2_ := bkb BK299 hb; have n3_ := bst HB hb; have z_HO308 := fun (h0_ : b 9 = true) => (show Kd.R k39 39 w17 w.heap.size (fun k_ => k_ ≠ gb299) v307 y306 from by first | exact (Kd.R_below (by (with_reducible repeat (first | apply Kd.R_alloc | apply Kd.R_drewN | apply Kd.R_drew)); exact (Q_HO308 h0_)) hb) | exact Kd.R_mono (Kd.R_below (by (with_reducible repeat (first | apply Kd.R_alloc | apply Kd.R_drewN | apply Kd.R_drew)); exact (Q_HO308 h0_)) hb) (fun _ h_ => by first | trivial | exact h_ | exact h_.1)); clear HO302; clear BK298; clear BK299; clear HB; have HO302 := n0_; have BK298 := n1_; have BK299 := n2_; have HB := n3_; clear n0_ n1_ n2_ n3_; (try clear hb); (try clear hb2); (try clear hk); (try clear hi); refine hK.out _ _ ⟨v301, v307, v311, (by rw [ha.out]; exact putSel_upk 4 hb_ rfl rfl rfl), (pk BK298), (pk BK299), (pbs HB), fun _ => (by (with_reducible repeat (first | apply Kd.R_alloc | apply Kd.R_drewN | apply Kd.R_drew)); exact HO302.out), z_HO308, fun h0_ => absurd ((hoff 11 (by kernel_rfl)).symm.trans h0_) (by decide)⟩
  refine steps_cons ?_ ?_
  ·rintro b a w' ⟨v301, v307, v311, ha, Q_BK298, Q_BK299, Q_HB, Q_HO302, Q_HO308, Q_HO312⟩ hb_ hon hoff
   refine ⟨_, rfl, fun K hK => ?_⟩
   have e12 : a.tmps[12]? = some (.bool t304) := by rw [ha]; exact putSel_on (e := (5, 12, .bool t304)) 4 rfl rfl (hon 5 (by kernel_rfl)) rfl
   replace ha := Aside0.mk ha; have BK298 := Aside0.mk Q_BK298; have BK299 := Aside0.mk Q_BK299; have HB := Aside0.mk Q_HB; have HO302 := Aside0.mk (Q_HO302 (hon 2 (by kernel_rfl))); refine goes_ Try.func60 (by kernel_rfl) rfl #[.bool t304, .int .i64 2] (by rfl) rfl rfl (by first | (simp only [List.map_toArray, List.map_cons, List.map_nil, Act.eval, Array.getD_eq_getD_getElem?, Option.getD_some, e12]; done) | (simp only [List.map_toArray, List.map_cons, List.map_nil, Act.eval, Array.getD_eq_getD_getElem?, Option.getD_some, e12]; rfl)) ?_; with_reducible refine (impl_unless.calls t304 2 t305 _ A6.out).mono ?_
   rintro e w18 ⟨rfl, hb⟩
   refine ⟨_, rfl, ?_⟩; replace hb := Drawn0.below hb; have n0_ := krb HO302 hb; have n1_ := bkb BK298 hb; have n2_ := bkb BK299 hb; have n3_ := bst HB hb; have z_HO308 := fun (h0_ : b 9 = true) => (show Kd.R k39 39 w18 w.heap.size (fun k_ => k_ ≠ gb299) v307 y306 from by first | exact (Kd.R_below (by (with_reducible repeat (first | apply Kd.R_alloc | apply Kd.R_drewN | apply Kd.R_drew)); exact (Q_HO308 h0_)) hb) | exact Kd.R_mono (Kd.R_below (by (with_reducible repeat (first | apply Kd.R_alloc | apply Kd.R_drewN | apply Kd.R_drew)); exact (Q_HO308 h0_)) hb) (fun _ h_ => by first | trivial | exact h_ | exact h_.1)); clear HO302; clear BK298; clear BK299; clear HB; have HO302 := n0_; have BK298 := n1_; have BK299 := n2_; have HB := n3_; clear n0_ n1_ n2_ n3_; (try clear hb); (try clear hb2); (try clear hk); (try clear hi); refine hK.out _ _ ⟨v301, v307, v311, (by rw [ha.out]; exact putSel_upk 5 hb_ rfl rfl rfl), (pk BK298), (pk BK299), (pbs HB), fun _ => (by (with_reducible repeat (first | apply Kd.R_alloc | apply Kd.R_drewN | apply Kd.R_drew)); exact HO302.out), z_HO308, fun h0_ => absurd ((hoff 11 (by kernel_rfl)).symm.trans h0_) (by decide)⟩
  refine steps_cons ?_ ?_
  ·rintro b a w' ⟨v301, v307, v311, ha, Q_BK298, Q_BK299, Q_HB, Q_HO302, Q_HO308, Q_HO312⟩ hb_ hon hoff
   refine ⟨_, rfl, fun K hK => ?_⟩
   have e3 : a.tmps[3]? = some (.pointer (some ⟨gb298, 0, none⟩)) := by rw [ha]; exact (putSel_off rfl).trans rfl
   replace ha := Aside0.mk ha; have BK298 := Aside0.mk Q_BK298; have BK299 := Aside0.mk Q_BK299; have HB := Aside0.mk Q_HB; have hL_ : World.rangeAt w' gb298 0 ([.int .i8 a0_0, .int .i8 a0_1] ++ a0_2.l.map (Value.int .u16)) := mix_range BK298.out; refine value_ (w1 := w') (v := .agg (mixA (Value.int .u16) [.int .i8 a0_0, .int .i8 a0_1] a0_2)) (by rfl) rfl ?_ ?_
   ·exact load_mix_run (P := Try.prog) 34 (.tmp 3) rfl gb298 (by simp only [Act.eval, Array.getD_eq_getD_getElem?, e3, Option.getD_some]) hL_ Try.underlying34 rfl (by kernel_rfl) rfl
   refine hK.out _ _ ⟨v301, v307, v311, (by rw [ha.out]; exact putSel_upk 6 hb_ rfl rfl rfl), Q_BK298, Q_BK299, Q_HB, Q_HO302, Q_HO308, fun h0_ => absurd ((hoff 11 (by kernel_rfl)).symm.trans h0_) (by decide)⟩
  refine steps_cons ?_ ?_
  ·rintro b a w' ⟨v301, v307, v311, ha, Q_BK298, Q_BK299, Q_HB, Q_HO302, Q_HO308, Q_HO312⟩ hb_ hon hoff
   refine ⟨_, rfl, fun K hK => ?_⟩
   have e4 : a.tmps[4]? = some (.pointer (some ⟨gb299, 0, none⟩)) := by rw [ha]; exact (putSel_off rfl).trans rfl
   replace ha := Aside0.mk ha; have BK298 := Aside0.mk Q_BK298; have BK299 := Aside0.mk Q_BK299; have HB := Aside0.mk Q_HB; have hc0_ : w'.cell? ⟨gb299, 0, none⟩ = some (.int .i8 a1_0) := bc_ BK299.out 0; have hc1_ : w'.cell? ⟨gb299, 1, none⟩ = some (.int .i8 a1_1) := bc_ BK299.out 1; refine value_ (w1 := w') (v := .agg #[.int .i8 a1_0, .int .i8 a1_1]) (by rfl) rfl ?_ ?_
   ·go_simp
    (try simp only [i64_w])
    try rfl
   refine hK.out _ _ ⟨v301, v307, v311, (by rw [ha.out]; exact putSel_upk 7 hb_ rfl rfl rfl), Q_BK298, Q_BK299, Q_HB, Q_HO302, fun h0_ => absurd ((hoff 9 (by kernel_rfl)).symm.trans h0_) (by decide), fun h0_ => absurd ((hoff 11 (by kernel_rfl)).symm.trans h0_) (by decide)⟩
  refine steps_cons ?_ ?_
  ·rintro b a w' ⟨v301, v307, v311, ha, Q_BK298, Q_BK299, Q_HB, Q_HO302, Q_HO308, Q_HO312⟩ hb_ hon hoff
   refine ⟨_, rfl, fun K hK => ?_⟩
   have e15 : a.tmps[15]? = some (.agg #[.int .i8 a1_0, .int .i8 a1_1]) := by rw [ha]; exact putSel_on (e := (8, 15, .agg #[.int .i8 a1_0, .int .i8 a1_1])) 7 rfl rfl (hon 8 (by kernel_rfl)) rfl
   replace ha := Aside0.mk ha; have BK298 := Aside0.mk Q_BK298; have BK299 := Aside0.mk Q_BK299; have HB := Aside0.mk Q_HB
   refine Kd.R_lit_step k39 _ 39 ?hg (N := 16) ?hd (xs := ([(⟨a1_0, a1_1⟩ : S39)] : List (S39))) (inner := [.int .i8 a1_0, .int .i8 a1_1]) (ok := fun _ => True) (okp := fun _ => True) ?hr ?hp (fun _ hk => hk) trivial (Below.refl _ _) (Nat.le_refl _) (by simp) ?_; (case hd => rfl); (case hg => rfl); (case hr => first | (go_simp; done) | (go_simp; rfl)); (case hp => exact (Reps.c2 (show Kd.M k39 _ _ _ (⟨a1_0, a1_1⟩ : S39) [.int .i8 a1_0, .int .i8 a1_1] from (k39_mkM _ _ _ (⟨a1_0, a1_1⟩ : S39) )) (Reps.none _ _)))
   intro v307 w12 ho13 hb hg_ hnew_; clear hg_ hnew_; (first | rw [← Ny306.out] at ho13 | (simp only [Int.reduceToNat] at ho13; rw [← Ny306.out] at ho13)); have n0_ := Aside0.mk (Kd.R_lower (Kd.R_newB ho13 (g := gb299) (o := .cells #[.int .i8 a1_0, .int .i8 a1_1] 39 (0, 0)) (pk BK299)) (below_size (by repeat (first | (with_reducible first | exact HB.out | apply below_alloc | apply pw_below_drewN | apply below_drew1 | refine below_set ?_ GE298.out | refine below_set ?_ GE299.out) | exact HB.out)))); have n1_ := bkb BK298 hb; have n2_ := bkb BK299 hb; have n3_ := bst HB hb; have z_HO302 := fun (h0_ : b 2 = true) => (show Kd.R k39 39 w12 w.heap.size (fun k_ => k_ ≠ gb299) v301 y300 from by first | exact (Kd.R_elder' (by (with_reducible repeat (first | apply Kd.R_alloc | apply Kd.R_drewN | apply Kd.R_drew)); exact (Q_HO302 h0_)) (Kd.R_base ho13) hb) | exact Kd.R_mono (Kd.R_elder' (by (with_reducible repeat (first | apply Kd.R_alloc | apply Kd.R_drewN | apply Kd.R_drew)); exact (Q_HO302 h0_)) (Kd.R_base ho13) hb) (fun _ h_ => by first | trivial | exact h_ | exact h_.1)); clear BK298; clear BK299; clear HB; have HO308 := n0_; have BK298 := n1_; have BK299 := n2_; have HB := n3_; clear n0_ n1_ n2_ n3_; clear hb ho13; refine hK.out _ _ ⟨v301, v307, v311, (by rw [ha.out]; exact putSel_upk 8 hb_ rfl rfl rfl), (pk BK298), (pk BK299), (pbs HB), z_HO302, fun _ => (by (with_reducible repeat (first | apply Kd.R_alloc | apply Kd.R_drewN | apply Kd.R_drew)); exact Kd.R_mono HO308.out (fun _ hk => by first | exact hk.2 | trivial)), fun h0_ => absurd ((hoff 11 (by kernel_rfl)).symm.trans h0_) (by decide)⟩
  refine steps_cons ?_ ?_
  ·rintro b a w' ⟨v301, v307, v311, ha, Q_BK298, Q_BK299, Q_HB, Q_HO302, Q_HO308, Q_HO312⟩ hb_ hon hoff
   refine ⟨_, rfl, fun K hK => ?_⟩
   have e14 : a.tmps[14]? = some (.agg (mixA (Value.int .u16) [.int .i8 a0_0, .int .i8 a0_1] a0_2)) := by rw [ha]; exact putSel_on (e := (7, 14, .agg (mixA (Value.int .u16) [.int .i8 a0_0, .int .i8 a0_1] a0_2))) 6 rfl rfl (hon 7 (by kernel_rfl)) rfl
   have e16 : a.tmps[16]? = some (v307) := by rw [ha]; exact putSel_on (e := (9, 16, v307)) 8 rfl rfl (hon 9 (by kernel_rfl)) rfl
   replace ha := Aside0.mk ha; have BK298 := Aside0.mk Q_BK298; have BK299 := Aside0.mk Q_BK299; have HB := Aside0.mk Q_HB; have HO302 := Aside0.mk (Q_HO302 (hon 2 (by kernel_rfl))); have HO308 := Aside0.mk (Q_HO308 (hon 9 (by kernel_rfl))); obtain ⟨Ao21, co21, eo21⟩ := Kd.R_slice HO308.out; (first | subst eo21 | (injection eo21 with f1_ f2_ f3_; have f4_ := f1_.symm; have f5_ := f3_.symm; clear f1_ f2_ f3_; subst f4_; subst f5_)); refine goes_ Try.func62 (by kernel_rfl) rfl #[.agg (mixA (Value.int .u16) [.int .i8 a0_0, .int .i8 a0_1] a0_2), .slice Ao21 y306.length co21] (by rfl) rfl rfl (by first | (simp only [List.map_toArray, List.map_cons, List.map_nil, Act.eval, Array.getD_eq_getD_getElem?, Option.getD_some, e14, e16]; done) | (simp only [List.map_toArray, List.map_cons, List.map_nil, Act.eval, Array.getD_eq_getD_getElem?, Option.getD_some, e14, e16]; rfl)) ?_; with_reducible refine (impl_stateCode.calls k a0_0 a0_1 a0_2 _ _ y306 t309 _ ?side1 ?side2 A7.out).mono ?_; (case side1 => repeat (first | exact (Kd.R_reads' HO308.out).2.2 | (with_reducible refine Kd.C_alloc ?_ _) | (with_reducible refine Kd.C_drewN ?_ _) | (with_reducible refine Kd.C_drew ?_))); (case side2 => exact (Kd.R_reads' HO308.out).2.1)
   rintro e w22 ⟨rfl, hb⟩
   refine ⟨_, rfl, ?_⟩; replace HO302 := krb HO302 hb; replace HO308 := krb HO308 hb; replace BK298 := bkb BK298 hb; replace BK299 := bkb BK299 hb; replace HB := bst HB hb; (try clear hb); (try clear hb2); (try clear hk); (try clear hi); refine hK.out _ _ ⟨v301, .slice Ao21 y306.length co21, v311, (by rw [ha.out]; exact putSel_upk 9 hb_ rfl rfl rfl), (pk BK298), (pk BK299), (pbs HB), fun _ => (by (with_reducible repeat (first | apply Kd.R_alloc | apply Kd.R_drewN | apply Kd.R_drew)); exact HO302.out), fun _ => (by (with_reducible repeat (first | apply Kd.R_alloc | apply Kd.R_drewN | apply Kd.R_drew)); exact HO308.out), fun h0_ => absurd ((hoff 11 (by kernel_rfl)).symm.trans h0_) (by decide)⟩
  refine steps_cons ?_ ?_
  ·rintro b a w' ⟨v301, v307, v311, ha, Q_BK298, Q_BK299, Q_HB, Q_HO302, Q_HO308, Q_HO312⟩ hb_ hon hoff
   refine ⟨_, rfl, fun K hK => ?_⟩
   have e10 : a.tmps[10]? = some (.int .i64 t303) := by rw [ha]; exact putSel_on (e := (3, 10, .int .i64 t303)) 3 rfl rfl (hon 3 (by kernel_rfl)) rfl
   have e13 : a.tmps[13]? = some (.int .i64 t305) := by rw [ha]; exact putSel_on (e := (6, 13, .int .i64 t305)) 5 rfl rfl (hon 6 (by kernel_rfl)) rfl
   have e17 : a.tmps[17]? = some (.int .i64 t309) := by rw [ha]; exact putSel_on (e := (10, 17, .int .i64 t309)) 9 rfl rfl (hon 10 (by kernel_rfl)) rfl
   replace ha := Aside0.mk ha; have BK298 := Aside0.mk Q_BK298; have BK299 := Aside0.mk Q_BK299; have HB := Aside0.mk Q_HB; have HO302 := Aside0.mk (Q_HO302 (hon 2 (by kernel_rfl))); have HO308 := Aside0.mk (Q_HO308 (hon 9 (by kernel_rfl)))
   refine Kd.R_lit_step (Kd.int .i64) _ 2 ?hg (N := 18) ?hd (xs := ([t303, t305, t309] : List Int)) (inner := [.int .i64 t303, .int .i64 t305, .int .i64 t309]) (ok := fun _ => True) (okp := fun _ => True) ?hr ?hp (fun _ hk => hk) trivial (Below.refl _ _) (Nat.le_refl _) (by simp) ?_; (case hd => rfl); (case hg => rfl); (case hr => first | (go_simp; done) | (go_simp; rfl)); (case hp => exact (Reps.one (show Kd.M (Kd.int .i64) _ _ _ t303 [.int .i64 t303] from rfl) (Reps.one (show Kd.M (Kd.int .i64) _ _ _ t305 [.int .i64 t305] from rfl) (Reps.one (show Kd.M (Kd.int .i64) _ _ _ t309 [.int .i64 t309] from rfl) (Reps.none _ _)))))
   intro v311 w23 ho24 hb hg_ hnew_; clear hg_ hnew_; (first | rw [← Ny310.out] at ho24 | (simp only [Int.reduceToNat] at ho24; rw [← Ny310.out] at ho24)); replace HO302 := krb HO302 hb; replace HO308 := krb HO308 hb; have HO312 := Aside0.mk (Kd.R_lower ho24 (below_size (by repeat (first | (with_reducible first | exact HB.out | apply below_alloc | apply pw_below_drewN | apply below_drew1 | refine below_set ?_ GE298.out | refine below_set ?_ GE299.out) | exact HB.out)))); replace BK298 := bkb BK298 hb; replace BK299 := bkb BK299 hb; replace HB := bst HB hb; clear hb ho24; refine hK.out _ _ ⟨v301, v307, v311, (by rw [ha.out]; exact putSel_upk 10 hb_ rfl rfl rfl), (pk BK298), (pk BK299), (pbs HB), fun _ => (by (with_reducible repeat (first | apply Kd.R_alloc | apply Kd.R_drewN | apply Kd.R_drew)); exact HO302.out), fun _ => (by (with_reducible repeat (first | apply Kd.R_alloc | apply Kd.R_drewN | apply Kd.R_drew)); exact HO308.out), fun _ => (by (with_reducible repeat (first | apply Kd.R_alloc | apply Kd.R_drewN | apply Kd.R_drew)); exact HO312.out)⟩
  refine steps_cons ?_ ?_
  ·rintro b a w' ⟨v301, v307, v311, ha, Q_BK298, Q_BK299, Q_HB, Q_HO302, Q_HO308, Q_HO312⟩ hb_ hon hoff
   refine ⟨_, rfl, fun K hK => ?_⟩
   have e18 : a.tmps[18]? = some (v311) := by rw [ha]; exact putSel_on (e := (11, 18, v311)) 10 rfl rfl (hon 11 (by kernel_rfl)) rfl
   replace ha := Aside0.mk ha; have BK298 := Aside0.mk Q_BK298; have BK299 := Aside0.mk Q_BK299; have HB := Aside0.mk Q_HB; have HO302 := Aside0.mk (Q_HO302 (hon 2 (by kernel_rfl))); have HO308 := Aside0.mk (Q_HO308 (hon 9 (by kernel_rfl))); have HO312 := Aside0.mk (Q_HO312 (hon 11 (by kernel_rfl))); obtain ⟨Ao25, co25, eo25⟩ := Kd.R_slice HO312.out; (first | subst eo25 | (injection eo25 with f1_ f2_ f3_; have f4_ := f1_.symm; have f5_ := f3_.symm; clear f1_ f2_ f3_; subst f4_; subst f5_)); refine goes_ Try.func58 (by kernel_rfl) rfl #[.slice Ao25 y310.length co25] (by rfl) rfl rfl (by first | (simp only [List.map_toArray, List.map_cons, List.map_nil, Act.eval, Array.getD_eq_getD_getElem?, Option.getD_some, e18]; done) | (simp only [List.map_toArray, List.map_cons, List.map_nil, Act.eval, Array.getD_eq_getD_getElem?, Option.getD_some, e18]; rfl)) ?_; with_reducible refine (impl_firstOf.calls k _ _ y310 t313 _ ?side1 ?side2 A8.out).mono ?_; (case side1 => repeat (first | exact (Kd.R_reads' HO312.out).2.2 | (with_reducible refine Kd.C_alloc ?_ _) | (with_reducible refine Kd.C_drewN ?_ _) | (with_reducible refine Kd.C_drew ?_))); (case side2 => exact (Kd.R_reads' HO312.out).2.1)
   rintro e w26 ⟨rfl, hb⟩
   refine ⟨_, rfl, ?_⟩; replace hb := Drawn0.below hb; replace HO302 := krb HO302 hb; replace HO308 := krb HO308 hb; replace HO312 := krb HO312 hb; replace BK298 := bkb BK298 hb; replace BK299 := bkb BK299 hb; replace HB := bst HB hb; (try clear hb); (try clear hb2); (try clear hk); (try clear hi); refine hK.out _ _ ⟨v301, v307, .slice Ao25 y310.length co25, (by rw [ha.out]; exact putSel_upk 11 hb_ rfl rfl rfl), (pk BK298), (pk BK299), (pbs HB), fun _ => (by (with_reducible repeat (first | apply Kd.R_alloc | apply Kd.R_drewN | apply Kd.R_drew)); exact HO302.out), fun _ => (by (with_reducible repeat (first | apply Kd.R_alloc | apply Kd.R_drewN | apply Kd.R_drew)); exact HO308.out), fun _ => (by (with_reducible repeat (first | apply Kd.R_alloc | apply Kd.R_drewN | apply Kd.R_drew)); exact HO312.out)⟩
  refine steps_cons ?_ ?_
  ·rintro b a w' ⟨v301, v307, v311, ha, Q_BK298, Q_BK299, Q_HB, Q_HO302, Q_HO308, Q_HO312⟩ hb_ hon hoff
   refine ⟨_, rfl, fun K hK => ?_⟩
   have e19 : a.tmps[19]? = some (.int .i64 t313) := by rw [ha]; exact putSel_on (e := (12, 19, .int .i64 t313)) 11 rfl rfl (hon 12 (by kernel_rfl)) rfl
   replace ha := Aside0.mk ha; have BK298 := Aside0.mk Q_BK298; have BK299 := Aside0.mk Q_BK299; have HB := Aside0.mk Q_HB; have HO302 := Aside0.mk (Q_HO302 (hon 2 (by kernel_rfl))); have HO308 := Aside0.mk (Q_HO308 (hon 9 (by kernel_rfl))); have HO312 := Aside0.mk (Q_HO312 (hon 11 (by kernel_rfl))); refine value_ (w1 := w') (v := .int .i64 t313) (by rfl) rfl ?_ ?_
   ·go_simp
    (try simp only [i64_w])
    try rfl
   refine hK.out _ _ ⟨v301, v307, v311, (by rw [ha.out]; exact putSel_upk 12 hb_ rfl rfl rfl), Q_BK298, Q_BK299, Q_HB, Q_HO302, Q_HO308, Q_HO312⟩
  exact steps_nil
 rintro b a w26 hall ⟨v301, v307, v311, ha, Q_BK298, Q_BK299, Q_HB, Q_HO302, Q_HO308, Q_HO312⟩
 clear BK298 BK299 HB
 have hb0_ := hall 0 (by kernel_rfl)
 have hb1_ := hall 1 (by kernel_rfl)
 have hb2_ := hall 2 (by kernel_rfl)
 have hb3_ := hall 3 (by kernel_rfl)
 have hb5_ := hall 5 (by kernel_rfl)
 have hb6_ := hall 6 (by kernel_rfl)
 have hb7_ := hall 7 (by kernel_rfl)
 have hb8_ := hall 8 (by kernel_rfl)
 have hb9_ := hall 9 (by kernel_rfl)
 have hb10_ := hall 10 (by kernel_rfl)
 have hb11_ := hall 11 (by kernel_rfl)
 have hb12_ := hall 12 (by kernel_rfl)
 have hb13_ := hall 13 (by kernel_rfl)
 subst ha
 simp only [putSel, hb0_, hb1_, hb2_, hb3_, hb5_, hb6_, hb7_, hb8_, hb9_, hb10_, hb11_, hb12_, hb13_, if_true, Act.put, List.setIfInBounds_toArray, List.set_cons_zero, List.set_cons_succ]
 have BK298 := Aside0.mk Q_BK298
 clear Q_BK298
 have BK299 := Aside0.mk Q_BK299
 clear Q_BK299
 have HB := Aside0.mk Q_HB
 clear Q_HB
 have HO302 := Aside0.mk (Q_HO302 hb2_)
 clear Q_HO302
 have HO308 := Aside0.mk (Q_HO308 hb9_)
 clear Q_HO308
 have HO312 := Aside0.mk (Q_HO312 hb11_)
 clear Q_HO312
 clear hall hb0_ hb1_ hb2_ hb3_ hb5_ hb6_ hb7_ hb8_ hb9_ hb10_ hb11_ hb12_ hb13_
 try go_wp2
 go_ret
 exact ⟨by first | rfl | (simp [errW_none, errW_some] <;> rfl) | (simp [*, errW_none, errW_some] <;> rfl), pbs HB⟩
def impl_Spot_67.f (l0 : List S39) : Option (List S39) := if l0.length < 70368744177664 then some l0 else none
set_option maxHeartbeats 4000000 in
set_option maxRecDepth 100000 in
theorem impl_Spot_67.calls (A0 : Option Addr) (c0 : Nat) (l0 : List S39) (r : List S39) (w : World) (hr0 : Kd.C k39 w A0 l0.length l0) (hc0 : l0.length ≤ c0) (h : impl_Spot_67.f l0 = some r) :
    Calls Try.prog 67 #[.slice A0 l0.length c0] w fun e w' => ∃ v0_ : Value, e = .returned (v0_) ∧ Kd.R k39 39 w' w.heap.size (fun _ => True) v0_ r ∧ Below w.heap.size w w' := by
  unfold impl_Spot_67.f at h
  by_cases hl : l0.length < 70368744177664
  case neg => rw [if_neg hl] at h; cases h
  rw [if_pos hl] at h; obtain rfl := Option.some.inj h; clear h; have hse : ∀ w : World, (binOp .eql 37 (.slice A0 l0.length c0) (.slice none 0 0)).run Try.prog w = .ok (.bool A0.isNone) w := fun w => Lib.run_eql_slice_nil w 37 39 A0 l0.length c0 0 0 Try.underlying37; have HR := Aside0.mk hr0; clear hr0
  cases A0 with
  | none =>
    have hl0 : l0 = [] := by
      cases l0 with
      | nil => rfl
      | cons x xs =>
        obtain ⟨ad, e, _⟩ := HR.out.2.2 (by simp); cases e
    subst hl0; clear HR; simp only [Option.isNone, List.length_nil] at hse
    go_enter Try.func67, Try.ntmps67
    go_wp2
    go_ret
    exact ⟨_, rfl, Kd.R_nil _ _ _ _ _, Below.refl _ _⟩
  | some ad =>
    simp only [Option.isNone] at hse; have HL := Aside0.mk hl; clear hl; have HB := Aside0.mk (Below.refl w.heap.size w)
    go_enter Try.func67, Try.ntmps67
    go_wp2_with (first | ((with_reducible refine gate_dst (N := 5) rfl ?_); refine Kd.R_lit k39 _ 39 ?hg (N := 5) ?hd (xs := ([] : List S39)) (inner := []) (ok := fun _ => True) (okp := fun _ => True) ?hr ?hp (fun _ hk => hk) trivial (Below.refl _ _) (Nat.le_refl _) (by simp) ?_; (case hd => rfl); (case hg => rfl); (case hr => first | (go_simp; done) | (go_simp; rfl)); (case hp => exact (Reps.none _ _)); intro v258 w3 ho4 hb hg_ hnew_; clear hg_ hnew_; have HO259 := Aside0.mk ho4; clear HB; have HB := Aside0.mk hb; clear hb ho4) | ((with_reducible refine gate_builtin (b := .append) (xs := #[.tmp 5, .tmp 6]) rfl ?_); at_builtin; refine Kd.R_append_rows k39 (w0 := w) w.heap.size rfl (.tmp 5) (.tmp 6) 37 39 (.agg #[.int .i8 0, .int .i8 0]) 2 rfl Try.underlying37 info39 rfl (by decide) (by omega) v258 [] l0 _ _ _ (fun _ => True) (fun _ => False) rfl rfl ?aO ?aR (fun _ _ h => h) (fun _ h => h.elim) ?aF ?aB ?aS ?aL ?_; (case aR => exact (Kd.C_below HR.out HB.out)); (case aB => exact HB.out); (case aF => exact (fun _ _ => trivial)); (case aO => exact HO259.out); (case aS => exact HB.out.size); (case aL => have := HL.out; simp; omega); intro v261 w5 ho hb hg hat; have HO262 := Aside0.mk ho; clear HB; clear HO259; have HB := Aside0.mk hb; clear ho hb hg hat))
    go_ret
    exact ⟨_, rfl, HO262.out, HB.out⟩
end Go.Proofs.Ytjpponjekcemjaa.PB
end
section
namespace Go.Proofs.Ytjpponjekcemjaa.PB
open Go.RowKit Go.Proofs.YtjpponjekcemjaaW.PrintWords Go.Proofs.YtjpponjekcemjaaW.PrintLast Go.Proofs.YtjpponjekcemjaaW.PrintMore Go.Proofs.Ytjpponjekcemjaa.La
attribute [local go_sem] max2_int min2_int max_two min_two max_three min_three max_four min_four   -- for this text's walks alone
set_option linter.unusedVariables false
set_option linter.unusedSimpArgs false
def impl_Spot_68.l0 : Nat → List (S39) → Int → Int → Option ((List (S39)))
 | 0, _, _, _ => none
 | k + 1, x0, x2, x3 => if x2 < x3 then (if 0 ≤ x3 then (if x3 < (x0.length : Int) then (if 0 ≤ x2 then (if x2 < (x0.length : Int) then (impl_Spot_68.l0 k ((x0.set (x2 : Int).toNat (⟨(rd_T39 x0 x3).f0, (rd_T39 x0 x3).f1⟩ : S39)).set (x3 : Int).toNat (⟨(rd_T39 x0 x2).f0, (rd_T39 x0 x2).f1⟩ : S39)) (wrap64 (x2 + 1)) (wrap64 (x3 - 1))) else (none)) else (none)) else (none)) else (none)) else (some x0)
def impl_Spot_68.f (k : Nat) (l0 : List (S39)) : Option ((List (S39))) := impl_Spot_68.l0 k l0 0 (wrap64 ((l0.length : Int) - 1))
theorem impl_Spot_68.mono_l : ∀ k, (∀ y0 y1 y2, LeO (impl_Spot_68.l0 k y0 y1 y2) (impl_Spot_68.l0 (k + 1) y0 y1 y2))
 | 0 => fun _ _ _ r h => by simp [impl_Spot_68.l0] at h
 | k + 1 => by
  have ih0 := impl_Spot_68.mono_l k
  ·intro y0 y1 y2
   unfold impl_Spot_68.l0
   repeat' first
   | (with_reducible exact ih0 _ _ _)
   | (with_reducible exact LeO.refl _)
   | (with_reducible exact LeO.none _)
   | (with_reducible refine LeO.ite ?_ ?_)
   | (with_reducible refine LeO.bind ?_ (fun _ => ?_))
   | exact ih0 _ _ _
   | exact LeO.none _
   | refine LeO.ite ?_ ?_
   | refine LeO.bind ?_ (fun _ => ?_)
theorem impl_Spot_68.mono : ∀ a0 k, LeO (impl_Spot_68.f k a0) (impl_Spot_68.f (k + 1) a0) := by
 intro a0 k
 have ih0 := impl_Spot_68.mono_l k
 unfold impl_Spot_68.f
 repeat' first
   | (with_reducible exact ih0 _ _ _)
   | (with_reducible exact LeO.refl _)
   | (with_reducible exact LeO.none _)
   | (with_reducible refine LeO.ite ?_ ?_)
   | (with_reducible refine LeO.bind ?_ (fun _ => ?_))
   | exact ih0 _ _ _
   | exact LeO.none _
   | refine LeO.ite ?_ ?_
   | refine LeO.bind ?_ (fun _ => ?_)
def impl_Spot_68.T3 : Bool × List (List Nat × List Nat) := (true, [([], []), ([], []), ([], []), ([], []), ([], []), ([], []), ([4, 5], [4, 5]), ([6], [6]), ([], []), ([], []), ([8, 9], [8, 9]), ([10], [10]), ([0, 1, 0, 1, 4, 5, 6, 7, 11], [0, 1]), ([12, 7, 0, 1, 4, 5, 6, 7, 11], [7, 12]), ([2, 3, 0, 1, 2, 3, 4, 5, 6, 7, 8, 9, 10, 11, 12, 13], [2, 3]), ([14, 11, 13, 0, 1, 2, 3, 4, 5, 6, 7, 8, 9, 10, 11, 12, 13], [11, 14])])
def impl_Spot_68.B3 : List Nat := [0, 0, 0, 0, 0, 0, 48, 112, 0, 0, 768, 1792, 4083, 8179, 16383, 32767]
theorem impl_Spot_68.tab3 : rtab .any (opsOf Try.f68 3) = impl_Spot_68.T3 := by kernel_rfl
theorem impl_Spot_68.bits3 : waitsOk impl_Spot_68.T3.2 impl_Spot_68.B3 = true := by kernel_rfl
set_option maxHeartbeats 8000000 in
set_option maxRecDepth 100000 in
theorem impl_Spot_68.calls (k : Nat) (P0_ : Nat → Prop) (u9000_ : Value) (l0 : List (S39)) (r : List (S39)) (w0 w : World) (hB : Below w0.heap.size w0 w) (ho0 : Kd.R k39 39 w w0.heap.size P0_ u9000_ l0) (h : impl_Spot_68.f k l0 = some r) :
  Calls Try.prog 68 #[u9000_] w fun e w' => e = .returned (.tuple #[]) ∧ Kd.R k39 39 w' w0.heap.size (fun k_ => (P0_ k_ ∨ w.heap.size ≤ k_)) u9000_ r ∧ Below w0.heap.size w0 w' ∧ Kept w w' (fun k_ => P0_ k_) := by
 have hu39 := Try.underlying39
 have HO0 := Aside0.mk (show Kd.R k39 39 w w0.heap.size (fun k_ => (P0_ k_ ∨ w.heap.size ≤ k_)) u9000_ l0 from Kd.R_mono ho0 (fun k_ hk => (.inl hk)))
 have HK := Aside0.mk (Kept.refl w (fun k_ => P0_ k_))
 have HW0 := Aside0.mk hB.size
 have HB := Aside0.mk hB
 clear hB
 have H : (impl_Spot_68.l0 k l0 0 (wrap64 ((l0.length : Int) - 1))) = some r := h
 clear h
 have H' := Aside0.mk H
 clear H
 obtain ⟨Ao2, co2, eo2⟩ := Kd.R_slice HO0.out
 subst eo2
 go_enter Try.func68, Try.ntmps68
 go_wp2
 go_loopg [2, 3] k (fun kq v2 v3 w' => ∃ (x0_1 : List (S39)) (x2_1 : Int) (x3_1 : Int), v2 = .int .i64 x2_1 ∧ v3 = .int .i64 x3_1 ∧ Aside0 (impl_Spot_68.l0 kq x0_1 x2_1 x3_1 = some r) ∧ Aside0 (kq ≤ k) ∧ Aside0 (Kd.R k39 39 w' w0.heap.size (fun k_ => (P0_ k_ ∨ w.heap.size ≤ k_)) (.slice Ao2 l0.length co2) x0_1) ∧ Aside0 (Kept w w' (fun k_ => P0_ k_)) ∧ Aside0 (Below w0.heap.size w0 w'))
 case atStart => exact ⟨(l0), (0), (wrap64 ((l0.length : Int) - 1)), (by first | rfl | (simp; done) | (simp [*]; done)), (by first | rfl | (simp; done) | (simp [*]; done)), H', ⟨Nat.le_refl _⟩, ⟨by (with_reducible repeat (first | apply Kd.R_alloc | apply Kd.R_drewN | apply Kd.R_drew)); exact HO0.out⟩, ⟨by repeat (first | (with_reducible first | exact HK.out | apply Kept.alloc | apply Kept.drewN | apply Kept.drew) | exact HK.out)⟩, ⟨pb HB⟩⟩
 case round =>
  clear H'
  try clear p2
  obtain ⟨x0_1, x2_1, x3_1, rfl, rfl, HA, HK1, HO_0, HK, HB⟩ := hrel; have hl0_1 := (Kd.R_reads' HO_0.out).1; rw [hl0_1] at HO_0; (try simp only [hl0_1])
  cases gk with
  | zero => exact absurd HA.out (by simp [impl_Spot_68.l0])
  | succ k1 =>
   have H := HA.out; clear HA; simp only [impl_Spot_68.l0] at H
   by_cases c3 : x2_1 < x3_1
   ·rw [if_pos c3] at H
    have c3b0 : decide (x2_1 < x3_1) = true := decide_eq_true c3; clear c3
    by_cases c4 : 0 ≤ x3_1
    ·rw [if_pos c4] at H
     have c4b0 : decide (0 ≤ x3_1) = true := decide_eq_true c4; clear c4
     by_cases c5 : x3_1 < (x0_1.length : Int)
     ·rw [if_pos c5] at H
      have c5b0 : decide (x3_1 < (x0_1.length : Int)) = true := decide_eq_true c5; clear c5
      by_cases c6 : 0 ≤ x2_1
      ·rw [if_pos c6] at H
       have c6b0 : decide (0 ≤ x2_1) = true := decide_eq_true c6; clear c6
       by_cases c7 : x2_1 < (x0_1.length : Int)
       ·rw [if_pos c7] at H
        have c7b0 : decide (x2_1 < (x0_1.length : Int)) = true := decide_eq_true c7; clear c7; obtain ⟨y316, hy316⟩ : ∃ y_ : List (S39), y_ = (x0_1.set (x2_1 : Int).toNat (⟨(rd_T39 x0_1 x3_1).f0, (rd_T39 x0_1 x3_1).f1⟩ : S39)) := ⟨_, rfl⟩
        replace H : (impl_Spot_68.l0 k1 (y316.set (x3_1 : Int).toNat (⟨(rd_T39 x0_1 x2_1).f0, (rd_T39 x0_1 x2_1).f1⟩ : S39)) (wrap64 (x2_1 + 1)) (wrap64 (x3_1 - 1))) = some r := by first | (rw [hy316]; with_reducible exact H) | (have H2_ := (Option.bind_some _ _).symm.trans H; rw [hy316]; with_reducible exact H2_) | (have H2_ := (Option.bind_some _ _).symm.trans H; with_reducible exact H2_) | with_reducible exact H | (rw [hy316]; exact H) | exact H
        have Ny316 := Aside0.mk hy316; clear hy316; obtain ⟨y317, hy317⟩ : ∃ y_ : List (S39), y_ = (y316.set (x3_1 : Int).toNat (⟨(rd_T39 x0_1 x2_1).f0, (rd_T39 x0_1 x2_1).f1⟩ : S39)) := ⟨_, rfl⟩
        replace H : (impl_Spot_68.l0 k1 y317 (wrap64 (x2_1 + 1)) (wrap64 (x3_1 - 1))) = some r := by first | (rw [hy317]; with_reducible exact H) | (have H2_ := (Option.bind_some _ _).symm.trans H; rw [hy317]; with_reducible exact H2_) | (have H2_ := (Option.bind_some _ _).symm.trans H; with_reducible exact H2_) | with_reducible exact H | (rw [hy317]; exact H) | exact H
        have Ny317 := Aside0.mk hy317; clear hy317; have H' := Aside0.mk H; clear H
        try go_wp2
        replace HO_0 := Aside0.mk (Kd.R_drew HO_0.out); replace HK := Aside0.mk (Kept.drew HK.out); replace HB := Aside0.mk (below_drew1 HB.out); have p314 : 0 ≤ (x3_1 : Int) := oda; have q314 : x3_1 < (x0_1.length : Int) := oda; obtain ⟨ad314, e314, hx314_0, hx314_1⟩ := at_T39 (Kd.R_reads' HO_0.out).2.2 x3_1 p314 q314; cases e314; replace p314 := eq_true p314; replace q314 := eq_true q314; have p315 : 0 ≤ (x2_1 : Int) := oda; have q315 : x2_1 < (x0_1.length : Int) := oda; obtain ⟨ad315, e315, hx315_0, hx315_1⟩ := at_T39 (Kd.R_reads' HO_0.out).2.2 x2_1 p315 q315; obtain rfl : ad314 = ad315 := (by injection e315); replace p315 := eq_true p315; replace q315 := eq_true q315; have p8 : 0 ≤ (x2_1 : Int) := oda; have q8 : (x2_1 : Int) < ((x0_1.length : Int) : Int) := oda; obtain ⟨go8, co8, eo8, gb8, gl8, cl8, HG8⟩ := Kd.R_form HO_0.out (by omega); (first | cases eo8 | (injection eo8 with ea_ en_ ec_; (first | subst ea_ | (injection ea_ with ea_; subst ea_)); subst ec_; clear en_)); have GB8 := Aside0.mk gb8; have GG8 := Aside0.mk HG8; clear gb8 gl8 HG8; have HMgo8 := Aside0.mk (show (P0_ go8 ∨ w.heap.size ≤ go8) from (HO_0.out.1 _ rfl)); (first | simp only [add_plain] at hx314_0 | skip); (first | simp only [add_plain] at hx314_1 | skip); (first | simp only [add_plain] at hx315_0 | skip); (first | simp only [add_plain] at hx315_1 | skip); obtain ⟨ce8, hcl8, hM8, hcc8, hfr8⟩ := Kd.R_elem HO_0.out z39 (x2_1 : Int) p8 q8; obtain rfl := k39_openM hM8; have hx8_0 : World.cell? _ ⟨go8, (x2_1 : Int).toNat * 2, none⟩ = some (.int .i8 ((rd_T39 x0_1 x2_1).f0)) := hcc8 0 _ rfl; have hx8_1 : World.cell? _ ⟨go8, (x2_1 : Int).toNat * 2 + 1, none⟩ = some (.int .i8 ((rd_T39 x0_1 x2_1).f1)) := hcc8 1 _ rfl; have hf8_0 : World.frozen? _ ⟨go8, (x2_1 : Int).toNat * 2, none⟩ = false := hfr8 0; have hf8_1 : World.frozen? _ ⟨go8, (x2_1 : Int).toNat * 2 + 1, none⟩ = false := hfr8 1; clear hcl8 hcc8 hfr8 hM8; replace p8 := eq_true p8; replace q8 := eq_true q8; obtain ⟨ce11, hcl11, hM11, hcc11, hfr11⟩ := Kd.R_elem HO_0.out z39 (x2_1 : Int) (oda) (by have h_ : (x2_1 : Int) < ((x0_1.length : Int) : Int) := oda; first | exact h_ | (have e_ := (Kd.R_reads' HO_0.out).1; omega) | simpa using h_); obtain rfl := k39_openM hM11; have HP11 := (Kd.R_seg HO_0.out (x2_1 : Int) (oda) (by have h_ : (x2_1 : Int) < ((x0_1.length : Int) : Int) := oda; first | exact h_ | (have e_ := (Kd.R_reads' HO_0.out).1; omega) | simpa using h_) (seg := [.int .i8 ((rd_T39 x0_1 x3_1).f0), .int .i8 ((rd_T39 x0_1 x3_1).f1)]) (j := 0) hcl11 hcc11 (show 2 ≤ 2 from by decide) (x' := (⟨(rd_T39 x0_1 x3_1).f0, (rd_T39 x0_1 x3_1).f1⟩ : S39)) (k39_mkM _ _ _ (⟨(rd_T39 x0_1 x3_1).f0, (rd_T39 x0_1 x3_1).f1⟩ : S39) ) (fun _ hk => hk)).1; rw [← Ny316.out] at HP11; have HQ11 := Aside0.mk HP11; clear hcl11 hcc11 hfr11 hM11 HP11; have p9 : 0 ≤ (x3_1 : Int) := oda; have q9 : (x3_1 : Int) < ((x0_1.length : Int) : Int) := oda; obtain ⟨ce9, hcl9, hM9, hcc9, hfr9⟩ := Kd.R_elem HQ11.out z39 (x3_1 : Int) p9 q9; obtain rfl := k39_openM hM9; have hx9_0 : World.cell? _ ⟨go8, (x3_1 : Int).toNat * 2, none⟩ = some (.int .i8 ((rd_T39 y316 x3_1).f0)) := hcc9 0 _ rfl; have hx9_1 : World.cell? _ ⟨go8, (x3_1 : Int).toNat * 2 + 1, none⟩ = some (.int .i8 ((rd_T39 y316 x3_1).f1)) := hcc9 1 _ rfl; have hf9_0 : World.frozen? _ ⟨go8, (x3_1 : Int).toNat * 2, none⟩ = false := hfr9 0; have hf9_1 : World.frozen? _ ⟨go8, (x3_1 : Int).toNat * 2 + 1, none⟩ = false := hfr9 1; clear hcl9 hcc9 hfr9 hM9; replace p9 := eq_true p9; replace q9 := eq_true q9; obtain ⟨ce12, hcl12, hM12, hcc12, hfr12⟩ := Kd.R_elem HQ11.out z39 (x3_1 : Int) (oda) (by have h_ : (x3_1 : Int) < ((x0_1.length : Int) : Int) := oda; first | exact h_ | (have e_ := (Kd.R_reads' HO_0.out).1; omega) | simpa using h_); obtain rfl := k39_openM hM12; have HP12 := (Kd.R_seg HQ11.out (x3_1 : Int) (oda) (by have h_ : (x3_1 : Int) < ((x0_1.length : Int) : Int) := oda; first | exact h_ | (have e_ := (Kd.R_reads' HO_0.out).1; omega) | simpa using h_) (seg := [.int .i8 ((rd_T39 x0_1 x2_1).f0), .int .i8 ((rd_T39 x0_1 x2_1).f1)]) (j := 0) hcl12 hcc12 (show 2 ≤ 2 from by decide) (x' := (⟨(rd_T39 x0_1 x2_1).f0, (rd_T39 x0_1 x2_1).f1⟩ : S39)) (k39_mkM _ _ _ (⟨(rd_T39 x0_1 x2_1).f0, (rd_T39 x0_1 x2_1).f1⟩ : S39) ) (fun _ hk => hk)).1
        rw [← Ny317.out] at HP12; have HQ12 := Aside0.mk HP12; clear hcl12 hcc12 hfr12 hM12 HP12
        refine start_ (n := 16) (S := fun w' => w'.cell? ⟨go8, ((x3_1).toNat * 2), none⟩ = some (.int .i8 ((rd_T39 x0_1 x3_1).f0)) ∧ w'.cell? ⟨go8, ((x3_1).toNat * 2) + 1, none⟩ = some (.int .i8 ((rd_T39 x0_1 x3_1).f1)) ∧ w'.cell? ⟨go8, ((x2_1).toNat * 2), none⟩ = some (.int .i8 ((rd_T39 x0_1 x2_1).f0)) ∧ w'.cell? ⟨go8, ((x2_1).toNat * 2) + 1, none⟩ = some (.int .i8 ((rd_T39 x0_1 x2_1).f1))) (ds := [13, 15]) (bA 16 0) (by kernel_rfl) rfl rfl ⟨hx314_0, hx314_1, hx315_0, hx315_1⟩ (fun hHeld => ?_); refine with_tabW impl_Spot_68.tab3 impl_Spot_68.bits3 (fun HT_ HW_ => ?_)
        generalize wr.drew = w10 at HO_0 HK HB GG8 HQ11 HQ12 hf8_0 hf8_1 hf9_0 hf9_1 hx314_0 hx314_1 hx315_0 hx315_1 hx8_0 hx8_1 hx9_0 hx9_1 hHeld ⊢; have hlt_ : x2_1 < x3_1 := oda; have hge_ : 0 ≤ x2_1 := oda; have hA_ : (x3_1.toNat * 2 = x2_1.toNat * 2) = False := eq_false (by omega); have hA2_ : (x3_1.toNat = x2_1.toNat) = False := eq_false (by omega); have hB_ : (x3_1.toNat * 2 = x2_1.toNat * 2 + 1) = False := eq_false (by omega); have hC_ : (x3_1.toNat * 2 + 1 = x2_1.toNat * 2) = False := eq_false (by omega); have hD_ : (x3_1.toNat * 2 + 1 = x2_1.toNat * 2 + 1) = False := eq_false (by omega); have hfz0_ : w10.frozen? ⟨go8, x3_1.toNat * 2, none⟩ = false := blk_frozen GG8.out _; have hfz1_ : w10.frozen? ⟨go8, x3_1.toNat * 2 + 1, none⟩ = false := blk_frozen GG8.out _; refine pu 0 14 16 1 HT_ ?_; refine pu 1 15 16 3 HT_ ?_; refine pu 2 16 16 7 HT_ ?_; refine pu 3 17 16 15 HT_ ?_; refine pu 4 18 16 31 HT_ ?_; refine pu 5 19 16 63 HT_ ?_; refine pu 6 20 16 127 HT_ ?_; refine pu 8 22 16 383 HT_ ?_; refine pu 9 23 16 895 HT_ ?_; refine pu 10 24 16 1919 HT_ ?_; refine tk 7 21 16 2047 HT_ HW_ hHeld ?_; refine tk 11 25 16 4095 HT_ HW_ hHeld ?_; refine pu 12 26 16 8191 HT_ ?_; refine last_ (i := 13) (N := none) (bA 16 16383) rfl rfl (one_of HT_.out (by kernel_rfl)) (by decide) (fun K hK => ?_); refine skip_ (w1 := ?_) (by rfl) rfl ?_ ?_; rotate_left
        ·go_simp
         rfl
        refine hK.out _ _ ?_; clear hK K; refine pu 14 27 16 32767 HT_ ?_; refine last_ (i := 15) (N := none) (bA 16 65535) rfl rfl (one_of HT_.out (by kernel_rfl)) (by decide) (fun K hK => ?_); refine skip_ (w1 := ?_) (by rfl) rfl ?_ ?_; rotate_left
        ·go_simp
         rfl
        refine hK.out _ _ ?_; clear hK K; refine done_ (done_of HT_.out (by kernel_rfl)) ?_
        try go_wp2
        (try simp only [← hl0_1])
        go_roundg k1
        case measure => have := HK1.out; omega
        case rel => exact ⟨(y317), (wrap64 (x2_1 + 1)), (wrap64 (x3_1 - 1)), (by first | rfl | (simp; done) | (simp [*]; done)), (by first | rfl | (simp; done) | (simp [*]; done)), H', ⟨by have := HK1.out; omega⟩, ⟨by (try simp only [hl0_1]); (with_reducible repeat (first | apply Kd.R_alloc | apply Kd.R_drewN | apply Kd.R_drew)); exact HQ12.out⟩, ⟨by repeat (first | (with_reducible first | exact HK.out | apply Kept.alloc | apply Kept.drewN | apply Kept.drew | refine Kept.setCell ?_ HMgo8.out _ | refine Kept.setCell ?_ HMgo8.out _ | refine Kept.setCell ?_ HMgo8.out _ | refine Kept.setCell ?_ HMgo8.out _) | exact HK.out)⟩, ⟨pbs HB⟩⟩
       ·rw [if_neg c7] at H
        exact absurd H (by simp)
      ·rw [if_neg c6] at H
       exact absurd H (by simp)
     ·rw [if_neg c5] at H
      exact absurd H (by simp)
    ·rw [if_neg c4] at H
     exact absurd H (by simp)
   ·rw [if_neg c3] at H
    have c3b0 : decide (x2_1 < x3_1) = false := decide_eq_false c3; clear c3; obtain rfl := Option.some.inj H
    go_wp2
    first | go_end0 | ((try simp only [Exit.inBlock, Exit.then]); refine bodyPost_ret (results_none rfl _ _ _) rfl ?_)
    exact ⟨by first | rfl | (simp [errW_none, errW_some] <;> rfl) | (simp [*, errW_none, errW_some] <;> rfl), (by first | exact (by (with_reducible repeat (first | apply Kd.R_alloc | apply Kd.R_drewN | apply Kd.R_drew)); exact HO_0.out) | (simp only [hl0_1]; exact (by (with_reducible repeat (first | apply Kd.R_alloc | apply Kd.R_drewN | apply Kd.R_drew)); exact HO_0.out))), by repeat (first | (with_reducible first | exact HB.out | apply below_alloc | apply pw_below_drewN | apply below_drew1) | exact HB.out), by repeat (first | (with_reducible first | exact HK.out | apply Kept.alloc | apply Kept.drewN | apply Kept.drew) | exact HK.out)⟩
def impl_File_moved.f (k : Nat) (l0 : List S39) (a1 : Int) : Option (List S39) := if l0.length < 70368744177664 then (if a1 = 4 then impl_Spot_68.f k l0 else (if a1 < 4 then (if 1 ≤ l0.length then (impl_NextSpot.f (l0.getD 0 z39).f0 (l0.getD 0 z39).f1 a1).bind fun b => some ((⟨b.1, b.2⟩ : S39) :: l0.take (l0.length - 1)) else none) else some l0)) else none
theorem impl_File_moved.mono : ∀ a0 a1 k, LeO (impl_File_moved.f k a0 a1) (impl_File_moved.f (k + 1) a0 a1) := by
  intro a0 a1 k; unfold impl_File_moved.f; exact LeO.ite (LeO.ite (impl_Spot_68.mono _ _) (LeO.refl _)) (LeO.none _)
theorem impl_File_moved.raw {w : World} {base : Nat} {v : Value} {xs : List S39} (h : Kd.R k39 39 w base (fun _ => True) v xs) (hp : 1 ≤ xs.length) :
    ∃ (g cap : Nat) (u0 u1 : Value) (tl : List Value), v = .slice (some ⟨g, 0, none⟩) xs.length cap ∧ base ≤ g ∧ w.heap[g]? = some (.cells (u0 :: u1 :: tl).toArray 39 (0, 0)) ∧ xs.length ≤ cap ∧ cap ≤ maxLen ∧ (u0 :: u1 :: tl).length = cap * 2 := by
  obtain ⟨inner, hr⟩ := Kd.R_own h; obtain ⟨_, (⟨_, e⟩ | ⟨g, cap, cur, e, hg, hh, h1, h2, h3, _⟩)⟩ := hr
  · omega
  · have h4 : cur.toList.length = cap * 2 := by rw [Array.length_toList]; exact h3
    have hh2 : w.heap[g]? = some (.cells cur.toList.toArray 39 (0, 0)) := by simpa using hh
    generalize cur.toList = L at h4 hh2
    match L, h4, hh2 with
    | [], h4, _ => simp at h4; omega
    | [_], h4, _ => simp at h4; omega
    | u0 :: u1 :: tl, h4, hh2 => exact ⟨g, cap, u0, u1, tl, e, hg, hh2, h1, h2, h4⟩
theorem impl_File_moved.copy {P : Program} {w : World} {ops : Array Oper} {rest : List Oper} {o : Oper} {a : Act} {Q : Exit → Act → World → Prop} (hgd : o.guard = none) (d s : Operand) (dT sT : TypeId)
    (ho : o.op = .call { callee := .builtin .copy, args := #[d, s], argTypes := #[dT, sT] }) (elem : TypeId) (sz n : Nat) (hu : P.underlying dT = some (.slice elem)) (hsz : (P.info? elem).map (·.size) = some sz)
    (g off dLen dCap : Nat) (ad : Addr) (sLen sCap : Nat) (hd : a.eval d = .slice (some ⟨g, off, none⟩) dLen dCap) (hs : a.eval s = .slice (some ad) sLen sCap)
    (cur : List Value) (t : TypeId) (hg : w.heap[g]? = some (.cells cur.toArray t (0, 0))) (cs : List Value) (hn : n = Nat.min sLen dLen) (hc : cs.length = n * sz)
    (hsrc : ∀ j v, cs[j]? = some v → w.cell? (ad.add j) = some v) (hfit : off + cs.length ≤ cur.length) (h1 : ∀ v ∈ cs, v.oneCell' = true) (B : Nat) (w0 : World) (hb : Below B w0 w) (hBg : B ≤ g)
    (h : ∀ w', Hid (w'.heap[g]? = some (.cells (splice cur off cs).toArray t (0, 0))) → Below B w0 w' → wpList P ops Q rest (a.put o.dst (goInt n)) w') : wpList P ops Q (o :: rest) a w := by
  refine Go.Proofs.Ytjpponjekcemjaa.Cs.wpList_copy_ownS hgd d s dT sT ho elem sz n hu hsz g off dLen dCap ad sLen sCap hd hs cur.toArray t hg cs hn hc hsrc (by simpa using hfit) h1 ?_; exact h _ (show _ = _ by simpa [splice] using setRow_heap w g _ _ t _ hg) (below_setRow hb hBg _)
theorem impl_File_moved.cut {w : World} {g : Nat} {u0 u1 : Value} {tl cs : List Value} (h : w.heap[g]? = some (.cells (splice (u0 :: u1 :: tl) 2 cs).toArray 39 (0, 0))) : w.heap[g]? = some (.cells (u0 :: u1 :: (cs ++ tl.drop cs.length)).toArray 39 (0, 0)) := by
  have e : splice (u0 :: u1 :: tl) 2 cs = u0 :: u1 :: (cs ++ tl.drop cs.length) := by
    unfold splice; rw [Nat.add_comm 2 cs.length]; rfl
  rwa [e] at h
def impl_File_moved.cs (l : List S39) (n : Nat) : List Value := (List.range (n * 2)).map (fun j => if j % 2 = 0 then Value.int .i8 (l.getD (j / 2) z39).f0 else Value.int .i8 (l.getD (j / 2) z39).f1)
theorem impl_File_moved.cs_len (l : List S39) (n : Nat) : (impl_File_moved.cs l n).length = n * 2 := by simp [impl_File_moved.cs]
theorem impl_File_moved.cs_at (l : List S39) (n j : Nat) (h : j < n) : (impl_File_moved.cs l n)[j * 2]? = some (.int .i8 (l.getD j z39).f0) ∧ (impl_File_moved.cs l n)[j * 2 + 1]? = some (.int .i8 (l.getD j z39).f1) := by
  unfold impl_File_moved.cs
  constructor
  · rw [List.getElem?_map, List.getElem?_range (by omega), Option.map_some, if_pos (by omega), show j * 2 / 2 = j by omega]
  · rw [List.getElem?_map, List.getElem?_range (by omega), Option.map_some, if_neg (by omega), show (j * 2 + 1) / 2 = j by omega]
theorem impl_File_moved.one (l : List S39) (n : Nat) : ∀ v ∈ impl_File_moved.cs l n, v.oneCell' = true := by
  intro v hv; obtain ⟨j, _, rfl⟩ := List.mem_map.1 hv
  split <;> rfl
theorem impl_File_moved.src {w w1 : World} {ad : Addr} {l : List S39} {n : Nat} (h : Kd.C k39 w (some ad) l.length l) (hb : Below w.heap.size w w1) (hn : n ≤ l.length) : ∀ j v, (impl_File_moved.cs l n)[j]? = some v → w1.cell? (ad.add j) = some v := by
  intro j v hv; refine pw_cell_below hb ?_
  have hj : j < n * 2 := by
    have := (List.getElem?_eq_some_iff.1 hv).1
    rwa [impl_File_moved.cs_len] at this
  obtain ⟨ad2, c, e2, _, hK, hc0⟩ := Kd.C_get h z39 ((j / 2 : Nat) : Int) (by omega) (by omega)
  obtain rfl : ad = ad2 := by injection e2
  obtain rfl := k39_open hK; simp only [Int.toNat_natCast] at hc0; obtain ⟨a0, a1⟩ := impl_File_moved.cs_at l n (j / 2) (by omega)
  by_cases h2 : j % 2 = 0
  · have h3 : j = j / 2 * 2 := by omega
    rw [h3] at hv ⊢; rw [a0] at hv; exact (hc0 0 _ rfl).trans hv
  · have h3 : j = j / 2 * 2 + 1 := by omega
    rw [h3] at hv ⊢; rw [a1] at hv; exact (hc0 1 _ rfl).trans hv
theorem impl_File_moved.row {w : World} {base g cap : Nat} {l : List S39} {tl : List Value} {x y : Int} (hg : base ≤ g) (h2 : 1 ≤ l.length)
    (hh : w.heap[g]? = some (.cells (([.int .i8 x, .int .i8 y] : List Value) ++ (impl_File_moved.cs l (l.length - 1) ++ tl)).toArray 39 (0, 0))) (h1 : l.length ≤ cap) (hm : cap ≤ maxLen) (hl : (([.int .i8 x, .int .i8 y] : List Value) ++ (impl_File_moved.cs l (l.length - 1) ++ tl)).length = cap * 2) :
    Kd.R k39 39 w base (fun _ => True) (.slice (some ⟨g, 0, none⟩) l.length cap) ((⟨x, y⟩ : S39) :: l.take (l.length - 1)) := by
  have hlen : ((⟨x, y⟩ : S39) :: l.take (l.length - 1)).length = l.length := by
    rw [List.length_cons, List.length_take]
    omega
  have hcl := impl_File_moved.cs_len l (l.length - 1); refine ⟨fun _ _ => trivial, ([.int .i8 x, .int .i8 y] : List Value) ++ impl_File_moved.cs l (l.length - 1), ⟨?_, .inr ⟨g, cap, _, by rw [hlen], hg, hh, by rw [hlen]; exact h1, hm, by show _ = cap * 2; simpa using hl, ?_⟩⟩, ?_, ?_⟩
  · rw [hlen, List.length_append, hcl]
    show 2 + (l.length - 1) * 2 = l.length * 2
    omega
  · rw [hlen]
    show List.take (l.length * 2) _ = _
    rw [← List.append_assoc, List.take_left']; rw [List.length_append, hcl]
    show 2 + (l.length - 1) * 2 = l.length * 2
    omega
  · rw [hlen, List.length_append, hcl]
    show 2 + (l.length - 1) * 2 = l.length * 2
    omega
  · intro j p hj
    cases j with
    | zero =>
      obtain rfl : (⟨x, y⟩ : S39) = p := by simpa using hj
      exact k39_mkM _ _ _ _
    | succ j =>
      obtain ⟨hjl, hp⟩ := List.getElem?_eq_some_iff.1 hj; rw [hlen] at hjl
      have hp2 : l.getD j z39 = p := by
        rw [← hp, List.getElem_cons_succ, List.getElem_take, List.getD_eq_getElem?_getD, List.getElem?_eq_getElem (by omega), Option.getD_some]
      obtain ⟨a0, a1⟩ := impl_File_moved.cs_at l (l.length - 1) j (by omega)
      have e : ((([.int .i8 x, .int .i8 y] : List Value) ++ impl_File_moved.cs l (l.length - 1)).drop ((j + 1) * k39.sz)).take k39.sz = [.int .i8 p.f0, .int .i8 p.f1] := by
        show ((([.int .i8 x, .int .i8 y] : List Value) ++ impl_File_moved.cs l (l.length - 1)).drop ((j + 1) * 2)).take 2 = _
        rw [show (j + 1) * 2 = 2 + j * 2 by omega, ← List.drop_drop]
        show ((impl_File_moved.cs l (l.length - 1)).drop (j * 2)).take 2 = _
        obtain ⟨b0, b0e⟩ := List.getElem?_eq_some_iff.1 a0; obtain ⟨b1, b1e⟩ := List.getElem?_eq_some_iff.1 a1; rw [List.drop_eq_getElem_cons b0, List.drop_eq_getElem_cons b1, b0e, b1e, hp2]; rfl
      rw [e]; exact k39_mkM _ _ _ _
set_option maxHeartbeats 8000000 in
set_option maxRecDepth 100000 in
theorem impl_File_moved.calls (k : Nat) (A0 : Option Addr) (c0 : Nat) (l0 : List S39) (a1 : Int) (r : List S39) (w : World) (hr0 : Kd.C k39 w A0 l0.length l0) (hc0 : l0.length ≤ c0) (h : impl_File_moved.f k l0 a1 = some r) :
    Calls Try.prog 40 #[.slice A0 l0.length c0, .int .i64 a1] w fun e w' => ∃ v0_ : Value, e = .returned (v0_) ∧ Kd.R k39 39 w' w.heap.size (fun _ => True) v0_ r ∧ Below w.heap.size w w' := by
  unfold impl_File_moved.f at h
  by_cases hl : l0.length < 70368744177664
  case neg => rw [if_neg hl] at h; cases h
  rw [if_pos hl] at h
  have hclo : impl_Spot_67.f l0 = some l0 := by unfold impl_Spot_67.f; rw [if_pos hl]
  have A2 := Aside0.mk hclo; have HR := Aside0.mk hr0; have HC := Aside0.mk hc0; have HB := Aside0.mk (Below.refl w.heap.size w); have hu := Try.underlying39; clear hr0 hc0 hclo hl
  by_cases h4 : a1 = 4
  · rw [if_pos h4] at h
    subst h4; have A1 := Aside0.mk h; clear h
    go_enter Try.func40, Try.ntmps40
    go_wp2_with (first | ((with_reducible refine gate_callee (f := 67) rfl ?_); refine goesL_ (some 7) rfl rfl Try.func67 (by kernel_rfl) rfl #[.slice A0 l0.length c0] rfl (by (try simp only [List.map_toArray, List.map_cons, List.map_nil]); first | done | rfl) ?_; (with_reducible refine (impl_Spot_67.calls A0 c0 l0 l0 _ HR.out HC.out A2.out).mono ?_); rintro e w1 ⟨v, rfl, ho, hb⟩; refine ⟨_, rfl, ?_⟩; have HO := Aside0.mk ho; clear HB; have HB := Aside0.mk hb; clear ho hb) | ((with_reducible refine gate_callee (f := 68) rfl ?_); refine goesL_ (some 12) rfl rfl Try.func68 (by kernel_rfl) rfl #[v] rfl (by (try simp only [List.map_toArray, List.map_cons, List.map_nil]); first | done | rfl) ?_; (with_reducible refine (impl_Spot_68.calls k (fun _ => True) v l0 r w _ HB.out HO.out A1.out).mono ?_); rintro e w2 ⟨rfl, ho, hb, hk⟩; refine ⟨_, rfl, ?_⟩; clear HO HB; have HO := Aside0.mk (Kd.R_mono ho (fun _ _ => trivial)); have HB := Aside0.mk hb; clear ho hb hk))
    go_ret
    exact ⟨_, rfl, HO.out, HB.out⟩
  rw [if_neg h4] at h; have h4b : (a1 == 4) = false := beq_eq_false_iff_ne.mpr h4
  by_cases h3 : a1 < 4
  case neg =>
    rw [if_neg h3] at h; obtain rfl := Option.some.inj h; clear h; have h3b : decide (a1 < 4) = false := decide_eq_false h3
    go_enter Try.func40, Try.ntmps40
    go_wp2_with (first | ((with_reducible refine gate_callee (f := 67) rfl ?_); refine goesL_ (some 7) rfl rfl Try.func67 (by kernel_rfl) rfl #[.slice A0 l0.length c0] rfl (by (try simp only [List.map_toArray, List.map_cons, List.map_nil]); first | done | rfl) ?_; (with_reducible refine (impl_Spot_67.calls A0 c0 l0 l0 _ HR.out HC.out A2.out).mono ?_); rintro e w1 ⟨v, rfl, ho, hb⟩; refine ⟨_, rfl, ?_⟩; have HO := Aside0.mk ho; clear HB; have HB := Aside0.mk hb; clear ho hb))
    go_ret
    exact ⟨_, rfl, HO.out, HB.out⟩
  rw [if_pos h3] at h
  by_cases hl2 : 1 ≤ l0.length
  case neg => rw [if_neg hl2] at h; cases h
  rw [if_pos hl2] at h; obtain ⟨⟨x, y⟩, hN, hr⟩ := Option.bind_eq_some_iff.mp h; obtain rfl := Option.some.inj hr; clear h hr; have AN := Aside0.mk (show impl_NextSpot.f (rd_T39 l0 0).f0 (rd_T39 l0 0).f1 a1 = some (x, y) from hN); clear hN; obtain ⟨ad, rfl, _⟩ := HR.out.2.2 (by omega); have h3b : decide (a1 < 4) = true := decide_eq_true h3
  have s1 : (1 : Int) ≤ (l0.length : Int) := by omega
  have s1n : 1 ≤ l0.length := by omega
  have s0 : ((0 : Int) < (l0.length : Int)) = True := eq_true (by omega)
  have s0n : 0 < l0.length := by omega
  by_cases hl3 : 2 ≤ l0.length
  case neg =>
    go_enter Try.func40, Try.ntmps40
    go_wp2_with (first | ((with_reducible refine gate_callee (f := 67) rfl ?_); refine goesL_ (some 7) rfl rfl Try.func67 (by kernel_rfl) rfl #[.slice (some ad) l0.length c0] rfl (by (try simp only [List.map_toArray, List.map_cons, List.map_nil]); first | done | rfl) ?_; (with_reducible refine (impl_Spot_67.calls (some ad) c0 l0 l0 _ HR.out HC.out A2.out).mono ?_); rintro e w1 ⟨v, rfl, ho, hb⟩; refine ⟨_, rfl, ?_⟩; obtain ⟨g, cap, u0, u1, tl, rfl, hgb, hh, hc1, hc2, hc3⟩ := impl_File_moved.raw ho hl2; have hc1i : (1 : Int) ≤ (cap : Int) := (by omega); have hc1n : 1 ≤ cap := (by omega); have HG := Aside0.mk hh; have HL := Aside0.mk hc3; clear HB; have HB := Aside0.mk hb; clear ho hb hh hc3) | ((with_reducible refine gate_builtin (b := .copy) (xs := #[.tmp 17, .tmp 18]) rfl ?_); refine Go.Proofs.Ytjpponjekcemjaa.Cs.wpList_copy_zeroS rfl (.tmp 17) (.tmp 18) 37 37 rfl 39 2 Try.underlying37 (by kernel_rfl) _ _ _ ad l0.length c0 rfl rfl ((Nat.min_eq_right (by omega)).trans (by omega)) ?_; obtain ⟨ad2, e2, hx0, hx1⟩ := at_T39 (Kd.C_below HR.out HB.out) 0 (by omega) (by omega); obtain rfl : ad = ad2 := (by injection e2); have ez_ : ad.add (Int.toNat 0 * 2) = ad := (by cases ad; simp [Addr.add]); rw [ez_] at hx0 hx1) | ((with_reducible refine gate_callee (f := 69) rfl ?_); refine goesL_ (some 25) rfl rfl Try.func69 (by kernel_rfl) rfl #[.agg #[.int .i8 (rd_T39 l0 0).f0, .int .i8 (rd_T39 l0 0).f1], .int .i64 a1] rfl (by (try simp only [List.map_toArray, List.map_cons, List.map_nil]); first | done | rfl) ?_; (with_reducible refine (impl_NextSpot.calls (rd_T39 l0 0).f0 (rd_T39 l0 0).f1 a1 x y _ AN.out).mono ?_); rintro e w6 ⟨rfl, hb⟩; refine ⟨_, rfl, ?_⟩; have n0_ := Aside0.mk (blk_below HG.out hb); have n1_ := bst HB hb; clear HG; clear HB; have HG := n0_; have HB := n1_; clear n0_ n1_ hb; have hk0 : w6.cell? ⟨g, 0, none⟩ = some u0 := (blk_cell HG.out 0).trans rfl; have hk1 : w6.cell? ⟨g, 1, none⟩ = some u1 := (blk_cell HG.out 1).trans rfl; have hf0 := blk_frozen HG.out 0; have hf1 := blk_frozen HG.out 1))
    all_goals go_ret
    all_goals refine ⟨_, rfl, impl_File_moved.row hgb hl2 (tl := tl) ?_ (by omega) (by first | exact hc2 | decide) ?_, ?_⟩
    all_goals first
      | exact Below.setCell (Below.setCell HB.out (p := ⟨g, 0, none⟩) (by dsimp only; omega) _) (p := ⟨g, 1, none⟩) (by dsimp only; omega) _
      | (have h_ := blk_set (blk_set HG.out 0 (.int .i8 x)) 1 (.int .i8 y)
         have hz_ : impl_File_moved.cs l0 (l0.length - 1) = [] := by rw [show l0.length - 1 = 0 by omega]; rfl
         rw [hz_]
         simpa using h_)
      | (have := HL.out
         simp only [List.length_append, impl_File_moved.cs_len, List.length_cons, List.length_nil] at this ⊢
         omega)
  case pos =>
    go_enter Try.func40, Try.ntmps40
    go_wp2_with (first | ((with_reducible refine gate_callee (f := 67) rfl ?_); refine goesL_ (some 7) rfl rfl Try.func67 (by kernel_rfl) rfl #[.slice (some ad) l0.length c0] rfl (by (try simp only [List.map_toArray, List.map_cons, List.map_nil]); first | done | rfl) ?_; (with_reducible refine (impl_Spot_67.calls (some ad) c0 l0 l0 _ HR.out HC.out A2.out).mono ?_); rintro e w1 ⟨v, rfl, ho, hb⟩; refine ⟨_, rfl, ?_⟩; obtain ⟨g, cap, u0, u1, tl, rfl, hgb, hh, hc1, hc2, hc3⟩ := impl_File_moved.raw ho hl2; have hc1i : (1 : Int) ≤ (cap : Int) := (by omega); have hc1n : 1 ≤ cap := (by omega); have hc1e : ¬ cap = 1 := (by omega); have hc1f : ¬ 1 = cap := (by omega); have HG := Aside0.mk hh; have HL := Aside0.mk hc3; clear HB; have HB := Aside0.mk hb; clear ho hb hh hc3) | ((with_reducible refine gate_builtin (b := .copy) (xs := #[.tmp 17, .tmp 18]) rfl ?_); refine impl_File_moved.copy rfl (.tmp 17) (.tmp 18) 37 37 rfl 39 2 (l0.length - 1) Try.underlying37 (by kernel_rfl) g 2 (l0.length - 1) (cap - 1) ad l0.length c0 rfl rfl (u0 :: u1 :: tl) 39 HG.out (impl_File_moved.cs l0 (l0.length - 1)) ((Nat.min_eq_right (by omega)).symm) (impl_File_moved.cs_len _ _) (impl_File_moved.src HR.out HB.out (by omega)) (by have := HL.out; rw [impl_File_moved.cs_len]; omega) (impl_File_moved.one _ _) w.heap.size w HB.out hgb ?_; intro w5 hg5 hb5; replace HG := Aside0.mk (impl_File_moved.cut hg5.out); replace HB := Aside0.mk hb5; clear hg5 hb5; obtain ⟨ad2, e2, hx0, hx1⟩ := at_T39 (Kd.C_below HR.out HB.out) 0 (by omega) (by omega); obtain rfl : ad = ad2 := (by injection e2); have ez_ : ad.add (Int.toNat 0 * 2) = ad := (by cases ad; simp [Addr.add]); rw [ez_] at hx0 hx1) | ((with_reducible refine gate_callee (f := 69) rfl ?_); refine goesL_ (some 25) rfl rfl Try.func69 (by kernel_rfl) rfl #[.agg #[.int .i8 (rd_T39 l0 0).f0, .int .i8 (rd_T39 l0 0).f1], .int .i64 a1] rfl (by (try simp only [List.map_toArray, List.map_cons, List.map_nil]); first | done | rfl) ?_; (with_reducible refine (impl_NextSpot.calls (rd_T39 l0 0).f0 (rd_T39 l0 0).f1 a1 x y _ AN.out).mono ?_); rintro e w6 ⟨rfl, hb⟩; refine ⟨_, rfl, ?_⟩; have n0_ := Aside0.mk (blk_below HG.out hb); have n1_ := bst HB hb; clear HG; clear HB; have HG := n0_; have HB := n1_; clear n0_ n1_ hb; have hk0 : w6.cell? ⟨g, 0, none⟩ = some u0 := (blk_cell HG.out 0).trans rfl; have hk1 : w6.cell? ⟨g, 1, none⟩ = some u1 := (blk_cell HG.out 1).trans rfl; have hf0 := blk_frozen HG.out 0; have hf1 := blk_frozen HG.out 1))
    go_ret
    refine ⟨_, rfl, impl_File_moved.row hgb hl2 (tl := tl.drop (impl_File_moved.cs l0 (l0.length - 1)).length) ?_ hc1 hc2 ?_, ?_⟩
    · have h_ := blk_set (blk_set HG.out 0 (.int .i8 x)) 1 (.int .i8 y)
      simpa using h_
    · have := HL.out
      simp only [List.length_append, List.length_drop, impl_File_moved.cs_len, List.length_cons, List.length_nil] at this ⊢
      omega
    · exact Below.setCell (Below.setCell HB.out (p := ⟨g, 0, none⟩) (by dsimp only; omega) _) (p := ⟨g, 1, none⟩) (by dsimp only; omega) _
def impl_File_key.l0 : Nat → List Int → List (S39) → Int → Int → Option (ByteArray)
 | 0, _, _, _, _ => none
 | k + 1, x3, x7, x8, x9 => if x9 < x8 then (if 0 ≤ x9 then (if x9 < (x7.length : Int) then ((some (([((rd_T39 x7 x9).f0) % 256, ((rd_T39 x7 x9).f1) % 256] : List Int) : List Int)).bind fun y323 => (if x3.length + y323.length < 140737488355328 then (impl_File_key.l0 k (x3 ++ y323) x7 x8 (wrap64 (x9 + 1))) else (none))) else (none)) else (none)) else (some (strOfNums x3))
def impl_File_key.f (k : Nat) (l0 : List (S39)) : Option (ByteArray) := impl_File_key.l0 k (([] : List Int)) l0 (l0.length : Int) 0
theorem impl_File_key.mono_l : ∀ k, (∀ y0 y1 y2 y3, LeO (impl_File_key.l0 k y0 y1 y2 y3) (impl_File_key.l0 (k + 1) y0 y1 y2 y3))
 | 0 => fun _ _ _ _ r h => by simp [impl_File_key.l0] at h
 | k + 1 => by
  have ih0 := impl_File_key.mono_l k
  ·intro y0 y1 y2 y3
   unfold impl_File_key.l0
   repeat' first
   | (with_reducible exact ih0 _ _ _ _)
   | (with_reducible exact LeO.refl _)
   | (with_reducible exact LeO.none _)
   | (with_reducible refine LeO.ite ?_ ?_)
   | (with_reducible refine LeO.bind ?_ (fun _ => ?_))
   | exact ih0 _ _ _ _
   | exact LeO.none _
   | refine LeO.ite ?_ ?_
   | refine LeO.bind ?_ (fun _ => ?_)
theorem impl_File_key.mono : ∀ a0 k, LeO (impl_File_key.f k a0) (impl_File_key.f (k + 1) a0) := by
 intro a0 k
 have ih0 := impl_File_key.mono_l k
 unfold impl_File_key.f
 repeat' first
   | (with_reducible exact ih0 _ _ _ _)
   | (with_reducible exact LeO.refl _)
   | (with_reducible exact LeO.none _)
   | (with_reducible refine LeO.ite ?_ ?_)
   | (with_reducible refine LeO.bind ?_ (fun _ => ?_))
   | exact ih0 _ _ _ _
   | exact LeO.none _
   | refine LeO.ite ?_ ?_
   | refine LeO.bind ?_ (fun _ => ?_)
set_option maxHeartbeats 8000000 in
set_option maxRecDepth 100000 in
theorem impl_File_key.calls (k : Nat) (A0 : Option Addr) (c0 : Nat) (l0 : List (S39)) (r : ByteArray) (w : World) (hr0 : Kd.C k39 w A0 l0.length l0) (hc0 : l0.length ≤ c0) (h : impl_File_key.f k l0 = some r) :
  Calls Try.prog 63 #[.slice A0 l0.length c0] w fun e w' => e = .returned (.string r) ∧ Below w.heap.size w w' := by
 have hu39 := Try.underlying39
 have HR0 := Aside0.mk hr0
 have HC0 := Aside0.mk hc0
 clear hr0 hc0
 have HB := Aside0.mk (Below.refl w.heap.size w)
 have H : (impl_File_key.l0 k (([] : List Int)) l0 (l0.length : Int) 0) = some r := h
 clear h
 obtain ⟨y318, hy318⟩ : ∃ y_ : List Int, y_ = (([] : List Int)) := ⟨_, rfl⟩
 replace H : (impl_File_key.l0 k y318 l0 (l0.length : Int) 0) = some r := by first | (rw [hy318]; with_reducible exact H) | (have H2_ := (Option.bind_some _ _).symm.trans H; rw [hy318]; with_reducible exact H2_) | (have H2_ := (Option.bind_some _ _).symm.trans H; with_reducible exact H2_) | with_reducible exact H | (rw [hy318]; exact H) | exact H
 have Ny318 := Aside0.mk hy318
 clear hy318
 have H' := Aside0.mk H
 clear H
 go_enter Try.func63, Try.ntmps63
 go_wp2_with (first | ((with_reducible refine gate_dst (N := 6) rfl ?_); refine Kd.R_lit (Kd.int .u8) _ 5 ?hg (N := 6) ?hd (xs := ([] : List Int)) (inner := []) (ok := fun _ => True) (okp := fun _ => True) ?hr ?hp (fun _ hk => hk) trivial (Below.refl _ _) (Nat.le_refl _) (by simp) ?_; (case hd => rfl); (case hg => rfl); (case hr => first | (go_simp; done) | (go_simp; rfl)); (case hp => exact (Reps.none _ _)); intro v319 w2 ho3 hb hg_ hnew_; clear hg_ hnew_; (first | rw [← Ny318.out] at ho3 | (simp only [Int.reduceToNat] at ho3; rw [← Ny318.out] at ho3)); have HO320 := Aside0.mk (Kd.R_lower ho3 (below_size (by repeat (first | (with_reducible first | exact HB.out | apply below_alloc | apply pw_below_drewN | apply below_drew1) | exact HB.out)))); replace HB := bst HB hb; clear hb ho3))
 go_loopg [3, 9] k (fun kq v3 v9 w' => ∃ (x3_1 : List Int) (x9_1 : Int), v9 = .int .i64 x9_1 ∧ Aside0 (impl_File_key.l0 kq x3_1 l0 (l0.length : Int) x9_1 = some r) ∧ Aside0 (kq ≤ k) ∧ Aside0 (Kd.R (Kd.int .u8) 5 w' w.heap.size (fun _ => True) v3 x3_1) ∧ Aside0 (Below w.heap.size w w'))
 case atStart => exact ⟨(y318), (0), (by first | rfl | (simp; done) | (simp [*]; done)), H', ⟨Nat.le_refl _⟩, ⟨by (with_reducible repeat (first | apply Kd.R_alloc | apply Kd.R_drewN | apply Kd.R_drew)); exact HO320.out⟩, ⟨pb HB⟩⟩
 case round =>
  clear H'
  try clear p2
  obtain ⟨x3_1, x9_1, rfl, HA, HK1, HO_3, HB⟩ := hrel
  cases gk with
  | zero => exact absurd HA.out (by simp [impl_File_key.l0])
  | succ k1 =>
   have H := HA.out; clear HA; simp only [impl_File_key.l0] at H
   by_cases c4 : x9_1 < (l0.length : Int)
   ·rw [if_pos c4] at H
    have c4b0 : decide (x9_1 < (l0.length : Int)) = true := decide_eq_true c4; clear c4
    by_cases c5 : 0 ≤ x9_1
    ·rw [if_pos c5] at H
     have c5b0 : decide (0 ≤ x9_1) = true := decide_eq_true c5; clear c5
     by_cases c6 : x9_1 < (l0.length : Int)
     ·rw [if_pos c6] at H
      have c6b0 : decide (x9_1 < (l0.length : Int)) = true := decide_eq_true c6; clear c6; obtain ⟨y323, hy323⟩ : ∃ y_ : List Int, y_ = (([((rd_T39 l0 x9_1).f0) % 256, ((rd_T39 l0 x9_1).f1) % 256] : List Int)) := ⟨_, rfl⟩
      replace H : (if x3_1.length + y323.length < 140737488355328 then (impl_File_key.l0 k1 (x3_1 ++ y323) l0 (l0.length : Int) (wrap64 (x9_1 + 1))) else (none)) = some r := by first | (rw [hy323]; with_reducible exact H) | (have H2_ := (Option.bind_some _ _).symm.trans H; rw [hy323]; with_reducible exact H2_) | (have H2_ := (Option.bind_some _ _).symm.trans H; with_reducible exact H2_) | with_reducible exact H | (rw [hy323]; exact H) | exact H
      have Ny323 := Aside0.mk hy323; clear hy323
      by_cases c7 : x3_1.length + y323.length < 140737488355328
      ·rw [if_pos c7] at H
       have LMc7 := Aside0.mk c7; clear c7; obtain ⟨y326, hy326⟩ : ∃ y_ : List Int, y_ = (x3_1 ++ y323) := ⟨_, rfl⟩
       replace H : (impl_File_key.l0 k1 y326 l0 (l0.length : Int) (wrap64 (x9_1 + 1))) = some r := by first | (rw [hy326]; with_reducible exact H) | (have H2_ := (Option.bind_some _ _).symm.trans H; rw [hy326]; with_reducible exact H2_) | (have H2_ := (Option.bind_some _ _).symm.trans H; with_reducible exact H2_) | with_reducible exact H | (rw [hy326]; exact H) | exact H
       have Ny326 := Aside0.mk hy326; clear hy326; have H' := Aside0.mk H; clear H; have p321 : 0 ≤ (x9_1 : Int) := oda; have q321 : x9_1 < (l0.length : Int) := oda; obtain ⟨ad321, e321, hx321_0, hx321_1⟩ := at_T39 HR0.out x9_1 p321 q321; cases e321
       try replace hx321_0 := cb HB hx321_0
       try replace hx321_1 := cb HB hx321_1
       replace p321 := eq_true p321; replace q321 := eq_true q321
       go_wp2_with (first | ((with_reducible refine gate_dst (N := 5) rfl ?_); refine box_event ?hg (N := 5) ?hd (cs := #[.int .i8 0, .int .i8 0]) (t := 39) ?hr ?_; (case hd => rfl); (case hg => rfl); (case hr => first | (go_simp; done) | (go_simp; rfl)); intro gb322 hg w8 hbox hb; have n0_ := krb HO_3 hb; have n1_ := bst HB hb; have n2_ := Aside0.mk (hbox); have n3_ := gwl HB hg; have n4_ := gwl HB hg; clear HO_3; clear HB; have HO_3 := n0_; have HB := n1_; have BK322 := n2_; have GW322 := n3_; have GE322 := n4_; clear n0_ n1_ n2_ n3_ n4_; clear hb hbox hg; have hcz9_0 : w8.cell? ⟨gb322, 0, none⟩ = some (.int .i8 0) := (blk_cell BK322.out 0).trans rfl; have hcz9_1 : w8.cell? ⟨gb322, 1, none⟩ = some (.int .i8 0) := (blk_cell BK322.out 1).trans rfl; have hfz9_0 := blk_frozen BK322.out 0; have hfz9_1 := blk_frozen BK322.out 1) | ((with_reducible refine gate_dst (N := 20) rfl ?_); refine Kd.R_lit (Kd.int .u8) _ 5 ?hg (N := 20) ?hd (xs := ([((rd_T39 l0 x9_1).f0) % 256, ((rd_T39 l0 x9_1).f1) % 256] : List Int)) (inner := [.int .u8 (((rd_T39 l0 x9_1).f0) % 256), .int .u8 (((rd_T39 l0 x9_1).f1) % 256)]) (ok := fun _ => True) (okp := fun _ => True) ?hr ?hp (fun _ hk => hk) trivial (Below.refl _ _) (Nat.le_refl _) (by simp) ?_; (case hd => rfl); (case hg => rfl); (case hr => first | (go_simp; done) | (go_simp; rfl)); (case hp => exact (Reps.one (show Kd.M (Kd.int .u8) _ _ _ (((rd_T39 l0 x9_1).f0) % 256) [.int .u8 (((rd_T39 l0 x9_1).f0) % 256)] from rfl) (Reps.one (show Kd.M (Kd.int .u8) _ _ _ (((rd_T39 l0 x9_1).f1) % 256) [.int .u8 (((rd_T39 l0 x9_1).f1) % 256)] from rfl) (Reps.none _ _)))); intro v324 w10 ho11 hb hg_ hnew_; clear hg_ hnew_; (first | rw [← Ny323.out] at ho11 | (simp only [Int.reduceToNat] at ho11; rw [← Ny323.out] at ho11)); have n0_ := Aside0.mk (Kd.R_elder' (by (with_reducible repeat (first | apply Kd.R_alloc | apply Kd.R_drewN | apply Kd.R_drew)); exact (Kd.R_mono (Kd.R_far (p := ⟨gb322, 1, none⟩) (Kd.R_far (p := ⟨gb322, 0, none⟩) (Kd.R_types HO_3.out BK322.out (by decide)) (fun _ hk => hk.2) (.int .i8 ((rd_T39 l0 x9_1).f0))) (fun _ hk => hk.2) (.int .i8 ((rd_T39 l0 x9_1).f1))) (fun _ h_ => h_.1))) (Kd.R_base ho11) hb); have n1_ := Aside0.mk (Kd.R_lower (Kd.R_new' ho11 (Kd.R_lt (by (with_reducible repeat (first | apply Kd.R_alloc | apply Kd.R_drewN | apply Kd.R_drew)); exact (Kd.R_mono (Kd.R_far (p := ⟨gb322, 1, none⟩) (Kd.R_far (p := ⟨gb322, 0, none⟩) (Kd.R_types HO_3.out BK322.out (by decide)) (fun _ hk => hk.2) (.int .i8 ((rd_T39 l0 x9_1).f0))) (fun _ hk => hk.2) (.int .i8 ((rd_T39 l0 x9_1).f1))) (fun _ h_ => h_.1))))) (below_size (by repeat (first | (with_reducible first | exact HB.out | apply below_alloc | apply pw_below_drewN | apply below_drew1 | refine below_set ?_ GE322.out) | exact HB.out)))); have n2_ := Aside0.mk (blk_below (g := gb322) (o := .cells #[.int .i8 ((rd_T39 l0 x9_1).f0), .int .i8 ((rd_T39 l0 x9_1).f1)] 39 (0, 0)) (by (with_reducible repeat (first | refine blk_drewN ?_ _ | refine blk_drew ?_ | refine blk_alloc ?_ _)); refine blk_put (cs := #[.int .i8 ((rd_T39 l0 x9_1).f0), .int .i8 0]) ?_ 1 _ rfl; (with_reducible repeat (first | refine blk_drewN ?_ _ | refine blk_drew ?_ | refine blk_alloc ?_ _)); refine blk_put (cs := #[.int .i8 0, .int .i8 0]) ?_ 0 _ rfl; (with_reducible repeat (first | refine blk_drewN ?_ _ | refine blk_drew ?_ | refine blk_alloc ?_ _)); exact BK322.out) hb); have n3_ := bst HB hb; clear HO_3; clear BK322; clear HB; have HO_3 := n0_; have HO325 := n1_; have BK322 := n2_; have HB := n3_; clear n0_ n1_ n2_ n3_; clear hb ho11; obtain ⟨Ao13, co13, eo13⟩ := Kd.R_slice HO325.out; subst eo13) | ((with_reducible refine gate_builtin (b := .append) (xs := #[.tmp 13, .tmp 20]) rfl ?_); at_builtin; refine Kd.R_append_rows (Kd.int .u8) (w0 := w) w.heap.size rfl (.tmp 13) (.tmp 20) 52 5 (.int .u8 0) 1 rfl Try.underlying52 info5 rfl (by decide) (by omega) u3 x3_1 y323 _ _ _ (fun k_ => some k_ ≠ (.slice Ao13 y323.length co13 : Value).ownBlock) (fun _ => False) rfl rfl ?aO ?aR (fun _ _ h => h) (fun _ h => h.elim) ?aF ?aB ?aS ?aL ?_; (case aR => repeat (first | exact (Kd.R_reads' HO325.out).2.2 | (with_reducible refine Kd.C_alloc ?_ _) | (with_reducible refine Kd.C_drewN ?_ _) | (with_reducible refine Kd.C_drew ?_))); (case aB => exact (pbs HB)); (case aF => exact (fun k_ hk => Kd.fresh' (Kd.R_lt (by (with_reducible repeat (first | apply Kd.R_alloc | apply Kd.R_drewN | apply Kd.R_drew)); exact HO325.out)) k_ hk)); (case aO => exact (by (with_reducible repeat (first | apply Kd.R_alloc | apply Kd.R_drewN | apply Kd.R_drew)); exact Kd.R_mono HO_3.out (fun _ hk => hk.2))); (case aS => exact (below_size (by repeat (first | (with_reducible first | exact HB.out | apply below_alloc | apply pw_below_drewN | apply below_drew1 | refine below_set ?_ GE322.out) | exact HB.out)))); (case aL => have := LMc7.out; omega); intro v327 w12 ho hb hg hat; rw [← Ny326.out] at ho; have n0_ := Aside0.mk (blk_grown (g := gb322) (o := .cells #[.int .i8 ((rd_T39 l0 x9_1).f0), .int .i8 ((rd_T39 l0 x9_1).f1)] 39 (0, 0)) (pk BK322) hg (Kd.R_ne HO_3.out BK322.out (by decide))); have n1_ := Aside0.mk (Kd.R_after (ok := (fun _ => True)) (by (with_reducible repeat (first | apply Kd.R_alloc | apply Kd.R_drewN | apply Kd.R_drew)); exact HO325.out) hg hat); have n2_ := Aside0.mk (hb); have n3_ := Aside0.mk (ho); clear BK322; clear HO325; clear HB; clear HO_3; have BK322 := n0_; have HO325 := n1_; have HB := n2_; have HO328 := n3_; clear n0_ n1_ n2_ n3_; clear ho hb hg hat))
       go_roundg k1
       case measure => have := HK1.out; omega
       case rel => exact ⟨(y326), (wrap64 (x9_1 + 1)), (by first | rfl | (simp; done) | (simp [*]; done)), H', ⟨by have := HK1.out; omega⟩, ⟨by (with_reducible repeat (first | apply Kd.R_alloc | apply Kd.R_drewN | apply Kd.R_drew)); exact Kd.R_mono HO328.out (fun _ hk => trivial)⟩, ⟨pbs HB⟩⟩
      ·rw [if_neg c7] at H
       exact absurd H (by simp)
     ·rw [if_neg c6] at H
      exact absurd H (by simp)
    ·rw [if_neg c5] at H
     exact absurd H (by simp)
   ·rw [if_neg c4] at H
    have c4b0 : decide (x9_1 < (l0.length : Int)) = false := decide_eq_false c4; clear c4; obtain rfl := Option.some.inj H; have hcv14 := own_string (P := Try.prog) Try.underlying52 Try.underlying5 Try.underlying9 (Kd.own_of_R HO_3.out)
    go_wp2
    go_ret
    exact ⟨by first | rfl | (simp [errW_none, errW_some] <;> rfl) | (simp [*, errW_none, errW_some] <;> rfl), pb HB⟩
end Go.Proofs.Ytjpponjekcemjaa.PB
end
section
namespace Go.Proofs.Ytjpponjekcemjaa.PB
open Go.RowKit Go.Proofs.YtjpponjekcemjaaW.PrintWords Go.Proofs.YtjpponjekcemjaaW.PrintLast Go.Proofs.YtjpponjekcemjaaW.PrintMore Go.Proofs.Ytjpponjekcemjaa.La
attribute [local go_sem] max2_int min2_int max_two min_two max_three min_three max_four min_four   -- for this text's walks alone
set_option linter.unusedVariables false
set_option linter.unusedSimpArgs false
def slices_Reverse_int64_int64.l0 : Nat → List Int → Int → Int → Option (List Int)
 | 0, _, _, _ => none
 | k + 1, x0, x2, x3 => if x2 < x3 then (if 0 ≤ x3 then (if x3 < (x0.length : Int) then (if 0 ≤ x2 then (if x2 < (x0.length : Int) then (slices_Reverse_int64_int64.l0 k ((x0.set (x2 : Int).toNat (rd x0 x3)).set (x3 : Int).toNat (rd x0 x2)) (wrap64 (x2 + 1)) (wrap64 (x3 - 1))) else (none)) else (none)) else (none)) else (none)) else (some x0)
def slices_Reverse_int64_int64.f (k : Nat) (l0 : List Int) : Option (List Int) := slices_Reverse_int64_int64.l0 k l0 0 (wrap64 ((l0.length : Int) - 1))
theorem slices_Reverse_int64_int64.mono_l : ∀ k, (∀ y0 y1 y2, LeO (slices_Reverse_int64_int64.l0 k y0 y1 y2) (slices_Reverse_int64_int64.l0 (k + 1) y0 y1 y2))
 | 0 => fun _ _ _ r h => by simp [slices_Reverse_int64_int64.l0] at h
 | k + 1 => by
  have ih0 := slices_Reverse_int64_int64.mono_l k
  ·intro y0 y1 y2
   unfold slices_Reverse_int64_int64.l0
   repeat' first
   | (with_reducible exact ih0 _ _ _)
   | (with_reducible exact LeO.refl _)
   | (with_reducible exact LeO.none _)
   | (with_reducible refine LeO.ite ?_ ?_)
   | (with_reducible refine LeO.bind ?_ (fun _ => ?_))
   | exact ih0 _ _ _
   | exact LeO.none _
   | refine LeO.ite ?_ ?_
   | refine LeO.bind ?_ (fun _ => ?_)
theorem slices_Reverse_int64_int64.mono : ∀ a0 k, LeO (slices_Reverse_int64_int64.f k a0) (slices_Reverse_int64_int64.f (k + 1) a0) := by
 intro a0 k
 have ih0 := slices_Reverse_int64_int64.mono_l k
 unfold slices_Reverse_int64_int64.f
 repeat' first
   | (with_reducible exact ih0 _ _ _)
   | (with_reducible exact LeO.refl _)
   | (with_reducible exact LeO.none _)
   | (with_reducible refine LeO.ite ?_ ?_)
   | (with_reducible refine LeO.bind ?_ (fun _ => ?_))
   | exact ih0 _ _ _
   | exact LeO.none _
   | refine LeO.ite ?_ ?_
   | refine LeO.bind ?_ (fun _ => ?_)
def slices_Reverse_int64_int64.T3 : Bool × List (List Nat × List Nat) := (true, [([], []), ([], []), ([], []), ([], []), ([], []), ([], []), ([4, 5], [4, 5]), ([6], [6]), ([], []), ([], []), ([8, 9], [8, 9]), ([10], [10]), ([0, 1, 0, 1, 4, 5, 6, 7, 11], [0, 1]), ([12, 7, 0, 1, 4, 5, 6, 7, 11], [7, 12]), ([2, 3, 0, 1, 2, 3, 4, 5, 6, 7, 8, 9, 10, 11, 12, 13], [2, 3]), ([14, 11, 13, 0, 1, 2, 3, 4, 5, 6, 7, 8, 9, 10, 11, 12, 13], [11, 14])])
def slices_Reverse_int64_int64.B3 : List Nat := [0, 0, 0, 0, 0, 0, 48, 112, 0, 0, 768, 1792, 4083, 8179, 16383, 32767]
theorem slices_Reverse_int64_int64.tab3 : rtab .any (opsOf Try.f64 3) = slices_Reverse_int64_int64.T3 := by kernel_rfl
theorem slices_Reverse_int64_int64.bits3 : waitsOk slices_Reverse_int64_int64.T3.2 slices_Reverse_int64_int64.B3 = true := by kernel_rfl
set_option maxHeartbeats 8000000 in
set_option maxRecDepth 100000 in
theorem slices_Reverse_int64_int64.calls (k : Nat) (P0_ : Nat → Prop) (u9000_ : Value) (l0 : List Int) (r : List Int) (w0 w : World) (hB : Below w0.heap.size w0 w) (ho0 : Kd.R (Kd.int .i64) 2 w w0.heap.size P0_ u9000_ l0) (h : slices_Reverse_int64_int64.f k l0 = some r) :
  Calls Try.prog 64 #[u9000_] w fun e w' => e = .returned (.tuple #[]) ∧ Kd.R (Kd.int .i64) 2 w' w0.heap.size (fun k_ => (P0_ k_ ∨ w.heap.size ≤ k_)) u9000_ r ∧ Below w0.heap.size w0 w' ∧ Kept w w' (fun k_ => P0_ k_) := by
 have HO0 := Aside0.mk (show Kd.R (Kd.int .i64) 2 w w0.heap.size (fun k_ => (P0_ k_ ∨ w.heap.size ≤ k_)) u9000_ l0 from Kd.R_mono ho0 (fun k_ hk => (.inl hk)))
 have HK := Aside0.mk (Kept.refl w (fun k_ => P0_ k_))
 have HW0 := Aside0.mk hB.size
 have HB := Aside0.mk hB
 clear hB
 have H : (slices_Reverse_int64_int64.l0 k l0 0 (wrap64 ((l0.length : Int) - 1))) = some r := h
 clear h
 have H' := Aside0.mk H
 clear H
 obtain ⟨Ao2, co2, eo2⟩ := Kd.R_slice HO0.out
 subst eo2
 go_enter Try.func64, Try.ntmps64
 go_wp2
 go_loopg [2, 3] k (fun kq v2 v3 w' => ∃ (x0_1 : List Int) (x2_1 : Int) (x3_1 : Int), v2 = .int .i64 x2_1 ∧ v3 = .int .i64 x3_1 ∧ Aside0 (slices_Reverse_int64_int64.l0 kq x0_1 x2_1 x3_1 = some r) ∧ Aside0 (kq ≤ k) ∧ Aside0 (Kd.R (Kd.int .i64) 2 w' w0.heap.size (fun k_ => (P0_ k_ ∨ w.heap.size ≤ k_)) (.slice Ao2 l0.length co2) x0_1) ∧ Aside0 (Kept w w' (fun k_ => P0_ k_)) ∧ Aside0 (Below w0.heap.size w0 w'))
 case atStart => exact ⟨(l0), (0), (wrap64 ((l0.length : Int) - 1)), (by first | rfl | (simp; done) | (simp [*]; done)), (by first | rfl | (simp; done) | (simp [*]; done)), H', ⟨Nat.le_refl _⟩, ⟨by (with_reducible repeat (first | apply Kd.R_alloc | apply Kd.R_drewN | apply Kd.R_drew)); exact HO0.out⟩, ⟨by repeat (first | (with_reducible first | exact HK.out | apply Kept.alloc | apply Kept.drewN | apply Kept.drew) | exact HK.out)⟩, ⟨pb HB⟩⟩
 case round =>
  clear H'
  try clear p2
  obtain ⟨x0_1, x2_1, x3_1, rfl, rfl, HA, HK1, HO_0, HK, HB⟩ := hrel; have hl0_1 := (Kd.R_reads' HO_0.out).1; rw [hl0_1] at HO_0; (try simp only [hl0_1])
  cases gk with
  | zero => exact absurd HA.out (by simp [slices_Reverse_int64_int64.l0])
  | succ k1 =>
   have H := HA.out; clear HA; simp only [slices_Reverse_int64_int64.l0] at H
   by_cases c3 : x2_1 < x3_1
   ·rw [if_pos c3] at H
    have c3b0 : decide (x2_1 < x3_1) = true := decide_eq_true c3; clear c3
    by_cases c4 : 0 ≤ x3_1
    ·rw [if_pos c4] at H
     have c4b0 : decide (0 ≤ x3_1) = true := decide_eq_true c4; clear c4
     by_cases c5 : x3_1 < (x0_1.length : Int)
     ·rw [if_pos c5] at H
      have c5b0 : decide (x3_1 < (x0_1.length : Int)) = true := decide_eq_true c5; clear c5
      by_cases c6 : 0 ≤ x2_1
      ·rw [if_pos c6] at H
       have c6b0 : decide (0 ≤ x2_1) = true := decide_eq_true c6; clear c6
       by_cases c7 : x2_1 < (x0_1.length : Int)
       ·rw [if_pos c7] at H
        have c7b0 : decide (x2_1 < (x0_1.length : Int)) = true := decide_eq_true c7; clear c7; obtain ⟨y331, hy331⟩ : ∃ y_ : List Int, y_ = (x0_1.set (x2_1 : Int).toNat (rd x0_1 x3_1)) := ⟨_, rfl⟩
        replace H : (slices_Reverse_int64_int64.l0 k1 (y331.set (x3_1 : Int).toNat (rd x0_1 x2_1)) (wrap64 (x2_1 + 1)) (wrap64 (x3_1 - 1))) = some r := by first | (rw [hy331]; with_reducible exact H) | (have H2_ := (Option.bind_some _ _).symm.trans H; rw [hy331]; with_reducible exact H2_) | (have H2_ := (Option.bind_some _ _).symm.trans H; with_reducible exact H2_) | with_reducible exact H | (rw [hy331]; exact H) | exact H
        have Ny331 := Aside0.mk hy331; clear hy331; obtain ⟨y332, hy332⟩ : ∃ y_ : List Int, y_ = (y331.set (x3_1 : Int).toNat (rd x0_1 x2_1)) := ⟨_, rfl⟩
        replace H : (slices_Reverse_int64_int64.l0 k1 y332 (wrap64 (x2_1 + 1)) (wrap64 (x3_1 - 1))) = some r := by first | (rw [hy332]; with_reducible exact H) | (have H2_ := (Option.bind_some _ _).symm.trans H; rw [hy332]; with_reducible exact H2_) | (have H2_ := (Option.bind_some _ _).symm.trans H; with_reducible exact H2_) | with_reducible exact H | (rw [hy332]; exact H) | exact H
        have Ny332 := Aside0.mk hy332; clear hy332; have H' := Aside0.mk H; clear H
        try go_wp2
        replace HO_0 := Aside0.mk (Kd.R_drew HO_0.out); replace HK := Aside0.mk (Kept.drew HK.out); replace HB := Aside0.mk (below_drew1 HB.out); have p329 : 0 ≤ (x3_1 : Int) := oda; have q329 : x3_1 < (x0_1.length : Int) := oda; obtain ⟨ad329, e329, hx329_0⟩ := Kd.at_int (Kd.R_reads' HO_0.out).2.2 x3_1 p329 q329; cases e329; replace p329 := eq_true p329; replace q329 := eq_true q329; have p330 : 0 ≤ (x2_1 : Int) := oda; have q330 : x2_1 < (x0_1.length : Int) := oda; obtain ⟨ad330, e330, hx330_0⟩ := Kd.at_int (Kd.R_reads' HO_0.out).2.2 x2_1 p330 q330; obtain rfl : ad329 = ad330 := (by injection e330); replace p330 := eq_true p330; replace q330 := eq_true q330; have p8 : 0 ≤ (x2_1 : Int) := oda; have q8 : (x2_1 : Int) < ((x0_1.length : Int) : Int) := oda; obtain ⟨go8, co8, eo8, gb8, gl8, cl8, HG8⟩ := Kd.R_form HO_0.out (by omega); (first | cases eo8 | (injection eo8 with ea_ en_ ec_; (first | subst ea_ | (injection ea_ with ea_; subst ea_)); subst ec_; clear en_)); have GB8 := Aside0.mk gb8; have GG8 := Aside0.mk HG8; clear gb8 gl8 HG8; have HMgo8 := Aside0.mk (show (P0_ go8 ∨ w.heap.size ≤ go8) from (HO_0.out.1 _ rfl)); (first | simp only [add_plain] at hx329_0 | skip); (first | simp only [add_plain] at hx330_0 | skip); obtain ⟨hx8_0, hf8_0⟩ := Kd.R_celln 0 HO_0.out (x2_1 : Int) p8 q8; replace p8 := eq_true p8; replace q8 := eq_true q8; have HP11 := Kd.R_putn HO_0.out (x2_1 : Int) (rd x0_1 x3_1); rw [← Ny331.out] at HP11; have HQ11 := Aside0.mk HP11; clear HP11; have p9 : 0 ≤ (x3_1 : Int) := oda; have q9 : (x3_1 : Int) < ((x0_1.length : Int) : Int) := oda; obtain ⟨hx9_0, hf9_0⟩ := Kd.R_celln 0 HQ11.out (x3_1 : Int) p9 q9; replace p9 := eq_true p9; replace q9 := eq_true q9; have HP12 := Kd.R_putn HQ11.out (x3_1 : Int) (rd x0_1 x2_1); rw [← Ny332.out] at HP12; have HQ12 := Aside0.mk HP12; clear HP12
        refine start_ (n := 16) (S := fun w' => w'.cell? ⟨go8, (x3_1).toNat, none⟩ = some (.int .i64 (rd x0_1 x3_1)) ∧ w'.cell? ⟨go8, (x2_1).toNat, none⟩ = some (.int .i64 (rd x0_1 x2_1))) (ds := [13, 15]) (bA 16 0) (by kernel_rfl) rfl rfl ⟨hx329_0, hx330_0⟩ (fun hHeld => ?_); refine with_tabW slices_Reverse_int64_int64.tab3 slices_Reverse_int64_int64.bits3 (fun HT_ HW_ => ?_)
        generalize wr.drew = w10 at HO_0 HK HB GG8 HQ11 HQ12 hf8_0 hf9_0 hx329_0 hx330_0 hx8_0 hx9_0 hHeld ⊢; have hlt_ : x2_1 < x3_1 := oda; have hge_ : 0 ≤ x2_1 := oda; have hA_ : (x3_1.toNat * 2 = x2_1.toNat * 2) = False := eq_false (by omega); have hA2_ : (x3_1.toNat = x2_1.toNat) = False := eq_false (by omega); have hB_ : (x3_1.toNat * 2 = x2_1.toNat * 2 + 1) = False := eq_false (by omega); have hC_ : (x3_1.toNat * 2 + 1 = x2_1.toNat * 2) = False := eq_false (by omega); have hD_ : (x3_1.toNat * 2 + 1 = x2_1.toNat * 2 + 1) = False := eq_false (by omega); have hfz0_ : w10.frozen? ⟨go8, x3_1.toNat * 2, none⟩ = false := blk_frozen GG8.out _; have hfz1_ : w10.frozen? ⟨go8, x3_1.toNat * 2 + 1, none⟩ = false := blk_frozen GG8.out _; refine pu 0 14 16 1 HT_ ?_; refine pu 1 15 16 3 HT_ ?_; refine pu 2 16 16 7 HT_ ?_; refine pu 3 17 16 15 HT_ ?_; refine pu 4 18 16 31 HT_ ?_; refine pu 5 19 16 63 HT_ ?_; refine pu 6 20 16 127 HT_ ?_; refine pu 8 22 16 383 HT_ ?_; refine pu 9 23 16 895 HT_ ?_; refine pu 10 24 16 1919 HT_ ?_; refine tk 7 21 16 2047 HT_ HW_ hHeld ?_; refine tk 11 25 16 4095 HT_ HW_ hHeld ?_; refine pu 12 26 16 8191 HT_ ?_; refine last_ (i := 13) (N := none) (bA 16 16383) rfl rfl (one_of HT_.out (by kernel_rfl)) (by decide) (fun K hK => ?_); refine skip_ (w1 := ?_) (by rfl) rfl ?_ ?_; rotate_left
        ·go_simp
         rfl
        refine hK.out _ _ ?_; clear hK K; refine pu 14 27 16 32767 HT_ ?_; refine last_ (i := 15) (N := none) (bA 16 65535) rfl rfl (one_of HT_.out (by kernel_rfl)) (by decide) (fun K hK => ?_); refine skip_ (w1 := ?_) (by rfl) rfl ?_ ?_; rotate_left
        ·go_simp
         rfl
        refine hK.out _ _ ?_; clear hK K; refine done_ (done_of HT_.out (by kernel_rfl)) ?_
        try go_wp2
        (try simp only [← hl0_1])
        go_roundg k1
        case measure => have := HK1.out; omega
        case rel => exact ⟨(y332), (wrap64 (x2_1 + 1)), (wrap64 (x3_1 - 1)), (by first | rfl | (simp; done) | (simp [*]; done)), (by first | rfl | (simp; done) | (simp [*]; done)), H', ⟨by have := HK1.out; omega⟩, ⟨by (try simp only [hl0_1]); (with_reducible repeat (first | apply Kd.R_alloc | apply Kd.R_drewN | apply Kd.R_drew)); exact HQ12.out⟩, ⟨by repeat (first | (with_reducible first | exact HK.out | apply Kept.alloc | apply Kept.drewN | apply Kept.drew | refine Kept.setCell ?_ HMgo8.out _ | refine Kept.setCell ?_ HMgo8.out _) | exact HK.out)⟩, ⟨pbs HB⟩⟩
       ·rw [if_neg c7] at H
        exact absurd H (by simp)
      ·rw [if_neg c6] at H
       exact absurd H (by simp)
     ·rw [if_neg c5] at H
      exact absurd H (by simp)
    ·rw [if_neg c4] at H
     exact absurd H (by simp)
   ·rw [if_neg c3] at H
    have c3b0 : decide (x2_1 < x3_1) = false := decide_eq_false c3; clear c3; obtain rfl := Option.some.inj H
    go_wp2
    first | go_end0 | ((try simp only [Exit.inBlock, Exit.then]); refine bodyPost_ret (results_none rfl _ _ _) rfl ?_)
    exact ⟨by first | rfl | (simp [errW_none, errW_some] <;> rfl) | (simp [*, errW_none, errW_some] <;> rfl), (by first | exact (by (with_reducible repeat (first | apply Kd.R_alloc | apply Kd.R_drewN | apply Kd.R_drew)); exact HO_0.out) | (simp only [hl0_1]; exact (by (with_reducible repeat (first | apply Kd.R_alloc | apply Kd.R_drewN | apply Kd.R_drew)); exact HO_0.out))), by repeat (first | (with_reducible first | exact HB.out | apply below_alloc | apply pw_below_drewN | apply below_drew1) | exact HB.out), by repeat (first | (with_reducible first | exact HK.out | apply Kept.alloc | apply Kept.drewN | apply Kept.drew) | exact HK.out)⟩
end Go.Proofs.Ytjpponjekcemjaa.PB
end
