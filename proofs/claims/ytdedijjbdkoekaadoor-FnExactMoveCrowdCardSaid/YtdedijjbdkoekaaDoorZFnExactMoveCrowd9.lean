/- The statement FnExactMoveCrowd of this program: what its proof uses, part 10 of 12. The call returns true for all arguments. No condition of its own. -/
import Derived.Test.YtdedijjbdkoekaaDoorZFnExactMoveCrowd8
section
namespace Go.Proofs.YtdedijjbdkoekaaDoor.PB
open Go.RowKit Go.Proofs.YtdedijjbdkoekaaDoorW.PrintWords Go.Proofs.YtdedijjbdkoekaaDoorW.PrintLast Go.Proofs.YtdedijjbdkoekaaDoorW.PrintMore Go.Proofs.YtdedijjbdkoekaaDoor.La
attribute [local go_sem] max2_int min2_int max_two min_two max_three min_three max_four min_four   -- for this text's walks alone
set_option linter.unusedVariables false
set_option linter.unusedSimpArgs false
def spec_MoveCrowd.f (k : Nat) (a0_0 : Int) (a0_1 : Int) (a0_2 : LA 10) (a1 : LA 40) (a2 : Int) : Option (LA 40 × Int) := (spec_l06Ok.f k a0_0 a0_1 a0_2 a1).bind fun t166 => (if t166 = true then ((spec_l06Letter.f a2).bind fun t167 => (if t167 = true then ((spec_l06Move.f k a0_0 a0_1 a0_2 a1 a2).bind fun t168 => (some (t168, 0))) else (some ((LA.zero 40), 5)))) else (some ((LA.zero 40), 1)))
theorem spec_MoveCrowd.mono : ∀ a0 a1 a2 a3 a4 k, LeO (spec_MoveCrowd.f k a0 a1 a2 a3 a4) (spec_MoveCrowd.f (k + 1) a0 a1 a2 a3 a4) := by
 intro a0 a1 a2 a3 a4 k
 unfold spec_MoveCrowd.f
 repeat' first
   | (with_reducible exact spec_l06Move.mono _ _ _ _ _ _)
   | (with_reducible exact spec_l06Ok.mono _ _ _ _ _)
   | (with_reducible exact LeO.refl _)
   | (with_reducible exact LeO.none _)
   | (with_reducible refine LeO.ite ?_ ?_)
   | (with_reducible refine LeO.bind ?_ (fun _ => ?_))
   | exact spec_l06Move.mono _ _ _ _ _ _
   | exact spec_l06Ok.mono _ _ _ _ _
   | exact LeO.none _
   | refine LeO.ite ?_ ?_
   | refine LeO.bind ?_ (fun _ => ?_)
set_option maxHeartbeats 8000000 in
set_option maxRecDepth 100000 in
theorem spec_MoveCrowd.calls (k : Nat) (a0_0 : Int) (a0_1 : Int) (a0_2 : LA 10) (a1 : LA 40) (a2 : Int) (r1 : LA 40) (r2 : Int) (w : World) (h : spec_MoveCrowd.f k a0_0 a0_1 a0_2 a1 a2 = some (r1, r2)) :
  Calls Tryd.prog 11 #[.agg (mixA (Value.int .u16) [.int .i8 a0_0, .int .i8 a0_1] a0_2), .agg (mixA (Value.int .u16) [] a1), .int .u8 a2] w fun e w' => e = .returned (.tuple #[.agg (mixA (Value.int .u16) [] r1), .int .i64 r2]) ∧ Below w.heap.size w w' := by
 have hu31 := Tryd.underlying31
 have HB := Aside0.mk (Below.refl w.heap.size w)
 have H : ((spec_l06Ok.f k a0_0 a0_1 a0_2 a1).bind fun t166 => (if t166 = true then ((spec_l06Letter.f a2).bind fun t167 => (if t167 = true then ((spec_l06Move.f k a0_0 a0_1 a0_2 a1 a2).bind fun t168 => (some (t168, 0))) else (some ((LA.zero 40), 5)))) else (some ((LA.zero 40), 1)))) = some (r1, r2) := h
 clear h
 replace H := Option.bind_eq_some_iff.mp H
 obtain ⟨t166, A40, H⟩ := H
 replace H : (if t166 = true then ((spec_l06Letter.f a2).bind fun t167 => (if t167 = true then ((spec_l06Move.f k a0_0 a0_1 a0_2 a1 a2).bind fun t168 => (some (t168, 0))) else (some ((LA.zero 40), 5)))) else (some ((LA.zero 40), 1))) = some (r1, r2) := H
 have A4 := Aside0.mk A40
 clear A40
 by_cases c5 : t166 = true
 ·subst c5
  have H1 : ((spec_l06Letter.f a2).bind fun t167 => (if t167 = true then ((spec_l06Move.f k a0_0 a0_1 a0_2 a1 a2).bind fun t168 => (some (t168, 0))) else (some ((LA.zero 40), 5)))) = some (r1, r2) := by rw [if_pos rfl] at H; exact H
  clear H
  have H := H1
  clear H1
  replace H := Option.bind_eq_some_iff.mp H
  obtain ⟨t167, A60, H⟩ := H
  replace H : (if t167 = true then ((spec_l06Move.f k a0_0 a0_1 a0_2 a1 a2).bind fun t168 => (some (t168, 0))) else (some ((LA.zero 40), 5))) = some (r1, r2) := H
  have A6 := Aside0.mk A60
  clear A60
  by_cases c7 : t167 = true
  ·subst c7
   have H1 : ((spec_l06Move.f k a0_0 a0_1 a0_2 a1 a2).bind fun t168 => (some (t168, 0))) = some (r1, r2) := by rw [if_pos rfl] at H; exact H
   clear H
   have H := H1
   clear H1
   replace H := Option.bind_eq_some_iff.mp H
   obtain ⟨t168, A80, H⟩ := H
   replace H : (some (t168, 0)) = some (r1, r2) := H
   have A8 := Aside0.mk A80
   clear A80
   simp only [Option.some.injEq, Prod.mk.injEq] at H
   obtain ⟨rfl, rfl⟩ := H
   go_enter Tryd.func11, Tryd.ntmps11
   go_wp2_with (first | ((with_reducible refine gate_dst (N := 3) rfl ?_); refine box_event ?hg (N := 3) ?hd (cs := (mixA (Value.int .u16) [.int .i8 a0_0, .int .i8 a0_1] a0_2)) (t := 31) ?hr ?_; (case hd => rfl); (case hg => rfl); (case hr => first | (go_simp; done) | (go_simp; rfl)); intro gb163 hg w9 hbox hb; have n0_ := bst HB hb; have n1_ := Aside0.mk (hbox); have n2_ := gwl HB hg; have n3_ := gwl HB hg; clear HB; have HB := n0_; have BK163 := n1_; have GW163 := n2_; have GE163 := n3_; clear n0_ n1_ n2_ n3_; clear hb hbox hg) | ((with_reducible refine gate_dst (N := 4) rfl ?_); refine box_event ?hg (N := 4) ?hd (cs := (mixA (Value.int .u16) [] a1)) (t := 28) ?hr ?_; (case hd => rfl); (case hg => rfl); (case hr => first | (go_simp; done) | (go_simp; rfl)); intro gb164 hg w10 hbox hb; have n0_ := bkb BK163 hb; have n1_ := bst HB hb; have n2_ := Aside0.mk (hbox); have n3_ := gwl HB hg; have n4_ := gwl HB hg; have n5_ := nbl BK163 hg; have n6_ := nbg BK163 hg; clear BK163; clear HB; have BK163 := n0_; have HB := n1_; have BK164 := n2_; have GW164 := n3_; have GE164 := n4_; have NB163_164 := n5_; have NB164_163 := n6_; clear n0_ n1_ n2_ n3_ n4_ n5_ n6_; clear hb hbox hg) | ((with_reducible refine gate_dst (N := 6) rfl ?_); refine box_event ?hg (N := 6) ?hd (cs := (mixA (Value.int .u16) [] (LA.zero 40))) (t := 28) ?hr ?_; (case hd => rfl); (case hg => rfl); (case hr => first | (go_simp; done) | (go_simp; rfl)); intro gb165 hg w11 hbox hb; have n0_ := bkb BK163 hb; have n1_ := bkb BK164 hb; have n2_ := bst HB hb; have n3_ := Aside0.mk (hbox); have n4_ := gwl HB hg; have n5_ := gwl HB hg; have n6_ := nbl BK163 hg; have n7_ := nbg BK163 hg; have n8_ := nbl BK164 hg; have n9_ := nbg BK164 hg; clear BK163; clear BK164; clear HB; have BK163 := n0_; have BK164 := n1_; have HB := n2_; have BK165 := n3_; have GW165 := n4_; have GE165 := n5_; have NB163_165 := n6_; have NB165_163 := n7_; have NB164_165 := n8_; have NB165_164 := n9_; clear n0_ n1_ n2_ n3_ n4_ n5_ n6_ n7_ n8_ n9_; clear hb hbox hg) | ((with_reducible refine gate_callee (f := 33) rfl ?_); refine goesL_ (some 8) rfl rfl Tryd.func33 (by kernel_rfl) rfl #[.pointer (some ⟨gb163, 0, none⟩), .pointer (some ⟨gb164, 0, none⟩)] rfl (by (try simp only [List.map_toArray, List.map_cons, List.map_nil]); first | done | rfl | (simp only [List.length_drop, List.length_take]; rfl)) ?_; (with_reducible refine (spec_l06Ok.calls k gb163 a0_0 a0_1 a0_2 gb164 a1 true _ ?side1 ?side2 A4.out).mono ?_); (case side1 => exact (pk BK163)); (case side2 => exact (pk BK164)); rintro e w12 ⟨rfl, hb⟩; refine ⟨_, rfl, ?_⟩; have n0_ := bkb BK163 hb; have n1_ := bkb BK164 hb; have n2_ := bkb BK165 hb; have n3_ := bst HB hb; clear BK163; clear BK164; clear BK165; clear HB; have BK163 := n0_; have BK164 := n1_; have BK165 := n2_; have HB := n3_; clear n0_ n1_ n2_ n3_; (try clear hb); (try clear hb2); (try clear hk); (try clear hi)) | ((with_reducible refine gate_callee (f := 34) rfl ?_); refine goesL_ (some 12) rfl rfl Tryd.func34 (by kernel_rfl) rfl #[.int .u8 a2] rfl (by (try simp only [List.map_toArray, List.map_cons, List.map_nil]); first | done | rfl | (simp only [List.length_drop, List.length_take]; rfl)) ?_; (with_reducible refine (spec_l06Letter.calls a2 true _ A6.out).mono ?_); rintro e w' ⟨rfl, ⟨nd, rfl⟩⟩; refine ⟨_, rfl, ?_⟩) | ((with_reducible refine gate_callee (f := 35) rfl ?_); refine goesL_ (some 16) rfl rfl Tryd.func35 (by kernel_rfl) rfl #[.pointer (some ⟨gb163, 0, none⟩), .pointer (some ⟨gb164, 0, none⟩), .int .u8 a2] rfl (by (try simp only [List.map_toArray, List.map_cons, List.map_nil]); first | done | rfl | (simp only [List.length_drop, List.length_take]; rfl)) ?_; (with_reducible refine (spec_l06Move.calls k gb163 a0_0 a0_1 a0_2 gb164 a1 a2 t168 _ ?side1 ?side2 A8.out).mono ?_); (case side1 => exact (pk BK163)); (case side2 => exact (pk BK164)); rintro e w13 ⟨rfl, hb⟩; refine ⟨_, rfl, ?_⟩; have n0_ := bkb BK163 hb; have n1_ := bkb BK164 hb; have n2_ := bkb BK165 hb; have n3_ := bst HB hb; clear BK163; clear BK164; clear BK165; clear HB; have BK163 := n0_; have BK164 := n1_; have BK165 := n2_; have HB := n3_; clear n0_ n1_ n2_ n3_; (try clear hb); (try clear hb2); (try clear hk); (try clear hi)) | ((with_reducible refine gate_store (p := 6) rfl ?_); refine wpList_store_lmix rfl 28 _ _ rfl gb165 (e := (Value.int .u16)) (cs' := []) (W' := t168) (cs := []) (W := (LA.zero 40)) (T := 28) rfl rfl (pk BK165) rfl (by kernel_rfl) rfl (fun _ => rfl) rfl ?_; intro w14 hi hk hbl; have n0_ := Aside0.mk (KeepBut.blk hk (g' := gb163) (o := .cells (mixA (Value.int .u16) [.int .i8 a0_0, .int .i8 a0_1] a0_2) 31 (0, 0)) (pk BK163) NB163_165.out (by simp)); have n1_ := Aside0.mk (KeepBut.blk hk (g' := gb164) (o := .cells (mixA (Value.int .u16) [] a1) 28 (0, 0)) (pk BK164) NB164_165.out (by simp)); have n2_ := Aside0.mk (hbl _ _ (pbs HB) GE165.out); have n3_ := Aside0.mk (hi); clear BK163; clear BK164; clear HB; clear BK165; have BK163 := n0_; have BK164 := n1_; have HB := n2_; have BK165 := n3_; clear n0_ n1_ n2_ n3_; clear hi hk hbl))
   refine bodyPost_ret (results_ct rfl _ _ gb165 28 (mixA (Value.int .u16) [] t168) (0, 0) _ rfl (pk BK165) Tryd.underlying28 rfl (by rw [mix_size]; kernel_rfl)) rfl ?_
   exact ⟨by first | rfl | (simp [errW_none, errW_some] <;> rfl) | (simp [*, errW_none, errW_some] <;> rfl), pbs HB⟩
  ·replace c7 := Bool.eq_false_iff.mpr c7
   subst c7
   have H1 : (some ((LA.zero 40), 5)) = some (r1, r2) := by rw [if_neg (show ¬ (false = true) by decide)] at H; exact H
   clear H
   have H := H1
   clear H1
   simp only [Option.some.injEq, Prod.mk.injEq] at H
   obtain ⟨rfl, rfl⟩ := H
   go_enter Tryd.func11, Tryd.ntmps11
   go_wp2_with (first | ((with_reducible refine gate_dst (N := 3) rfl ?_); refine box_event ?hg (N := 3) ?hd (cs := (mixA (Value.int .u16) [.int .i8 a0_0, .int .i8 a0_1] a0_2)) (t := 31) ?hr ?_; (case hd => rfl); (case hg => rfl); (case hr => first | (go_simp; done) | (go_simp; rfl)); intro gb163 hg w15 hbox hb; have n0_ := bst HB hb; have n1_ := Aside0.mk (hbox); have n2_ := gwl HB hg; have n3_ := gwl HB hg; clear HB; have HB := n0_; have BK163 := n1_; have GW163 := n2_; have GE163 := n3_; clear n0_ n1_ n2_ n3_; clear hb hbox hg) | ((with_reducible refine gate_dst (N := 4) rfl ?_); refine box_event ?hg (N := 4) ?hd (cs := (mixA (Value.int .u16) [] a1)) (t := 28) ?hr ?_; (case hd => rfl); (case hg => rfl); (case hr => first | (go_simp; done) | (go_simp; rfl)); intro gb164 hg w16 hbox hb; have n0_ := bkb BK163 hb; have n1_ := bst HB hb; have n2_ := Aside0.mk (hbox); have n3_ := gwl HB hg; have n4_ := gwl HB hg; have n5_ := nbl BK163 hg; have n6_ := nbg BK163 hg; clear BK163; clear HB; have BK163 := n0_; have HB := n1_; have BK164 := n2_; have GW164 := n3_; have GE164 := n4_; have NB163_164 := n5_; have NB164_163 := n6_; clear n0_ n1_ n2_ n3_ n4_ n5_ n6_; clear hb hbox hg) | ((with_reducible refine gate_dst (N := 6) rfl ?_); refine box_event ?hg (N := 6) ?hd (cs := (mixA (Value.int .u16) [] (LA.zero 40))) (t := 28) ?hr ?_; (case hd => rfl); (case hg => rfl); (case hr => first | (go_simp; done) | (go_simp; rfl)); intro gb165 hg w17 hbox hb; have n0_ := bkb BK163 hb; have n1_ := bkb BK164 hb; have n2_ := bst HB hb; have n3_ := Aside0.mk (hbox); have n4_ := gwl HB hg; have n5_ := gwl HB hg; have n6_ := nbl BK163 hg; have n7_ := nbg BK163 hg; have n8_ := nbl BK164 hg; have n9_ := nbg BK164 hg; clear BK163; clear BK164; clear HB; have BK163 := n0_; have BK164 := n1_; have HB := n2_; have BK165 := n3_; have GW165 := n4_; have GE165 := n5_; have NB163_165 := n6_; have NB165_163 := n7_; have NB164_165 := n8_; have NB165_164 := n9_; clear n0_ n1_ n2_ n3_ n4_ n5_ n6_ n7_ n8_ n9_; clear hb hbox hg) | ((with_reducible refine gate_callee (f := 33) rfl ?_); refine goesL_ (some 8) rfl rfl Tryd.func33 (by kernel_rfl) rfl #[.pointer (some ⟨gb163, 0, none⟩), .pointer (some ⟨gb164, 0, none⟩)] rfl (by (try simp only [List.map_toArray, List.map_cons, List.map_nil]); first | done | rfl | (simp only [List.length_drop, List.length_take]; rfl)) ?_; (with_reducible refine (spec_l06Ok.calls k gb163 a0_0 a0_1 a0_2 gb164 a1 true _ ?side1 ?side2 A4.out).mono ?_); (case side1 => exact (pk BK163)); (case side2 => exact (pk BK164)); rintro e w18 ⟨rfl, hb⟩; refine ⟨_, rfl, ?_⟩; have n0_ := bkb BK163 hb; have n1_ := bkb BK164 hb; have n2_ := bkb BK165 hb; have n3_ := bst HB hb; clear BK163; clear BK164; clear BK165; clear HB; have BK163 := n0_; have BK164 := n1_; have BK165 := n2_; have HB := n3_; clear n0_ n1_ n2_ n3_; (try clear hb); (try clear hb2); (try clear hk); (try clear hi)) | ((with_reducible refine gate_callee (f := 34) rfl ?_); refine goesL_ (some 12) rfl rfl Tryd.func34 (by kernel_rfl) rfl #[.int .u8 a2] rfl (by (try simp only [List.map_toArray, List.map_cons, List.map_nil]); first | done | rfl | (simp only [List.length_drop, List.length_take]; rfl)) ?_; (with_reducible refine (spec_l06Letter.calls a2 false _ A6.out).mono ?_); rintro e w' ⟨rfl, ⟨nd, rfl⟩⟩; refine ⟨_, rfl, ?_⟩) | ((with_reducible refine gate_store (p := 6) rfl ?_); refine wpList_store_lmix rfl 28 _ _ rfl gb165 (e := (Value.int .u16)) (cs' := []) (W' := (LA.zero 40)) (cs := []) (W := (LA.zero 40)) (T := 28) rfl rfl (pk BK165) rfl (by kernel_rfl) rfl (fun _ => rfl) rfl ?_; intro w19 hi hk hbl; have n0_ := Aside0.mk (KeepBut.blk hk (g' := gb163) (o := .cells (mixA (Value.int .u16) [.int .i8 a0_0, .int .i8 a0_1] a0_2) 31 (0, 0)) (pk BK163) NB163_165.out (by simp)); have n1_ := Aside0.mk (KeepBut.blk hk (g' := gb164) (o := .cells (mixA (Value.int .u16) [] a1) 28 (0, 0)) (pk BK164) NB164_165.out (by simp)); have n2_ := Aside0.mk (hbl _ _ (pbs HB) GE165.out); have n3_ := Aside0.mk (hi); clear BK163; clear BK164; clear HB; clear BK165; have BK163 := n0_; have BK164 := n1_; have HB := n2_; have BK165 := n3_; clear n0_ n1_ n2_ n3_; clear hi hk hbl))
   refine bodyPost_ret (results_ct rfl _ _ gb165 28 (mixA (Value.int .u16) [] (LA.zero 40)) (0, 0) _ rfl (pk BK165) Tryd.underlying28 rfl (by rw [mix_size]; kernel_rfl)) rfl ?_
   exact ⟨by first | rfl | (simp [errW_none, errW_some] <;> rfl) | (simp [*, errW_none, errW_some] <;> rfl), pbs HB⟩
 ·replace c5 := Bool.eq_false_iff.mpr c5
  subst c5
  have H1 : (some ((LA.zero 40), 1)) = some (r1, r2) := by rw [if_neg (show ¬ (false = true) by decide)] at H; exact H
  clear H
  have H := H1
  clear H1
  simp only [Option.some.injEq, Prod.mk.injEq] at H
  obtain ⟨rfl, rfl⟩ := H
  go_enter Tryd.func11, Tryd.ntmps11
  go_wp2_with (first | ((with_reducible refine gate_dst (N := 3) rfl ?_); refine box_event ?hg (N := 3) ?hd (cs := (mixA (Value.int .u16) [.int .i8 a0_0, .int .i8 a0_1] a0_2)) (t := 31) ?hr ?_; (case hd => rfl); (case hg => rfl); (case hr => first | (go_simp; done) | (go_simp; rfl)); intro gb163 hg w20 hbox hb; have n0_ := bst HB hb; have n1_ := Aside0.mk (hbox); have n2_ := gwl HB hg; have n3_ := gwl HB hg; clear HB; have HB := n0_; have BK163 := n1_; have GW163 := n2_; have GE163 := n3_; clear n0_ n1_ n2_ n3_; clear hb hbox hg) | ((with_reducible refine gate_dst (N := 4) rfl ?_); refine box_event ?hg (N := 4) ?hd (cs := (mixA (Value.int .u16) [] a1)) (t := 28) ?hr ?_; (case hd => rfl); (case hg => rfl); (case hr => first | (go_simp; done) | (go_simp; rfl)); intro gb164 hg w21 hbox hb; have n0_ := bkb BK163 hb; have n1_ := bst HB hb; have n2_ := Aside0.mk (hbox); have n3_ := gwl HB hg; have n4_ := gwl HB hg; have n5_ := nbl BK163 hg; have n6_ := nbg BK163 hg; clear BK163; clear HB; have BK163 := n0_; have HB := n1_; have BK164 := n2_; have GW164 := n3_; have GE164 := n4_; have NB163_164 := n5_; have NB164_163 := n6_; clear n0_ n1_ n2_ n3_ n4_ n5_ n6_; clear hb hbox hg) | ((with_reducible refine gate_dst (N := 6) rfl ?_); refine box_event ?hg (N := 6) ?hd (cs := (mixA (Value.int .u16) [] (LA.zero 40))) (t := 28) ?hr ?_; (case hd => rfl); (case hg => rfl); (case hr => first | (go_simp; done) | (go_simp; rfl)); intro gb165 hg w22 hbox hb; have n0_ := bkb BK163 hb; have n1_ := bkb BK164 hb; have n2_ := bst HB hb; have n3_ := Aside0.mk (hbox); have n4_ := gwl HB hg; have n5_ := gwl HB hg; have n6_ := nbl BK163 hg; have n7_ := nbg BK163 hg; have n8_ := nbl BK164 hg; have n9_ := nbg BK164 hg; clear BK163; clear BK164; clear HB; have BK163 := n0_; have BK164 := n1_; have HB := n2_; have BK165 := n3_; have GW165 := n4_; have GE165 := n5_; have NB163_165 := n6_; have NB165_163 := n7_; have NB164_165 := n8_; have NB165_164 := n9_; clear n0_ n1_ n2_ n3_ n4_ n5_ n6_ n7_ n8_ n9_; clear hb hbox hg) | ((with_reducible refine gate_callee (f := 33) rfl ?_); refine goesL_ (some 8) rfl rfl Tryd.func33 (by kernel_rfl) rfl #[.pointer (some ⟨gb163, 0, none⟩), .pointer (some ⟨gb164, 0, none⟩)] rfl (by (try simp only [List.map_toArray, List.map_cons, List.map_nil]); first | done | rfl | (simp only [List.length_drop, List.length_take]; rfl)) ?_; (with_reducible refine (spec_l06Ok.calls k gb163 a0_0 a0_1 a0_2 gb164 a1 false _ ?side1 ?side2 A4.out).mono ?_); (case side1 => exact (pk BK163)); (case side2 => exact (pk BK164)); rintro e w23 ⟨rfl, hb⟩; refine ⟨_, rfl, ?_⟩; have n0_ := bkb BK163 hb; have n1_ := bkb BK164 hb; have n2_ := bkb BK165 hb; have n3_ := bst HB hb; clear BK163; clear BK164; clear BK165; clear HB; have BK163 := n0_; have BK164 := n1_; have BK165 := n2_; have HB := n3_; clear n0_ n1_ n2_ n3_; (try clear hb); (try clear hb2); (try clear hk); (try clear hi)) | ((with_reducible refine gate_store (p := 6) rfl ?_); refine wpList_store_lmix rfl 28 _ _ rfl gb165 (e := (Value.int .u16)) (cs' := []) (W' := (LA.zero 40)) (cs := []) (W := (LA.zero 40)) (T := 28) rfl rfl (pk BK165) rfl (by kernel_rfl) rfl (fun _ => rfl) rfl ?_; intro w24 hi hk hbl; have n0_ := Aside0.mk (KeepBut.blk hk (g' := gb163) (o := .cells (mixA (Value.int .u16) [.int .i8 a0_0, .int .i8 a0_1] a0_2) 31 (0, 0)) (pk BK163) NB163_165.out (by simp)); have n1_ := Aside0.mk (KeepBut.blk hk (g' := gb164) (o := .cells (mixA (Value.int .u16) [] a1) 28 (0, 0)) (pk BK164) NB164_165.out (by simp)); have n2_ := Aside0.mk (hbl _ _ (pbs HB) GE165.out); have n3_ := Aside0.mk (hi); clear BK163; clear BK164; clear HB; clear BK165; have BK163 := n0_; have BK164 := n1_; have HB := n2_; have BK165 := n3_; clear n0_ n1_ n2_ n3_; clear hi hk hbl))
  refine bodyPost_ret (results_ct rfl _ _ gb165 28 (mixA (Value.int .u16) [] (LA.zero 40)) (0, 0) _ rfl (pk BK165) Tryd.underlying28 rfl (by rw [mix_size]; kernel_rfl)) rfl ?_
  exact ⟨by first | rfl | (simp [errW_none, errW_some] <;> rfl) | (simp [*, errW_none, errW_some] <;> rfl), pbs HB⟩
def impl_MoveCrowd.f (k : Nat) (a0_0 : Int) (a0_1 : Int) (a0_2 : LA 10) (a1 : LA 40) (a2 : Int) : Option (LA 40 × Int) := (impl_MovesCrowd.f k a0_0 a0_1 a0_2 a1 (strOfNums (([a2] : List Int)))).bind fun bt250 => (some (bt250.1, bt250.2))
theorem impl_MoveCrowd.mono : ∀ a0 a1 a2 a3 a4 k, LeO (impl_MoveCrowd.f k a0 a1 a2 a3 a4) (impl_MoveCrowd.f (k + 1) a0 a1 a2 a3 a4) := by
 intro a0 a1 a2 a3 a4 k
 unfold impl_MoveCrowd.f
 repeat' first
   | (with_reducible exact impl_MovesCrowd.mono _ _ _ _ _ _)
   | (with_reducible exact LeO.refl _)
   | (with_reducible exact LeO.none _)
   | (with_reducible refine LeO.ite ?_ ?_)
   | (with_reducible refine LeO.bind ?_ (fun _ => ?_))
   | exact impl_MovesCrowd.mono _ _ _ _ _ _
   | exact LeO.none _
   | refine LeO.ite ?_ ?_
   | refine LeO.bind ?_ (fun _ => ?_)
set_option maxHeartbeats 8000000 in
set_option maxRecDepth 100000 in
theorem impl_MoveCrowd.calls (k : Nat) (a0_0 : Int) (a0_1 : Int) (a0_2 : LA 10) (a1 : LA 40) (a2 : Int) (r1 : LA 40) (r2 : Int) (w : World) (h : impl_MoveCrowd.f k a0_0 a0_1 a0_2 a1 a2 = some (r1, r2)) :
  Calls Tryd.prog 13 #[.agg (mixA (Value.int .u16) [.int .i8 a0_0, .int .i8 a0_1] a0_2), .agg (mixA (Value.int .u16) [] a1), .int .u8 a2] w fun e w' => e = .returned (.tuple #[.agg (mixA (Value.int .u16) [] r1), .int .i64 r2]) ∧ Below w.heap.size w w' := by
 have hu31 := Tryd.underlying31
 have HB := Aside0.mk (Below.refl w.heap.size w)
 have H : ((impl_MovesCrowd.f k a0_0 a0_1 a0_2 a1 (strOfNums (([a2] : List Int)))).bind fun bt250 => (some (bt250.1, bt250.2))) = some (r1, r2) := h
 clear h
 obtain ⟨y247, hy247⟩ : ∃ y_ : List Int, y_ = (([a2] : List Int)) := ⟨_, rfl⟩
 replace H : ((impl_MovesCrowd.f k a0_0 a0_1 a0_2 a1 (strOfNums y247)).bind fun bt250 => (some (bt250.1, bt250.2))) = some (r1, r2) := by first | (rw [hy247]; with_reducible exact H) | (have H2_ := (Option.bind_some _ _).symm.trans H; rw [hy247]; with_reducible exact H2_) | (have H2_ := (Option.bind_some _ _).symm.trans H; with_reducible exact H2_) | with_reducible exact H | (rw [hy247]; exact H) | exact H
 have Ny247 := Aside0.mk hy247
 clear hy247
 replace H := Option.bind_eq_some_iff.mp H
 obtain ⟨⟨t250, t251⟩, A40, H⟩ := H
 replace H : (some (t250, t251)) = some (r1, r2) := H
 have A4 := Aside0.mk A40
 clear A40
 simp only [Option.some.injEq, Prod.mk.injEq] at H
 obtain ⟨rfl, rfl⟩ := H
 go_enter Tryd.func13, Tryd.ntmps13
 go_wp2_with (first | ((with_reducible refine gate_dst (N := 3) rfl ?_); refine box_event ?hg (N := 3) ?hd (cs := (mixA (Value.int .u16) [.int .i8 a0_0, .int .i8 a0_1] a0_2)) (t := 31) ?hr ?_; (case hd => rfl); (case hg => rfl); (case hr => first | (go_simp; done) | (go_simp; rfl)); intro gb244 hg w5 hbox hb; have n0_ := bst HB hb; have n1_ := Aside0.mk (hbox); have n2_ := gwl HB hg; have n3_ := gwl HB hg; clear HB; have HB := n0_; have BK244 := n1_; have GW244 := n2_; have GE244 := n3_; clear n0_ n1_ n2_ n3_; clear hb hbox hg) | ((with_reducible refine gate_dst (N := 4) rfl ?_); refine box_event ?hg (N := 4) ?hd (cs := (mixA (Value.int .u16) [] a1)) (t := 28) ?hr ?_; (case hd => rfl); (case hg => rfl); (case hr => first | (go_simp; done) | (go_simp; rfl)); intro gb245 hg w6 hbox hb; have n0_ := bkb BK244 hb; have n1_ := bst HB hb; have n2_ := Aside0.mk (hbox); have n3_ := gwl HB hg; have n4_ := gwl HB hg; have n5_ := nbl BK244 hg; have n6_ := nbg BK244 hg; clear BK244; clear HB; have BK244 := n0_; have HB := n1_; have BK245 := n2_; have GW245 := n3_; have GE245 := n4_; have NB244_245 := n5_; have NB245_244 := n6_; clear n0_ n1_ n2_ n3_ n4_ n5_ n6_; clear hb hbox hg) | ((with_reducible refine gate_dst (N := 6) rfl ?_); refine box_event ?hg (N := 6) ?hd (cs := (mixA (Value.int .u16) [] (LA.zero 40))) (t := 28) ?hr ?_; (case hd => rfl); (case hg => rfl); (case hr => first | (go_simp; done) | (go_simp; rfl)); intro gb246 hg w7 hbox hb; have n0_ := bkb BK244 hb; have n1_ := bkb BK245 hb; have n2_ := bst HB hb; have n3_ := Aside0.mk (hbox); have n4_ := gwl HB hg; have n5_ := gwl HB hg; have n6_ := nbl BK244 hg; have n7_ := nbg BK244 hg; have n8_ := nbl BK245 hg; have n9_ := nbg BK245 hg; clear BK244; clear BK245; clear HB; have BK244 := n0_; have BK245 := n1_; have HB := n2_; have BK246 := n3_; have GW246 := n4_; have GE246 := n5_; have NB244_246 := n6_; have NB246_244 := n7_; have NB245_246 := n8_; have NB246_245 := n9_; clear n0_ n1_ n2_ n3_ n4_ n5_ n6_ n7_ n8_ n9_; clear hb hbox hg) | ((with_reducible refine gate_dst (N := 8) rfl ?_); refine wpList_run0 (v := .agg (mixA (Value.int .u16) [.int .i8 a0_0, .int .i8 a0_1] a0_2)) rfl (load_mix_run (P := Tryd.prog) 31 (.tmp 3) rfl gb244 rfl (show World.rangeAt _ gb244 0 ([.int .i8 a0_0, .int .i8 a0_1] ++ a0_2.l.map (Value.int .u16)) from mix_range (show (World.heap _)[gb244]? = some (.cells (mixA (Value.int .u16) [.int .i8 a0_0, .int .i8 a0_1] a0_2) 31 (0, 0)) from by (with_reducible repeat (first | refine blk_drewN ?_ _ | refine blk_drew ?_ | refine blk_alloc ?_ _)); exact BK244.out)) Tryd.underlying31 rfl (by kernel_rfl) rfl) ?_) | ((with_reducible refine gate_dst (N := 9) rfl ?_); refine wpList_run0 (v := .agg (mixA (Value.int .u16) [] a1)) rfl (load_mix_run (P := Tryd.prog) 28 (.tmp 4) rfl gb245 rfl (show World.rangeAt _ gb245 0 ([] ++ a1.l.map (Value.int .u16)) from mix_range (show (World.heap _)[gb245]? = some (.cells (mixA (Value.int .u16) [] a1) 28 (0, 0)) from by (with_reducible repeat (first | refine blk_drewN ?_ _ | refine blk_drew ?_ | refine blk_alloc ?_ _)); exact BK245.out)) Tryd.underlying28 rfl (by kernel_rfl) rfl) ?_) | ((with_reducible refine gate_dst (N := 11) rfl ?_); refine Kd.R_lit (Kd.int .u8) _ 5 ?hg (N := 11) ?hd (xs := ([a2] : List Int)) (inner := [.int .u8 a2]) (ok := fun _ => True) (okp := fun _ => True) ?hr ?hp (fun _ hk => hk) trivial (Below.refl _ _) (Nat.le_refl _) (by simp) ?_; (case hd => rfl); (case hg => rfl); (case hr => first | (go_simp; done) | (go_simp; rfl)); (case hp => exact (Reps.one (show Kd.M (Kd.int .u8) _ _ _ a2 [.int .u8 a2] from rfl) (Reps.none _ _))); intro v248 w10 ho11 hb hg_ hnew_; clear hg_ hnew_; (first | rw [← Ny247.out] at ho11 | (simp only [Int.reduceToNat] at ho11; rw [← Ny247.out] at ho11)); have n0_ := Aside0.mk (Kd.R_lower ho11 (below_size (by repeat (first | (with_reducible first | exact HB.out | apply below_alloc | apply pw_below_drewN | apply below_drew1 | refine below_set ?_ GE244.out | refine below_set ?_ GE245.out | refine below_set ?_ GE246.out) | exact HB.out)))); have n1_ := bkb BK244 hb; have n2_ := bkb BK245 hb; have n3_ := bkb BK246 hb; have n4_ := bst HB hb; clear BK244; clear BK245; clear BK246; clear HB; have HO249 := n0_; have BK244 := n1_; have BK245 := n2_; have BK246 := n3_; have HB := n4_; clear n0_ n1_ n2_ n3_ n4_; clear hb ho11; have hcv12 := own_string (P := Tryd.prog) Tryd.underlying65 Tryd.underlying5 Tryd.underlying9 (Kd.own_of_R HO249.out)) | ((with_reducible refine gate_callee (f := 15) rfl ?_); refine goesL_ (some 13) rfl rfl Tryd.func15 (by kernel_rfl) rfl #[.agg (mixA (Value.int .u16) [.int .i8 a0_0, .int .i8 a0_1] a0_2), .agg (mixA (Value.int .u16) [] a1), .string (strOfNums y247)] rfl (by (try simp only [List.map_toArray, List.map_cons, List.map_nil]); first | done | rfl | (simp only [List.length_drop, List.length_take]; rfl)) ?_; (with_reducible refine (impl_MovesCrowd.calls k a0_0 a0_1 a0_2 a1 (strOfNums y247) t250 t251 _ A4.out).mono ?_); rintro e w13 ⟨rfl, hb⟩; refine ⟨_, rfl, ?_⟩; have n0_ := krb HO249 hb; have n1_ := bkb BK244 hb; have n2_ := bkb BK245 hb; have n3_ := bkb BK246 hb; have n4_ := bst HB hb; clear HO249; clear BK244; clear BK245; clear BK246; clear HB; have HO249 := n0_; have BK244 := n1_; have BK245 := n2_; have BK246 := n3_; have HB := n4_; clear n0_ n1_ n2_ n3_ n4_; (try clear hb); (try clear hb2); (try clear hk); (try clear hi)) | ((with_reducible refine gate_store (p := 6) rfl ?_); refine wpList_store_lmix rfl 28 _ _ rfl gb246 (e := (Value.int .u16)) (cs' := []) (W' := t250) (cs := []) (W := (LA.zero 40)) (T := 28) rfl rfl (pk BK246) rfl (by kernel_rfl) rfl (fun _ => rfl) rfl ?_; intro w14 hi hk hbl; have n0_ := Aside0.mk (KeepBut.blk hk (g' := gb244) (o := .cells (mixA (Value.int .u16) [.int .i8 a0_0, .int .i8 a0_1] a0_2) 31 (0, 0)) (pk BK244) NB244_246.out (by simp)); have n1_ := Aside0.mk (KeepBut.blk hk (g' := gb245) (o := .cells (mixA (Value.int .u16) [] a1) 28 (0, 0)) (pk BK245) NB245_246.out (by simp)); have n2_ := Aside0.mk (Kd.R_mono (Kd.R_keep (Kd.R_types (by (with_reducible repeat (first | apply Kd.R_alloc | apply Kd.R_drewN | apply Kd.R_drew)); exact HO249.out) (pk BK246) (by decide)) hk (fun _ h => h.2)) (fun _ h => h.1)); have n3_ := Aside0.mk (hbl _ _ (pbs HB) GE246.out); have n4_ := Aside0.mk (hi); clear BK244; clear BK245; clear HO249; clear HB; clear BK246; have BK244 := n0_; have BK245 := n1_; have HO249 := n2_; have HB := n3_; have BK246 := n4_; clear n0_ n1_ n2_ n3_ n4_; clear hi hk hbl))
 refine bodyPost_ret (results_ct rfl _ _ gb246 28 (mixA (Value.int .u16) [] t250) (0, 0) _ rfl (pk BK246) Tryd.underlying28 rfl (by rw [mix_size]; kernel_rfl)) rfl ?_
 exact ⟨by first | rfl | (simp [errW_none, errW_some] <;> rfl) | (simp [*, errW_none, errW_some] <;> rfl), pbs HB⟩
end Go.Proofs.YtdedijjbdkoekaaDoor.PB
end
section
namespace Go.Proofs.YtdedijjbdkoekaaDoor.PB
open Go.RowKit Go.Proofs.YtdedijjbdkoekaaDoorW.PrintWords Go.Proofs.YtdedijjbdkoekaaDoorW.PrintLast Go.Proofs.YtdedijjbdkoekaaDoorW.PrintMore Go.Proofs.YtdedijjbdkoekaaDoor.La
attribute [local go_sem] max2_int min2_int max_two min_two max_three min_three max_four min_four   -- for this text's walks alone
set_option linter.unusedVariables false
set_option linter.unusedSimpArgs false
def laws_toCrowd.l0 : Nat → Int → LA 40 → LA 40 → Option (LA 40)
 | 0, _, _, _ => none
 | k + 1, x4, x170000, x172000 => if x4 < 4 then (if 0 ≤ x4 then ((laws_toUint16A10.f k (LA.row x170000 10 x4)).bind fun t172 => (laws_toCrowd.l0 k (wrap64 (x4 + 1)) x170000 (LA.setRow x172000 10 x4 t172))) else (none)) else (some x172000)
def laws_toCrowd.f (k : Nat) (a0 : LA 40) : Option (LA 40) := laws_toCrowd.l0 k 0 a0 (LA.zero 40)
theorem laws_toCrowd.mono_l : ∀ k, (∀ y0 y1 y2, LeO (laws_toCrowd.l0 k y0 y1 y2) (laws_toCrowd.l0 (k + 1) y0 y1 y2))
 | 0 => fun _ _ _ r h => by simp [laws_toCrowd.l0] at h
 | k + 1 => by
  have ih0 := laws_toCrowd.mono_l k
  ·intro y0 y1 y2
   unfold laws_toCrowd.l0
   repeat' first
   | (with_reducible exact ih0 _ _ _)
   | (with_reducible exact laws_toUint16A10.mono _ _)
   | (with_reducible exact LeO.refl _)
   | (with_reducible exact LeO.none _)
   | (with_reducible refine LeO.ite ?_ ?_)
   | (with_reducible refine LeO.bind ?_ (fun _ => ?_))
   | exact ih0 _ _ _
   | exact laws_toUint16A10.mono _ _
   | exact LeO.none _
   | refine LeO.ite ?_ ?_
   | refine LeO.bind ?_ (fun _ => ?_)
theorem laws_toCrowd.mono : ∀ a0 k, LeO (laws_toCrowd.f k a0) (laws_toCrowd.f (k + 1) a0) := by
 intro a0 k
 have ih0 := laws_toCrowd.mono_l k
 unfold laws_toCrowd.f
 repeat' first
   | (with_reducible exact ih0 _ _ _)
   | (with_reducible exact laws_toUint16A10.mono _ _)
   | (with_reducible exact LeO.refl _)
   | (with_reducible exact LeO.none _)
   | (with_reducible refine LeO.ite ?_ ?_)
   | (with_reducible refine LeO.bind ?_ (fun _ => ?_))
   | exact ih0 _ _ _
   | exact laws_toUint16A10.mono _ _
   | exact LeO.none _
   | refine LeO.ite ?_ ?_
   | refine LeO.bind ?_ (fun _ => ?_)
set_option maxHeartbeats 8000000 in
set_option maxRecDepth 100000 in
theorem laws_toCrowd.calls (k : Nat) (a0 : LA 40) (r : LA 40) (w : World) (h : laws_toCrowd.f k a0 = some r) :
  Calls Tryd.prog 12 #[.agg (mixA (Value.int .u16) [] a0)] w fun e w' => e = .returned (.agg (mixA (Value.int .u16) [] r)) ∧ Below w.heap.size w w' := by
 have HB := Aside0.mk (Below.refl w.heap.size w)
 have H : (laws_toCrowd.l0 k 0 a0 (LA.zero 40)) = some r := h
 clear h
 have H' := Aside0.mk H
 clear H
 go_enter Tryd.func12, Tryd.ntmps12
 go_wp2_with (first | ((with_reducible refine gate_dst (N := 1) rfl ?_); refine box_event ?hg (N := 1) ?hd (cs := (mixA (Value.int .u16) [] a0)) (t := 27) ?hr ?_; (case hd => rfl); (case hg => rfl); (case hr => first | (go_simp; done) | (go_simp; rfl)); intro gb169 hg w2 hbox hb; have n0_ := bst HB hb; have n1_ := Aside0.mk (hbox); have n2_ := gwl HB hg; have n3_ := gwl HB hg; clear HB; have HB := n0_; have BK169 := n1_; have GW169 := n2_; have GE169 := n3_; clear n0_ n1_ n2_ n3_; clear hb hbox hg) | ((with_reducible refine gate_dst (N := 2) rfl ?_); refine box_event ?hg (N := 2) ?hd (cs := (mixA (Value.int .u16) [] (LA.zero 40))) (t := 28) ?hr ?_; (case hd => rfl); (case hg => rfl); (case hr => first | (go_simp; done) | (go_simp; rfl)); intro gb170 hg w3 hbox hb; have n0_ := bkb BK169 hb; have n1_ := bst HB hb; have n2_ := Aside0.mk (hbox); have n3_ := gwl HB hg; have n4_ := gwl HB hg; have n5_ := nbl BK169 hg; have n6_ := nbg BK169 hg; clear BK169; clear HB; have BK169 := n0_; have HB := n1_; have BK170 := n2_; have GW170 := n3_; have GE170 := n4_; have NB169_170 := n5_; have NB170_169 := n6_; clear n0_ n1_ n2_ n3_ n4_ n5_ n6_; clear hb hbox hg) | ((with_reducible refine gate_dst (N := 3) rfl ?_); refine box_event ?hg (N := 3) ?hd (cs := (mixA (Value.int .u16) [] (LA.zero 40))) (t := 28) ?hr ?_; (case hd => rfl); (case hg => rfl); (case hr => first | (go_simp; done) | (go_simp; rfl)); intro gb171 hg w4 hbox hb; have n0_ := bkb BK169 hb; have n1_ := bkb BK170 hb; have n2_ := bst HB hb; have n3_ := Aside0.mk (hbox); have n4_ := gwl HB hg; have n5_ := gwl HB hg; have n6_ := nbl BK169 hg; have n7_ := nbg BK169 hg; have n8_ := nbl BK170 hg; have n9_ := nbg BK170 hg; clear BK169; clear BK170; clear HB; have BK169 := n0_; have BK170 := n1_; have HB := n2_; have BK171 := n3_; have GW171 := n4_; have GE171 := n5_; have NB169_171 := n6_; have NB171_169 := n7_; have NB170_171 := n8_; have NB171_170 := n9_; clear n0_ n1_ n2_ n3_ n4_ n5_ n6_ n7_ n8_ n9_; clear hb hbox hg))
 go_loopg [4] k (fun kq v4 w' => ∃ (x4_1 : Int) (x172000_1 : LA 40), v4 = .int .i64 x4_1 ∧ Aside0 (laws_toCrowd.l0 kq x4_1 a0 x172000_1 = some r) ∧ Aside0 (kq ≤ k) ∧ Aside0 (w'.heap[gb169]? = some (.cells (mixA (Value.int .u16) [] a0) 27 (0, 0))) ∧ Aside0 (w'.heap[gb170]? = some (.cells (mixA (Value.int .u16) [] (LA.zero 40)) 28 (0, 0))) ∧ Aside0 (w'.heap[gb171]? = some (.cells (mixA (Value.int .u16) [] x172000_1) 28 (0, 0))) ∧ Aside0 (Below w.heap.size w w'))
 case atStart => exact ⟨(0), ((LA.zero 40)), (by first | rfl | (simp; done) | (simp [*]; done)), H', ⟨Nat.le_refl _⟩, ⟨pk BK169⟩, ⟨pk BK170⟩, ⟨pk BK171⟩, ⟨pbs HB⟩⟩
 case round =>
  clear H'
  try clear c1
  try clear p2
  obtain ⟨x4_1, x172000_1, rfl, HA, HK1, BK169, BK170, BK171, HB⟩ := hrel
  cases gk with
  | zero => exact absurd HA.out (by simp [laws_toCrowd.l0])
  | succ k1 =>
   have H := HA.out
   clear HA
   simp only [laws_toCrowd.l0] at H
   by_cases c5 : x4_1 < 4
   ·rw [if_pos c5] at H
    have c5b0 : decide (x4_1 < 4) = true := decide_eq_true c5
    clear c5
    by_cases c6 : 0 ≤ x4_1
    ·rw [if_pos c6] at H
     have c6b0 : decide (0 ≤ x4_1) = true := decide_eq_true c6
     clear c6
     replace H := Option.bind_eq_some_iff.mp H
     obtain ⟨t172, A70, H⟩ := H
     replace H : (laws_toCrowd.l0 k1 (wrap64 (x4_1 + 1)) a0 (LA.setRow x172000_1 10 x4_1 t172)) = some r := H
     have A7 := Aside0.mk A70
     clear A70
     have H' := Aside0.mk H
     clear H
     have hpd8 : (0 ≤ x4_1) = True := eq_true (by first | omega | exact of_decide_eq_true (by first | (with_reducible assumption) | assumption))
     have hqd8 : (x4_1 < 4) = True := eq_true (by first | omega | exact of_decide_eq_true (by first | (with_reducible assumption) | assumption))
     have hrd8 : (x4_1 < ((4 : Nat) : Int)) = True := eq_true (by first | omega | exact of_decide_eq_true (by first | (with_reducible assumption) | assumption))
     go_wp2_with (first | ((with_reducible refine gate_dst (N := 12) rfl ?_); refine wpList_run0 (v := .agg (mixA (Value.int .u16) [] (LA.row a0 10 x4_1))) rfl (load_arr_run (P := Tryd.prog) 24 (.tmp 11) rfl gb169 (x4_1.toNat * 10) rfl (show World.rangeAt _ gb169 (x4_1.toNat * 10) ((LA.row a0 10 x4_1).l.map (Value.int .u16)) from mix_range_rowz 10 (show (World.heap _)[gb169]? = some (.cells (mixA (Value.int .u16) [] a0) 27 (0, 0)) from by (with_reducible repeat (first | refine blk_drewN ?_ _ | refine blk_drew ?_ | refine blk_alloc ?_ _)); exact BK169.out) x4_1 (of_eq_true hpd8) (by have := of_eq_true hqd8; omega)) Tryd.underlying24 rfl (by kernel_rfl)) ?_) | ((with_reducible refine gate_callee (f := 25) rfl ?_); refine goesL_ (some 13) rfl rfl Tryd.func25 (by kernel_rfl) rfl #[.agg (mixA (Value.int .u16) [] (LA.row a0 10 x4_1))] rfl (by (try simp only [List.map_toArray, List.map_cons, List.map_nil]); first | done | rfl | (simp only [List.length_drop, List.length_take]; rfl)) ?_; (with_reducible refine (laws_toUint16A10.calls k1 (LA.row a0 10 x4_1) t172 _ A7.out).mono ?_); rintro e w9 ⟨rfl, hb⟩; refine ⟨_, rfl, ?_⟩; have n0_ := bkb BK169 hb; have n1_ := bkb BK170 hb; have n2_ := bkb BK171 hb; have n3_ := bst HB hb; clear BK169; clear BK170; clear BK171; clear HB; have BK169 := n0_; have BK170 := n1_; have BK171 := n2_; have HB := n3_; clear n0_ n1_ n2_ n3_; (try clear hb); (try clear hb2); (try clear hk); (try clear hi); have hpd10 : (0 ≤ x4_1) = True := eq_true (by first | omega | exact of_decide_eq_true (by first | (with_reducible assumption) | assumption)); have hqd10 : (x4_1 < 4) = True := eq_true (by first | omega | exact of_decide_eq_true (by first | (with_reducible assumption) | assumption)); have hrd10 : (x4_1 < ((4 : Nat) : Int)) = True := eq_true (by first | omega | exact of_decide_eq_true (by first | (with_reducible assumption) | assumption))) | ((with_reducible refine gate_store (p := 14) rfl ?_); refine wpList_store_lrow rfl 24 _ _ rfl gb171 10 x4_1 (e := (Value.int .u16)) (R := t172) (W := x172000_1) (T := 28) rfl rfl (pk BK171) (of_eq_true hpd10) (by have := of_eq_true hqd10; omega) (by kernel_rfl) (fun _ => rfl) ?_; intro w11 hi hk hbl; have n0_ := Aside0.mk (KeepBut.blk hk (g' := gb169) (o := .cells (mixA (Value.int .u16) [] a0) 27 (0, 0)) (pk BK169) NB169_171.out (by simp)); have n1_ := Aside0.mk (KeepBut.blk hk (g' := gb170) (o := .cells (mixA (Value.int .u16) [] (LA.zero 40)) 28 (0, 0)) (pk BK170) NB170_171.out (by simp)); have n2_ := Aside0.mk (hbl _ _ (pbs HB) GE171.out); have n3_ := Aside0.mk (hi); clear BK169; clear BK170; clear HB; clear BK171; have BK169 := n0_; have BK170 := n1_; have HB := n2_; have BK171 := n3_; clear n0_ n1_ n2_ n3_; clear hi hk hbl))
     go_roundg k1
     case measure => have := HK1.out; omega
     case rel => exact ⟨(wrap64 (x4_1 + 1)), ((LA.setRow x172000_1 10 x4_1 t172)), (by first | rfl | (simp; done) | (simp [*]; done)), H', ⟨by have := HK1.out; omega⟩, ⟨pk BK169⟩, ⟨pk BK170⟩, ⟨pk BK171⟩, ⟨pbs HB⟩⟩
    ·rw [if_neg c6] at H
     exact absurd H (by simp)
   ·rw [if_neg c5] at H
    have c5b0 : decide (x4_1 < 4) = false := decide_eq_false c5
    clear c5
    obtain rfl := Option.some.inj H
    go_wp2_with (first | ((with_reducible refine gate_dst (N := 15) rfl ?_); refine wpList_run0 (v := .agg (mixA (Value.int .u16) [] x172000_1)) rfl (load_mix_run (P := Tryd.prog) 28 (.tmp 3) rfl gb171 rfl (show World.rangeAt _ gb171 0 ([] ++ x172000_1.l.map (Value.int .u16)) from mix_range (show (World.heap _)[gb171]? = some (.cells (mixA (Value.int .u16) [] x172000_1) 28 (0, 0)) from by (with_reducible repeat (first | refine blk_drewN ?_ _ | refine blk_drew ?_ | refine blk_alloc ?_ _)); exact BK171.out)) Tryd.underlying28 rfl (by kernel_rfl) rfl) ?_) | ((with_reducible refine gate_store (p := 2) rfl ?_); refine wpList_store_lmix rfl 28 _ _ rfl gb170 (e := (Value.int .u16)) (cs' := []) (W' := x172000_1) (cs := []) (W := (LA.zero 40)) (T := 28) rfl rfl (pk BK170) rfl (by kernel_rfl) rfl (fun _ => rfl) rfl ?_; intro w13 hi hk hbl; have n0_ := Aside0.mk (KeepBut.blk hk (g' := gb169) (o := .cells (mixA (Value.int .u16) [] a0) 27 (0, 0)) (pk BK169) NB169_170.out (by simp)); have n1_ := Aside0.mk (KeepBut.blk hk (g' := gb171) (o := .cells (mixA (Value.int .u16) [] x172000_1) 28 (0, 0)) (pk BK171) NB171_170.out (by simp)); have n2_ := Aside0.mk (hbl _ _ (pbs HB) GE170.out); have n3_ := Aside0.mk (hi); clear BK169; clear BK171; clear HB; clear BK170; have BK169 := n0_; have BK171 := n1_; have HB := n2_; have BK170 := n3_; clear n0_ n1_ n2_ n3_; clear hi hk hbl))
    refine bodyPost_ret (results_cell_row rfl _ _ gb170 28 (mixA (Value.int .u16) [] x172000_1) (0, 0) _ rfl (pk BK170) Tryd.underlying28 rfl (by rw [mix_size]; kernel_rfl)) rfl ?_
    exact ⟨by first | rfl | (simp [errW_none, errW_some] <;> rfl) | (simp [*, errW_none, errW_some] <;> rfl), pbs HB⟩
end Go.Proofs.YtdedijjbdkoekaaDoor.PB
end
section
namespace Go.Proofs.YtdedijjbdkoekaaDoor.PB
open Go.RowKit Go.Proofs.YtdedijjbdkoekaaDoorW.PrintWords Go.Proofs.YtdedijjbdkoekaaDoorW.PrintLast Go.Proofs.YtdedijjbdkoekaaDoorW.PrintMore Go.Proofs.YtdedijjbdkoekaaDoor.La
attribute [local go_sem] max2_int min2_int max_two min_two max_three min_three max_four min_four   -- for this text's walks alone
set_option linter.unusedVariables false
set_option linter.unusedSimpArgs false
def laws_FnExactMoveCrowd.f (k : Nat) (a0_0 : Int) (a0_1 : Int) (a0_2 : LA 10) (a1 : LA 40) (a2 : Int) : Option (Bool) := (laws_toRoom.f k a0_0 a0_1 a0_2).bind fun bt254 => ((laws_toCrowd.f k a1).bind fun t257 => ((spec_MoveCrowd.f k bt254.1 bt254.2.1 bt254.2.2 t257 a2).bind fun bt258 => ((laws_toRoom.f k a0_0 a0_1 a0_2).bind fun bt261 => ((laws_toCrowd.f k a1).bind fun t264 => ((impl_MoveCrowd.f k bt261.1 bt261.2.1 bt261.2.2 t264 a2).bind fun bt265 => ((laws_eqCrowd.f k bt265.1 bt258.1).bind fun t268 => (if t268 = true then (if bt265.2 = bt258.2 then (some true) else (some false)) else (some false))))))))
theorem laws_FnExactMoveCrowd.mono : ∀ a0 a1 a2 a3 a4 k, LeO (laws_FnExactMoveCrowd.f k a0 a1 a2 a3 a4) (laws_FnExactMoveCrowd.f (k + 1) a0 a1 a2 a3 a4) := by
 intro a0 a1 a2 a3 a4 k
 unfold laws_FnExactMoveCrowd.f
 repeat' first
   | (with_reducible exact impl_MoveCrowd.mono _ _ _ _ _ _)
   | (with_reducible exact laws_eqCrowd.mono _ _ _)
   | (with_reducible exact laws_toCrowd.mono _ _)
   | (with_reducible exact laws_toRoom.mono _ _ _ _)
   | (with_reducible exact spec_MoveCrowd.mono _ _ _ _ _ _)
   | (with_reducible exact LeO.refl _)
   | (with_reducible exact LeO.none _)
   | (with_reducible refine LeO.ite ?_ ?_)
   | (with_reducible refine LeO.bind ?_ (fun _ => ?_))
   | exact impl_MoveCrowd.mono _ _ _ _ _ _
   | exact laws_eqCrowd.mono _ _ _
   | exact laws_toCrowd.mono _ _
   | exact laws_toRoom.mono _ _ _ _
   | exact spec_MoveCrowd.mono _ _ _ _ _ _
   | exact LeO.none _
   | refine LeO.ite ?_ ?_
   | refine LeO.bind ?_ (fun _ => ?_)
def laws_FnExactMoveCrowd.T1 : Bool × List (List Nat × List Nat) := (true, [([], []), ([0], [0]), ([], []), ([2, 1], [2]), ([], []), ([1, 3, 4, 3], [1, 3, 4]), ([5], [5]), ([6], [6]), ([6], [6]), ([], []), ([9, 7, 5, 0, 1, 2, 3, 4, 5, 6, 7, 9], [7, 9]), ([8, 10, 0, 1, 2, 3, 4, 5, 6, 7, 8, 9, 10], [8])])
def laws_FnExactMoveCrowd.B1 : List Nat := [0, 1, 0, 7, 0, 31, 63, 127, 127, 0, 767, 2047]
theorem laws_FnExactMoveCrowd.tab1 : rtab .any (opsOf Tryd.f4 1) = laws_FnExactMoveCrowd.T1 := by kernel_rfl
theorem laws_FnExactMoveCrowd.bits1 : waitsOk laws_FnExactMoveCrowd.T1.2 laws_FnExactMoveCrowd.B1 = true := by kernel_rfl
def laws_FnExactMoveCrowd.T2 : Bool × List (List Nat × List Nat) := (true, [([], []), ([0], [0]), ([], []), ([2, 1], [2]), ([], []), ([1, 3, 4, 3], [1, 3, 4]), ([5], [5]), ([6], [6]), ([6], [6]), ([], []), ([9, 7, 5, 0, 1, 2, 3, 4, 5, 6, 7, 9], [7, 9]), ([8, 10, 0, 1, 2, 3, 4, 5, 6, 7, 8, 9, 10], [8])])
def laws_FnExactMoveCrowd.B2 : List Nat := [0, 1, 0, 7, 0, 31, 63, 127, 127, 0, 767, 2047]
theorem laws_FnExactMoveCrowd.tab2 : rtab .any (opsOf Tryd.f4 2) = laws_FnExactMoveCrowd.T2 := by kernel_rfl
theorem laws_FnExactMoveCrowd.bits2 : waitsOk laws_FnExactMoveCrowd.T2.2 laws_FnExactMoveCrowd.B2 = true := by kernel_rfl
set_option maxHeartbeats 8000000 in
set_option maxRecDepth 100000 in
theorem laws_FnExactMoveCrowd.calls (k : Nat) (a0_0 : Int) (a0_1 : Int) (a0_2 : LA 10) (a1 : LA 40) (a2 : Int) (r : Bool) (w : World) (h : laws_FnExactMoveCrowd.f k a0_0 a0_1 a0_2 a1 a2 = some r) :
  Calls Tryd.prog 4 #[.agg (mixA (Value.int .u16) [.int .i8 a0_0, .int .i8 a0_1] a0_2), .agg (mixA (Value.int .u16) [] a1), .int .u8 a2] w fun e w' => e = .returned (.bool r) ∧ Below w.heap.size w w' := by
 have hu26 := Tryd.underlying26
 have HB := Aside0.mk (Below.refl w.heap.size w)
 have H : ((laws_toRoom.f k a0_0 a0_1 a0_2).bind fun bt254 => ((laws_toCrowd.f k a1).bind fun t257 => ((spec_MoveCrowd.f k bt254.1 bt254.2.1 bt254.2.2 t257 a2).bind fun bt258 => ((laws_toRoom.f k a0_0 a0_1 a0_2).bind fun bt261 => ((laws_toCrowd.f k a1).bind fun t264 => ((impl_MoveCrowd.f k bt261.1 bt261.2.1 bt261.2.2 t264 a2).bind fun bt265 => ((laws_eqCrowd.f k bt265.1 bt258.1).bind fun t268 => (if t268 = true then (if bt265.2 = bt258.2 then (some true) else (some false)) else (some false))))))))) = some r := h
 clear h
 replace H := Option.bind_eq_some_iff.mp H
 obtain ⟨⟨t254, t255, t256⟩, A40, H⟩ := H
 replace H : ((laws_toCrowd.f k a1).bind fun t257 => ((spec_MoveCrowd.f k t254 t255 t256 t257 a2).bind fun bt258 => ((laws_toRoom.f k a0_0 a0_1 a0_2).bind fun bt261 => ((laws_toCrowd.f k a1).bind fun t264 => ((impl_MoveCrowd.f k bt261.1 bt261.2.1 bt261.2.2 t264 a2).bind fun bt265 => ((laws_eqCrowd.f k bt265.1 bt258.1).bind fun t268 => (if t268 = true then (if bt265.2 = bt258.2 then (some true) else (some false)) else (some false)))))))) = some r := H
 have A4 := Aside0.mk A40
 clear A40
 replace H := Option.bind_eq_some_iff.mp H
 obtain ⟨t257, A50, H⟩ := H
 replace H : ((spec_MoveCrowd.f k t254 t255 t256 t257 a2).bind fun bt258 => ((laws_toRoom.f k a0_0 a0_1 a0_2).bind fun bt261 => ((laws_toCrowd.f k a1).bind fun t264 => ((impl_MoveCrowd.f k bt261.1 bt261.2.1 bt261.2.2 t264 a2).bind fun bt265 => ((laws_eqCrowd.f k bt265.1 bt258.1).bind fun t268 => (if t268 = true then (if bt265.2 = bt258.2 then (some true) else (some false)) else (some false))))))) = some r := H
 have A5 := Aside0.mk A50
 clear A50
 replace H := Option.bind_eq_some_iff.mp H
 obtain ⟨⟨t258, t259⟩, A60, H⟩ := H
 replace H : ((laws_toRoom.f k a0_0 a0_1 a0_2).bind fun bt261 => ((laws_toCrowd.f k a1).bind fun t264 => ((impl_MoveCrowd.f k bt261.1 bt261.2.1 bt261.2.2 t264 a2).bind fun bt265 => ((laws_eqCrowd.f k bt265.1 t258).bind fun t268 => (if t268 = true then (if bt265.2 = t259 then (some true) else (some false)) else (some false)))))) = some r := H
 have A6 := Aside0.mk A60
 clear A60
 replace H := Option.bind_eq_some_iff.mp H
 obtain ⟨⟨t261, t262, t263⟩, A70, H⟩ := H
 replace H : ((laws_toCrowd.f k a1).bind fun t264 => ((impl_MoveCrowd.f k t261 t262 t263 t264 a2).bind fun bt265 => ((laws_eqCrowd.f k bt265.1 t258).bind fun t268 => (if t268 = true then (if bt265.2 = t259 then (some true) else (some false)) else (some false))))) = some r := H
 have A7 := Aside0.mk A70
 clear A70
 replace H := Option.bind_eq_some_iff.mp H
 obtain ⟨t264, A80, H⟩ := H
 replace H : ((impl_MoveCrowd.f k t261 t262 t263 t264 a2).bind fun bt265 => ((laws_eqCrowd.f k bt265.1 t258).bind fun t268 => (if t268 = true then (if bt265.2 = t259 then (some true) else (some false)) else (some false)))) = some r := H
 have A8 := Aside0.mk A80
 clear A80
 replace H := Option.bind_eq_some_iff.mp H
 obtain ⟨⟨t265, t266⟩, A90, H⟩ := H
 replace H : ((laws_eqCrowd.f k t265 t258).bind fun t268 => (if t268 = true then (if t266 = t259 then (some true) else (some false)) else (some false))) = some r := H
 have A9 := Aside0.mk A90
 clear A90
 replace H := Option.bind_eq_some_iff.mp H
 obtain ⟨t268, A100, H⟩ := H
 replace H : (if t268 = true then (if t266 = t259 then (some true) else (some false)) else (some false)) = some r := H
 have A10 := Aside0.mk A100
 clear A100
 by_cases c11 : t268 = true
 ·subst c11
  have H1 : (if t266 = t259 then (some true) else (some false)) = some r := by rw [if_pos rfl] at H; exact H
  clear H
  have H := H1
  clear H1
  by_cases c12 : t266 = t259
  ·rw [if_pos c12] at H
   have c12b0 : (t266 == t259) = true := beq_iff_eq.mpr c12
   have c12b1 : (t266 != t259) = false := bne_eq_false_iff_eq.mpr c12
   clear c12
   obtain rfl := Option.some.inj H
   go_enter Tryd.func4, Tryd.ntmps4
   try go_wp2_with (first | ((with_reducible refine gate_dst (N := 3) rfl ?_); refine box_event ?hg (N := 3) ?hd (cs := (mixA (Value.int .u16) [.int .i8 a0_0, .int .i8 a0_1] a0_2)) (t := 26) ?hr ?_; (case hd => rfl); (case hg => rfl); (case hr => first | (go_simp; done) | (go_simp; rfl)); intro gb252 hg w13 hbox hb; have n0_ := bst HB hb; have n1_ := Aside0.mk (hbox); have n2_ := gwl HB hg; have n3_ := gwl HB hg; clear HB; have HB := n0_; have BK252 := n1_; have GW252 := n2_; have GE252 := n3_; clear n0_ n1_ n2_ n3_; clear hb hbox hg) | ((with_reducible refine gate_dst (N := 4) rfl ?_); refine box_event ?hg (N := 4) ?hd (cs := (mixA (Value.int .u16) [] a1)) (t := 27) ?hr ?_; (case hd => rfl); (case hg => rfl); (case hr => first | (go_simp; done) | (go_simp; rfl)); intro gb253 hg w14 hbox hb; have n0_ := bkb BK252 hb; have n1_ := bst HB hb; have n2_ := Aside0.mk (hbox); have n3_ := gwl HB hg; have n4_ := gwl HB hg; have n5_ := nbl BK252 hg; have n6_ := nbg BK252 hg; clear BK252; clear HB; have BK252 := n0_; have HB := n1_; have BK253 := n2_; have GW253 := n3_; have GE253 := n4_; have NB252_253 := n5_; have NB253_252 := n6_; clear n0_ n1_ n2_ n3_ n4_ n5_ n6_; clear hb hbox hg))
   have n0_ := Aside0.mk (blk_drew BK252.out)
   have n1_ := Aside0.mk (blk_drew BK253.out)
   have n2_ := Aside0.mk (below_drew1 HB.out)
   clear BK252
   clear BK253
   clear HB
   have BK252 := n0_
   have BK253 := n1_
   have HB := n2_
   clear n0_ n1_ n2_
   refine start_ (n := 12) (S := fun w' => True) (ds := []) #[false, false, false, false, false, false, false, false, false, false, false, false] (by kernel_rfl) rfl rfl trivial (fun hHeld => ?_); refine with_tabW laws_FnExactMoveCrowd.tab1 laws_FnExactMoveCrowd.bits1 (fun HT_ HW_ => ?_)
   generalize w14.drew = w15 at BK252 BK253 HB hHeld ⊢
   refine pure_ (i := 4) (N := some 16) (v := ?_) (a' := ?_) #[false, false, false, false, true, false, false, false, false, false, false, false] rfl rfl (any_of HT_.out (by kernel_rfl)) (fun _ _ _ h => h) (Or.inl ⟨by rfl, ?_⟩) ?_ ?_
   rotate_left
   ·intro w'
    go_simp
    with_reducible rfl
   rotate_left
   ·simp only [Act.put, List.setIfInBounds_toArray, List.set_cons_zero, List.set_cons_succ, i64_w, i32_w]
    rfl
   refine inv_at [0, 1, 2, 3, 5, 6, 7, 8, 9, 10, 11] (fun a0_ b a w' => ∃ (gb260 : Nat) (m9_ : Value), a = putSel a0_ b [(0, 12, .agg (mixA (Value.int .u16) [.int .i8 a0_0, .int .i8 a0_1] a0_2)), (1, 13, .agg (mixA (Value.int .u16) [.int .i8 t254, .int .i8 t255] t256)), (2, 14, .agg (mixA (Value.int .u16) [] a1)), (3, 15, .agg (mixA (Value.int .u16) [] t257)), (5, 17, .tuple #[.agg (mixA (Value.int .u16) [] t258), .int .i64 t259]), (6, 11, .tuple #[.agg (mixA (Value.int .u16) [] t258), .int .i64 t259]), (7, 18, .agg (mixA (Value.int .u16) [] t258)), (8, 19, .int .i64 t259), (9, 7, m9_), (11, 8, .int .i64 t259)] ∧ (w'.heap[gb252]? = some (.cells (mixA (Value.int .u16) [.int .i8 a0_0, .int .i8 a0_1] a0_2) 26 (0, 0))) ∧ (w'.heap[gb253]? = some (.cells (mixA (Value.int .u16) [] a1) 27 (0, 0))) ∧ (Below w.heap.size w w') ∧ (b 9 = true → b 10 = false → w'.heap[gb260]? = some (.cells (mixA (Value.int .u16) [] (LA.zero 40)) 28 (0, 0))) ∧ (b 9 = true → w.heap.size ≤ gb260) ∧ (b 9 = true → w.heap.size ≤ gb260) ∧ (b 9 = true → gb252 ≠ gb260) ∧ (b 9 = true → gb260 ≠ gb252) ∧ (b 9 = true → gb253 ≠ gb260) ∧ (b 9 = true → gb260 ≠ gb253) ∧ (b 10 = true → w'.heap[gb260]? = some (.cells (mixA (Value.int .u16) [] t258) 28 (0, 0))) ∧ (b 9 = true → (m9_ : Value) = .pointer (some ⟨gb260, 0, none⟩))) HT_.out HW_.out (by kernel_rfl) (by kernel_rfl) ?_ ?_ ?_
   ·exact ⟨0, .bool false, by simp only [putSel, Bool.false_eq_true, if_false], BK252.out, BK253.out, HB.out, fun h_ => absurd h_ (by decide), fun h_ => absurd h_ (by decide), fun h_ => absurd h_ (by decide), fun h_ => absurd h_ (by decide), fun h_ => absurd h_ (by decide), fun h_ => absurd h_ (by decide), fun h_ => absurd h_ (by decide), fun h_ => absurd h_ (by decide), fun h_ => absurd h_ (by decide)⟩
   ·skip
    clear BK252 BK253 HB
    refine steps_cons ?_ ?_
    ·rintro b a w' ⟨gb260, m9_, ha, Q_BK252, Q_BK253, Q_HB, Q_BK260, Q_GW260, Q_GE260, Q_NB252_260, Q_NB260_252, Q_NB253_260, Q_NB260_253, Q_BK260_e10, Q_X9_⟩ hb_ hon hoff
     refine ⟨_, rfl, fun K hK => ?_⟩
     have e3 : a.tmps[3]? = some (.pointer (some ⟨gb252, 0, none⟩)) := by rw [ha]; exact (putSel_off rfl).trans rfl
     replace ha := Aside0.mk ha
     have BK252 := Aside0.mk Q_BK252
     have BK253 := Aside0.mk Q_BK253
     have HB := Aside0.mk Q_HB
     have hL_ : World.rangeAt w' gb252 0 ([.int .i8 a0_0, .int .i8 a0_1] ++ a0_2.l.map (Value.int .u16)) := mix_range BK252.out
     refine value_ (w1 := w') (v := .agg (mixA (Value.int .u16) [.int .i8 a0_0, .int .i8 a0_1] a0_2)) (by rfl) rfl ?_ ?_
     ·exact load_mix_run (P := Tryd.prog) 26 (.tmp 3) rfl gb252 (by simp only [Act.eval, Array.getD_eq_getD_getElem?, e3, Option.getD_some]) hL_ Tryd.underlying26 rfl (by kernel_rfl) rfl
     refine hK.out _ _ ⟨gb260, m9_, (by rw [ha.out]; exact putSel_upk 0 hb_ rfl rfl rfl), Q_BK252, Q_BK253, Q_HB, Q_BK260, Q_GW260, Q_GE260, Q_NB252_260, Q_NB260_252, Q_NB253_260, Q_NB260_253, fun h0_ => absurd ((hoff 10 (by kernel_rfl)).symm.trans h0_) (by decide), Q_X9_⟩
    refine steps_cons ?_ ?_
    ·rintro b a w' ⟨gb260, m9_, ha, Q_BK252, Q_BK253, Q_HB, Q_BK260, Q_GW260, Q_GE260, Q_NB252_260, Q_NB260_252, Q_NB253_260, Q_NB260_253, Q_BK260_e10, Q_X9_⟩ hb_ hon hoff
     refine ⟨_, rfl, fun K hK => ?_⟩
     have e12 : a.tmps[12]? = some (.agg (mixA (Value.int .u16) [.int .i8 a0_0, .int .i8 a0_1] a0_2)) := by rw [ha]; exact putSel_on (e := (0, 12, .agg (mixA (Value.int .u16) [.int .i8 a0_0, .int .i8 a0_1] a0_2))) 0 rfl rfl (hon 0 (by kernel_rfl)) rfl
     replace ha := Aside0.mk ha
     have BK252 := Aside0.mk Q_BK252
     have BK253 := Aside0.mk Q_BK253
     have HB := Aside0.mk Q_HB
     refine goes_ Tryd.func8 (by kernel_rfl) rfl #[.agg (mixA (Value.int .u16) [.int .i8 a0_0, .int .i8 a0_1] a0_2)] (by rfl) rfl rfl (by first | (simp only [List.map_toArray, List.map_cons, List.map_nil, Act.eval, Array.getD_eq_getD_getElem?, Option.getD_some, e12]; done) | (simp only [List.map_toArray, List.map_cons, List.map_nil, Act.eval, Array.getD_eq_getD_getElem?, Option.getD_some, e12]; rfl)) ?_
     with_reducible refine (laws_toRoom.calls k a0_0 a0_1 a0_2 t254 t255 t256 _ A4.out).mono ?_
     rintro e w16 ⟨rfl, hb⟩
     refine ⟨_, rfl, ?_⟩
     have n0_ := bkb BK252 hb
     have n1_ := bkb BK253 hb
     have n2_ := bst HB hb
     have z_BK260 := fun (h0_ : b 9 = true) (h1_ : b 10 = false) => (show w16.heap[gb260]? = some (.cells (mixA (Value.int .u16) [] (LA.zero 40)) 28 (0, 0)) from by first | exact (blk_below (g := gb260) (o := .cells (mixA (Value.int .u16) [] (LA.zero 40)) 28 (0, 0)) (by (with_reducible repeat (first | refine blk_drewN ?_ _ | refine blk_drew ?_ | refine blk_alloc ?_ _)); exact (Q_BK260 h0_ h1_)) hb))
     clear BK252
     clear BK253
     clear HB
     have BK252 := n0_
     have BK253 := n1_
     have HB := n2_
     clear n0_ n1_ n2_
     (try clear hb)
     (try clear hb2)
     (try clear hk)
     (try clear hi)
     refine hK.out _ _ ⟨gb260, m9_, (by rw [ha.out]; exact putSel_upk 1 hb_ rfl rfl rfl), (pk BK252), (pk BK253), (pbs HB), z_BK260, Q_GW260, Q_GE260, Q_NB252_260, Q_NB260_252, Q_NB253_260, Q_NB260_253, fun h0_ => absurd ((hoff 10 (by kernel_rfl)).symm.trans h0_) (by decide), Q_X9_⟩
    refine steps_cons ?_ ?_
    ·rintro b a w' ⟨gb260, m9_, ha, Q_BK252, Q_BK253, Q_HB, Q_BK260, Q_GW260, Q_GE260, Q_NB252_260, Q_NB260_252, Q_NB253_260, Q_NB260_253, Q_BK260_e10, Q_X9_⟩ hb_ hon hoff
     refine ⟨_, rfl, fun K hK => ?_⟩
     have e4 : a.tmps[4]? = some (.pointer (some ⟨gb253, 0, none⟩)) := by rw [ha]; exact (putSel_off rfl).trans rfl
     replace ha := Aside0.mk ha
     have BK252 := Aside0.mk Q_BK252
     have BK253 := Aside0.mk Q_BK253
     have HB := Aside0.mk Q_HB
     have hL_ : World.rangeAt w' gb253 0 ([] ++ a1.l.map (Value.int .u16)) := mix_range BK253.out
     refine value_ (w1 := w') (v := .agg (mixA (Value.int .u16) [] a1)) (by rfl) rfl ?_ ?_
     ·exact load_mix_run (P := Tryd.prog) 27 (.tmp 4) rfl gb253 (by simp only [Act.eval, Array.getD_eq_getD_getElem?, e4, Option.getD_some]) hL_ Tryd.underlying27 rfl (by kernel_rfl) rfl
     refine hK.out _ _ ⟨gb260, m9_, (by rw [ha.out]; exact putSel_upk 2 hb_ rfl rfl rfl), Q_BK252, Q_BK253, Q_HB, Q_BK260, Q_GW260, Q_GE260, Q_NB252_260, Q_NB260_252, Q_NB253_260, Q_NB260_253, fun h0_ => absurd ((hoff 10 (by kernel_rfl)).symm.trans h0_) (by decide), Q_X9_⟩
    refine steps_cons ?_ ?_
    ·rintro b a w' ⟨gb260, m9_, ha, Q_BK252, Q_BK253, Q_HB, Q_BK260, Q_GW260, Q_GE260, Q_NB252_260, Q_NB260_252, Q_NB253_260, Q_NB260_253, Q_BK260_e10, Q_X9_⟩ hb_ hon hoff
     refine ⟨_, rfl, fun K hK => ?_⟩
     have e14 : a.tmps[14]? = some (.agg (mixA (Value.int .u16) [] a1)) := by rw [ha]; exact putSel_on (e := (2, 14, .agg (mixA (Value.int .u16) [] a1))) 2 rfl rfl (hon 2 (by kernel_rfl)) rfl
     replace ha := Aside0.mk ha
     have BK252 := Aside0.mk Q_BK252
     have BK253 := Aside0.mk Q_BK253
     have HB := Aside0.mk Q_HB
     refine goes_ Tryd.func12 (by kernel_rfl) rfl #[.agg (mixA (Value.int .u16) [] a1)] (by rfl) rfl rfl (by first | (simp only [List.map_toArray, List.map_cons, List.map_nil, Act.eval, Array.getD_eq_getD_getElem?, Option.getD_some, e14]; done) | (simp only [List.map_toArray, List.map_cons, List.map_nil, Act.eval, Array.getD_eq_getD_getElem?, Option.getD_some, e14]; rfl)) ?_
     with_reducible refine (laws_toCrowd.calls k a1 t257 _ A5.out).mono ?_
     rintro e w18 ⟨rfl, hb⟩
     refine ⟨_, rfl, ?_⟩
     have n0_ := bkb BK252 hb
     have n1_ := bkb BK253 hb
     have n2_ := bst HB hb
     have z_BK260 := fun (h0_ : b 9 = true) (h1_ : b 10 = false) => (show w18.heap[gb260]? = some (.cells (mixA (Value.int .u16) [] (LA.zero 40)) 28 (0, 0)) from by first | exact (blk_below (g := gb260) (o := .cells (mixA (Value.int .u16) [] (LA.zero 40)) 28 (0, 0)) (by (with_reducible repeat (first | refine blk_drewN ?_ _ | refine blk_drew ?_ | refine blk_alloc ?_ _)); exact (Q_BK260 h0_ h1_)) hb))
     clear BK252
     clear BK253
     clear HB
     have BK252 := n0_
     have BK253 := n1_
     have HB := n2_
     clear n0_ n1_ n2_
     (try clear hb)
     (try clear hb2)
     (try clear hk)
     (try clear hi)
     refine hK.out _ _ ⟨gb260, m9_, (by rw [ha.out]; exact putSel_upk 3 hb_ rfl rfl rfl), (pk BK252), (pk BK253), (pbs HB), z_BK260, Q_GW260, Q_GE260, Q_NB252_260, Q_NB260_252, Q_NB253_260, Q_NB260_253, fun h0_ => absurd ((hoff 10 (by kernel_rfl)).symm.trans h0_) (by decide), Q_X9_⟩
    refine steps_cons ?_ ?_
    ·rintro b a w' ⟨gb260, m9_, ha, Q_BK252, Q_BK253, Q_HB, Q_BK260, Q_GW260, Q_GE260, Q_NB252_260, Q_NB260_252, Q_NB253_260, Q_NB260_253, Q_BK260_e10, Q_X9_⟩ hb_ hon hoff
     refine ⟨_, rfl, fun K hK => ?_⟩
     have e13 : a.tmps[13]? = some (.agg (mixA (Value.int .u16) [.int .i8 t254, .int .i8 t255] t256)) := by rw [ha]; exact putSel_on (e := (1, 13, .agg (mixA (Value.int .u16) [.int .i8 t254, .int .i8 t255] t256))) 1 rfl rfl (hon 1 (by kernel_rfl)) rfl
     have e15 : a.tmps[15]? = some (.agg (mixA (Value.int .u16) [] t257)) := by rw [ha]; exact putSel_on (e := (3, 15, .agg (mixA (Value.int .u16) [] t257))) 3 rfl rfl (hon 3 (by kernel_rfl)) rfl
     have e16 : a.tmps[16]? = some (.int .u8 a2) := by rw [ha]; exact (putSel_off rfl).trans rfl
     replace ha := Aside0.mk ha
     have BK252 := Aside0.mk Q_BK252
     have BK253 := Aside0.mk Q_BK253
     have HB := Aside0.mk Q_HB
     refine goes_ Tryd.func11 (by kernel_rfl) rfl #[.agg (mixA (Value.int .u16) [.int .i8 t254, .int .i8 t255] t256), .agg (mixA (Value.int .u16) [] t257), .int .u8 a2] (by rfl) rfl rfl (by first | (simp only [List.map_toArray, List.map_cons, List.map_nil, Act.eval, Array.getD_eq_getD_getElem?, Option.getD_some, e13, e15, e16]; done) | (simp only [List.map_toArray, List.map_cons, List.map_nil, Act.eval, Array.getD_eq_getD_getElem?, Option.getD_some, e13, e15, e16]; rfl)) ?_
     with_reducible refine (spec_MoveCrowd.calls k t254 t255 t256 t257 a2 t258 t259 _ A6.out).mono ?_
     rintro e w19 ⟨rfl, hb⟩
     refine ⟨_, rfl, ?_⟩
     have n0_ := bkb BK252 hb
     have n1_ := bkb BK253 hb
     have n2_ := bst HB hb
     have z_BK260 := fun (h0_ : b 9 = true) (h1_ : b 10 = false) => (show w19.heap[gb260]? = some (.cells (mixA (Value.int .u16) [] (LA.zero 40)) 28 (0, 0)) from by first | exact (blk_below (g := gb260) (o := .cells (mixA (Value.int .u16) [] (LA.zero 40)) 28 (0, 0)) (by (with_reducible repeat (first | refine blk_drewN ?_ _ | refine blk_drew ?_ | refine blk_alloc ?_ _)); exact (Q_BK260 h0_ h1_)) hb))
     clear BK252
     clear BK253
     clear HB
     have BK252 := n0_
     have BK253 := n1_
     have HB := n2_
     clear n0_ n1_ n2_
     (try clear hb)
     (try clear hb2)
     (try clear hk)
     (try clear hi)
     refine hK.out _ _ ⟨gb260, m9_, (by rw [ha.out]; exact putSel_upk 4 hb_ rfl rfl rfl), (pk BK252), (pk BK253), (pbs HB), z_BK260, Q_GW260, Q_GE260, Q_NB252_260, Q_NB260_252, Q_NB253_260, Q_NB260_253, fun h0_ => absurd ((hoff 10 (by kernel_rfl)).symm.trans h0_) (by decide), Q_X9_⟩
    refine steps_cons ?_ ?_
    ·rintro b a w' ⟨gb260, m9_, ha, Q_BK252, Q_BK253, Q_HB, Q_BK260, Q_GW260, Q_GE260, Q_NB252_260, Q_NB260_252, Q_NB253_260, Q_NB260_253, Q_BK260_e10, Q_X9_⟩ hb_ hon hoff
     refine ⟨_, rfl, fun K hK => ?_⟩
     have e17 : a.tmps[17]? = some (.tuple #[.agg (mixA (Value.int .u16) [] t258), .int .i64 t259]) := by rw [ha]; exact putSel_on (e := (5, 17, .tuple #[.agg (mixA (Value.int .u16) [] t258), .int .i64 t259])) 4 rfl rfl (hon 5 (by kernel_rfl)) rfl
     replace ha := Aside0.mk ha
     have BK252 := Aside0.mk Q_BK252
     have BK253 := Aside0.mk Q_BK253
     have HB := Aside0.mk Q_HB
     refine value_ (w1 := w') (v := .tuple #[.agg (mixA (Value.int .u16) [] t258), .int .i64 t259]) (by rfl) rfl ?_ ?_
     ·go_simp
      (try simp only [i64_w])
      try rfl
     refine hK.out _ _ ⟨gb260, m9_, (by rw [ha.out]; exact putSel_upk 5 hb_ rfl rfl rfl), Q_BK252, Q_BK253, Q_HB, Q_BK260, Q_GW260, Q_GE260, Q_NB252_260, Q_NB260_252, Q_NB253_260, Q_NB260_253, fun h0_ => absurd ((hoff 10 (by kernel_rfl)).symm.trans h0_) (by decide), Q_X9_⟩
    refine steps_cons ?_ ?_
    ·rintro b a w' ⟨gb260, m9_, ha, Q_BK252, Q_BK253, Q_HB, Q_BK260, Q_GW260, Q_GE260, Q_NB252_260, Q_NB260_252, Q_NB253_260, Q_NB260_253, Q_BK260_e10, Q_X9_⟩ hb_ hon hoff
     refine ⟨_, rfl, fun K hK => ?_⟩
     have e11 : a.tmps[11]? = some (.tuple #[.agg (mixA (Value.int .u16) [] t258), .int .i64 t259]) := by rw [ha]; exact putSel_on (e := (6, 11, .tuple #[.agg (mixA (Value.int .u16) [] t258), .int .i64 t259])) 5 rfl rfl (hon 6 (by kernel_rfl)) rfl
     replace ha := Aside0.mk ha
     have BK252 := Aside0.mk Q_BK252
     have BK253 := Aside0.mk Q_BK253
     have HB := Aside0.mk Q_HB
     refine value_ (w1 := w') (v := .agg (mixA (Value.int .u16) [] t258)) (by rfl) rfl ?_ ?_
     ·go_simp
      (try simp only [i64_w])
      try rfl
     refine hK.out _ _ ⟨gb260, m9_, (by rw [ha.out]; exact putSel_upk 6 hb_ rfl rfl rfl), Q_BK252, Q_BK253, Q_HB, Q_BK260, Q_GW260, Q_GE260, Q_NB252_260, Q_NB260_252, Q_NB253_260, Q_NB260_253, fun h0_ => absurd ((hoff 10 (by kernel_rfl)).symm.trans h0_) (by decide), Q_X9_⟩
    refine steps_cons ?_ ?_
    ·rintro b a w' ⟨gb260, m9_, ha, Q_BK252, Q_BK253, Q_HB, Q_BK260, Q_GW260, Q_GE260, Q_NB252_260, Q_NB260_252, Q_NB253_260, Q_NB260_253, Q_BK260_e10, Q_X9_⟩ hb_ hon hoff
     refine ⟨_, rfl, fun K hK => ?_⟩
     have e11 : a.tmps[11]? = some (.tuple #[.agg (mixA (Value.int .u16) [] t258), .int .i64 t259]) := by rw [ha]; exact putSel_on (e := (6, 11, .tuple #[.agg (mixA (Value.int .u16) [] t258), .int .i64 t259])) 5 rfl rfl (hon 6 (by kernel_rfl)) rfl
     replace ha := Aside0.mk ha
     have BK252 := Aside0.mk Q_BK252
     have BK253 := Aside0.mk Q_BK253
     have HB := Aside0.mk Q_HB
     refine value_ (w1 := w') (v := .int .i64 t259) (by rfl) rfl ?_ ?_
     ·go_simp
      (try simp only [i64_w])
      try rfl
     refine hK.out _ _ ⟨gb260, m9_, (by rw [ha.out]; exact putSel_upk 7 hb_ rfl rfl rfl), Q_BK252, Q_BK253, Q_HB, Q_BK260, Q_GW260, Q_GE260, Q_NB252_260, Q_NB260_252, Q_NB253_260, Q_NB260_253, Q_BK260_e10, Q_X9_⟩
    refine steps_cons ?_ ?_
    ·rintro b a w' ⟨gb260, m9_, ha, Q_BK252, Q_BK253, Q_HB, Q_BK260, Q_GW260, Q_GE260, Q_NB252_260, Q_NB260_252, Q_NB253_260, Q_NB260_253, Q_BK260_e10, Q_X9_⟩ hb_ hon hoff
     refine ⟨_, rfl, fun K hK => ?_⟩
     replace ha := Aside0.mk ha
     have BK252 := Aside0.mk Q_BK252
     have BK253 := Aside0.mk Q_BK253
     have HB := Aside0.mk Q_HB
     refine box_step ?hg (N := 7) ?hd (cs := (mixA (Value.int .u16) [] (LA.zero 40))) (t := 28) ?hr ?_; (case hd => rfl); (case hg => rfl); (case hr => first | (go_simp; done) | (go_simp; rfl))
     intro gb260 hg w16 hbox hb
     have n0_ := bkb BK252 hb
     have n1_ := bkb BK253 hb
     have n2_ := bst HB hb
     have n3_ := Aside0.mk (hbox)
     have n4_ := gwl HB hg
     have n5_ := gwl HB hg
     have n6_ := nbl BK252 hg
     have n7_ := nbg BK252 hg
     have n8_ := nbl BK253 hg
     have n9_ := nbg BK253 hg
     clear BK252
     clear BK253
     clear HB
     have BK252 := n0_
     have BK253 := n1_
     have HB := n2_
     have BK260 := n3_
     have GW260 := n4_
     have GE260 := n5_
     have NB252_260 := n6_
     have NB260_252 := n7_
     have NB253_260 := n8_
     have NB260_253 := n9_
     clear n0_ n1_ n2_ n3_ n4_ n5_ n6_ n7_ n8_ n9_
     clear hb hbox hg
     refine hK.out _ _ ⟨gb260, (.pointer (some ⟨gb260, 0, none⟩)), (by rw [ha.out]; exact putSel_upk 8 hb_ rfl rfl rfl), (pk BK252), (pk BK253), (pbs HB), fun _ _ => (pk BK260), fun _ => GW260.out, fun _ => GE260.out, fun _ => NB252_260.out, fun _ => NB260_252.out, fun _ => NB253_260.out, fun _ => NB260_253.out, fun h0_ => absurd ((hoff 10 (by kernel_rfl)).symm.trans h0_) (by decide), fun _ => rfl⟩
    refine steps_cons ?_ ?_
    ·rintro b a w' ⟨gb260, m9_, ha, Q_BK252, Q_BK253, Q_HB, Q_BK260, Q_GW260, Q_GE260, Q_NB252_260, Q_NB260_252, Q_NB253_260, Q_NB260_253, Q_BK260_e10, Q_X9_⟩ hb_ hon hoff
     refine ⟨_, rfl, fun K hK => ?_⟩
     have e7 : a.tmps[7]? = some (m9_) := by rw [ha]; exact putSel_on (e := (9, 7, m9_)) 8 rfl rfl (hon 9 (by kernel_rfl)) rfl
     rw [Q_X9_ (hon 9 (by kernel_rfl))] at e7
     have e18 : a.tmps[18]? = some (.agg (mixA (Value.int .u16) [] t258)) := by rw [ha]; exact putSel_on (e := (7, 18, .agg (mixA (Value.int .u16) [] t258))) 6 rfl rfl (hon 7 (by kernel_rfl)) rfl
     replace ha := Aside0.mk ha
     have BK252 := Aside0.mk Q_BK252
     have BK253 := Aside0.mk Q_BK253
     have HB := Aside0.mk Q_HB
     have BK260 := Aside0.mk (Q_BK260 (hon 9 (by kernel_rfl)) hb_)
     have GW260 := Aside0.mk (Q_GW260 (hon 9 (by kernel_rfl)))
     have GE260 := Aside0.mk (Q_GE260 (hon 9 (by kernel_rfl)))
     have NB252_260 := Aside0.mk (Q_NB252_260 (hon 9 (by kernel_rfl)))
     have NB260_252 := Aside0.mk (Q_NB260_252 (hon 9 (by kernel_rfl)))
     have NB253_260 := Aside0.mk (Q_NB253_260 (hon 9 (by kernel_rfl)))
     have NB260_253 := Aside0.mk (Q_NB260_253 (hon 9 (by kernel_rfl)))
     refine step_store_lmix (by rfl) rfl 28 _ _ rfl gb260 (e := (Value.int .u16)) (cs' := []) (W' := t258) (cs := []) (W := (LA.zero 40)) (T := 28) (by first | (simp only [List.map_toArray, List.map_cons, List.map_nil, Act.eval, Array.getD_eq_getD_getElem?, Option.getD_some, e7, e18]; done) | (simp only [List.map_toArray, List.map_cons, List.map_nil, Act.eval, Array.getD_eq_getD_getElem?, Option.getD_some, e7, e18]; rfl)) (by first | (simp only [List.map_toArray, List.map_cons, List.map_nil, Act.eval, Array.getD_eq_getD_getElem?, Option.getD_some, e7, e18]; done) | (simp only [List.map_toArray, List.map_cons, List.map_nil, Act.eval, Array.getD_eq_getD_getElem?, Option.getD_some, e7, e18]; rfl)) (pk BK260) rfl (by kernel_rfl) rfl (fun _ => rfl) rfl ?_
     intro w21 hi hk hbl
     have n0_ := Aside0.mk (KeepBut.blk hk (g' := gb252) (o := .cells (mixA (Value.int .u16) [.int .i8 a0_0, .int .i8 a0_1] a0_2) 26 (0, 0)) (pk BK252) NB252_260.out (by simp))
     have n1_ := Aside0.mk (KeepBut.blk hk (g' := gb253) (o := .cells (mixA (Value.int .u16) [] a1) 27 (0, 0)) (pk BK253) NB253_260.out (by simp))
     have n2_ := Aside0.mk (hbl _ _ (pbs HB) GE260.out)
     have n3_ := Aside0.mk (hi)
     clear BK252
     clear BK253
     clear HB
     clear BK260
     have BK252 := n0_
     have BK253 := n1_
     have HB := n2_
     have BK260 := n3_
     clear n0_ n1_ n2_ n3_
     clear hi hk hbl
     refine hK.out _ _ ⟨gb260, m9_, (by rw [ha.out]; exact putSel_none (v := undef) rfl), (pk BK252), (pk BK253), (pbs HB), fun _ h1_ => absurd ((up_self b 10).symm.trans h1_) (by decide), fun _ => GW260.out, fun _ => GE260.out, fun _ => NB252_260.out, fun _ => NB260_252.out, fun _ => NB253_260.out, fun _ => NB260_253.out, fun _ => (pk BK260), Q_X9_⟩
    refine steps_cons ?_ ?_
    ·rintro b a w' ⟨gb260, m9_, ha, Q_BK252, Q_BK253, Q_HB, Q_BK260, Q_GW260, Q_GE260, Q_NB252_260, Q_NB260_252, Q_NB253_260, Q_NB260_253, Q_BK260_e10, Q_X9_⟩ hb_ hon hoff
     refine ⟨_, rfl, fun K hK => ?_⟩
     have e19 : a.tmps[19]? = some (.int .i64 t259) := by rw [ha]; exact putSel_on (e := (8, 19, .int .i64 t259)) 7 rfl rfl (hon 8 (by kernel_rfl)) rfl
     replace ha := Aside0.mk ha
     have BK252 := Aside0.mk Q_BK252
     have BK253 := Aside0.mk Q_BK253
     have HB := Aside0.mk Q_HB
     have GW260 := Aside0.mk (Q_GW260 (hon 9 (by kernel_rfl)))
     have GE260 := Aside0.mk (Q_GE260 (hon 9 (by kernel_rfl)))
     have NB252_260 := Aside0.mk (Q_NB252_260 (hon 9 (by kernel_rfl)))
     have NB260_252 := Aside0.mk (Q_NB260_252 (hon 9 (by kernel_rfl)))
     have NB253_260 := Aside0.mk (Q_NB253_260 (hon 9 (by kernel_rfl)))
     have NB260_253 := Aside0.mk (Q_NB260_253 (hon 9 (by kernel_rfl)))
     have BK260 := Aside0.mk (Q_BK260_e10 (hon 10 (by kernel_rfl)))
     refine value_ (w1 := w') (v := .int .i64 t259) (by rfl) rfl ?_ ?_
     ·go_simp
      (try simp only [i64_w])
      try rfl
     refine hK.out _ _ ⟨gb260, m9_, (by rw [ha.out]; exact putSel_upk 9 hb_ rfl rfl rfl), Q_BK252, Q_BK253, Q_HB, fun _ h1_ => absurd ((hon 10 (by kernel_rfl)).symm.trans h1_) (by decide), Q_GW260, Q_GE260, Q_NB252_260, Q_NB260_252, Q_NB253_260, Q_NB260_253, Q_BK260_e10, Q_X9_⟩
    exact steps_nil
   rintro b a w21 hall ⟨gb260, m9_, ha, Q_BK252, Q_BK253, Q_HB, Q_BK260, Q_GW260, Q_GE260, Q_NB252_260, Q_NB260_252, Q_NB253_260, Q_NB260_253, Q_BK260_e10, Q_X9_⟩
   clear BK252 BK253 HB
   have hb0_ := hall 0 (by kernel_rfl)
   have hb1_ := hall 1 (by kernel_rfl)
   have hb2_ := hall 2 (by kernel_rfl)
   have hb3_ := hall 3 (by kernel_rfl)
   have hb5_ := hall 5 (by kernel_rfl)
   have hb6_ := hall 6 (by kernel_rfl)
   have hb7_ := hall 7 (by kernel_rfl)
   have hb8_ := hall 8 (by kernel_rfl)
   have hb9_ := hall 9 (by kernel_rfl)
   have hb10_ := hall 10 (by kernel_rfl)
   have hb11_ := hall 11 (by kernel_rfl)
   subst ha
   obtain rfl := (Q_X9_ hb9_).symm
   simp only [putSel, hb0_, hb1_, hb2_, hb3_, hb5_, hb6_, hb7_, hb8_, hb9_, hb10_, hb11_, if_true, Act.put, List.setIfInBounds_toArray, List.set_cons_zero, List.set_cons_succ]
   have BK252 := Aside0.mk Q_BK252
   clear Q_BK252
   have BK253 := Aside0.mk Q_BK253
   clear Q_BK253
   have HB := Aside0.mk Q_HB
   clear Q_HB
   clear Q_BK260
   have GW260 := Aside0.mk (Q_GW260 hb9_)
   clear Q_GW260
   have GE260 := Aside0.mk (Q_GE260 hb9_)
   clear Q_GE260
   have NB252_260 := Aside0.mk (Q_NB252_260 hb9_)
   clear Q_NB252_260
   have NB260_252 := Aside0.mk (Q_NB260_252 hb9_)
   clear Q_NB260_252
   have NB253_260 := Aside0.mk (Q_NB253_260 hb9_)
   clear Q_NB253_260
   have NB260_253 := Aside0.mk (Q_NB260_253 hb9_)
   clear Q_NB260_253
   have BK260 := Aside0.mk (Q_BK260_e10 hb10_)
   clear Q_BK260_e10
   clear hall hb0_ hb1_ hb2_ hb3_ hb5_ hb6_ hb7_ hb8_ hb9_ hb10_ hb11_
   try go_wp2
   have n0_ := Aside0.mk (blk_drew BK252.out)
   have n1_ := Aside0.mk (blk_drew BK253.out)
   have n2_ := Aside0.mk (blk_drew BK260.out)
   have n3_ := Aside0.mk (below_drew1 HB.out)
   clear BK252
   clear BK253
   clear BK260
   clear HB
   have BK252 := n0_
   have BK253 := n1_
   have BK260 := n2_
   have HB := n3_
   clear n0_ n1_ n2_ n3_
   refine start_ (n := 12) (S := fun w' => True) (ds := []) #[false, false, false, false, false, false, false, false, false, false, false, false] (by kernel_rfl) rfl rfl trivial (fun hHeld => ?_); refine with_tabW laws_FnExactMoveCrowd.tab2 laws_FnExactMoveCrowd.bits2 (fun HT_ HW_ => ?_)
   generalize w21.drew = w26 at BK252 BK253 BK260 HB hHeld ⊢
   refine pure_ (i := 4) (N := some 25) (v := ?_) (a' := ?_) #[false, false, false, false, true, false, false, false, false, false, false, false] rfl rfl (any_of HT_.out (by kernel_rfl)) (fun _ _ _ h => h) (Or.inl ⟨by rfl, ?_⟩) ?_ ?_
   rotate_left
   ·intro w'
    go_simp
    with_reducible rfl
   rotate_left
   ·simp only [Act.put, List.setIfInBounds_toArray, List.set_cons_zero, List.set_cons_succ, i64_w, i32_w]
    rfl
   refine inv_at [0, 1, 2, 3, 5, 6, 7, 8, 9, 10, 11] (fun a0_ b a w' => ∃ (gb267 : Nat) (m9_ : Value), a = putSel a0_ b [(0, 21, .agg (mixA (Value.int .u16) [.int .i8 a0_0, .int .i8 a0_1] a0_2)), (1, 22, .agg (mixA (Value.int .u16) [.int .i8 t261, .int .i8 t262] t263)), (2, 23, .agg (mixA (Value.int .u16) [] a1)), (3, 24, .agg (mixA (Value.int .u16) [] t264)), (5, 26, .tuple #[.agg (mixA (Value.int .u16) [] t265), .int .i64 t266]), (6, 20, .tuple #[.agg (mixA (Value.int .u16) [] t265), .int .i64 t266]), (7, 27, .agg (mixA (Value.int .u16) [] t265)), (8, 28, .int .i64 t266), (9, 9, m9_), (11, 10, .int .i64 t266)] ∧ (w'.heap[gb252]? = some (.cells (mixA (Value.int .u16) [.int .i8 a0_0, .int .i8 a0_1] a0_2) 26 (0, 0))) ∧ (w'.heap[gb253]? = some (.cells (mixA (Value.int .u16) [] a1) 27 (0, 0))) ∧ (w'.heap[gb260]? = some (.cells (mixA (Value.int .u16) [] t258) 28 (0, 0))) ∧ (Below w.heap.size w w') ∧ (b 9 = true → b 10 = false → w'.heap[gb267]? = some (.cells (mixA (Value.int .u16) [] (LA.zero 40)) 28 (0, 0))) ∧ (b 9 = true → w.heap.size ≤ gb267) ∧ (b 9 = true → w.heap.size ≤ gb267) ∧ (b 9 = true → gb252 ≠ gb267) ∧ (b 9 = true → gb267 ≠ gb252) ∧ (b 9 = true → gb253 ≠ gb267) ∧ (b 9 = true → gb267 ≠ gb253) ∧ (b 9 = true → gb260 ≠ gb267) ∧ (b 9 = true → gb267 ≠ gb260) ∧ (b 10 = true → w'.heap[gb267]? = some (.cells (mixA (Value.int .u16) [] t265) 28 (0, 0))) ∧ (b 9 = true → (m9_ : Value) = .pointer (some ⟨gb267, 0, none⟩))) HT_.out HW_.out (by kernel_rfl) (by kernel_rfl) ?_ ?_ ?_
   ·exact ⟨0, .bool false, by simp only [putSel, Bool.false_eq_true, if_false], BK252.out, BK253.out, BK260.out, HB.out, fun h_ => absurd h_ (by decide), fun h_ => absurd h_ (by decide), fun h_ => absurd h_ (by decide), fun h_ => absurd h_ (by decide), fun h_ => absurd h_ (by decide), fun h_ => absurd h_ (by decide), fun h_ => absurd h_ (by decide), fun h_ => absurd h_ (by decide), fun h_ => absurd h_ (by decide), fun h_ => absurd h_ (by decide), fun h_ => absurd h_ (by decide)⟩
   ·skip
    clear BK252 BK253 BK260 HB
    refine steps_cons ?_ ?_
    ·rintro b a w' ⟨gb267, m9_, ha, Q_BK252, Q_BK253, Q_BK260, Q_HB, Q_BK267, Q_GW267, Q_GE267, Q_NB252_267, Q_NB267_252, Q_NB253_267, Q_NB267_253, Q_NB260_267, Q_NB267_260, Q_BK267_e10, Q_X9_⟩ hb_ hon hoff
     refine ⟨_, rfl, fun K hK => ?_⟩
     have e3 : a.tmps[3]? = some (.pointer (some ⟨gb252, 0, none⟩)) := by rw [ha]; exact (putSel_off rfl).trans rfl
     replace ha := Aside0.mk ha
     have BK252 := Aside0.mk Q_BK252
     have BK253 := Aside0.mk Q_BK253
     have BK260 := Aside0.mk Q_BK260
     have HB := Aside0.mk Q_HB
     have hL_ : World.rangeAt w' gb252 0 ([.int .i8 a0_0, .int .i8 a0_1] ++ a0_2.l.map (Value.int .u16)) := mix_range BK252.out
     refine value_ (w1 := w') (v := .agg (mixA (Value.int .u16) [.int .i8 a0_0, .int .i8 a0_1] a0_2)) (by rfl) rfl ?_ ?_
     ·exact load_mix_run (P := Tryd.prog) 26 (.tmp 3) rfl gb252 (by simp only [Act.eval, Array.getD_eq_getD_getElem?, e3, Option.getD_some]) hL_ Tryd.underlying26 rfl (by kernel_rfl) rfl
     refine hK.out _ _ ⟨gb267, m9_, (by rw [ha.out]; exact putSel_upk 0 hb_ rfl rfl rfl), Q_BK252, Q_BK253, Q_BK260, Q_HB, Q_BK267, Q_GW267, Q_GE267, Q_NB252_267, Q_NB267_252, Q_NB253_267, Q_NB267_253, Q_NB260_267, Q_NB267_260, fun h0_ => absurd ((hoff 10 (by kernel_rfl)).symm.trans h0_) (by decide), Q_X9_⟩
    refine steps_cons ?_ ?_
    ·rintro b a w' ⟨gb267, m9_, ha, Q_BK252, Q_BK253, Q_BK260, Q_HB, Q_BK267, Q_GW267, Q_GE267, Q_NB252_267, Q_NB267_252, Q_NB253_267, Q_NB267_253, Q_NB260_267, Q_NB267_260, Q_BK267_e10, Q_X9_⟩ hb_ hon hoff
     refine ⟨_, rfl, fun K hK => ?_⟩
     have e21 : a.tmps[21]? = some (.agg (mixA (Value.int .u16) [.int .i8 a0_0, .int .i8 a0_1] a0_2)) := by rw [ha]; exact putSel_on (e := (0, 21, .agg (mixA (Value.int .u16) [.int .i8 a0_0, .int .i8 a0_1] a0_2))) 0 rfl rfl (hon 0 (by kernel_rfl)) rfl
     replace ha := Aside0.mk ha
     have BK252 := Aside0.mk Q_BK252
     have BK253 := Aside0.mk Q_BK253
     have BK260 := Aside0.mk Q_BK260
     have HB := Aside0.mk Q_HB
     refine goes_ Tryd.func8 (by kernel_rfl) rfl #[.agg (mixA (Value.int .u16) [.int .i8 a0_0, .int .i8 a0_1] a0_2)] (by rfl) rfl rfl (by first | (simp only [List.map_toArray, List.map_cons, List.map_nil, Act.eval, Array.getD_eq_getD_getElem?, Option.getD_some, e21]; done) | (simp only [List.map_toArray, List.map_cons, List.map_nil, Act.eval, Array.getD_eq_getD_getElem?, Option.getD_some, e21]; rfl)) ?_
     with_reducible refine (laws_toRoom.calls k a0_0 a0_1 a0_2 t261 t262 t263 _ A7.out).mono ?_
     rintro e w27 ⟨rfl, hb⟩
     refine ⟨_, rfl, ?_⟩
     have n0_ := bkb BK252 hb
     have n1_ := bkb BK253 hb
     have n2_ := bkb BK260 hb
     have n3_ := bst HB hb
     have z_BK267 := fun (h0_ : b 9 = true) (h1_ : b 10 = false) => (show w27.heap[gb267]? = some (.cells (mixA (Value.int .u16) [] (LA.zero 40)) 28 (0, 0)) from by first | exact (blk_below (g := gb267) (o := .cells (mixA (Value.int .u16) [] (LA.zero 40)) 28 (0, 0)) (by (with_reducible repeat (first | refine blk_drewN ?_ _ | refine blk_drew ?_ | refine blk_alloc ?_ _)); exact (Q_BK267 h0_ h1_)) hb))
     clear BK252
     clear BK253
     clear BK260
     clear HB
     have BK252 := n0_
     have BK253 := n1_
     have BK260 := n2_
     have HB := n3_
     clear n0_ n1_ n2_ n3_
     (try clear hb)
     (try clear hb2)
     (try clear hk)
     (try clear hi)
     refine hK.out _ _ ⟨gb267, m9_, (by rw [ha.out]; exact putSel_upk 1 hb_ rfl rfl rfl), (pk BK252), (pk BK253), (pk BK260), (pbs HB), z_BK267, Q_GW267, Q_GE267, Q_NB252_267, Q_NB267_252, Q_NB253_267, Q_NB267_253, Q_NB260_267, Q_NB267_260, fun h0_ => absurd ((hoff 10 (by kernel_rfl)).symm.trans h0_) (by decide), Q_X9_⟩
    refine steps_cons ?_ ?_
    ·rintro b a w' ⟨gb267, m9_, ha, Q_BK252, Q_BK253, Q_BK260, Q_HB, Q_BK267, Q_GW267, Q_GE267, Q_NB252_267, Q_NB267_252, Q_NB253_267, Q_NB267_253, Q_NB260_267, Q_NB267_260, Q_BK267_e10, Q_X9_⟩ hb_ hon hoff
     refine ⟨_, rfl, fun K hK => ?_⟩
     have e4 : a.tmps[4]? = some (.pointer (some ⟨gb253, 0, none⟩)) := by rw [ha]; exact (putSel_off rfl).trans rfl
     replace ha := Aside0.mk ha
     have BK252 := Aside0.mk Q_BK252
     have BK253 := Aside0.mk Q_BK253
     have BK260 := Aside0.mk Q_BK260
     have HB := Aside0.mk Q_HB
     have hL_ : World.rangeAt w' gb253 0 ([] ++ a1.l.map (Value.int .u16)) := mix_range BK253.out
     refine value_ (w1 := w') (v := .agg (mixA (Value.int .u16) [] a1)) (by rfl) rfl ?_ ?_
     ·exact load_mix_run (P := Tryd.prog) 27 (.tmp 4) rfl gb253 (by simp only [Act.eval, Array.getD_eq_getD_getElem?, e4, Option.getD_some]) hL_ Tryd.underlying27 rfl (by kernel_rfl) rfl
     refine hK.out _ _ ⟨gb267, m9_, (by rw [ha.out]; exact putSel_upk 2 hb_ rfl rfl rfl), Q_BK252, Q_BK253, Q_BK260, Q_HB, Q_BK267, Q_GW267, Q_GE267, Q_NB252_267, Q_NB267_252, Q_NB253_267, Q_NB267_253, Q_NB260_267, Q_NB267_260, fun h0_ => absurd ((hoff 10 (by kernel_rfl)).symm.trans h0_) (by decide), Q_X9_⟩
    refine steps_cons ?_ ?_
    ·rintro b a w' ⟨gb267, m9_, ha, Q_BK252, Q_BK253, Q_BK260, Q_HB, Q_BK267, Q_GW267, Q_GE267, Q_NB252_267, Q_NB267_252, Q_NB253_267, Q_NB267_253, Q_NB260_267, Q_NB267_260, Q_BK267_e10, Q_X9_⟩ hb_ hon hoff
     refine ⟨_, rfl, fun K hK => ?_⟩
     have e23 : a.tmps[23]? = some (.agg (mixA (Value.int .u16) [] a1)) := by rw [ha]; exact putSel_on (e := (2, 23, .agg (mixA (Value.int .u16) [] a1))) 2 rfl rfl (hon 2 (by kernel_rfl)) rfl
     replace ha := Aside0.mk ha
     have BK252 := Aside0.mk Q_BK252
     have BK253 := Aside0.mk Q_BK253
     have BK260 := Aside0.mk Q_BK260
     have HB := Aside0.mk Q_HB
     refine goes_ Tryd.func12 (by kernel_rfl) rfl #[.agg (mixA (Value.int .u16) [] a1)] (by rfl) rfl rfl (by first | (simp only [List.map_toArray, List.map_cons, List.map_nil, Act.eval, Array.getD_eq_getD_getElem?, Option.getD_some, e23]; done) | (simp only [List.map_toArray, List.map_cons, List.map_nil, Act.eval, Array.getD_eq_getD_getElem?, Option.getD_some, e23]; rfl)) ?_
     with_reducible refine (laws_toCrowd.calls k a1 t264 _ A8.out).mono ?_
     rintro e w29 ⟨rfl, hb⟩
     refine ⟨_, rfl, ?_⟩
     have n0_ := bkb BK252 hb
     have n1_ := bkb BK253 hb
     have n2_ := bkb BK260 hb
     have n3_ := bst HB hb
     have z_BK267 := fun (h0_ : b 9 = true) (h1_ : b 10 = false) => (show w29.heap[gb267]? = some (.cells (mixA (Value.int .u16) [] (LA.zero 40)) 28 (0, 0)) from by first | exact (blk_below (g := gb267) (o := .cells (mixA (Value.int .u16) [] (LA.zero 40)) 28 (0, 0)) (by (with_reducible repeat (first | refine blk_drewN ?_ _ | refine blk_drew ?_ | refine blk_alloc ?_ _)); exact (Q_BK267 h0_ h1_)) hb))
     clear BK252
     clear BK253
     clear BK260
     clear HB
     have BK252 := n0_
     have BK253 := n1_
     have BK260 := n2_
     have HB := n3_
     clear n0_ n1_ n2_ n3_
     (try clear hb)
     (try clear hb2)
     (try clear hk)
     (try clear hi)
     refine hK.out _ _ ⟨gb267, m9_, (by rw [ha.out]; exact putSel_upk 3 hb_ rfl rfl rfl), (pk BK252), (pk BK253), (pk BK260), (pbs HB), z_BK267, Q_GW267, Q_GE267, Q_NB252_267, Q_NB267_252, Q_NB253_267, Q_NB267_253, Q_NB260_267, Q_NB267_260, fun h0_ => absurd ((hoff 10 (by kernel_rfl)).symm.trans h0_) (by decide), Q_X9_⟩
    refine steps_cons ?_ ?_
    ·rintro b a w' ⟨gb267, m9_, ha, Q_BK252, Q_BK253, Q_BK260, Q_HB, Q_BK267, Q_GW267, Q_GE267, Q_NB252_267, Q_NB267_252, Q_NB253_267, Q_NB267_253, Q_NB260_267, Q_NB267_260, Q_BK267_e10, Q_X9_⟩ hb_ hon hoff
     refine ⟨_, rfl, fun K hK => ?_⟩
     have e22 : a.tmps[22]? = some (.agg (mixA (Value.int .u16) [.int .i8 t261, .int .i8 t262] t263)) := by rw [ha]; exact putSel_on (e := (1, 22, .agg (mixA (Value.int .u16) [.int .i8 t261, .int .i8 t262] t263))) 1 rfl rfl (hon 1 (by kernel_rfl)) rfl
     have e24 : a.tmps[24]? = some (.agg (mixA (Value.int .u16) [] t264)) := by rw [ha]; exact putSel_on (e := (3, 24, .agg (mixA (Value.int .u16) [] t264))) 3 rfl rfl (hon 3 (by kernel_rfl)) rfl
     have e25 : a.tmps[25]? = some (.int .u8 a2) := by rw [ha]; exact (putSel_off rfl).trans rfl
     replace ha := Aside0.mk ha
     have BK252 := Aside0.mk Q_BK252
     have BK253 := Aside0.mk Q_BK253
     have BK260 := Aside0.mk Q_BK260
     have HB := Aside0.mk Q_HB
     refine goes_ Tryd.func13 (by kernel_rfl) rfl #[.agg (mixA (Value.int .u16) [.int .i8 t261, .int .i8 t262] t263), .agg (mixA (Value.int .u16) [] t264), .int .u8 a2] (by rfl) rfl rfl (by first | (simp only [List.map_toArray, List.map_cons, List.map_nil, Act.eval, Array.getD_eq_getD_getElem?, Option.getD_some, e22, e24, e25]; done) | (simp only [List.map_toArray, List.map_cons, List.map_nil, Act.eval, Array.getD_eq_getD_getElem?, Option.getD_some, e22, e24, e25]; rfl)) ?_
     with_reducible refine (impl_MoveCrowd.calls k t261 t262 t263 t264 a2 t265 t266 _ A9.out).mono ?_
     rintro e w30 ⟨rfl, hb⟩
     refine ⟨_, rfl, ?_⟩
     have n0_ := bkb BK252 hb
     have n1_ := bkb BK253 hb
     have n2_ := bkb BK260 hb
     have n3_ := bst HB hb
     have z_BK267 := fun (h0_ : b 9 = true) (h1_ : b 10 = false) => (show w30.heap[gb267]? = some (.cells (mixA (Value.int .u16) [] (LA.zero 40)) 28 (0, 0)) from by first | exact (blk_below (g := gb267) (o := .cells (mixA (Value.int .u16) [] (LA.zero 40)) 28 (0, 0)) (by (with_reducible repeat (first | refine blk_drewN ?_ _ | refine blk_drew ?_ | refine blk_alloc ?_ _)); exact (Q_BK267 h0_ h1_)) hb))
     clear BK252
     clear BK253
     clear BK260
     clear HB
     have BK252 := n0_
     have BK253 := n1_
     have BK260 := n2_
     have HB := n3_
     clear n0_ n1_ n2_ n3_
     (try clear hb)
     (try clear hb2)
     (try clear hk)
     (try clear hi)
     refine hK.out _ _ ⟨gb267, m9_, (by rw [ha.out]; exact putSel_upk 4 hb_ rfl rfl rfl), (pk BK252), (pk BK253), (pk BK260), (pbs HB), z_BK267, Q_GW267, Q_GE267, Q_NB252_267, Q_NB267_252, Q_NB253_267, Q_NB267_253, Q_NB260_267, Q_NB267_260, fun h0_ => absurd ((hoff 10 (by kernel_rfl)).symm.trans h0_) (by decide), Q_X9_⟩
    refine steps_cons ?_ ?_
    ·rintro b a w' ⟨gb267, m9_, ha, Q_BK252, Q_BK253, Q_BK260, Q_HB, Q_BK267, Q_GW267, Q_GE267, Q_NB252_267, Q_NB267_252, Q_NB253_267, Q_NB267_253, Q_NB260_267, Q_NB267_260, Q_BK267_e10, Q_X9_⟩ hb_ hon hoff
     refine ⟨_, rfl, fun K hK => ?_⟩
     have e26 : a.tmps[26]? = some (.tuple #[.agg (mixA (Value.int .u16) [] t265), .int .i64 t266]) := by rw [ha]; exact putSel_on (e := (5, 26, .tuple #[.agg (mixA (Value.int .u16) [] t265), .int .i64 t266])) 4 rfl rfl (hon 5 (by kernel_rfl)) rfl
     replace ha := Aside0.mk ha
     have BK252 := Aside0.mk Q_BK252
     have BK253 := Aside0.mk Q_BK253
     have BK260 := Aside0.mk Q_BK260
     have HB := Aside0.mk Q_HB
     refine value_ (w1 := w') (v := .tuple #[.agg (mixA (Value.int .u16) [] t265), .int .i64 t266]) (by rfl) rfl ?_ ?_
     ·go_simp
      (try simp only [i64_w])
      try rfl
     refine hK.out _ _ ⟨gb267, m9_, (by rw [ha.out]; exact putSel_upk 5 hb_ rfl rfl rfl), Q_BK252, Q_BK253, Q_BK260, Q_HB, Q_BK267, Q_GW267, Q_GE267, Q_NB252_267, Q_NB267_252, Q_NB253_267, Q_NB267_253, Q_NB260_267, Q_NB267_260, fun h0_ => absurd ((hoff 10 (by kernel_rfl)).symm.trans h0_) (by decide), Q_X9_⟩
    refine steps_cons ?_ ?_
    ·rintro b a w' ⟨gb267, m9_, ha, Q_BK252, Q_BK253, Q_BK260, Q_HB, Q_BK267, Q_GW267, Q_GE267, Q_NB252_267, Q_NB267_252, Q_NB253_267, Q_NB267_253, Q_NB260_267, Q_NB267_260, Q_BK267_e10, Q_X9_⟩ hb_ hon hoff
     refine ⟨_, rfl, fun K hK => ?_⟩
     have e20 : a.tmps[20]? = some (.tuple #[.agg (mixA (Value.int .u16) [] t265), .int .i64 t266]) := by rw [ha]; exact putSel_on (e := (6, 20, .tuple #[.agg (mixA (Value.int .u16) [] t265), .int .i64 t266])) 5 rfl rfl (hon 6 (by kernel_rfl)) rfl
     replace ha := Aside0.mk ha
     have BK252 := Aside0.mk Q_BK252
     have BK253 := Aside0.mk Q_BK253
     have BK260 := Aside0.mk Q_BK260
     have HB := Aside0.mk Q_HB
     refine value_ (w1 := w') (v := .agg (mixA (Value.int .u16) [] t265)) (by rfl) rfl ?_ ?_
     ·go_simp
      (try simp only [i64_w])
      try rfl
     refine hK.out _ _ ⟨gb267, m9_, (by rw [ha.out]; exact putSel_upk 6 hb_ rfl rfl rfl), Q_BK252, Q_BK253, Q_BK260, Q_HB, Q_BK267, Q_GW267, Q_GE267, Q_NB252_267, Q_NB267_252, Q_NB253_267, Q_NB267_253, Q_NB260_267, Q_NB267_260, fun h0_ => absurd ((hoff 10 (by kernel_rfl)).symm.trans h0_) (by decide), Q_X9_⟩
    refine steps_cons ?_ ?_
    ·rintro b a w' ⟨gb267, m9_, ha, Q_BK252, Q_BK253, Q_BK260, Q_HB, Q_BK267, Q_GW267, Q_GE267, Q_NB252_267, Q_NB267_252, Q_NB253_267, Q_NB267_253, Q_NB260_267, Q_NB267_260, Q_BK267_e10, Q_X9_⟩ hb_ hon hoff
     refine ⟨_, rfl, fun K hK => ?_⟩
     have e20 : a.tmps[20]? = some (.tuple #[.agg (mixA (Value.int .u16) [] t265), .int .i64 t266]) := by rw [ha]; exact putSel_on (e := (6, 20, .tuple #[.agg (mixA (Value.int .u16) [] t265), .int .i64 t266])) 5 rfl rfl (hon 6 (by kernel_rfl)) rfl
     replace ha := Aside0.mk ha
     have BK252 := Aside0.mk Q_BK252
     have BK253 := Aside0.mk Q_BK253
     have BK260 := Aside0.mk Q_BK260
     have HB := Aside0.mk Q_HB
     refine value_ (w1 := w') (v := .int .i64 t266) (by rfl) rfl ?_ ?_
     ·go_simp
      (try simp only [i64_w])
      try rfl
     refine hK.out _ _ ⟨gb267, m9_, (by rw [ha.out]; exact putSel_upk 7 hb_ rfl rfl rfl), Q_BK252, Q_BK253, Q_BK260, Q_HB, Q_BK267, Q_GW267, Q_GE267, Q_NB252_267, Q_NB267_252, Q_NB253_267, Q_NB267_253, Q_NB260_267, Q_NB267_260, Q_BK267_e10, Q_X9_⟩
    refine steps_cons ?_ ?_
    ·rintro b a w' ⟨gb267, m9_, ha, Q_BK252, Q_BK253, Q_BK260, Q_HB, Q_BK267, Q_GW267, Q_GE267, Q_NB252_267, Q_NB267_252, Q_NB253_267, Q_NB267_253, Q_NB260_267, Q_NB267_260, Q_BK267_e10, Q_X9_⟩ hb_ hon hoff
     refine ⟨_, rfl, fun K hK => ?_⟩
     replace ha := Aside0.mk ha
     have BK252 := Aside0.mk Q_BK252
     have BK253 := Aside0.mk Q_BK253
     have BK260 := Aside0.mk Q_BK260
     have HB := Aside0.mk Q_HB
     refine box_step ?hg (N := 9) ?hd (cs := (mixA (Value.int .u16) [] (LA.zero 40))) (t := 28) ?hr ?_; (case hd => rfl); (case hg => rfl); (case hr => first | (go_simp; done) | (go_simp; rfl))
     intro gb267 hg w27 hbox hb
     have n0_ := bkb BK252 hb
     have n1_ := bkb BK253 hb
     have n2_ := bkb BK260 hb
     have n3_ := bst HB hb
     have n4_ := Aside0.mk (hbox)
     have n5_ := gwl HB hg
     have n6_ := gwl HB hg
     have n7_ := nbl BK252 hg
     have n8_ := nbg BK252 hg
     have n9_ := nbl BK253 hg
     have n10_ := nbg BK253 hg
     have n11_ := nbl BK260 hg
     have n12_ := nbg BK260 hg
     clear BK252
     clear BK253
     clear BK260
     clear HB
     have BK252 := n0_
     have BK253 := n1_
     have BK260 := n2_
     have HB := n3_
     have BK267 := n4_
     have GW267 := n5_
     have GE267 := n6_
     have NB252_267 := n7_
     have NB267_252 := n8_
     have NB253_267 := n9_
     have NB267_253 := n10_
     have NB260_267 := n11_
     have NB267_260 := n12_
     clear n0_ n1_ n2_ n3_ n4_ n5_ n6_ n7_ n8_ n9_ n10_ n11_ n12_
     clear hb hbox hg
     refine hK.out _ _ ⟨gb267, (.pointer (some ⟨gb267, 0, none⟩)), (by rw [ha.out]; exact putSel_upk 8 hb_ rfl rfl rfl), (pk BK252), (pk BK253), (pk BK260), (pbs HB), fun _ _ => (pk BK267), fun _ => GW267.out, fun _ => GE267.out, fun _ => NB252_267.out, fun _ => NB267_252.out, fun _ => NB253_267.out, fun _ => NB267_253.out, fun _ => NB260_267.out, fun _ => NB267_260.out, fun h0_ => absurd ((hoff 10 (by kernel_rfl)).symm.trans h0_) (by decide), fun _ => rfl⟩
    refine steps_cons ?_ ?_
    ·rintro b a w' ⟨gb267, m9_, ha, Q_BK252, Q_BK253, Q_BK260, Q_HB, Q_BK267, Q_GW267, Q_GE267, Q_NB252_267, Q_NB267_252, Q_NB253_267, Q_NB267_253, Q_NB260_267, Q_NB267_260, Q_BK267_e10, Q_X9_⟩ hb_ hon hoff
     refine ⟨_, rfl, fun K hK => ?_⟩
     have e9 : a.tmps[9]? = some (m9_) := by rw [ha]; exact putSel_on (e := (9, 9, m9_)) 8 rfl rfl (hon 9 (by kernel_rfl)) rfl
     rw [Q_X9_ (hon 9 (by kernel_rfl))] at e9
     have e27 : a.tmps[27]? = some (.agg (mixA (Value.int .u16) [] t265)) := by rw [ha]; exact putSel_on (e := (7, 27, .agg (mixA (Value.int .u16) [] t265))) 6 rfl rfl (hon 7 (by kernel_rfl)) rfl
     replace ha := Aside0.mk ha
     have BK252 := Aside0.mk Q_BK252
     have BK253 := Aside0.mk Q_BK253
     have BK260 := Aside0.mk Q_BK260
     have HB := Aside0.mk Q_HB
     have BK267 := Aside0.mk (Q_BK267 (hon 9 (by kernel_rfl)) hb_)
     have GW267 := Aside0.mk (Q_GW267 (hon 9 (by kernel_rfl)))
     have GE267 := Aside0.mk (Q_GE267 (hon 9 (by kernel_rfl)))
     have NB252_267 := Aside0.mk (Q_NB252_267 (hon 9 (by kernel_rfl)))
     have NB267_252 := Aside0.mk (Q_NB267_252 (hon 9 (by kernel_rfl)))
     have NB253_267 := Aside0.mk (Q_NB253_267 (hon 9 (by kernel_rfl)))
     have NB267_253 := Aside0.mk (Q_NB267_253 (hon 9 (by kernel_rfl)))
     have NB260_267 := Aside0.mk (Q_NB260_267 (hon 9 (by kernel_rfl)))
     have NB267_260 := Aside0.mk (Q_NB267_260 (hon 9 (by kernel_rfl)))
     refine step_store_lmix (by rfl) rfl 28 _ _ rfl gb267 (e := (Value.int .u16)) (cs' := []) (W' := t265) (cs := []) (W := (LA.zero 40)) (T := 28) (by first | (simp only [List.map_toArray, List.map_cons, List.map_nil, Act.eval, Array.getD_eq_getD_getElem?, Option.getD_some, e9, e27]; done) | (simp only [List.map_toArray, List.map_cons, List.map_nil, Act.eval, Array.getD_eq_getD_getElem?, Option.getD_some, e9, e27]; rfl)) (by first | (simp only [List.map_toArray, List.map_cons, List.map_nil, Act.eval, Array.getD_eq_getD_getElem?, Option.getD_some, e9, e27]; done) | (simp only [List.map_toArray, List.map_cons, List.map_nil, Act.eval, Array.getD_eq_getD_getElem?, Option.getD_some, e9, e27]; rfl)) (pk BK267) rfl (by kernel_rfl) rfl (fun _ => rfl) rfl ?_
     intro w32 hi hk hbl
     have n0_ := Aside0.mk (KeepBut.blk hk (g' := gb252) (o := .cells (mixA (Value.int .u16) [.int .i8 a0_0, .int .i8 a0_1] a0_2) 26 (0, 0)) (pk BK252) NB252_267.out (by simp))
     have n1_ := Aside0.mk (KeepBut.blk hk (g' := gb253) (o := .cells (mixA (Value.int .u16) [] a1) 27 (0, 0)) (pk BK253) NB253_267.out (by simp))
     have n2_ := Aside0.mk (KeepBut.blk hk (g' := gb260) (o := .cells (mixA (Value.int .u16) [] t258) 28 (0, 0)) (pk BK260) NB260_267.out (by simp))
     have n3_ := Aside0.mk (hbl _ _ (pbs HB) GE267.out)
     have n4_ := Aside0.mk (hi)
     clear BK252
     clear BK253
     clear BK260
     clear HB
     clear BK267
     have BK252 := n0_
     have BK253 := n1_
     have BK260 := n2_
     have HB := n3_
     have BK267 := n4_
     clear n0_ n1_ n2_ n3_ n4_
     clear hi hk hbl
     refine hK.out _ _ ⟨gb267, m9_, (by rw [ha.out]; exact putSel_none (v := undef) rfl), (pk BK252), (pk BK253), (pk BK260), (pbs HB), fun _ h1_ => absurd ((up_self b 10).symm.trans h1_) (by decide), fun _ => GW267.out, fun _ => GE267.out, fun _ => NB252_267.out, fun _ => NB267_252.out, fun _ => NB253_267.out, fun _ => NB267_253.out, fun _ => NB260_267.out, fun _ => NB267_260.out, fun _ => (pk BK267), Q_X9_⟩
    refine steps_cons ?_ ?_
    ·rintro b a w' ⟨gb267, m9_, ha, Q_BK252, Q_BK253, Q_BK260, Q_HB, Q_BK267, Q_GW267, Q_GE267, Q_NB252_267, Q_NB267_252, Q_NB253_267, Q_NB267_253, Q_NB260_267, Q_NB267_260, Q_BK267_e10, Q_X9_⟩ hb_ hon hoff
     refine ⟨_, rfl, fun K hK => ?_⟩
     have e28 : a.tmps[28]? = some (.int .i64 t266) := by rw [ha]; exact putSel_on (e := (8, 28, .int .i64 t266)) 7 rfl rfl (hon 8 (by kernel_rfl)) rfl
     replace ha := Aside0.mk ha
     have BK252 := Aside0.mk Q_BK252
     have BK253 := Aside0.mk Q_BK253
     have BK260 := Aside0.mk Q_BK260
     have HB := Aside0.mk Q_HB
     have GW267 := Aside0.mk (Q_GW267 (hon 9 (by kernel_rfl)))
     have GE267 := Aside0.mk (Q_GE267 (hon 9 (by kernel_rfl)))
     have NB252_267 := Aside0.mk (Q_NB252_267 (hon 9 (by kernel_rfl)))
     have NB267_252 := Aside0.mk (Q_NB267_252 (hon 9 (by kernel_rfl)))
     have NB253_267 := Aside0.mk (Q_NB253_267 (hon 9 (by kernel_rfl)))
     have NB267_253 := Aside0.mk (Q_NB267_253 (hon 9 (by kernel_rfl)))
     have NB260_267 := Aside0.mk (Q_NB260_267 (hon 9 (by kernel_rfl)))
     have NB267_260 := Aside0.mk (Q_NB267_260 (hon 9 (by kernel_rfl)))
     have BK267 := Aside0.mk (Q_BK267_e10 (hon 10 (by kernel_rfl)))
     refine value_ (w1 := w') (v := .int .i64 t266) (by rfl) rfl ?_ ?_
     ·go_simp
      (try simp only [i64_w])
      try rfl
     refine hK.out _ _ ⟨gb267, m9_, (by rw [ha.out]; exact putSel_upk 9 hb_ rfl rfl rfl), Q_BK252, Q_BK253, Q_BK260, Q_HB, fun _ h1_ => absurd ((hon 10 (by kernel_rfl)).symm.trans h1_) (by decide), Q_GW267, Q_GE267, Q_NB252_267, Q_NB267_252, Q_NB253_267, Q_NB267_253, Q_NB260_267, Q_NB267_260, Q_BK267_e10, Q_X9_⟩
    exact steps_nil
   rintro b a w32 hall ⟨gb267, m9_, ha, Q_BK252, Q_BK253, Q_BK260, Q_HB, Q_BK267, Q_GW267, Q_GE267, Q_NB252_267, Q_NB267_252, Q_NB253_267, Q_NB267_253, Q_NB260_267, Q_NB267_260, Q_BK267_e10, Q_X9_⟩
   clear BK252 BK253 BK260 HB
   have hb0_ := hall 0 (by kernel_rfl)
   have hb1_ := hall 1 (by kernel_rfl)
   have hb2_ := hall 2 (by kernel_rfl)
   have hb3_ := hall 3 (by kernel_rfl)
   have hb5_ := hall 5 (by kernel_rfl)
   have hb6_ := hall 6 (by kernel_rfl)
   have hb7_ := hall 7 (by kernel_rfl)
   have hb8_ := hall 8 (by kernel_rfl)
   have hb9_ := hall 9 (by kernel_rfl)
   have hb10_ := hall 10 (by kernel_rfl)
   have hb11_ := hall 11 (by kernel_rfl)
   subst ha
   obtain rfl := (Q_X9_ hb9_).symm
   simp only [putSel, hb0_, hb1_, hb2_, hb3_, hb5_, hb6_, hb7_, hb8_, hb9_, hb10_, hb11_, if_true, Act.put, List.setIfInBounds_toArray, List.set_cons_zero, List.set_cons_succ]
   have BK252 := Aside0.mk Q_BK252
   clear Q_BK252
   have BK253 := Aside0.mk Q_BK253
   clear Q_BK253
   have BK260 := Aside0.mk Q_BK260
   clear Q_BK260
   have HB := Aside0.mk Q_HB
   clear Q_HB
   clear Q_BK267
   have GW267 := Aside0.mk (Q_GW267 hb9_)
   clear Q_GW267
   have GE267 := Aside0.mk (Q_GE267 hb9_)
   clear Q_GE267
   have NB252_267 := Aside0.mk (Q_NB252_267 hb9_)
   clear Q_NB252_267
   have NB267_252 := Aside0.mk (Q_NB267_252 hb9_)
   clear Q_NB267_252
   have NB253_267 := Aside0.mk (Q_NB253_267 hb9_)
   clear Q_NB253_267
   have NB267_253 := Aside0.mk (Q_NB267_253 hb9_)
   clear Q_NB267_253
   have NB260_267 := Aside0.mk (Q_NB260_267 hb9_)
   clear Q_NB260_267
   have NB267_260 := Aside0.mk (Q_NB267_260 hb9_)
   clear Q_NB267_260
   have BK267 := Aside0.mk (Q_BK267_e10 hb10_)
   clear Q_BK267_e10
   clear hall hb0_ hb1_ hb2_ hb3_ hb5_ hb6_ hb7_ hb8_ hb9_ hb10_ hb11_
   try go_wp2_with (first | ((with_reducible refine gate_dst (N := 29) rfl ?_); refine wpList_run0 (v := .agg (mixA (Value.int .u16) [] t265)) rfl (load_mix_run (P := Tryd.prog) 28 (.tmp 9) rfl gb267 rfl (show World.rangeAt _ gb267 0 ([] ++ t265.l.map (Value.int .u16)) from mix_range (show (World.heap _)[gb267]? = some (.cells (mixA (Value.int .u16) [] t265) 28 (0, 0)) from by (with_reducible repeat (first | refine blk_drewN ?_ _ | refine blk_drew ?_ | refine blk_alloc ?_ _)); exact BK267.out)) Tryd.underlying28 rfl (by kernel_rfl) rfl) ?_) | ((with_reducible refine gate_dst (N := 30) rfl ?_); refine wpList_run0 (v := .agg (mixA (Value.int .u16) [] t258)) rfl (load_mix_run (P := Tryd.prog) 28 (.tmp 7) rfl gb260 rfl (show World.rangeAt _ gb260 0 ([] ++ t258.l.map (Value.int .u16)) from mix_range (show (World.heap _)[gb260]? = some (.cells (mixA (Value.int .u16) [] t258) 28 (0, 0)) from by (with_reducible repeat (first | refine blk_drewN ?_ _ | refine blk_drew ?_ | refine blk_alloc ?_ _)); exact BK260.out)) Tryd.underlying28 rfl (by kernel_rfl) rfl) ?_) | ((with_reducible refine gate_callee (f := 10) rfl ?_); refine goesL_ (some 31) rfl rfl Tryd.func10 (by kernel_rfl) rfl #[.agg (mixA (Value.int .u16) [] t265), .agg (mixA (Value.int .u16) [] t258)] rfl (by (try simp only [List.map_toArray, List.map_cons, List.map_nil]); first | done | rfl | (simp only [List.length_drop, List.length_take]; rfl)) ?_; (with_reducible refine (laws_eqCrowd.calls k t265 t258 true _ A10.out).mono ?_); rintro e w39 ⟨rfl, hb⟩; refine ⟨_, rfl, ?_⟩; have n0_ := bkb BK252 hb; have n1_ := bkb BK253 hb; have n2_ := bkb BK260 hb; have n3_ := bkb BK267 hb; have n4_ := bst HB hb; clear BK252; clear BK253; clear BK260; clear BK267; clear HB; have BK252 := n0_; have BK253 := n1_; have BK260 := n2_; have BK267 := n3_; have HB := n4_; clear n0_ n1_ n2_ n3_ n4_; (try clear hb); (try clear hb2); (try clear hk); (try clear hi)))
   go_ret
   exact ⟨by first | rfl | (simp [errW_none, errW_some] <;> rfl) | (simp [*, errW_none, errW_some] <;> rfl), pbs HB⟩
  ·rw [if_neg c12] at H
   have c12b0 : (t266 == t259) = false := beq_eq_false_iff_ne.mpr c12
   have c12b1 : (t266 != t259) = true := bne_iff_ne.mpr c12
   obtain rfl := Option.some.inj H
   go_enter Tryd.func4, Tryd.ntmps4
   try go_wp2_with (first | ((with_reducible refine gate_dst (N := 3) rfl ?_); refine box_event ?hg (N := 3) ?hd (cs := (mixA (Value.int .u16) [.int .i8 a0_0, .int .i8 a0_1] a0_2)) (t := 26) ?hr ?_; (case hd => rfl); (case hg => rfl); (case hr => first | (go_simp; done) | (go_simp; rfl)); intro gb252 hg w40 hbox hb; have n0_ := bst HB hb; have n1_ := Aside0.mk (hbox); have n2_ := gwl HB hg; have n3_ := gwl HB hg; clear HB; have HB := n0_; have BK252 := n1_; have GW252 := n2_; have GE252 := n3_; clear n0_ n1_ n2_ n3_; clear hb hbox hg) | ((with_reducible refine gate_dst (N := 4) rfl ?_); refine box_event ?hg (N := 4) ?hd (cs := (mixA (Value.int .u16) [] a1)) (t := 27) ?hr ?_; (case hd => rfl); (case hg => rfl); (case hr => first | (go_simp; done) | (go_simp; rfl)); intro gb253 hg w41 hbox hb; have n0_ := bkb BK252 hb; have n1_ := bst HB hb; have n2_ := Aside0.mk (hbox); have n3_ := gwl HB hg; have n4_ := gwl HB hg; have n5_ := nbl BK252 hg; have n6_ := nbg BK252 hg; clear BK252; clear HB; have BK252 := n0_; have HB := n1_; have BK253 := n2_; have GW253 := n3_; have GE253 := n4_; have NB252_253 := n5_; have NB253_252 := n6_; clear n0_ n1_ n2_ n3_ n4_ n5_ n6_; clear hb hbox hg))
   have n0_ := Aside0.mk (blk_drew BK252.out)
   have n1_ := Aside0.mk (blk_drew BK253.out)
   have n2_ := Aside0.mk (below_drew1 HB.out)
   clear BK252
   clear BK253
   clear HB
   have BK252 := n0_
   have BK253 := n1_
   have HB := n2_
   clear n0_ n1_ n2_
   refine start_ (n := 12) (S := fun w' => True) (ds := []) #[false, false, false, false, false, false, false, false, false, false, false, false] (by kernel_rfl) rfl rfl trivial (fun hHeld => ?_); refine with_tabW laws_FnExactMoveCrowd.tab1 laws_FnExactMoveCrowd.bits1 (fun HT_ HW_ => ?_)
   generalize w41.drew = w42 at BK252 BK253 HB hHeld ⊢
   refine pure_ (i := 4) (N := some 16) (v := ?_) (a' := ?_) #[false, false, false, false, true, false, false, false, false, false, false, false] rfl rfl (any_of HT_.out (by kernel_rfl)) (fun _ _ _ h => h) (Or.inl ⟨by rfl, ?_⟩) ?_ ?_
   rotate_left
   ·intro w'
    go_simp
    with_reducible rfl
   rotate_left
   ·simp only [Act.put, List.setIfInBounds_toArray, List.set_cons_zero, List.set_cons_succ, i64_w, i32_w]
    rfl
   refine inv_at [0, 1, 2, 3, 5, 6, 7, 8, 9, 10, 11] (fun a0_ b a w' => ∃ (gb260 : Nat) (m9_ : Value), a = putSel a0_ b [(0, 12, .agg (mixA (Value.int .u16) [.int .i8 a0_0, .int .i8 a0_1] a0_2)), (1, 13, .agg (mixA (Value.int .u16) [.int .i8 t254, .int .i8 t255] t256)), (2, 14, .agg (mixA (Value.int .u16) [] a1)), (3, 15, .agg (mixA (Value.int .u16) [] t257)), (5, 17, .tuple #[.agg (mixA (Value.int .u16) [] t258), .int .i64 t259]), (6, 11, .tuple #[.agg (mixA (Value.int .u16) [] t258), .int .i64 t259]), (7, 18, .agg (mixA (Value.int .u16) [] t258)), (8, 19, .int .i64 t259), (9, 7, m9_), (11, 8, .int .i64 t259)] ∧ (w'.heap[gb252]? = some (.cells (mixA (Value.int .u16) [.int .i8 a0_0, .int .i8 a0_1] a0_2) 26 (0, 0))) ∧ (w'.heap[gb253]? = some (.cells (mixA (Value.int .u16) [] a1) 27 (0, 0))) ∧ (Below w.heap.size w w') ∧ (b 9 = true → b 10 = false → w'.heap[gb260]? = some (.cells (mixA (Value.int .u16) [] (LA.zero 40)) 28 (0, 0))) ∧ (b 9 = true → w.heap.size ≤ gb260) ∧ (b 9 = true → w.heap.size ≤ gb260) ∧ (b 9 = true → gb252 ≠ gb260) ∧ (b 9 = true → gb260 ≠ gb252) ∧ (b 9 = true → gb253 ≠ gb260) ∧ (b 9 = true → gb260 ≠ gb253) ∧ (b 10 = true → w'.heap[gb260]? = some (.cells (mixA (Value.int .u16) [] t258) 28 (0, 0))) ∧ (b 9 = true → (m9_ : Value) = .pointer (some ⟨gb260, 0, none⟩))) HT_.out HW_.out (by kernel_rfl) (by kernel_rfl) ?_ ?_ ?_
   ·exact ⟨0, .bool false, by simp only [putSel, Bool.false_eq_true, if_false], BK252.out, BK253.out, HB.out, fun h_ => absurd h_ (by decide), fun h_ => absurd h_ (by decide), fun h_ => absurd h_ (by decide), fun h_ => absurd h_ (by decide), fun h_ => absurd h_ (by decide), fun h_ => absurd h_ (by decide), fun h_ => absurd h_ (by decide), fun h_ => absurd h_ (by decide), fun h_ => absurd h_ (by decide)⟩
   ·skip
    clear BK252 BK253 HB
    refine steps_cons ?_ ?_
    ·rintro b a w' ⟨gb260, m9_, ha, Q_BK252, Q_BK253, Q_HB, Q_BK260, Q_GW260, Q_GE260, Q_NB252_260, Q_NB260_252, Q_NB253_260, Q_NB260_253, Q_BK260_e10, Q_X9_⟩ hb_ hon hoff
     refine ⟨_, rfl, fun K hK => ?_⟩
     have e3 : a.tmps[3]? = some (.pointer (some ⟨gb252, 0, none⟩)) := by rw [ha]; exact (putSel_off rfl).trans rfl
     replace ha := Aside0.mk ha
     have BK252 := Aside0.mk Q_BK252
     have BK253 := Aside0.mk Q_BK253
     have HB := Aside0.mk Q_HB
     have hL_ : World.rangeAt w' gb252 0 ([.int .i8 a0_0, .int .i8 a0_1] ++ a0_2.l.map (Value.int .u16)) := mix_range BK252.out
     refine value_ (w1 := w') (v := .agg (mixA (Value.int .u16) [.int .i8 a0_0, .int .i8 a0_1] a0_2)) (by rfl) rfl ?_ ?_
     ·exact load_mix_run (P := Tryd.prog) 26 (.tmp 3) rfl gb252 (by simp only [Act.eval, Array.getD_eq_getD_getElem?, e3, Option.getD_some]) hL_ Tryd.underlying26 rfl (by kernel_rfl) rfl
     refine hK.out _ _ ⟨gb260, m9_, (by rw [ha.out]; exact putSel_upk 0 hb_ rfl rfl rfl), Q_BK252, Q_BK253, Q_HB, Q_BK260, Q_GW260, Q_GE260, Q_NB252_260, Q_NB260_252, Q_NB253_260, Q_NB260_253, fun h0_ => absurd ((hoff 10 (by kernel_rfl)).symm.trans h0_) (by decide), Q_X9_⟩
    refine steps_cons ?_ ?_
    ·rintro b a w' ⟨gb260, m9_, ha, Q_BK252, Q_BK253, Q_HB, Q_BK260, Q_GW260, Q_GE260, Q_NB252_260, Q_NB260_252, Q_NB253_260, Q_NB260_253, Q_BK260_e10, Q_X9_⟩ hb_ hon hoff
     refine ⟨_, rfl, fun K hK => ?_⟩
     have e12 : a.tmps[12]? = some (.agg (mixA (Value.int .u16) [.int .i8 a0_0, .int .i8 a0_1] a0_2)) := by rw [ha]; exact putSel_on (e := (0, 12, .agg (mixA (Value.int .u16) [.int .i8 a0_0, .int .i8 a0_1] a0_2))) 0 rfl rfl (hon 0 (by kernel_rfl)) rfl
     replace ha := Aside0.mk ha
     have BK252 := Aside0.mk Q_BK252
     have BK253 := Aside0.mk Q_BK253
     have HB := Aside0.mk Q_HB
     refine goes_ Tryd.func8 (by kernel_rfl) rfl #[.agg (mixA (Value.int .u16) [.int .i8 a0_0, .int .i8 a0_1] a0_2)] (by rfl) rfl rfl (by first | (simp only [List.map_toArray, List.map_cons, List.map_nil, Act.eval, Array.getD_eq_getD_getElem?, Option.getD_some, e12]; done) | (simp only [List.map_toArray, List.map_cons, List.map_nil, Act.eval, Array.getD_eq_getD_getElem?, Option.getD_some, e12]; rfl)) ?_
     with_reducible refine (laws_toRoom.calls k a0_0 a0_1 a0_2 t254 t255 t256 _ A4.out).mono ?_
     rintro e w43 ⟨rfl, hb⟩
     refine ⟨_, rfl, ?_⟩
     have n0_ := bkb BK252 hb
     have n1_ := bkb BK253 hb
     have n2_ := bst HB hb
     have z_BK260 := fun (h0_ : b 9 = true) (h1_ : b 10 = false) => (show w43.heap[gb260]? = some (.cells (mixA (Value.int .u16) [] (LA.zero 40)) 28 (0, 0)) from by first | exact (blk_below (g := gb260) (o := .cells (mixA (Value.int .u16) [] (LA.zero 40)) 28 (0, 0)) (by (with_reducible repeat (first | refine blk_drewN ?_ _ | refine blk_drew ?_ | refine blk_alloc ?_ _)); exact (Q_BK260 h0_ h1_)) hb))
     clear BK252
     clear BK253
     clear HB
     have BK252 := n0_
     have BK253 := n1_
     have HB := n2_
     clear n0_ n1_ n2_
     (try clear hb)
     (try clear hb2)
     (try clear hk)
     (try clear hi)
     refine hK.out _ _ ⟨gb260, m9_, (by rw [ha.out]; exact putSel_upk 1 hb_ rfl rfl rfl), (pk BK252), (pk BK253), (pbs HB), z_BK260, Q_GW260, Q_GE260, Q_NB252_260, Q_NB260_252, Q_NB253_260, Q_NB260_253, fun h0_ => absurd ((hoff 10 (by kernel_rfl)).symm.trans h0_) (by decide), Q_X9_⟩
    refine steps_cons ?_ ?_
    ·rintro b a w' ⟨gb260, m9_, ha, Q_BK252, Q_BK253, Q_HB, Q_BK260, Q_GW260, Q_GE260, Q_NB252_260, Q_NB260_252, Q_NB253_260, Q_NB260_253, Q_BK260_e10, Q_X9_⟩ hb_ hon hoff
     refine ⟨_, rfl, fun K hK => ?_⟩
     have e4 : a.tmps[4]? = some (.pointer (some ⟨gb253, 0, none⟩)) := by rw [ha]; exact (putSel_off rfl).trans rfl
     replace ha := Aside0.mk ha
     have BK252 := Aside0.mk Q_BK252
     have BK253 := Aside0.mk Q_BK253
     have HB := Aside0.mk Q_HB
     have hL_ : World.rangeAt w' gb253 0 ([] ++ a1.l.map (Value.int .u16)) := mix_range BK253.out
     refine value_ (w1 := w') (v := .agg (mixA (Value.int .u16) [] a1)) (by rfl) rfl ?_ ?_
     ·exact load_mix_run (P := Tryd.prog) 27 (.tmp 4) rfl gb253 (by simp only [Act.eval, Array.getD_eq_getD_getElem?, e4, Option.getD_some]) hL_ Tryd.underlying27 rfl (by kernel_rfl) rfl
     refine hK.out _ _ ⟨gb260, m9_, (by rw [ha.out]; exact putSel_upk 2 hb_ rfl rfl rfl), Q_BK252, Q_BK253, Q_HB, Q_BK260, Q_GW260, Q_GE260, Q_NB252_260, Q_NB260_252, Q_NB253_260, Q_NB260_253, fun h0_ => absurd ((hoff 10 (by kernel_rfl)).symm.trans h0_) (by decide), Q_X9_⟩
    refine steps_cons ?_ ?_
    ·rintro b a w' ⟨gb260, m9_, ha, Q_BK252, Q_BK253, Q_HB, Q_BK260, Q_GW260, Q_GE260, Q_NB252_260, Q_NB260_252, Q_NB253_260, Q_NB260_253, Q_BK260_e10, Q_X9_⟩ hb_ hon hoff
     refine ⟨_, rfl, fun K hK => ?_⟩
     have e14 : a.tmps[14]? = some (.agg (mixA (Value.int .u16) [] a1)) := by rw [ha]; exact putSel_on (e := (2, 14, .agg (mixA (Value.int .u16) [] a1))) 2 rfl rfl (hon 2 (by kernel_rfl)) rfl
     replace ha := Aside0.mk ha
     have BK252 := Aside0.mk Q_BK252
     have BK253 := Aside0.mk Q_BK253
     have HB := Aside0.mk Q_HB
     refine goes_ Tryd.func12 (by kernel_rfl) rfl #[.agg (mixA (Value.int .u16) [] a1)] (by rfl) rfl rfl (by first | (simp only [List.map_toArray, List.map_cons, List.map_nil, Act.eval, Array.getD_eq_getD_getElem?, Option.getD_some, e14]; done) | (simp only [List.map_toArray, List.map_cons, List.map_nil, Act.eval, Array.getD_eq_getD_getElem?, Option.getD_some, e14]; rfl)) ?_
     with_reducible refine (laws_toCrowd.calls k a1 t257 _ A5.out).mono ?_
     rintro e w45 ⟨rfl, hb⟩
     refine ⟨_, rfl, ?_⟩
     have n0_ := bkb BK252 hb
     have n1_ := bkb BK253 hb
     have n2_ := bst HB hb
     have z_BK260 := fun (h0_ : b 9 = true) (h1_ : b 10 = false) => (show w45.heap[gb260]? = some (.cells (mixA (Value.int .u16) [] (LA.zero 40)) 28 (0, 0)) from by first | exact (blk_below (g := gb260) (o := .cells (mixA (Value.int .u16) [] (LA.zero 40)) 28 (0, 0)) (by (with_reducible repeat (first | refine blk_drewN ?_ _ | refine blk_drew ?_ | refine blk_alloc ?_ _)); exact (Q_BK260 h0_ h1_)) hb))
     clear BK252
     clear BK253
     clear HB
     have BK252 := n0_
     have BK253 := n1_
     have HB := n2_
     clear n0_ n1_ n2_
     (try clear hb)
     (try clear hb2)
     (try clear hk)
     (try clear hi)
     refine hK.out _ _ ⟨gb260, m9_, (by rw [ha.out]; exact putSel_upk 3 hb_ rfl rfl rfl), (pk BK252), (pk BK253), (pbs HB), z_BK260, Q_GW260, Q_GE260, Q_NB252_260, Q_NB260_252, Q_NB253_260, Q_NB260_253, fun h0_ => absurd ((hoff 10 (by kernel_rfl)).symm.trans h0_) (by decide), Q_X9_⟩
    refine steps_cons ?_ ?_
    ·rintro b a w' ⟨gb260, m9_, ha, Q_BK252, Q_BK253, Q_HB, Q_BK260, Q_GW260, Q_GE260, Q_NB252_260, Q_NB260_252, Q_NB253_260, Q_NB260_253, Q_BK260_e10, Q_X9_⟩ hb_ hon hoff
     refine ⟨_, rfl, fun K hK => ?_⟩
     have e13 : a.tmps[13]? = some (.agg (mixA (Value.int .u16) [.int .i8 t254, .int .i8 t255] t256)) := by rw [ha]; exact putSel_on (e := (1, 13, .agg (mixA (Value.int .u16) [.int .i8 t254, .int .i8 t255] t256))) 1 rfl rfl (hon 1 (by kernel_rfl)) rfl
     have e15 : a.tmps[15]? = some (.agg (mixA (Value.int .u16) [] t257)) := by rw [ha]; exact putSel_on (e := (3, 15, .agg (mixA (Value.int .u16) [] t257))) 3 rfl rfl (hon 3 (by kernel_rfl)) rfl
     have e16 : a.tmps[16]? = some (.int .u8 a2) := by rw [ha]; exact (putSel_off rfl).trans rfl
     replace ha := Aside0.mk ha
     have BK252 := Aside0.mk Q_BK252
     have BK253 := Aside0.mk Q_BK253
     have HB := Aside0.mk Q_HB
     refine goes_ Tryd.func11 (by kernel_rfl) rfl #[.agg (mixA (Value.int .u16) [.int .i8 t254, .int .i8 t255] t256), .agg (mixA (Value.int .u16) [] t257), .int .u8 a2] (by rfl) rfl rfl (by first | (simp only [List.map_toArray, List.map_cons, List.map_nil, Act.eval, Array.getD_eq_getD_getElem?, Option.getD_some, e13, e15, e16]; done) | (simp only [List.map_toArray, List.map_cons, List.map_nil, Act.eval, Array.getD_eq_getD_getElem?, Option.getD_some, e13, e15, e16]; rfl)) ?_
     with_reducible refine (spec_MoveCrowd.calls k t254 t255 t256 t257 a2 t258 t259 _ A6.out).mono ?_
     rintro e w46 ⟨rfl, hb⟩
     refine ⟨_, rfl, ?_⟩
     have n0_ := bkb BK252 hb
     have n1_ := bkb BK253 hb
     have n2_ := bst HB hb
     have z_BK260 := fun (h0_ : b 9 = true) (h1_ : b 10 = false) => (show w46.heap[gb260]? = some (.cells (mixA (Value.int .u16) [] (LA.zero 40)) 28 (0, 0)) from by first | exact (blk_below (g := gb260) (o := .cells (mixA (Value.int .u16) [] (LA.zero 40)) 28 (0, 0)) (by (with_reducible repeat (first | refine blk_drewN ?_ _ | refine blk_drew ?_ | refine blk_alloc ?_ _)); exact (Q_BK260 h0_ h1_)) hb))
     clear BK252
     clear BK253
     clear HB
     have BK252 := n0_
     have BK253 := n1_
     have HB := n2_
     clear n0_ n1_ n2_
     (try clear hb)
     (try clear hb2)
     (try clear hk)
     (try clear hi)
     refine hK.out _ _ ⟨gb260, m9_, (by rw [ha.out]; exact putSel_upk 4 hb_ rfl rfl rfl), (pk BK252), (pk BK253), (pbs HB), z_BK260, Q_GW260, Q_GE260, Q_NB252_260, Q_NB260_252, Q_NB253_260, Q_NB260_253, fun h0_ => absurd ((hoff 10 (by kernel_rfl)).symm.trans h0_) (by decide), Q_X9_⟩
    refine steps_cons ?_ ?_
    ·rintro b a w' ⟨gb260, m9_, ha, Q_BK252, Q_BK253, Q_HB, Q_BK260, Q_GW260, Q_GE260, Q_NB252_260, Q_NB260_252, Q_NB253_260, Q_NB260_253, Q_BK260_e10, Q_X9_⟩ hb_ hon hoff
     refine ⟨_, rfl, fun K hK => ?_⟩
     have e17 : a.tmps[17]? = some (.tuple #[.agg (mixA (Value.int .u16) [] t258), .int .i64 t259]) := by rw [ha]; exact putSel_on (e := (5, 17, .tuple #[.agg (mixA (Value.int .u16) [] t258), .int .i64 t259])) 4 rfl rfl (hon 5 (by kernel_rfl)) rfl
     replace ha := Aside0.mk ha
     have BK252 := Aside0.mk Q_BK252
     have BK253 := Aside0.mk Q_BK253
     have HB := Aside0.mk Q_HB
     refine value_ (w1 := w') (v := .tuple #[.agg (mixA (Value.int .u16) [] t258), .int .i64 t259]) (by rfl) rfl ?_ ?_
     ·go_simp
      (try simp only [i64_w])
      try rfl
     refine hK.out _ _ ⟨gb260, m9_, (by rw [ha.out]; exact putSel_upk 5 hb_ rfl rfl rfl), Q_BK252, Q_BK253, Q_HB, Q_BK260, Q_GW260, Q_GE260, Q_NB252_260, Q_NB260_252, Q_NB253_260, Q_NB260_253, fun h0_ => absurd ((hoff 10 (by kernel_rfl)).symm.trans h0_) (by decide), Q_X9_⟩
    refine steps_cons ?_ ?_
    ·rintro b a w' ⟨gb260, m9_, ha, Q_BK252, Q_BK253, Q_HB, Q_BK260, Q_GW260, Q_GE260, Q_NB252_260, Q_NB260_252, Q_NB253_260, Q_NB260_253, Q_BK260_e10, Q_X9_⟩ hb_ hon hoff
     refine ⟨_, rfl, fun K hK => ?_⟩
     have e11 : a.tmps[11]? = some (.tuple #[.agg (mixA (Value.int .u16) [] t258), .int .i64 t259]) := by rw [ha]; exact putSel_on (e := (6, 11, .tuple #[.agg (mixA (Value.int .u16) [] t258), .int .i64 t259])) 5 rfl rfl (hon 6 (by kernel_rfl)) rfl
     replace ha := Aside0.mk ha
     have BK252 := Aside0.mk Q_BK252
     have BK253 := Aside0.mk Q_BK253
     have HB := Aside0.mk Q_HB
     refine value_ (w1 := w') (v := .agg (mixA (Value.int .u16) [] t258)) (by rfl) rfl ?_ ?_
     ·go_simp
      (try simp only [i64_w])
      try rfl
     refine hK.out _ _ ⟨gb260, m9_, (by rw [ha.out]; exact putSel_upk 6 hb_ rfl rfl rfl), Q_BK252, Q_BK253, Q_HB, Q_BK260, Q_GW260, Q_GE260, Q_NB252_260, Q_NB260_252, Q_NB253_260, Q_NB260_253, fun h0_ => absurd ((hoff 10 (by kernel_rfl)).symm.trans h0_) (by decide), Q_X9_⟩
    refine steps_cons ?_ ?_
    ·rintro b a w' ⟨gb260, m9_, ha, Q_BK252, Q_BK253, Q_HB, Q_BK260, Q_GW260, Q_GE260, Q_NB252_260, Q_NB260_252, Q_NB253_260, Q_NB260_253, Q_BK260_e10, Q_X9_⟩ hb_ hon hoff
     refine ⟨_, rfl, fun K hK => ?_⟩
     have e11 : a.tmps[11]? = some (.tuple #[.agg (mixA (Value.int .u16) [] t258), .int .i64 t259]) := by rw [ha]; exact putSel_on (e := (6, 11, .tuple #[.agg (mixA (Value.int .u16) [] t258), .int .i64 t259])) 5 rfl rfl (hon 6 (by kernel_rfl)) rfl
     replace ha := Aside0.mk ha
     have BK252 := Aside0.mk Q_BK252
     have BK253 := Aside0.mk Q_BK253
     have HB := Aside0.mk Q_HB
     refine value_ (w1 := w') (v := .int .i64 t259) (by rfl) rfl ?_ ?_
     ·go_simp
      (try simp only [i64_w])
      try rfl
     refine hK.out _ _ ⟨gb260, m9_, (by rw [ha.out]; exact putSel_upk 7 hb_ rfl rfl rfl), Q_BK252, Q_BK253, Q_HB, Q_BK260, Q_GW260, Q_GE260, Q_NB252_260, Q_NB260_252, Q_NB253_260, Q_NB260_253, Q_BK260_e10, Q_X9_⟩
    refine steps_cons ?_ ?_
    ·rintro b a w' ⟨gb260, m9_, ha, Q_BK252, Q_BK253, Q_HB, Q_BK260, Q_GW260, Q_GE260, Q_NB252_260, Q_NB260_252, Q_NB253_260, Q_NB260_253, Q_BK260_e10, Q_X9_⟩ hb_ hon hoff
     refine ⟨_, rfl, fun K hK => ?_⟩
     replace ha := Aside0.mk ha
     have BK252 := Aside0.mk Q_BK252
     have BK253 := Aside0.mk Q_BK253
     have HB := Aside0.mk Q_HB
     refine box_step ?hg (N := 7) ?hd (cs := (mixA (Value.int .u16) [] (LA.zero 40))) (t := 28) ?hr ?_; (case hd => rfl); (case hg => rfl); (case hr => first | (go_simp; done) | (go_simp; rfl))
     intro gb260 hg w43 hbox hb
     have n0_ := bkb BK252 hb
     have n1_ := bkb BK253 hb
     have n2_ := bst HB hb
     have n3_ := Aside0.mk (hbox)
     have n4_ := gwl HB hg
     have n5_ := gwl HB hg
     have n6_ := nbl BK252 hg
     have n7_ := nbg BK252 hg
     have n8_ := nbl BK253 hg
     have n9_ := nbg BK253 hg
     clear BK252
     clear BK253
     clear HB
     have BK252 := n0_
     have BK253 := n1_
     have HB := n2_
     have BK260 := n3_
     have GW260 := n4_
     have GE260 := n5_
     have NB252_260 := n6_
     have NB260_252 := n7_
     have NB253_260 := n8_
     have NB260_253 := n9_
     clear n0_ n1_ n2_ n3_ n4_ n5_ n6_ n7_ n8_ n9_
     clear hb hbox hg
     refine hK.out _ _ ⟨gb260, (.pointer (some ⟨gb260, 0, none⟩)), (by rw [ha.out]; exact putSel_upk 8 hb_ rfl rfl rfl), (pk BK252), (pk BK253), (pbs HB), fun _ _ => (pk BK260), fun _ => GW260.out, fun _ => GE260.out, fun _ => NB252_260.out, fun _ => NB260_252.out, fun _ => NB253_260.out, fun _ => NB260_253.out, fun h0_ => absurd ((hoff 10 (by kernel_rfl)).symm.trans h0_) (by decide), fun _ => rfl⟩
    refine steps_cons ?_ ?_
    ·rintro b a w' ⟨gb260, m9_, ha, Q_BK252, Q_BK253, Q_HB, Q_BK260, Q_GW260, Q_GE260, Q_NB252_260, Q_NB260_252, Q_NB253_260, Q_NB260_253, Q_BK260_e10, Q_X9_⟩ hb_ hon hoff
     refine ⟨_, rfl, fun K hK => ?_⟩
     have e7 : a.tmps[7]? = some (m9_) := by rw [ha]; exact putSel_on (e := (9, 7, m9_)) 8 rfl rfl (hon 9 (by kernel_rfl)) rfl
     rw [Q_X9_ (hon 9 (by kernel_rfl))] at e7
     have e18 : a.tmps[18]? = some (.agg (mixA (Value.int .u16) [] t258)) := by rw [ha]; exact putSel_on (e := (7, 18, .agg (mixA (Value.int .u16) [] t258))) 6 rfl rfl (hon 7 (by kernel_rfl)) rfl
     replace ha := Aside0.mk ha
     have BK252 := Aside0.mk Q_BK252
     have BK253 := Aside0.mk Q_BK253
     have HB := Aside0.mk Q_HB
     have BK260 := Aside0.mk (Q_BK260 (hon 9 (by kernel_rfl)) hb_)
     have GW260 := Aside0.mk (Q_GW260 (hon 9 (by kernel_rfl)))
     have GE260 := Aside0.mk (Q_GE260 (hon 9 (by kernel_rfl)))
     have NB252_260 := Aside0.mk (Q_NB252_260 (hon 9 (by kernel_rfl)))
     have NB260_252 := Aside0.mk (Q_NB260_252 (hon 9 (by kernel_rfl)))
     have NB253_260 := Aside0.mk (Q_NB253_260 (hon 9 (by kernel_rfl)))
     have NB260_253 := Aside0.mk (Q_NB260_253 (hon 9 (by kernel_rfl)))
     refine step_store_lmix (by rfl) rfl 28 _ _ rfl gb260 (e := (Value.int .u16)) (cs' := []) (W' := t258) (cs := []) (W := (LA.zero 40)) (T := 28) (by first | (simp only [List.map_toArray, List.map_cons, List.map_nil, Act.eval, Array.getD_eq_getD_getElem?, Option.getD_some, e7, e18]; done) | (simp only [List.map_toArray, List.map_cons, List.map_nil, Act.eval, Array.getD_eq_getD_getElem?, Option.getD_some, e7, e18]; rfl)) (by first | (simp only [List.map_toArray, List.map_cons, List.map_nil, Act.eval, Array.getD_eq_getD_getElem?, Option.getD_some, e7, e18]; done) | (simp only [List.map_toArray, List.map_cons, List.map_nil, Act.eval, Array.getD_eq_getD_getElem?, Option.getD_some, e7, e18]; rfl)) (pk BK260) rfl (by kernel_rfl) rfl (fun _ => rfl) rfl ?_
     intro w48 hi hk hbl
     have n0_ := Aside0.mk (KeepBut.blk hk (g' := gb252) (o := .cells (mixA (Value.int .u16) [.int .i8 a0_0, .int .i8 a0_1] a0_2) 26 (0, 0)) (pk BK252) NB252_260.out (by simp))
     have n1_ := Aside0.mk (KeepBut.blk hk (g' := gb253) (o := .cells (mixA (Value.int .u16) [] a1) 27 (0, 0)) (pk BK253) NB253_260.out (by simp))
     have n2_ := Aside0.mk (hbl _ _ (pbs HB) GE260.out)
     have n3_ := Aside0.mk (hi)
     clear BK252
     clear BK253
     clear HB
     clear BK260
     have BK252 := n0_
     have BK253 := n1_
     have HB := n2_
     have BK260 := n3_
     clear n0_ n1_ n2_ n3_
     clear hi hk hbl
     refine hK.out _ _ ⟨gb260, m9_, (by rw [ha.out]; exact putSel_none (v := undef) rfl), (pk BK252), (pk BK253), (pbs HB), fun _ h1_ => absurd ((up_self b 10).symm.trans h1_) (by decide), fun _ => GW260.out, fun _ => GE260.out, fun _ => NB252_260.out, fun _ => NB260_252.out, fun _ => NB253_260.out, fun _ => NB260_253.out, fun _ => (pk BK260), Q_X9_⟩
    refine steps_cons ?_ ?_
    ·rintro b a w' ⟨gb260, m9_, ha, Q_BK252, Q_BK253, Q_HB, Q_BK260, Q_GW260, Q_GE260, Q_NB252_260, Q_NB260_252, Q_NB253_260, Q_NB260_253, Q_BK260_e10, Q_X9_⟩ hb_ hon hoff
     refine ⟨_, rfl, fun K hK => ?_⟩
     have e19 : a.tmps[19]? = some (.int .i64 t259) := by rw [ha]; exact putSel_on (e := (8, 19, .int .i64 t259)) 7 rfl rfl (hon 8 (by kernel_rfl)) rfl
     replace ha := Aside0.mk ha
     have BK252 := Aside0.mk Q_BK252
     have BK253 := Aside0.mk Q_BK253
     have HB := Aside0.mk Q_HB
     have GW260 := Aside0.mk (Q_GW260 (hon 9 (by kernel_rfl)))
     have GE260 := Aside0.mk (Q_GE260 (hon 9 (by kernel_rfl)))
     have NB252_260 := Aside0.mk (Q_NB252_260 (hon 9 (by kernel_rfl)))
     have NB260_252 := Aside0.mk (Q_NB260_252 (hon 9 (by kernel_rfl)))
     have NB253_260 := Aside0.mk (Q_NB253_260 (hon 9 (by kernel_rfl)))
     have NB260_253 := Aside0.mk (Q_NB260_253 (hon 9 (by kernel_rfl)))
     have BK260 := Aside0.mk (Q_BK260_e10 (hon 10 (by kernel_rfl)))
     refine value_ (w1 := w') (v := .int .i64 t259) (by rfl) rfl ?_ ?_
     ·go_simp
      (try simp only [i64_w])
      try rfl
     refine hK.out _ _ ⟨gb260, m9_, (by rw [ha.out]; exact putSel_upk 9 hb_ rfl rfl rfl), Q_BK252, Q_BK253, Q_HB, fun _ h1_ => absurd ((hon 10 (by kernel_rfl)).symm.trans h1_) (by decide), Q_GW260, Q_GE260, Q_NB252_260, Q_NB260_252, Q_NB253_260, Q_NB260_253, Q_BK260_e10, Q_X9_⟩
    exact steps_nil
   rintro b a w48 hall ⟨gb260, m9_, ha, Q_BK252, Q_BK253, Q_HB, Q_BK260, Q_GW260, Q_GE260, Q_NB252_260, Q_NB260_252, Q_NB253_260, Q_NB260_253, Q_BK260_e10, Q_X9_⟩
   clear BK252 BK253 HB
   have hb0_ := hall 0 (by kernel_rfl)
   have hb1_ := hall 1 (by kernel_rfl)
   have hb2_ := hall 2 (by kernel_rfl)
   have hb3_ := hall 3 (by kernel_rfl)
   have hb5_ := hall 5 (by kernel_rfl)
   have hb6_ := hall 6 (by kernel_rfl)
   have hb7_ := hall 7 (by kernel_rfl)
   have hb8_ := hall 8 (by kernel_rfl)
   have hb9_ := hall 9 (by kernel_rfl)
   have hb10_ := hall 10 (by kernel_rfl)
   have hb11_ := hall 11 (by kernel_rfl)
   subst ha
   obtain rfl := (Q_X9_ hb9_).symm
   simp only [putSel, hb0_, hb1_, hb2_, hb3_, hb5_, hb6_, hb7_, hb8_, hb9_, hb10_, hb11_, if_true, Act.put, List.setIfInBounds_toArray, List.set_cons_zero, List.set_cons_succ]
   have BK252 := Aside0.mk Q_BK252
   clear Q_BK252
   have BK253 := Aside0.mk Q_BK253
   clear Q_BK253
   have HB := Aside0.mk Q_HB
   clear Q_HB
   clear Q_BK260
   have GW260 := Aside0.mk (Q_GW260 hb9_)
   clear Q_GW260
   have GE260 := Aside0.mk (Q_GE260 hb9_)
   clear Q_GE260
   have NB252_260 := Aside0.mk (Q_NB252_260 hb9_)
   clear Q_NB252_260
   have NB260_252 := Aside0.mk (Q_NB260_252 hb9_)
   clear Q_NB260_252
   have NB253_260 := Aside0.mk (Q_NB253_260 hb9_)
   clear Q_NB253_260
   have NB260_253 := Aside0.mk (Q_NB260_253 hb9_)
   clear Q_NB260_253
   have BK260 := Aside0.mk (Q_BK260_e10 hb10_)
   clear Q_BK260_e10
   clear hall hb0_ hb1_ hb2_ hb3_ hb5_ hb6_ hb7_ hb8_ hb9_ hb10_ hb11_
   try go_wp2
   have n0_ := Aside0.mk (blk_drew BK252.out)
   have n1_ := Aside0.mk (blk_drew BK253.out)
   have n2_ := Aside0.mk (blk_drew BK260.out)
   have n3_ := Aside0.mk (below_drew1 HB.out)
   clear BK252
   clear BK253
   clear BK260
   clear HB
   have BK252 := n0_
   have BK253 := n1_
   have BK260 := n2_
   have HB := n3_
   clear n0_ n1_ n2_ n3_
   refine start_ (n := 12) (S := fun w' => True) (ds := []) #[false, false, false, false, false, false, false, false, false, false, false, false] (by kernel_rfl) rfl rfl trivial (fun hHeld => ?_); refine with_tabW laws_FnExactMoveCrowd.tab2 laws_FnExactMoveCrowd.bits2 (fun HT_ HW_ => ?_)
   generalize w48.drew = w53 at BK252 BK253 BK260 HB hHeld ⊢
   refine pure_ (i := 4) (N := some 25) (v := ?_) (a' := ?_) #[false, false, false, false, true, false, false, false, false, false, false, false] rfl rfl (any_of HT_.out (by kernel_rfl)) (fun _ _ _ h => h) (Or.inl ⟨by rfl, ?_⟩) ?_ ?_
   rotate_left
   ·intro w'
    go_simp
    with_reducible rfl
   rotate_left
   ·simp only [Act.put, List.setIfInBounds_toArray, List.set_cons_zero, List.set_cons_succ, i64_w, i32_w]
    rfl
   refine inv_at [0, 1, 2, 3, 5, 6, 7, 8, 9, 10, 11] (fun a0_ b a w' => ∃ (gb267 : Nat) (m9_ : Value), a = putSel a0_ b [(0, 21, .agg (mixA (Value.int .u16) [.int .i8 a0_0, .int .i8 a0_1] a0_2)), (1, 22, .agg (mixA (Value.int .u16) [.int .i8 t261, .int .i8 t262] t263)), (2, 23, .agg (mixA (Value.int .u16) [] a1)), (3, 24, .agg (mixA (Value.int .u16) [] t264)), (5, 26, .tuple #[.agg (mixA (Value.int .u16) [] t265), .int .i64 t266]), (6, 20, .tuple #[.agg (mixA (Value.int .u16) [] t265), .int .i64 t266]), (7, 27, .agg (mixA (Value.int .u16) [] t265)), (8, 28, .int .i64 t266), (9, 9, m9_), (11, 10, .int .i64 t266)] ∧ (w'.heap[gb252]? = some (.cells (mixA (Value.int .u16) [.int .i8 a0_0, .int .i8 a0_1] a0_2) 26 (0, 0))) ∧ (w'.heap[gb253]? = some (.cells (mixA (Value.int .u16) [] a1) 27 (0, 0))) ∧ (w'.heap[gb260]? = some (.cells (mixA (Value.int .u16) [] t258) 28 (0, 0))) ∧ (Below w.heap.size w w') ∧ (b 9 = true → b 10 = false → w'.heap[gb267]? = some (.cells (mixA (Value.int .u16) [] (LA.zero 40)) 28 (0, 0))) ∧ (b 9 = true → w.heap.size ≤ gb267) ∧ (b 9 = true → w.heap.size ≤ gb267) ∧ (b 9 = true → gb252 ≠ gb267) ∧ (b 9 = true → gb267 ≠ gb252) ∧ (b 9 = true → gb253 ≠ gb267) ∧ (b 9 = true → gb267 ≠ gb253) ∧ (b 9 = true → gb260 ≠ gb267) ∧ (b 9 = true → gb267 ≠ gb260) ∧ (b 10 = true → w'.heap[gb267]? = some (.cells (mixA (Value.int .u16) [] t265) 28 (0, 0))) ∧ (b 9 = true → (m9_ : Value) = .pointer (some ⟨gb267, 0, none⟩))) HT_.out HW_.out (by kernel_rfl) (by kernel_rfl) ?_ ?_ ?_
   ·exact ⟨0, .bool false, by simp only [putSel, Bool.false_eq_true, if_false], BK252.out, BK253.out, BK260.out, HB.out, fun h_ => absurd h_ (by decide), fun h_ => absurd h_ (by decide), fun h_ => absurd h_ (by decide), fun h_ => absurd h_ (by decide), fun h_ => absurd h_ (by decide), fun h_ => absurd h_ (by decide), fun h_ => absurd h_ (by decide), fun h_ => absurd h_ (by decide), fun h_ => absurd h_ (by decide), fun h_ => absurd h_ (by decide), fun h_ => absurd h_ (by decide)⟩
   ·skip
    clear BK252 BK253 BK260 HB
    refine steps_cons ?_ ?_
    ·rintro b a w' ⟨gb267, m9_, ha, Q_BK252, Q_BK253, Q_BK260, Q_HB, Q_BK267, Q_GW267, Q_GE267, Q_NB252_267, Q_NB267_252, Q_NB253_267, Q_NB267_253, Q_NB260_267, Q_NB267_260, Q_BK267_e10, Q_X9_⟩ hb_ hon hoff
     refine ⟨_, rfl, fun K hK => ?_⟩
     have e3 : a.tmps[3]? = some (.pointer (some ⟨gb252, 0, none⟩)) := by rw [ha]; exact (putSel_off rfl).trans rfl
     replace ha := Aside0.mk ha
     have BK252 := Aside0.mk Q_BK252
     have BK253 := Aside0.mk Q_BK253
     have BK260 := Aside0.mk Q_BK260
     have HB := Aside0.mk Q_HB
     have hL_ : World.rangeAt w' gb252 0 ([.int .i8 a0_0, .int .i8 a0_1] ++ a0_2.l.map (Value.int .u16)) := mix_range BK252.out
     refine value_ (w1 := w') (v := .agg (mixA (Value.int .u16) [.int .i8 a0_0, .int .i8 a0_1] a0_2)) (by rfl) rfl ?_ ?_
     ·exact load_mix_run (P := Tryd.prog) 26 (.tmp 3) rfl gb252 (by simp only [Act.eval, Array.getD_eq_getD_getElem?, e3, Option.getD_some]) hL_ Tryd.underlying26 rfl (by kernel_rfl) rfl
     refine hK.out _ _ ⟨gb267, m9_, (by rw [ha.out]; exact putSel_upk 0 hb_ rfl rfl rfl), Q_BK252, Q_BK253, Q_BK260, Q_HB, Q_BK267, Q_GW267, Q_GE267, Q_NB252_267, Q_NB267_252, Q_NB253_267, Q_NB267_253, Q_NB260_267, Q_NB267_260, fun h0_ => absurd ((hoff 10 (by kernel_rfl)).symm.trans h0_) (by decide), Q_X9_⟩
    refine steps_cons ?_ ?_
    ·rintro b a w' ⟨gb267, m9_, ha, Q_BK252, Q_BK253, Q_BK260, Q_HB, Q_BK267, Q_GW267, Q_GE267, Q_NB252_267, Q_NB267_252, Q_NB253_267, Q_NB267_253, Q_NB260_267, Q_NB267_260, Q_BK267_e10, Q_X9_⟩ hb_ hon hoff
     refine ⟨_, rfl, fun K hK => ?_⟩
     have e21 : a.tmps[21]? = some (.agg (mixA (Value.int .u16) [.int .i8 a0_0, .int .i8 a0_1] a0_2)) := by rw [ha]; exact putSel_on (e := (0, 21, .agg (mixA (Value.int .u16) [.int .i8 a0_0, .int .i8 a0_1] a0_2))) 0 rfl rfl (hon 0 (by kernel_rfl)) rfl
     replace ha := Aside0.mk ha
     have BK252 := Aside0.mk Q_BK252
     have BK253 := Aside0.mk Q_BK253
     have BK260 := Aside0.mk Q_BK260
     have HB := Aside0.mk Q_HB
     refine goes_ Tryd.func8 (by kernel_rfl) rfl #[.agg (mixA (Value.int .u16) [.int .i8 a0_0, .int .i8 a0_1] a0_2)] (by rfl) rfl rfl (by first | (simp only [List.map_toArray, List.map_cons, List.map_nil, Act.eval, Array.getD_eq_getD_getElem?, Option.getD_some, e21]; done) | (simp only [List.map_toArray, List.map_cons, List.map_nil, Act.eval, Array.getD_eq_getD_getElem?, Option.getD_some, e21]; rfl)) ?_
     with_reducible refine (laws_toRoom.calls k a0_0 a0_1 a0_2 t261 t262 t263 _ A7.out).mono ?_
     rintro e w54 ⟨rfl, hb⟩
     refine ⟨_, rfl, ?_⟩
     have n0_ := bkb BK252 hb
     have n1_ := bkb BK253 hb
     have n2_ := bkb BK260 hb
     have n3_ := bst HB hb
     have z_BK267 := fun (h0_ : b 9 = true) (h1_ : b 10 = false) => (show w54.heap[gb267]? = some (.cells (mixA (Value.int .u16) [] (LA.zero 40)) 28 (0, 0)) from by first | exact (blk_below (g := gb267) (o := .cells (mixA (Value.int .u16) [] (LA.zero 40)) 28 (0, 0)) (by (with_reducible repeat (first | refine blk_drewN ?_ _ | refine blk_drew ?_ | refine blk_alloc ?_ _)); exact (Q_BK267 h0_ h1_)) hb))
     clear BK252
     clear BK253
     clear BK260
     clear HB
     have BK252 := n0_
     have BK253 := n1_
     have BK260 := n2_
     have HB := n3_
     clear n0_ n1_ n2_ n3_
     (try clear hb)
     (try clear hb2)
     (try clear hk)
     (try clear hi)
     refine hK.out _ _ ⟨gb267, m9_, (by rw [ha.out]; exact putSel_upk 1 hb_ rfl rfl rfl), (pk BK252), (pk BK253), (pk BK260), (pbs HB), z_BK267, Q_GW267, Q_GE267, Q_NB252_267, Q_NB267_252, Q_NB253_267, Q_NB267_253, Q_NB260_267, Q_NB267_260, fun h0_ => absurd ((hoff 10 (by kernel_rfl)).symm.trans h0_) (by decide), Q_X9_⟩
    refine steps_cons ?_ ?_
    ·rintro b a w' ⟨gb267, m9_, ha, Q_BK252, Q_BK253, Q_BK260, Q_HB, Q_BK267, Q_GW267, Q_GE267, Q_NB252_267, Q_NB267_252, Q_NB253_267, Q_NB267_253, Q_NB260_267, Q_NB267_260, Q_BK267_e10, Q_X9_⟩ hb_ hon hoff
     refine ⟨_, rfl, fun K hK => ?_⟩
     have e4 : a.tmps[4]? = some (.pointer (some ⟨gb253, 0, none⟩)) := by rw [ha]; exact (putSel_off rfl).trans rfl
     replace ha := Aside0.mk ha
     have BK252 := Aside0.mk Q_BK252
     have BK253 := Aside0.mk Q_BK253
     have BK260 := Aside0.mk Q_BK260
     have HB := Aside0.mk Q_HB
     have hL_ : World.rangeAt w' gb253 0 ([] ++ a1.l.map (Value.int .u16)) := mix_range BK253.out
     refine value_ (w1 := w') (v := .agg (mixA (Value.int .u16) [] a1)) (by rfl) rfl ?_ ?_
     ·exact load_mix_run (P := Tryd.prog) 27 (.tmp 4) rfl gb253 (by simp only [Act.eval, Array.getD_eq_getD_getElem?, e4, Option.getD_some]) hL_ Tryd.underlying27 rfl (by kernel_rfl) rfl
     refine hK.out _ _ ⟨gb267, m9_, (by rw [ha.out]; exact putSel_upk 2 hb_ rfl rfl rfl), Q_BK252, Q_BK253, Q_BK260, Q_HB, Q_BK267, Q_GW267, Q_GE267, Q_NB252_267, Q_NB267_252, Q_NB253_267, Q_NB267_253, Q_NB260_267, Q_NB267_260, fun h0_ => absurd ((hoff 10 (by kernel_rfl)).symm.trans h0_) (by decide), Q_X9_⟩
    refine steps_cons ?_ ?_
    ·rintro b a w' ⟨gb267, m9_, ha, Q_BK252, Q_BK253, Q_BK260, Q_HB, Q_BK267, Q_GW267, Q_GE267, Q_NB252_267, Q_NB267_252, Q_NB253_267, Q_NB267_253, Q_NB260_267, Q_NB267_260, Q_BK267_e10, Q_X9_⟩ hb_ hon hoff
     refine ⟨_, rfl, fun K hK => ?_⟩
     have e23 : a.tmps[23]? = some (.agg (mixA (Value.int .u16) [] a1)) := by rw [ha]; exact putSel_on (e := (2, 23, .agg (mixA (Value.int .u16) [] a1))) 2 rfl rfl (hon 2 (by kernel_rfl)) rfl
     replace ha := Aside0.mk ha
     have BK252 := Aside0.mk Q_BK252
     have BK253 := Aside0.mk Q_BK253
     have BK260 := Aside0.mk Q_BK260
     have HB := Aside0.mk Q_HB
     refine goes_ Tryd.func12 (by kernel_rfl) rfl #[.agg (mixA (Value.int .u16) [] a1)] (by rfl) rfl rfl (by first | (simp only [List.map_toArray, List.map_cons, List.map_nil, Act.eval, Array.getD_eq_getD_getElem?, Option.getD_some, e23]; done) | (simp only [List.map_toArray, List.map_cons, List.map_nil, Act.eval, Array.getD_eq_getD_getElem?, Option.getD_some, e23]; rfl)) ?_
     with_reducible refine (laws_toCrowd.calls k a1 t264 _ A8.out).mono ?_
     rintro e w56 ⟨rfl, hb⟩
     refine ⟨_, rfl, ?_⟩
     have n0_ := bkb BK252 hb
     have n1_ := bkb BK253 hb
     have n2_ := bkb BK260 hb
     have n3_ := bst HB hb
     have z_BK267 := fun (h0_ : b 9 = true) (h1_ : b 10 = false) => (show w56.heap[gb267]? = some (.cells (mixA (Value.int .u16) [] (LA.zero 40)) 28 (0, 0)) from by first | exact (blk_below (g := gb267) (o := .cells (mixA (Value.int .u16) [] (LA.zero 40)) 28 (0, 0)) (by (with_reducible repeat (first | refine blk_drewN ?_ _ | refine blk_drew ?_ | refine blk_alloc ?_ _)); exact (Q_BK267 h0_ h1_)) hb))
     clear BK252
     clear BK253
     clear BK260
     clear HB
     have BK252 := n0_
     have BK253 := n1_
     have BK260 := n2_
     have HB := n3_
     clear n0_ n1_ n2_ n3_
     (try clear hb)
     (try clear hb2)
     (try clear hk)
     (try clear hi)
     refine hK.out _ _ ⟨gb267, m9_, (by rw [ha.out]; exact putSel_upk 3 hb_ rfl rfl rfl), (pk BK252), (pk BK253), (pk BK260), (pbs HB), z_BK267, Q_GW267, Q_GE267, Q_NB252_267, Q_NB267_252, Q_NB253_267, Q_NB267_253, Q_NB260_267, Q_NB267_260, fun h0_ => absurd ((hoff 10 (by kernel_rfl)).symm.trans h0_) (by decide), Q_X9_⟩
    refine steps_cons ?_ ?_
    ·rintro b a w' ⟨gb267, m9_, ha, Q_BK252, Q_BK253, Q_BK260, Q_HB, Q_BK267, Q_GW267, Q_GE267, Q_NB252_267, Q_NB267_252, Q_NB253_267, Q_NB267_253, Q_NB260_267, Q_NB267_260, Q_BK267_e10, Q_X9_⟩ hb_ hon hoff
     refine ⟨_, rfl, fun K hK => ?_⟩
     have e22 : a.tmps[22]? = some (.agg (mixA (Value.int .u16) [.int .i8 t261, .int .i8 t262] t263)) := by rw [ha]; exact putSel_on (e := (1, 22, .agg (mixA (Value.int .u16) [.int .i8 t261, .int .i8 t262] t263))) 1 rfl rfl (hon 1 (by kernel_rfl)) rfl
     have e24 : a.tmps[24]? = some (.agg (mixA (Value.int .u16) [] t264)) := by rw [ha]; exact putSel_on (e := (3, 24, .agg (mixA (Value.int .u16) [] t264))) 3 rfl rfl (hon 3 (by kernel_rfl)) rfl
     have e25 : a.tmps[25]? = some (.int .u8 a2) := by rw [ha]; exact (putSel_off rfl).trans rfl
     replace ha := Aside0.mk ha
     have BK252 := Aside0.mk Q_BK252
     have BK253 := Aside0.mk Q_BK253
     have BK260 := Aside0.mk Q_BK260
     have HB := Aside0.mk Q_HB
     refine goes_ Tryd.func13 (by kernel_rfl) rfl #[.agg (mixA (Value.int .u16) [.int .i8 t261, .int .i8 t262] t263), .agg (mixA (Value.int .u16) [] t264), .int .u8 a2] (by rfl) rfl rfl (by first | (simp only [List.map_toArray, List.map_cons, List.map_nil, Act.eval, Array.getD_eq_getD_getElem?, Option.getD_some, e22, e24, e25]; done) | (simp only [List.map_toArray, List.map_cons, List.map_nil, Act.eval, Array.getD_eq_getD_getElem?, Option.getD_some, e22, e24, e25]; rfl)) ?_
     with_reducible refine (impl_MoveCrowd.calls k t261 t262 t263 t264 a2 t265 t266 _ A9.out).mono ?_
     rintro e w57 ⟨rfl, hb⟩
     refine ⟨_, rfl, ?_⟩
     have n0_ := bkb BK252 hb
     have n1_ := bkb BK253 hb
     have n2_ := bkb BK260 hb
     have n3_ := bst HB hb
     have z_BK267 := fun (h0_ : b 9 = true) (h1_ : b 10 = false) => (show w57.heap[gb267]? = some (.cells (mixA (Value.int .u16) [] (LA.zero 40)) 28 (0, 0)) from by first | exact (blk_below (g := gb267) (o := .cells (mixA (Value.int .u16) [] (LA.zero 40)) 28 (0, 0)) (by (with_reducible repeat (first | refine blk_drewN ?_ _ | refine blk_drew ?_ | refine blk_alloc ?_ _)); exact (Q_BK267 h0_ h1_)) hb))
     clear BK252
     clear BK253
     clear BK260
     clear HB
     have BK252 := n0_
     have BK253 := n1_
     have BK260 := n2_
     have HB := n3_
     clear n0_ n1_ n2_ n3_
     (try clear hb)
     (try clear hb2)
     (try clear hk)
     (try clear hi)
     refine hK.out _ _ ⟨gb267, m9_, (by rw [ha.out]; exact putSel_upk 4 hb_ rfl rfl rfl), (pk BK252), (pk BK253), (pk BK260), (pbs HB), z_BK267, Q_GW267, Q_GE267, Q_NB252_267, Q_NB267_252, Q_NB253_267, Q_NB267_253, Q_NB260_267, Q_NB267_260, fun h0_ => absurd ((hoff 10 (by kernel_rfl)).symm.trans h0_) (by decide), Q_X9_⟩
    refine steps_cons ?_ ?_
    ·rintro b a w' ⟨gb267, m9_, ha, Q_BK252, Q_BK253, Q_BK260, Q_HB, Q_BK267, Q_GW267, Q_GE267, Q_NB252_267, Q_NB267_252, Q_NB253_267, Q_NB267_253, Q_NB260_267, Q_NB267_260, Q_BK267_e10, Q_X9_⟩ hb_ hon hoff
     refine ⟨_, rfl, fun K hK => ?_⟩
     have e26 : a.tmps[26]? = some (.tuple #[.agg (mixA (Value.int .u16) [] t265), .int .i64 t266]) := by rw [ha]; exact putSel_on (e := (5, 26, .tuple #[.agg (mixA (Value.int .u16) [] t265), .int .i64 t266])) 4 rfl rfl (hon 5 (by kernel_rfl)) rfl
     replace ha := Aside0.mk ha
     have BK252 := Aside0.mk Q_BK252
     have BK253 := Aside0.mk Q_BK253
     have BK260 := Aside0.mk Q_BK260
     have HB := Aside0.mk Q_HB
     refine value_ (w1 := w') (v := .tuple #[.agg (mixA (Value.int .u16) [] t265), .int .i64 t266]) (by rfl) rfl ?_ ?_
     ·go_simp
      (try simp only [i64_w])
      try rfl
     refine hK.out _ _ ⟨gb267, m9_, (by rw [ha.out]; exact putSel_upk 5 hb_ rfl rfl rfl), Q_BK252, Q_BK253, Q_BK260, Q_HB, Q_BK267, Q_GW267, Q_GE267, Q_NB252_267, Q_NB267_252, Q_NB253_267, Q_NB267_253, Q_NB260_267, Q_NB267_260, fun h0_ => absurd ((hoff 10 (by kernel_rfl)).symm.trans h0_) (by decide), Q_X9_⟩
    refine steps_cons ?_ ?_
    ·rintro b a w' ⟨gb267, m9_, ha, Q_BK252, Q_BK253, Q_BK260, Q_HB, Q_BK267, Q_GW267, Q_GE267, Q_NB252_267, Q_NB267_252, Q_NB253_267, Q_NB267_253, Q_NB260_267, Q_NB267_260, Q_BK267_e10, Q_X9_⟩ hb_ hon hoff
     refine ⟨_, rfl, fun K hK => ?_⟩
     have e20 : a.tmps[20]? = some (.tuple #[.agg (mixA (Value.int .u16) [] t265), .int .i64 t266]) := by rw [ha]; exact putSel_on (e := (6, 20, .tuple #[.agg (mixA (Value.int .u16) [] t265), .int .i64 t266])) 5 rfl rfl (hon 6 (by kernel_rfl)) rfl
     replace ha := Aside0.mk ha
     have BK252 := Aside0.mk Q_BK252
     have BK253 := Aside0.mk Q_BK253
     have BK260 := Aside0.mk Q_BK260
     have HB := Aside0.mk Q_HB
     refine value_ (w1 := w') (v := .agg (mixA (Value.int .u16) [] t265)) (by rfl) rfl ?_ ?_
     ·go_simp
      (try simp only [i64_w])
      try rfl
     refine hK.out _ _ ⟨gb267, m9_, (by rw [ha.out]; exact putSel_upk 6 hb_ rfl rfl rfl), Q_BK252, Q_BK253, Q_BK260, Q_HB, Q_BK267, Q_GW267, Q_GE267, Q_NB252_267, Q_NB267_252, Q_NB253_267, Q_NB267_253, Q_NB260_267, Q_NB267_260, fun h0_ => absurd ((hoff 10 (by kernel_rfl)).symm.trans h0_) (by decide), Q_X9_⟩
    refine steps_cons ?_ ?_
    ·rintro b a w' ⟨gb267, m9_, ha, Q_BK252, Q_BK253, Q_BK260, Q_HB, Q_BK267, Q_GW267, Q_GE267, Q_NB252_267, Q_NB267_252, Q_NB253_267, Q_NB267_253, Q_NB260_267, Q_NB267_260, Q_BK267_e10, Q_X9_⟩ hb_ hon hoff
     refine ⟨_, rfl, fun K hK => ?_⟩
     have e20 : a.tmps[20]? = some (.tuple #[.agg (mixA (Value.int .u16) [] t265), .int .i64 t266]) := by rw [ha]; exact putSel_on (e := (6, 20, .tuple #[.agg (mixA (Value.int .u16) [] t265), .int .i64 t266])) 5 rfl rfl (hon 6 (by kernel_rfl)) rfl
     replace ha := Aside0.mk ha
     have BK252 := Aside0.mk Q_BK252
     have BK253 := Aside0.mk Q_BK253
     have BK260 := Aside0.mk Q_BK260
     have HB := Aside0.mk Q_HB
     refine value_ (w1 := w') (v := .int .i64 t266) (by rfl) rfl ?_ ?_
     ·go_simp
      (try simp only [i64_w])
      try rfl
     refine hK.out _ _ ⟨gb267, m9_, (by rw [ha.out]; exact putSel_upk 7 hb_ rfl rfl rfl), Q_BK252, Q_BK253, Q_BK260, Q_HB, Q_BK267, Q_GW267, Q_GE267, Q_NB252_267, Q_NB267_252, Q_NB253_267, Q_NB267_253, Q_NB260_267, Q_NB267_260, Q_BK267_e10, Q_X9_⟩
    refine steps_cons ?_ ?_
    ·rintro b a w' ⟨gb267, m9_, ha, Q_BK252, Q_BK253, Q_BK260, Q_HB, Q_BK267, Q_GW267, Q_GE267, Q_NB252_267, Q_NB267_252, Q_NB253_267, Q_NB267_253, Q_NB260_267, Q_NB267_260, Q_BK267_e10, Q_X9_⟩ hb_ hon hoff
     refine ⟨_, rfl, fun K hK => ?_⟩
     replace ha := Aside0.mk ha
     have BK252 := Aside0.mk Q_BK252
     have BK253 := Aside0.mk Q_BK253
     have BK260 := Aside0.mk Q_BK260
     have HB := Aside0.mk Q_HB
     refine box_step ?hg (N := 9) ?hd (cs := (mixA (Value.int .u16) [] (LA.zero 40))) (t := 28) ?hr ?_; (case hd => rfl); (case hg => rfl); (case hr => first | (go_simp; done) | (go_simp; rfl))
     intro gb267 hg w54 hbox hb
     have n0_ := bkb BK252 hb
     have n1_ := bkb BK253 hb
     have n2_ := bkb BK260 hb
     have n3_ := bst HB hb
     have n4_ := Aside0.mk (hbox)
     have n5_ := gwl HB hg
     have n6_ := gwl HB hg
     have n7_ := nbl BK252 hg
     have n8_ := nbg BK252 hg
     have n9_ := nbl BK253 hg
     have n10_ := nbg BK253 hg
     have n11_ := nbl BK260 hg
     have n12_ := nbg BK260 hg
     clear BK252
     clear BK253
     clear BK260
     clear HB
     have BK252 := n0_
     have BK253 := n1_
     have BK260 := n2_
     have HB := n3_
     have BK267 := n4_
     have GW267 := n5_
     have GE267 := n6_
     have NB252_267 := n7_
     have NB267_252 := n8_
     have NB253_267 := n9_
     have NB267_253 := n10_
     have NB260_267 := n11_
     have NB267_260 := n12_
     clear n0_ n1_ n2_ n3_ n4_ n5_ n6_ n7_ n8_ n9_ n10_ n11_ n12_
     clear hb hbox hg
     refine hK.out _ _ ⟨gb267, (.pointer (some ⟨gb267, 0, none⟩)), (by rw [ha.out]; exact putSel_upk 8 hb_ rfl rfl rfl), (pk BK252), (pk BK253), (pk BK260), (pbs HB), fun _ _ => (pk BK267), fun _ => GW267.out, fun _ => GE267.out, fun _ => NB252_267.out, fun _ => NB267_252.out, fun _ => NB253_267.out, fun _ => NB267_253.out, fun _ => NB260_267.out, fun _ => NB267_260.out, fun h0_ => absurd ((hoff 10 (by kernel_rfl)).symm.trans h0_) (by decide), fun _ => rfl⟩
    refine steps_cons ?_ ?_
    ·rintro b a w' ⟨gb267, m9_, ha, Q_BK252, Q_BK253, Q_BK260, Q_HB, Q_BK267, Q_GW267, Q_GE267, Q_NB252_267, Q_NB267_252, Q_NB253_267, Q_NB267_253, Q_NB260_267, Q_NB267_260, Q_BK267_e10, Q_X9_⟩ hb_ hon hoff
     refine ⟨_, rfl, fun K hK => ?_⟩
     have e9 : a.tmps[9]? = some (m9_) := by rw [ha]; exact putSel_on (e := (9, 9, m9_)) 8 rfl rfl (hon 9 (by kernel_rfl)) rfl
     rw [Q_X9_ (hon 9 (by kernel_rfl))] at e9
     have e27 : a.tmps[27]? = some (.agg (mixA (Value.int .u16) [] t265)) := by rw [ha]; exact putSel_on (e := (7, 27, .agg (mixA (Value.int .u16) [] t265))) 6 rfl rfl (hon 7 (by kernel_rfl)) rfl
     replace ha := Aside0.mk ha
     have BK252 := Aside0.mk Q_BK252
     have BK253 := Aside0.mk Q_BK253
     have BK260 := Aside0.mk Q_BK260
     have HB := Aside0.mk Q_HB
     have BK267 := Aside0.mk (Q_BK267 (hon 9 (by kernel_rfl)) hb_)
     have GW267 := Aside0.mk (Q_GW267 (hon 9 (by kernel_rfl)))
     have GE267 := Aside0.mk (Q_GE267 (hon 9 (by kernel_rfl)))
     have NB252_267 := Aside0.mk (Q_NB252_267 (hon 9 (by kernel_rfl)))
     have NB267_252 := Aside0.mk (Q_NB267_252 (hon 9 (by kernel_rfl)))
     have NB253_267 := Aside0.mk (Q_NB253_267 (hon 9 (by kernel_rfl)))
     have NB267_253 := Aside0.mk (Q_NB267_253 (hon 9 (by kernel_rfl)))
     have NB260_267 := Aside0.mk (Q_NB260_267 (hon 9 (by kernel_rfl)))
     have NB267_260 := Aside0.mk (Q_NB267_260 (hon 9 (by kernel_rfl)))
     refine step_store_lmix (by rfl) rfl 28 _ _ rfl gb267 (e := (Value.int .u16)) (cs' := []) (W' := t265) (cs := []) (W := (LA.zero 40)) (T := 28) (by first | (simp only [List.map_toArray, List.map_cons, List.map_nil, Act.eval, Array.getD_eq_getD_getElem?, Option.getD_some, e9, e27]; done) | (simp only [List.map_toArray, List.map_cons, List.map_nil, Act.eval, Array.getD_eq_getD_getElem?, Option.getD_some, e9, e27]; rfl)) (by first | (simp only [List.map_toArray, List.map_cons, List.map_nil, Act.eval, Array.getD_eq_getD_getElem?, Option.getD_some, e9, e27]; done) | (simp only [List.map_toArray, List.map_cons, List.map_nil, Act.eval, Array.getD_eq_getD_getElem?, Option.getD_some, e9, e27]; rfl)) (pk BK267) rfl (by kernel_rfl) rfl (fun _ => rfl) rfl ?_
     intro w59 hi hk hbl
     have n0_ := Aside0.mk (KeepBut.blk hk (g' := gb252) (o := .cells (mixA (Value.int .u16) [.int .i8 a0_0, .int .i8 a0_1] a0_2) 26 (0, 0)) (pk BK252) NB252_267.out (by simp))
     have n1_ := Aside0.mk (KeepBut.blk hk (g' := gb253) (o := .cells (mixA (Value.int .u16) [] a1) 27 (0, 0)) (pk BK253) NB253_267.out (by simp))
     have n2_ := Aside0.mk (KeepBut.blk hk (g' := gb260) (o := .cells (mixA (Value.int .u16) [] t258) 28 (0, 0)) (pk BK260) NB260_267.out (by simp))
     have n3_ := Aside0.mk (hbl _ _ (pbs HB) GE267.out)
     have n4_ := Aside0.mk (hi)
     clear BK252
     clear BK253
     clear BK260
     clear HB
     clear BK267
     have BK252 := n0_
     have BK253 := n1_
     have BK260 := n2_
     have HB := n3_
     have BK267 := n4_
     clear n0_ n1_ n2_ n3_ n4_
     clear hi hk hbl
     refine hK.out _ _ ⟨gb267, m9_, (by rw [ha.out]; exact putSel_none (v := undef) rfl), (pk BK252), (pk BK253), (pk BK260), (pbs HB), fun _ h1_ => absurd ((up_self b 10).symm.trans h1_) (by decide), fun _ => GW267.out, fun _ => GE267.out, fun _ => NB252_267.out, fun _ => NB267_252.out, fun _ => NB253_267.out, fun _ => NB267_253.out, fun _ => NB260_267.out, fun _ => NB267_260.out, fun _ => (pk BK267), Q_X9_⟩
    refine steps_cons ?_ ?_
    ·rintro b a w' ⟨gb267, m9_, ha, Q_BK252, Q_BK253, Q_BK260, Q_HB, Q_BK267, Q_GW267, Q_GE267, Q_NB252_267, Q_NB267_252, Q_NB253_267, Q_NB267_253, Q_NB260_267, Q_NB267_260, Q_BK267_e10, Q_X9_⟩ hb_ hon hoff
     refine ⟨_, rfl, fun K hK => ?_⟩
     have e28 : a.tmps[28]? = some (.int .i64 t266) := by rw [ha]; exact putSel_on (e := (8, 28, .int .i64 t266)) 7 rfl rfl (hon 8 (by kernel_rfl)) rfl
     replace ha := Aside0.mk ha
     have BK252 := Aside0.mk Q_BK252
     have BK253 := Aside0.mk Q_BK253
     have BK260 := Aside0.mk Q_BK260
     have HB := Aside0.mk Q_HB
     have GW267 := Aside0.mk (Q_GW267 (hon 9 (by kernel_rfl)))
     have GE267 := Aside0.mk (Q_GE267 (hon 9 (by kernel_rfl)))
     have NB252_267 := Aside0.mk (Q_NB252_267 (hon 9 (by kernel_rfl)))
     have NB267_252 := Aside0.mk (Q_NB267_252 (hon 9 (by kernel_rfl)))
     have NB253_267 := Aside0.mk (Q_NB253_267 (hon 9 (by kernel_rfl)))
     have NB267_253 := Aside0.mk (Q_NB267_253 (hon 9 (by kernel_rfl)))
     have NB260_267 := Aside0.mk (Q_NB260_267 (hon 9 (by kernel_rfl)))
     have NB267_260 := Aside0.mk (Q_NB267_260 (hon 9 (by kernel_rfl)))
     have BK267 := Aside0.mk (Q_BK267_e10 (hon 10 (by kernel_rfl)))
     refine value_ (w1 := w') (v := .int .i64 t266) (by rfl) rfl ?_ ?_
     ·go_simp
      (try simp only [i64_w])
      try rfl
     refine hK.out _ _ ⟨gb267, m9_, (by rw [ha.out]; exact putSel_upk 9 hb_ rfl rfl rfl), Q_BK252, Q_BK253, Q_BK260, Q_HB, fun _ h1_ => absurd ((hon 10 (by kernel_rfl)).symm.trans h1_) (by decide), Q_GW267, Q_GE267, Q_NB252_267, Q_NB267_252, Q_NB253_267, Q_NB267_253, Q_NB260_267, Q_NB267_260, Q_BK267_e10, Q_X9_⟩
    exact steps_nil
   rintro b a w59 hall ⟨gb267, m9_, ha, Q_BK252, Q_BK253, Q_BK260, Q_HB, Q_BK267, Q_GW267, Q_GE267, Q_NB252_267, Q_NB267_252, Q_NB253_267, Q_NB267_253, Q_NB260_267, Q_NB267_260, Q_BK267_e10, Q_X9_⟩
   clear BK252 BK253 BK260 HB
   have hb0_ := hall 0 (by kernel_rfl)
   have hb1_ := hall 1 (by kernel_rfl)
   have hb2_ := hall 2 (by kernel_rfl)
   have hb3_ := hall 3 (by kernel_rfl)
   have hb5_ := hall 5 (by kernel_rfl)
   have hb6_ := hall 6 (by kernel_rfl)
   have hb7_ := hall 7 (by kernel_rfl)
   have hb8_ := hall 8 (by kernel_rfl)
   have hb9_ := hall 9 (by kernel_rfl)
   have hb10_ := hall 10 (by kernel_rfl)
   have hb11_ := hall 11 (by kernel_rfl)
   subst ha
   obtain rfl := (Q_X9_ hb9_).symm
   simp only [putSel, hb0_, hb1_, hb2_, hb3_, hb5_, hb6_, hb7_, hb8_, hb9_, hb10_, hb11_, if_true, Act.put, List.setIfInBounds_toArray, List.set_cons_zero, List.set_cons_succ]
   have BK252 := Aside0.mk Q_BK252
   clear Q_BK252
   have BK253 := Aside0.mk Q_BK253
   clear Q_BK253
   have BK260 := Aside0.mk Q_BK260
   clear Q_BK260
   have HB := Aside0.mk Q_HB
   clear Q_HB
   clear Q_BK267
   have GW267 := Aside0.mk (Q_GW267 hb9_)
   clear Q_GW267
   have GE267 := Aside0.mk (Q_GE267 hb9_)
   clear Q_GE267
   have NB252_267 := Aside0.mk (Q_NB252_267 hb9_)
   clear Q_NB252_267
   have NB267_252 := Aside0.mk (Q_NB267_252 hb9_)
   clear Q_NB267_252
   have NB253_267 := Aside0.mk (Q_NB253_267 hb9_)
   clear Q_NB253_267
   have NB267_253 := Aside0.mk (Q_NB267_253 hb9_)
   clear Q_NB267_253
   have NB260_267 := Aside0.mk (Q_NB260_267 hb9_)
   clear Q_NB260_267
   have NB267_260 := Aside0.mk (Q_NB267_260 hb9_)
   clear Q_NB267_260
   have BK267 := Aside0.mk (Q_BK267_e10 hb10_)
   clear Q_BK267_e10
   clear hall hb0_ hb1_ hb2_ hb3_ hb5_ hb6_ hb7_ hb8_ hb9_ hb10_ hb11_
   try go_wp2_with (first | ((with_reducible refine gate_dst (N := 29) rfl ?_); refine wpList_run0 (v := .agg (mixA (Value.int .u16) [] t265)) rfl (load_mix_run (P := Tryd.prog) 28 (.tmp 9) rfl gb267 rfl (show World.rangeAt _ gb267 0 ([] ++ t265.l.map (Value.int .u16)) from mix_range (show (World.heap _)[gb267]? = some (.cells (mixA (Value.int .u16) [] t265) 28 (0, 0)) from by (with_reducible repeat (first | refine blk_drewN ?_ _ | refine blk_drew ?_ | refine blk_alloc ?_ _)); exact BK267.out)) Tryd.underlying28 rfl (by kernel_rfl) rfl) ?_) | ((with_reducible refine gate_dst (N := 30) rfl ?_); refine wpList_run0 (v := .agg (mixA (Value.int .u16) [] t258)) rfl (load_mix_run (P := Tryd.prog) 28 (.tmp 7) rfl gb260 rfl (show World.rangeAt _ gb260 0 ([] ++ t258.l.map (Value.int .u16)) from mix_range (show (World.heap _)[gb260]? = some (.cells (mixA (Value.int .u16) [] t258) 28 (0, 0)) from by (with_reducible repeat (first | refine blk_drewN ?_ _ | refine blk_drew ?_ | refine blk_alloc ?_ _)); exact BK260.out)) Tryd.underlying28 rfl (by kernel_rfl) rfl) ?_) | ((with_reducible refine gate_callee (f := 10) rfl ?_); refine goesL_ (some 31) rfl rfl Tryd.func10 (by kernel_rfl) rfl #[.agg (mixA (Value.int .u16) [] t265), .agg (mixA (Value.int .u16) [] t258)] rfl (by (try simp only [List.map_toArray, List.map_cons, List.map_nil]); first | done | rfl | (simp only [List.length_drop, List.length_take]; rfl)) ?_; (with_reducible refine (laws_eqCrowd.calls k t265 t258 true _ A10.out).mono ?_); rintro e w66 ⟨rfl, hb⟩; refine ⟨_, rfl, ?_⟩; have n0_ := bkb BK252 hb; have n1_ := bkb BK253 hb; have n2_ := bkb BK260 hb; have n3_ := bkb BK267 hb; have n4_ := bst HB hb; clear BK252; clear BK253; clear BK260; clear BK267; clear HB; have BK252 := n0_; have BK253 := n1_; have BK260 := n2_; have BK267 := n3_; have HB := n4_; clear n0_ n1_ n2_ n3_ n4_; (try clear hb); (try clear hb2); (try clear hk); (try clear hi)))
   go_ret
   exact ⟨by first | rfl | (simp [errW_none, errW_some] <;> rfl) | (simp [*, errW_none, errW_some] <;> rfl), pbs HB⟩
 ·replace c11 := Bool.eq_false_iff.mpr c11
  subst c11
  have H1 : (some false) = some r := by rw [if_neg (show ¬ (false = true) by decide)] at H; exact H
  clear H
  have H := H1
  clear H1
  obtain rfl := Option.some.inj H
  go_enter Tryd.func4, Tryd.ntmps4
  try go_wp2_with (first | ((with_reducible refine gate_dst (N := 3) rfl ?_); refine box_event ?hg (N := 3) ?hd (cs := (mixA (Value.int .u16) [.int .i8 a0_0, .int .i8 a0_1] a0_2)) (t := 26) ?hr ?_; (case hd => rfl); (case hg => rfl); (case hr => first | (go_simp; done) | (go_simp; rfl)); intro gb252 hg w67 hbox hb; have n0_ := bst HB hb; have n1_ := Aside0.mk (hbox); have n2_ := gwl HB hg; have n3_ := gwl HB hg; clear HB; have HB := n0_; have BK252 := n1_; have GW252 := n2_; have GE252 := n3_; clear n0_ n1_ n2_ n3_; clear hb hbox hg) | ((with_reducible refine gate_dst (N := 4) rfl ?_); refine box_event ?hg (N := 4) ?hd (cs := (mixA (Value.int .u16) [] a1)) (t := 27) ?hr ?_; (case hd => rfl); (case hg => rfl); (case hr => first | (go_simp; done) | (go_simp; rfl)); intro gb253 hg w68 hbox hb; have n0_ := bkb BK252 hb; have n1_ := bst HB hb; have n2_ := Aside0.mk (hbox); have n3_ := gwl HB hg; have n4_ := gwl HB hg; have n5_ := nbl BK252 hg; have n6_ := nbg BK252 hg; clear BK252; clear HB; have BK252 := n0_; have HB := n1_; have BK253 := n2_; have GW253 := n3_; have GE253 := n4_; have NB252_253 := n5_; have NB253_252 := n6_; clear n0_ n1_ n2_ n3_ n4_ n5_ n6_; clear hb hbox hg))
  have n0_ := Aside0.mk (blk_drew BK252.out)
  have n1_ := Aside0.mk (blk_drew BK253.out)
  have n2_ := Aside0.mk (below_drew1 HB.out)
  clear BK252
  clear BK253
  clear HB
  have BK252 := n0_
  have BK253 := n1_
  have HB := n2_
  clear n0_ n1_ n2_
  refine start_ (n := 12) (S := fun w' => True) (ds := []) #[false, false, false, false, false, false, false, false, false, false, false, false] (by kernel_rfl) rfl rfl trivial (fun hHeld => ?_); refine with_tabW laws_FnExactMoveCrowd.tab1 laws_FnExactMoveCrowd.bits1 (fun HT_ HW_ => ?_)
  generalize w68.drew = w69 at BK252 BK253 HB hHeld ⊢
  refine pure_ (i := 4) (N := some 16) (v := ?_) (a' := ?_) #[false, false, false, false, true, false, false, false, false, false, false, false] rfl rfl (any_of HT_.out (by kernel_rfl)) (fun _ _ _ h => h) (Or.inl ⟨by rfl, ?_⟩) ?_ ?_
  rotate_left
  ·intro w'
   go_simp
   with_reducible rfl
  rotate_left
  ·simp only [Act.put, List.setIfInBounds_toArray, List.set_cons_zero, List.set_cons_succ, i64_w, i32_w]
   rfl
  refine inv_at [0, 1, 2, 3, 5, 6, 7, 8, 9, 10, 11] (fun a0_ b a w' => ∃ (gb260 : Nat) (m9_ : Value), a = putSel a0_ b [(0, 12, .agg (mixA (Value.int .u16) [.int .i8 a0_0, .int .i8 a0_1] a0_2)), (1, 13, .agg (mixA (Value.int .u16) [.int .i8 t254, .int .i8 t255] t256)), (2, 14, .agg (mixA (Value.int .u16) [] a1)), (3, 15, .agg (mixA (Value.int .u16) [] t257)), (5, 17, .tuple #[.agg (mixA (Value.int .u16) [] t258), .int .i64 t259]), (6, 11, .tuple #[.agg (mixA (Value.int .u16) [] t258), .int .i64 t259]), (7, 18, .agg (mixA (Value.int .u16) [] t258)), (8, 19, .int .i64 t259), (9, 7, m9_), (11, 8, .int .i64 t259)] ∧ (w'.heap[gb252]? = some (.cells (mixA (Value.int .u16) [.int .i8 a0_0, .int .i8 a0_1] a0_2) 26 (0, 0))) ∧ (w'.heap[gb253]? = some (.cells (mixA (Value.int .u16) [] a1) 27 (0, 0))) ∧ (Below w.heap.size w w') ∧ (b 9 = true → b 10 = false → w'.heap[gb260]? = some (.cells (mixA (Value.int .u16) [] (LA.zero 40)) 28 (0, 0))) ∧ (b 9 = true → w.heap.size ≤ gb260) ∧ (b 9 = true → w.heap.size ≤ gb260) ∧ (b 9 = true → gb252 ≠ gb260) ∧ (b 9 = true → gb260 ≠ gb252) ∧ (b 9 = true → gb253 ≠ gb260) ∧ (b 9 = true → gb260 ≠ gb253) ∧ (b 10 = true → w'.heap[gb260]? = some (.cells (mixA (Value.int .u16) [] t258) 28 (0, 0))) ∧ (b 9 = true → (m9_ : Value) = .pointer (some ⟨gb260, 0, none⟩))) HT_.out HW_.out (by kernel_rfl) (by kernel_rfl) ?_ ?_ ?_
  ·exact ⟨0, .bool false, by simp only [putSel, Bool.false_eq_true, if_false], BK252.out, BK253.out, HB.out, fun h_ => absurd h_ (by decide), fun h_ => absurd h_ (by decide), fun h_ => absurd h_ (by decide), fun h_ => absurd h_ (by decide), fun h_ => absurd h_ (by decide), fun h_ => absurd h_ (by decide), fun h_ => absurd h_ (by decide), fun h_ => absurd h_ (by decide), fun h_ => absurd h_ (by decide)⟩
  ·skip
   clear BK252 BK253 HB
   refine steps_cons ?_ ?_
   ·rintro b a w' ⟨gb260, m9_, ha, Q_BK252, Q_BK253, Q_HB, Q_BK260, Q_GW260, Q_GE260, Q_NB252_260, Q_NB260_252, Q_NB253_260, Q_NB260_253, Q_BK260_e10, Q_X9_⟩ hb_ hon hoff
    refine ⟨_, rfl, fun K hK => ?_⟩
    have e3 : a.tmps[3]? = some (.pointer (some ⟨gb252, 0, none⟩)) := by rw [ha]; exact (putSel_off rfl).trans rfl
    replace ha := Aside0.mk ha
    have BK252 := Aside0.mk Q_BK252
    have BK253 := Aside0.mk Q_BK253
    have HB := Aside0.mk Q_HB
    have hL_ : World.rangeAt w' gb252 0 ([.int .i8 a0_0, .int .i8 a0_1] ++ a0_2.l.map (Value.int .u16)) := mix_range BK252.out
    refine value_ (w1 := w') (v := .agg (mixA (Value.int .u16) [.int .i8 a0_0, .int .i8 a0_1] a0_2)) (by rfl) rfl ?_ ?_
    ·exact load_mix_run (P := Tryd.prog) 26 (.tmp 3) rfl gb252 (by simp only [Act.eval, Array.getD_eq_getD_getElem?, e3, Option.getD_some]) hL_ Tryd.underlying26 rfl (by kernel_rfl) rfl
    refine hK.out _ _ ⟨gb260, m9_, (by rw [ha.out]; exact putSel_upk 0 hb_ rfl rfl rfl), Q_BK252, Q_BK253, Q_HB, Q_BK260, Q_GW260, Q_GE260, Q_NB252_260, Q_NB260_252, Q_NB253_260, Q_NB260_253, fun h0_ => absurd ((hoff 10 (by kernel_rfl)).symm.trans h0_) (by decide), Q_X9_⟩
   refine steps_cons ?_ ?_
   ·rintro b a w' ⟨gb260, m9_, ha, Q_BK252, Q_BK253, Q_HB, Q_BK260, Q_GW260, Q_GE260, Q_NB252_260, Q_NB260_252, Q_NB253_260, Q_NB260_253, Q_BK260_e10, Q_X9_⟩ hb_ hon hoff
    refine ⟨_, rfl, fun K hK => ?_⟩
    have e12 : a.tmps[12]? = some (.agg (mixA (Value.int .u16) [.int .i8 a0_0, .int .i8 a0_1] a0_2)) := by rw [ha]; exact putSel_on (e := (0, 12, .agg (mixA (Value.int .u16) [.int .i8 a0_0, .int .i8 a0_1] a0_2))) 0 rfl rfl (hon 0 (by kernel_rfl)) rfl
    replace ha := Aside0.mk ha
    have BK252 := Aside0.mk Q_BK252
    have BK253 := Aside0.mk Q_BK253
    have HB := Aside0.mk Q_HB
    refine goes_ Tryd.func8 (by kernel_rfl) rfl #[.agg (mixA (Value.int .u16) [.int .i8 a0_0, .int .i8 a0_1] a0_2)] (by rfl) rfl rfl (by first | (simp only [List.map_toArray, List.map_cons, List.map_nil, Act.eval, Array.getD_eq_getD_getElem?, Option.getD_some, e12]; done) | (simp only [List.map_toArray, List.map_cons, List.map_nil, Act.eval, Array.getD_eq_getD_getElem?, Option.getD_some, e12]; rfl)) ?_
    with_reducible refine (laws_toRoom.calls k a0_0 a0_1 a0_2 t254 t255 t256 _ A4.out).mono ?_
    rintro e w70 ⟨rfl, hb⟩
    refine ⟨_, rfl, ?_⟩
    have n0_ := bkb BK252 hb
    have n1_ := bkb BK253 hb
    have n2_ := bst HB hb
    have z_BK260 := fun (h0_ : b 9 = true) (h1_ : b 10 = false) => (show w70.heap[gb260]? = some (.cells (mixA (Value.int .u16) [] (LA.zero 40)) 28 (0, 0)) from by first | exact (blk_below (g := gb260) (o := .cells (mixA (Value.int .u16) [] (LA.zero 40)) 28 (0, 0)) (by (with_reducible repeat (first | refine blk_drewN ?_ _ | refine blk_drew ?_ | refine blk_alloc ?_ _)); exact (Q_BK260 h0_ h1_)) hb))
    clear BK252
    clear BK253
    clear HB
    have BK252 := n0_
    have BK253 := n1_
    have HB := n2_
    clear n0_ n1_ n2_
    (try clear hb)
    (try clear hb2)
    (try clear hk)
    (try clear hi)
    refine hK.out _ _ ⟨gb260, m9_, (by rw [ha.out]; exact putSel_upk 1 hb_ rfl rfl rfl), (pk BK252), (pk BK253), (pbs HB), z_BK260, Q_GW260, Q_GE260, Q_NB252_260, Q_NB260_252, Q_NB253_260, Q_NB260_253, fun h0_ => absurd ((hoff 10 (by kernel_rfl)).symm.trans h0_) (by decide), Q_X9_⟩
   refine steps_cons ?_ ?_
   ·rintro b a w' ⟨gb260, m9_, ha, Q_BK252, Q_BK253, Q_HB, Q_BK260, Q_GW260, Q_GE260, Q_NB252_260, Q_NB260_252, Q_NB253_260, Q_NB260_253, Q_BK260_e10, Q_X9_⟩ hb_ hon hoff
    refine ⟨_, rfl, fun K hK => ?_⟩
    have e4 : a.tmps[4]? = some (.pointer (some ⟨gb253, 0, none⟩)) := by rw [ha]; exact (putSel_off rfl).trans rfl
    replace ha := Aside0.mk ha
    have BK252 := Aside0.mk Q_BK252
    have BK253 := Aside0.mk Q_BK253
    have HB := Aside0.mk Q_HB
    have hL_ : World.rangeAt w' gb253 0 ([] ++ a1.l.map (Value.int .u16)) := mix_range BK253.out
    refine value_ (w1 := w') (v := .agg (mixA (Value.int .u16) [] a1)) (by rfl) rfl ?_ ?_
    ·exact load_mix_run (P := Tryd.prog) 27 (.tmp 4) rfl gb253 (by simp only [Act.eval, Array.getD_eq_getD_getElem?, e4, Option.getD_some]) hL_ Tryd.underlying27 rfl (by kernel_rfl) rfl
    refine hK.out _ _ ⟨gb260, m9_, (by rw [ha.out]; exact putSel_upk 2 hb_ rfl rfl rfl), Q_BK252, Q_BK253, Q_HB, Q_BK260, Q_GW260, Q_GE260, Q_NB252_260, Q_NB260_252, Q_NB253_260, Q_NB260_253, fun h0_ => absurd ((hoff 10 (by kernel_rfl)).symm.trans h0_) (by decide), Q_X9_⟩
   refine steps_cons ?_ ?_
   ·rintro b a w' ⟨gb260, m9_, ha, Q_BK252, Q_BK253, Q_HB, Q_BK260, Q_GW260, Q_GE260, Q_NB252_260, Q_NB260_252, Q_NB253_260, Q_NB260_253, Q_BK260_e10, Q_X9_⟩ hb_ hon hoff
    refine ⟨_, rfl, fun K hK => ?_⟩
    have e14 : a.tmps[14]? = some (.agg (mixA (Value.int .u16) [] a1)) := by rw [ha]; exact putSel_on (e := (2, 14, .agg (mixA (Value.int .u16) [] a1))) 2 rfl rfl (hon 2 (by kernel_rfl)) rfl
    replace ha := Aside0.mk ha
    have BK252 := Aside0.mk Q_BK252
    have BK253 := Aside0.mk Q_BK253
    have HB := Aside0.mk Q_HB
    refine goes_ Tryd.func12 (by kernel_rfl) rfl #[.agg (mixA (Value.int .u16) [] a1)] (by rfl) rfl rfl (by first | (simp only [List.map_toArray, List.map_cons, List.map_nil, Act.eval, Array.getD_eq_getD_getElem?, Option.getD_some, e14]; done) | (simp only [List.map_toArray, List.map_cons, List.map_nil, Act.eval, Array.getD_eq_getD_getElem?, Option.getD_some, e14]; rfl)) ?_
    with_reducible refine (laws_toCrowd.calls k a1 t257 _ A5.out).mono ?_
    rintro e w72 ⟨rfl, hb⟩
    refine ⟨_, rfl, ?_⟩
    have n0_ := bkb BK252 hb
    have n1_ := bkb BK253 hb
    have n2_ := bst HB hb
    have z_BK260 := fun (h0_ : b 9 = true) (h1_ : b 10 = false) => (show w72.heap[gb260]? = some (.cells (mixA (Value.int .u16) [] (LA.zero 40)) 28 (0, 0)) from by first | exact (blk_below (g := gb260) (o := .cells (mixA (Value.int .u16) [] (LA.zero 40)) 28 (0, 0)) (by (with_reducible repeat (first | refine blk_drewN ?_ _ | refine blk_drew ?_ | refine blk_alloc ?_ _)); exact (Q_BK260 h0_ h1_)) hb))
    clear BK252
    clear BK253
    clear HB
    have BK252 := n0_
    have BK253 := n1_
    have HB := n2_
    clear n0_ n1_ n2_
    (try clear hb)
    (try clear hb2)
    (try clear hk)
    (try clear hi)
    refine hK.out _ _ ⟨gb260, m9_, (by rw [ha.out]; exact putSel_upk 3 hb_ rfl rfl rfl), (pk BK252), (pk BK253), (pbs HB), z_BK260, Q_GW260, Q_GE260, Q_NB252_260, Q_NB260_252, Q_NB253_260, Q_NB260_253, fun h0_ => absurd ((hoff 10 (by kernel_rfl)).symm.trans h0_) (by decide), Q_X9_⟩
   refine steps_cons ?_ ?_
   ·rintro b a w' ⟨gb260, m9_, ha, Q_BK252, Q_BK253, Q_HB, Q_BK260, Q_GW260, Q_GE260, Q_NB252_260, Q_NB260_252, Q_NB253_260, Q_NB260_253, Q_BK260_e10, Q_X9_⟩ hb_ hon hoff
    refine ⟨_, rfl, fun K hK => ?_⟩
    have e13 : a.tmps[13]? = some (.agg (mixA (Value.int .u16) [.int .i8 t254, .int .i8 t255] t256)) := by rw [ha]; exact putSel_on (e := (1, 13, .agg (mixA (Value.int .u16) [.int .i8 t254, .int .i8 t255] t256))) 1 rfl rfl (hon 1 (by kernel_rfl)) rfl
    have e15 : a.tmps[15]? = some (.agg (mixA (Value.int .u16) [] t257)) := by rw [ha]; exact putSel_on (e := (3, 15, .agg (mixA (Value.int .u16) [] t257))) 3 rfl rfl (hon 3 (by kernel_rfl)) rfl
    have e16 : a.tmps[16]? = some (.int .u8 a2) := by rw [ha]; exact (putSel_off rfl).trans rfl
    replace ha := Aside0.mk ha
    have BK252 := Aside0.mk Q_BK252
    have BK253 := Aside0.mk Q_BK253
    have HB := Aside0.mk Q_HB
    refine goes_ Tryd.func11 (by kernel_rfl) rfl #[.agg (mixA (Value.int .u16) [.int .i8 t254, .int .i8 t255] t256), .agg (mixA (Value.int .u16) [] t257), .int .u8 a2] (by rfl) rfl rfl (by first | (simp only [List.map_toArray, List.map_cons, List.map_nil, Act.eval, Array.getD_eq_getD_getElem?, Option.getD_some, e13, e15, e16]; done) | (simp only [List.map_toArray, List.map_cons, List.map_nil, Act.eval, Array.getD_eq_getD_getElem?, Option.getD_some, e13, e15, e16]; rfl)) ?_
    with_reducible refine (spec_MoveCrowd.calls k t254 t255 t256 t257 a2 t258 t259 _ A6.out).mono ?_
    rintro e w73 ⟨rfl, hb⟩
    refine ⟨_, rfl, ?_⟩
    have n0_ := bkb BK252 hb
    have n1_ := bkb BK253 hb
    have n2_ := bst HB hb
    have z_BK260 := fun (h0_ : b 9 = true) (h1_ : b 10 = false) => (show w73.heap[gb260]? = some (.cells (mixA (Value.int .u16) [] (LA.zero 40)) 28 (0, 0)) from by first | exact (blk_below (g := gb260) (o := .cells (mixA (Value.int .u16) [] (LA.zero 40)) 28 (0, 0)) (by (with_reducible repeat (first | refine blk_drewN ?_ _ | refine blk_drew ?_ | refine blk_alloc ?_ _)); exact (Q_BK260 h0_ h1_)) hb))
    clear BK252
    clear BK253
    clear HB
    have BK252 := n0_
    have BK253 := n1_
    have HB := n2_
    clear n0_ n1_ n2_
    (try clear hb)
    (try clear hb2)
    (try clear hk)
    (try clear hi)
    refine hK.out _ _ ⟨gb260, m9_, (by rw [ha.out]; exact putSel_upk 4 hb_ rfl rfl rfl), (pk BK252), (pk BK253), (pbs HB), z_BK260, Q_GW260, Q_GE260, Q_NB252_260, Q_NB260_252, Q_NB253_260, Q_NB260_253, fun h0_ => absurd ((hoff 10 (by kernel_rfl)).symm.trans h0_) (by decide), Q_X9_⟩
   refine steps_cons ?_ ?_
   ·rintro b a w' ⟨gb260, m9_, ha, Q_BK252, Q_BK253, Q_HB, Q_BK260, Q_GW260, Q_GE260, Q_NB252_260, Q_NB260_252, Q_NB253_260, Q_NB260_253, Q_BK260_e10, Q_X9_⟩ hb_ hon hoff
    refine ⟨_, rfl, fun K hK => ?_⟩
    have e17 : a.tmps[17]? = some (.tuple #[.agg (mixA (Value.int .u16) [] t258), .int .i64 t259]) := by rw [ha]; exact putSel_on (e := (5, 17, .tuple #[.agg (mixA (Value.int .u16) [] t258), .int .i64 t259])) 4 rfl rfl (hon 5 (by kernel_rfl)) rfl
    replace ha := Aside0.mk ha
    have BK252 := Aside0.mk Q_BK252
    have BK253 := Aside0.mk Q_BK253
    have HB := Aside0.mk Q_HB
    refine value_ (w1 := w') (v := .tuple #[.agg (mixA (Value.int .u16) [] t258), .int .i64 t259]) (by rfl) rfl ?_ ?_
    ·go_simp
     (try simp only [i64_w])
     try rfl
    refine hK.out _ _ ⟨gb260, m9_, (by rw [ha.out]; exact putSel_upk 5 hb_ rfl rfl rfl), Q_BK252, Q_BK253, Q_HB, Q_BK260, Q_GW260, Q_GE260, Q_NB252_260, Q_NB260_252, Q_NB253_260, Q_NB260_253, fun h0_ => absurd ((hoff 10 (by kernel_rfl)).symm.trans h0_) (by decide), Q_X9_⟩
   refine steps_cons ?_ ?_
   ·rintro b a w' ⟨gb260, m9_, ha, Q_BK252, Q_BK253, Q_HB, Q_BK260, Q_GW260, Q_GE260, Q_NB252_260, Q_NB260_252, Q_NB253_260, Q_NB260_253, Q_BK260_e10, Q_X9_⟩ hb_ hon hoff
    refine ⟨_, rfl, fun K hK => ?_⟩
    have e11 : a.tmps[11]? = some (.tuple #[.agg (mixA (Value.int .u16) [] t258), .int .i64 t259]) := by rw [ha]; exact putSel_on (e := (6, 11, .tuple #[.agg (mixA (Value.int .u16) [] t258), .int .i64 t259])) 5 rfl rfl (hon 6 (by kernel_rfl)) rfl
    replace ha := Aside0.mk ha
    have BK252 := Aside0.mk Q_BK252
    have BK253 := Aside0.mk Q_BK253
    have HB := Aside0.mk Q_HB
    refine value_ (w1 := w') (v := .agg (mixA (Value.int .u16) [] t258)) (by rfl) rfl ?_ ?_
    ·go_simp
     (try simp only [i64_w])
     try rfl
    refine hK.out _ _ ⟨gb260, m9_, (by rw [ha.out]; exact putSel_upk 6 hb_ rfl rfl rfl), Q_BK252, Q_BK253, Q_HB, Q_BK260, Q_GW260, Q_GE260, Q_NB252_260, Q_NB260_252, Q_NB253_260, Q_NB260_253, fun h0_ => absurd ((hoff 10 (by kernel_rfl)).symm.trans h0_) (by decide), Q_X9_⟩
   refine steps_cons ?_ ?_
   ·rintro b a w' ⟨gb260, m9_, ha, Q_BK252, Q_BK253, Q_HB, Q_BK260, Q_GW260, Q_GE260, Q_NB252_260, Q_NB260_252, Q_NB253_260, Q_NB260_253, Q_BK260_e10, Q_X9_⟩ hb_ hon hoff
    refine ⟨_, rfl, fun K hK => ?_⟩
    have e11 : a.tmps[11]? = some (.tuple #[.agg (mixA (Value.int .u16) [] t258), .int .i64 t259]) := by rw [ha]; exact putSel_on (e := (6, 11, .tuple #[.agg (mixA (Value.int .u16) [] t258), .int .i64 t259])) 5 rfl rfl (hon 6 (by kernel_rfl)) rfl
    replace ha := Aside0.mk ha
    have BK252 := Aside0.mk Q_BK252
    have BK253 := Aside0.mk Q_BK253
    have HB := Aside0.mk Q_HB
    refine value_ (w1 := w') (v := .int .i64 t259) (by rfl) rfl ?_ ?_
    ·go_simp
     (try simp only [i64_w])
     try rfl
    refine hK.out _ _ ⟨gb260, m9_, (by rw [ha.out]; exact putSel_upk 7 hb_ rfl rfl rfl), Q_BK252, Q_BK253, Q_HB, Q_BK260, Q_GW260, Q_GE260, Q_NB252_260, Q_NB260_252, Q_NB253_260, Q_NB260_253, Q_BK260_e10, Q_X9_⟩
   refine steps_cons ?_ ?_
   ·rintro b a w' ⟨gb260, m9_, ha, Q_BK252, Q_BK253, Q_HB, Q_BK260, Q_GW260, Q_GE260, Q_NB252_260, Q_NB260_252, Q_NB253_260, Q_NB260_253, Q_BK260_e10, Q_X9_⟩ hb_ hon hoff
    refine ⟨_, rfl, fun K hK => ?_⟩
    replace ha := Aside0.mk ha
    have BK252 := Aside0.mk Q_BK252
    have BK253 := Aside0.mk Q_BK253
    have HB := Aside0.mk Q_HB
    refine box_step ?hg (N := 7) ?hd (cs := (mixA (Value.int .u16) [] (LA.zero 40))) (t := 28) ?hr ?_; (case hd => rfl); (case hg => rfl); (case hr => first | (go_simp; done) | (go_simp; rfl))
    intro gb260 hg w70 hbox hb
    have n0_ := bkb BK252 hb
    have n1_ := bkb BK253 hb
    have n2_ := bst HB hb
    have n3_ := Aside0.mk (hbox)
    have n4_ := gwl HB hg
    have n5_ := gwl HB hg
    have n6_ := nbl BK252 hg
    have n7_ := nbg BK252 hg
    have n8_ := nbl BK253 hg
    have n9_ := nbg BK253 hg
    clear BK252
    clear BK253
    clear HB
    have BK252 := n0_
    have BK253 := n1_
    have HB := n2_
    have BK260 := n3_
    have GW260 := n4_
    have GE260 := n5_
    have NB252_260 := n6_
    have NB260_252 := n7_
    have NB253_260 := n8_
    have NB260_253 := n9_
    clear n0_ n1_ n2_ n3_ n4_ n5_ n6_ n7_ n8_ n9_
    clear hb hbox hg
    refine hK.out _ _ ⟨gb260, (.pointer (some ⟨gb260, 0, none⟩)), (by rw [ha.out]; exact putSel_upk 8 hb_ rfl rfl rfl), (pk BK252), (pk BK253), (pbs HB), fun _ _ => (pk BK260), fun _ => GW260.out, fun _ => GE260.out, fun _ => NB252_260.out, fun _ => NB260_252.out, fun _ => NB253_260.out, fun _ => NB260_253.out, fun h0_ => absurd ((hoff 10 (by kernel_rfl)).symm.trans h0_) (by decide), fun _ => rfl⟩
   refine steps_cons ?_ ?_
   ·rintro b a w' ⟨gb260, m9_, ha, Q_BK252, Q_BK253, Q_HB, Q_BK260, Q_GW260, Q_GE260, Q_NB252_260, Q_NB260_252, Q_NB253_260, Q_NB260_253, Q_BK260_e10, Q_X9_⟩ hb_ hon hoff
    refine ⟨_, rfl, fun K hK => ?_⟩
    have e7 : a.tmps[7]? = some (m9_) := by rw [ha]; exact putSel_on (e := (9, 7, m9_)) 8 rfl rfl (hon 9 (by kernel_rfl)) rfl
    rw [Q_X9_ (hon 9 (by kernel_rfl))] at e7
    have e18 : a.tmps[18]? = some (.agg (mixA (Value.int .u16) [] t258)) := by rw [ha]; exact putSel_on (e := (7, 18, .agg (mixA (Value.int .u16) [] t258))) 6 rfl rfl (hon 7 (by kernel_rfl)) rfl
    replace ha := Aside0.mk ha
    have BK252 := Aside0.mk Q_BK252
    have BK253 := Aside0.mk Q_BK253
    have HB := Aside0.mk Q_HB
    have BK260 := Aside0.mk (Q_BK260 (hon 9 (by kernel_rfl)) hb_)
    have GW260 := Aside0.mk (Q_GW260 (hon 9 (by kernel_rfl)))
    have GE260 := Aside0.mk (Q_GE260 (hon 9 (by kernel_rfl)))
    have NB252_260 := Aside0.mk (Q_NB252_260 (hon 9 (by kernel_rfl)))
    have NB260_252 := Aside0.mk (Q_NB260_252 (hon 9 (by kernel_rfl)))
    have NB253_260 := Aside0.mk (Q_NB253_260 (hon 9 (by kernel_rfl)))
    have NB260_253 := Aside0.mk (Q_NB260_253 (hon 9 (by kernel_rfl)))
    refine step_store_lmix (by rfl) rfl 28 _ _ rfl gb260 (e := (Value.int .u16)) (cs' := []) (W' := t258) (cs := []) (W := (LA.zero 40)) (T := 28) (by first | (simp only [List.map_toArray, List.map_cons, List.map_nil, Act.eval, Array.getD_eq_getD_getElem?, Option.getD_some, e7, e18]; done) | (simp only [List.map_toArray, List.map_cons, List.map_nil, Act.eval, Array.getD_eq_getD_getElem?, Option.getD_some, e7, e18]; rfl)) (by first | (simp only [List.map_toArray, List.map_cons, List.map_nil, Act.eval, Array.getD_eq_getD_getElem?, Option.getD_some, e7, e18]; done) | (simp only [List.map_toArray, List.map_cons, List.map_nil, Act.eval, Array.getD_eq_getD_getElem?, Option.getD_some, e7, e18]; rfl)) (pk BK260) rfl (by kernel_rfl) rfl (fun _ => rfl) rfl ?_
    intro w75 hi hk hbl
    have n0_ := Aside0.mk (KeepBut.blk hk (g' := gb252) (o := .cells (mixA (Value.int .u16) [.int .i8 a0_0, .int .i8 a0_1] a0_2) 26 (0, 0)) (pk BK252) NB252_260.out (by simp))
    have n1_ := Aside0.mk (KeepBut.blk hk (g' := gb253) (o := .cells (mixA (Value.int .u16) [] a1) 27 (0, 0)) (pk BK253) NB253_260.out (by simp))
    have n2_ := Aside0.mk (hbl _ _ (pbs HB) GE260.out)
    have n3_ := Aside0.mk (hi)
    clear BK252
    clear BK253
    clear HB
    clear BK260
    have BK252 := n0_
    have BK253 := n1_
    have HB := n2_
    have BK260 := n3_
    clear n0_ n1_ n2_ n3_
    clear hi hk hbl
    refine hK.out _ _ ⟨gb260, m9_, (by rw [ha.out]; exact putSel_none (v := undef) rfl), (pk BK252), (pk BK253), (pbs HB), fun _ h1_ => absurd ((up_self b 10).symm.trans h1_) (by decide), fun _ => GW260.out, fun _ => GE260.out, fun _ => NB252_260.out, fun _ => NB260_252.out, fun _ => NB253_260.out, fun _ => NB260_253.out, fun _ => (pk BK260), Q_X9_⟩
   refine steps_cons ?_ ?_
   ·rintro b a w' ⟨gb260, m9_, ha, Q_BK252, Q_BK253, Q_HB, Q_BK260, Q_GW260, Q_GE260, Q_NB252_260, Q_NB260_252, Q_NB253_260, Q_NB260_253, Q_BK260_e10, Q_X9_⟩ hb_ hon hoff
    refine ⟨_, rfl, fun K hK => ?_⟩
    have e19 : a.tmps[19]? = some (.int .i64 t259) := by rw [ha]; exact putSel_on (e := (8, 19, .int .i64 t259)) 7 rfl rfl (hon 8 (by kernel_rfl)) rfl
    replace ha := Aside0.mk ha
    have BK252 := Aside0.mk Q_BK252
    have BK253 := Aside0.mk Q_BK253
    have HB := Aside0.mk Q_HB
    have GW260 := Aside0.mk (Q_GW260 (hon 9 (by kernel_rfl)))
    have GE260 := Aside0.mk (Q_GE260 (hon 9 (by kernel_rfl)))
    have NB252_260 := Aside0.mk (Q_NB252_260 (hon 9 (by kernel_rfl)))
    have NB260_252 := Aside0.mk (Q_NB260_252 (hon 9 (by kernel_rfl)))
    have NB253_260 := Aside0.mk (Q_NB253_260 (hon 9 (by kernel_rfl)))
    have NB260_253 := Aside0.mk (Q_NB260_253 (hon 9 (by kernel_rfl)))
    have BK260 := Aside0.mk (Q_BK260_e10 (hon 10 (by kernel_rfl)))
    refine value_ (w1 := w') (v := .int .i64 t259) (by rfl) rfl ?_ ?_
    ·go_simp
     (try simp only [i64_w])
     try rfl
    refine hK.out _ _ ⟨gb260, m9_, (by rw [ha.out]; exact putSel_upk 9 hb_ rfl rfl rfl), Q_BK252, Q_BK253, Q_HB, fun _ h1_ => absurd ((hon 10 (by kernel_rfl)).symm.trans h1_) (by decide), Q_GW260, Q_GE260, Q_NB252_260, Q_NB260_252, Q_NB253_260, Q_NB260_253, Q_BK260_e10, Q_X9_⟩
   exact steps_nil
  rintro b a w75 hall ⟨gb260, m9_, ha, Q_BK252, Q_BK253, Q_HB, Q_BK260, Q_GW260, Q_GE260, Q_NB252_260, Q_NB260_252, Q_NB253_260, Q_NB260_253, Q_BK260_e10, Q_X9_⟩
  clear BK252 BK253 HB
  have hb0_ := hall 0 (by kernel_rfl)
  have hb1_ := hall 1 (by kernel_rfl)
  have hb2_ := hall 2 (by kernel_rfl)
  have hb3_ := hall 3 (by kernel_rfl)
  have hb5_ := hall 5 (by kernel_rfl)
  have hb6_ := hall 6 (by kernel_rfl)
  have hb7_ := hall 7 (by kernel_rfl)
  have hb8_ := hall 8 (by kernel_rfl)
  have hb9_ := hall 9 (by kernel_rfl)
  have hb10_ := hall 10 (by kernel_rfl)
  have hb11_ := hall 11 (by kernel_rfl)
  subst ha
  obtain rfl := (Q_X9_ hb9_).symm
  simp only [putSel, hb0_, hb1_, hb2_, hb3_, hb5_, hb6_, hb7_, hb8_, hb9_, hb10_, hb11_, if_true, Act.put, List.setIfInBounds_toArray, List.set_cons_zero, List.set_cons_succ]
  have BK252 := Aside0.mk Q_BK252
  clear Q_BK252
  have BK253 := Aside0.mk Q_BK253
  clear Q_BK253
  have HB := Aside0.mk Q_HB
  clear Q_HB
  clear Q_BK260
  have GW260 := Aside0.mk (Q_GW260 hb9_)
  clear Q_GW260
  have GE260 := Aside0.mk (Q_GE260 hb9_)
  clear Q_GE260
  have NB252_260 := Aside0.mk (Q_NB252_260 hb9_)
  clear Q_NB252_260
  have NB260_252 := Aside0.mk (Q_NB260_252 hb9_)
  clear Q_NB260_252
  have NB253_260 := Aside0.mk (Q_NB253_260 hb9_)
  clear Q_NB253_260
  have NB260_253 := Aside0.mk (Q_NB260_253 hb9_)
  clear Q_NB260_253
  have BK260 := Aside0.mk (Q_BK260_e10 hb10_)
  clear Q_BK260_e10
  clear hall hb0_ hb1_ hb2_ hb3_ hb5_ hb6_ hb7_ hb8_ hb9_ hb10_ hb11_
  try go_wp2
  have n0_ := Aside0.mk (blk_drew BK252.out)
  have n1_ := Aside0.mk (blk_drew BK253.out)
  have n2_ := Aside0.mk (blk_drew BK260.out)
  have n3_ := Aside0.mk (below_drew1 HB.out)
  clear BK252
  clear BK253
  clear BK260
  clear HB
  have BK252 := n0_
  have BK253 := n1_
  have BK260 := n2_
  have HB := n3_
  clear n0_ n1_ n2_ n3_
  refine start_ (n := 12) (S := fun w' => True) (ds := []) #[false, false, false, false, false, false, false, false, false, false, false, false] (by kernel_rfl) rfl rfl trivial (fun hHeld => ?_); refine with_tabW laws_FnExactMoveCrowd.tab2 laws_FnExactMoveCrowd.bits2 (fun HT_ HW_ => ?_)
  generalize w75.drew = w80 at BK252 BK253 BK260 HB hHeld ⊢
  refine pure_ (i := 4) (N := some 25) (v := ?_) (a' := ?_) #[false, false, false, false, true, false, false, false, false, false, false, false] rfl rfl (any_of HT_.out (by kernel_rfl)) (fun _ _ _ h => h) (Or.inl ⟨by rfl, ?_⟩) ?_ ?_
  rotate_left
  ·intro w'
   go_simp
   with_reducible rfl
  rotate_left
  ·simp only [Act.put, List.setIfInBounds_toArray, List.set_cons_zero, List.set_cons_succ, i64_w, i32_w]
   rfl
  refine inv_at [0, 1, 2, 3, 5, 6, 7, 8, 9, 10, 11] (fun a0_ b a w' => ∃ (gb267 : Nat) (m9_ : Value), a = putSel a0_ b [(0, 21, .agg (mixA (Value.int .u16) [.int .i8 a0_0, .int .i8 a0_1] a0_2)), (1, 22, .agg (mixA (Value.int .u16) [.int .i8 t261, .int .i8 t262] t263)), (2, 23, .agg (mixA (Value.int .u16) [] a1)), (3, 24, .agg (mixA (Value.int .u16) [] t264)), (5, 26, .tuple #[.agg (mixA (Value.int .u16) [] t265), .int .i64 t266]), (6, 20, .tuple #[.agg (mixA (Value.int .u16) [] t265), .int .i64 t266]), (7, 27, .agg (mixA (Value.int .u16) [] t265)), (8, 28, .int .i64 t266), (9, 9, m9_), (11, 10, .int .i64 t266)] ∧ (w'.heap[gb252]? = some (.cells (mixA (Value.int .u16) [.int .i8 a0_0, .int .i8 a0_1] a0_2) 26 (0, 0))) ∧ (w'.heap[gb253]? = some (.cells (mixA (Value.int .u16) [] a1) 27 (0, 0))) ∧ (w'.heap[gb260]? = some (.cells (mixA (Value.int .u16) [] t258) 28 (0, 0))) ∧ (Below w.heap.size w w') ∧ (b 9 = true → b 10 = false → w'.heap[gb267]? = some (.cells (mixA (Value.int .u16) [] (LA.zero 40)) 28 (0, 0))) ∧ (b 9 = true → w.heap.size ≤ gb267) ∧ (b 9 = true → w.heap.size ≤ gb267) ∧ (b 9 = true → gb252 ≠ gb267) ∧ (b 9 = true → gb267 ≠ gb252) ∧ (b 9 = true → gb253 ≠ gb267) ∧ (b 9 = true → gb267 ≠ gb253) ∧ (b 9 = true → gb260 ≠ gb267) ∧ (b 9 = true → gb267 ≠ gb260) ∧ (b 10 = true → w'.heap[gb267]? = some (.cells (mixA (Value.int .u16) [] t265) 28 (0, 0))) ∧ (b 9 = true → (m9_ : Value) = .pointer (some ⟨gb267, 0, none⟩))) HT_.out HW_.out (by kernel_rfl) (by kernel_rfl) ?_ ?_ ?_
  ·exact ⟨0, .bool false, by simp only [putSel, Bool.false_eq_true, if_false], BK252.out, BK253.out, BK260.out, HB.out, fun h_ => absurd h_ (by decide), fun h_ => absurd h_ (by decide), fun h_ => absurd h_ (by decide), fun h_ => absurd h_ (by decide), fun h_ => absurd h_ (by decide), fun h_ => absurd h_ (by decide), fun h_ => absurd h_ (by decide), fun h_ => absurd h_ (by decide), fun h_ => absurd h_ (by decide), fun h_ => absurd h_ (by decide), fun h_ => absurd h_ (by decide)⟩
  ·skip
   clear BK252 BK253 BK260 HB
   refine steps_cons ?_ ?_
   ·rintro b a w' ⟨gb267, m9_, ha, Q_BK252, Q_BK253, Q_BK260, Q_HB, Q_BK267, Q_GW267, Q_GE267, Q_NB252_267, Q_NB267_252, Q_NB253_267, Q_NB267_253, Q_NB260_267, Q_NB267_260, Q_BK267_e10, Q_X9_⟩ hb_ hon hoff
    refine ⟨_, rfl, fun K hK => ?_⟩
    have e3 : a.tmps[3]? = some (.pointer (some ⟨gb252, 0, none⟩)) := by rw [ha]; exact (putSel_off rfl).trans rfl
    replace ha := Aside0.mk ha
    have BK252 := Aside0.mk Q_BK252
    have BK253 := Aside0.mk Q_BK253
    have BK260 := Aside0.mk Q_BK260
    have HB := Aside0.mk Q_HB
    have hL_ : World.rangeAt w' gb252 0 ([.int .i8 a0_0, .int .i8 a0_1] ++ a0_2.l.map (Value.int .u16)) := mix_range BK252.out
    refine value_ (w1 := w') (v := .agg (mixA (Value.int .u16) [.int .i8 a0_0, .int .i8 a0_1] a0_2)) (by rfl) rfl ?_ ?_
    ·exact load_mix_run (P := Tryd.prog) 26 (.tmp 3) rfl gb252 (by simp only [Act.eval, Array.getD_eq_getD_getElem?, e3, Option.getD_some]) hL_ Tryd.underlying26 rfl (by kernel_rfl) rfl
    refine hK.out _ _ ⟨gb267, m9_, (by rw [ha.out]; exact putSel_upk 0 hb_ rfl rfl rfl), Q_BK252, Q_BK253, Q_BK260, Q_HB, Q_BK267, Q_GW267, Q_GE267, Q_NB252_267, Q_NB267_252, Q_NB253_267, Q_NB267_253, Q_NB260_267, Q_NB267_260, fun h0_ => absurd ((hoff 10 (by kernel_rfl)).symm.trans h0_) (by decide), Q_X9_⟩
   refine steps_cons ?_ ?_
   ·rintro b a w' ⟨gb267, m9_, ha, Q_BK252, Q_BK253, Q_BK260, Q_HB, Q_BK267, Q_GW267, Q_GE267, Q_NB252_267, Q_NB267_252, Q_NB253_267, Q_NB267_253, Q_NB260_267, Q_NB267_260, Q_BK267_e10, Q_X9_⟩ hb_ hon hoff
    refine ⟨_, rfl, fun K hK => ?_⟩
    have e21 : a.tmps[21]? = some (.agg (mixA (Value.int .u16) [.int .i8 a0_0, .int .i8 a0_1] a0_2)) := by rw [ha]; exact putSel_on (e := (0, 21, .agg (mixA (Value.int .u16) [.int .i8 a0_0, .int .i8 a0_1] a0_2))) 0 rfl rfl (hon 0 (by kernel_rfl)) rfl
    replace ha := Aside0.mk ha
    have BK252 := Aside0.mk Q_BK252
    have BK253 := Aside0.mk Q_BK253
    have BK260 := Aside0.mk Q_BK260
    have HB := Aside0.mk Q_HB
    refine goes_ Tryd.func8 (by kernel_rfl) rfl #[.agg (mixA (Value.int .u16) [.int .i8 a0_0, .int .i8 a0_1] a0_2)] (by rfl) rfl rfl (by first | (simp only [List.map_toArray, List.map_cons, List.map_nil, Act.eval, Array.getD_eq_getD_getElem?, Option.getD_some, e21]; done) | (simp only [List.map_toArray, List.map_cons, List.map_nil, Act.eval, Array.getD_eq_getD_getElem?, Option.getD_some, e21]; rfl)) ?_
    with_reducible refine (laws_toRoom.calls k a0_0 a0_1 a0_2 t261 t262 t263 _ A7.out).mono ?_
    rintro e w81 ⟨rfl, hb⟩
    refine ⟨_, rfl, ?_⟩
    have n0_ := bkb BK252 hb
    have n1_ := bkb BK253 hb
    have n2_ := bkb BK260 hb
    have n3_ := bst HB hb
    have z_BK267 := fun (h0_ : b 9 = true) (h1_ : b 10 = false) => (show w81.heap[gb267]? = some (.cells (mixA (Value.int .u16) [] (LA.zero 40)) 28 (0, 0)) from by first | exact (blk_below (g := gb267) (o := .cells (mixA (Value.int .u16) [] (LA.zero 40)) 28 (0, 0)) (by (with_reducible repeat (first | refine blk_drewN ?_ _ | refine blk_drew ?_ | refine blk_alloc ?_ _)); exact (Q_BK267 h0_ h1_)) hb))
    clear BK252
    clear BK253
    clear BK260
    clear HB
    have BK252 := n0_
    have BK253 := n1_
    have BK260 := n2_
    have HB := n3_
    clear n0_ n1_ n2_ n3_
    (try clear hb)
    (try clear hb2)
    (try clear hk)
    (try clear hi)
    refine hK.out _ _ ⟨gb267, m9_, (by rw [ha.out]; exact putSel_upk 1 hb_ rfl rfl rfl), (pk BK252), (pk BK253), (pk BK260), (pbs HB), z_BK267, Q_GW267, Q_GE267, Q_NB252_267, Q_NB267_252, Q_NB253_267, Q_NB267_253, Q_NB260_267, Q_NB267_260, fun h0_ => absurd ((hoff 10 (by kernel_rfl)).symm.trans h0_) (by decide), Q_X9_⟩
   refine steps_cons ?_ ?_
   ·rintro b a w' ⟨gb267, m9_, ha, Q_BK252, Q_BK253, Q_BK260, Q_HB, Q_BK267, Q_GW267, Q_GE267, Q_NB252_267, Q_NB267_252, Q_NB253_267, Q_NB267_253, Q_NB260_267, Q_NB267_260, Q_BK267_e10, Q_X9_⟩ hb_ hon hoff
    refine ⟨_, rfl, fun K hK => ?_⟩
    have e4 : a.tmps[4]? = some (.pointer (some ⟨gb253, 0, none⟩)) := by rw [ha]; exact (putSel_off rfl).trans rfl
    replace ha := Aside0.mk ha
    have BK252 := Aside0.mk Q_BK252
    have BK253 := Aside0.mk Q_BK253
    have BK260 := Aside0.mk Q_BK260
    have HB := Aside0.mk Q_HB
    have hL_ : World.rangeAt w' gb253 0 ([] ++ a1.l.map (Value.int .u16)) := mix_range BK253.out
    refine value_ (w1 := w') (v := .agg (mixA (Value.int .u16) [] a1)) (by rfl) rfl ?_ ?_
    ·exact load_mix_run (P := Tryd.prog) 27 (.tmp 4) rfl gb253 (by simp only [Act.eval, Array.getD_eq_getD_getElem?, e4, Option.getD_some]) hL_ Tryd.underlying27 rfl (by kernel_rfl) rfl
    refine hK.out _ _ ⟨gb267, m9_, (by rw [ha.out]; exact putSel_upk 2 hb_ rfl rfl rfl), Q_BK252, Q_BK253, Q_BK260, Q_HB, Q_BK267, Q_GW267, Q_GE267, Q_NB252_267, Q_NB267_252, Q_NB253_267, Q_NB267_253, Q_NB260_267, Q_NB267_260, fun h0_ => absurd ((hoff 10 (by kernel_rfl)).symm.trans h0_) (by decide), Q_X9_⟩
   refine steps_cons ?_ ?_
   ·rintro b a w' ⟨gb267, m9_, ha, Q_BK252, Q_BK253, Q_BK260, Q_HB, Q_BK267, Q_GW267, Q_GE267, Q_NB252_267, Q_NB267_252, Q_NB253_267, Q_NB267_253, Q_NB260_267, Q_NB267_260, Q_BK267_e10, Q_X9_⟩ hb_ hon hoff
    refine ⟨_, rfl, fun K hK => ?_⟩
    have e23 : a.tmps[23]? = some (.agg (mixA (Value.int .u16) [] a1)) := by rw [ha]; exact putSel_on (e := (2, 23, .agg (mixA (Value.int .u16) [] a1))) 2 rfl rfl (hon 2 (by kernel_rfl)) rfl
    replace ha := Aside0.mk ha
    have BK252 := Aside0.mk Q_BK252
    have BK253 := Aside0.mk Q_BK253
    have BK260 := Aside0.mk Q_BK260
    have HB := Aside0.mk Q_HB
    refine goes_ Tryd.func12 (by kernel_rfl) rfl #[.agg (mixA (Value.int .u16) [] a1)] (by rfl) rfl rfl (by first | (simp only [List.map_toArray, List.map_cons, List.map_nil, Act.eval, Array.getD_eq_getD_getElem?, Option.getD_some, e23]; done) | (simp only [List.map_toArray, List.map_cons, List.map_nil, Act.eval, Array.getD_eq_getD_getElem?, Option.getD_some, e23]; rfl)) ?_
    with_reducible refine (laws_toCrowd.calls k a1 t264 _ A8.out).mono ?_
    rintro e w83 ⟨rfl, hb⟩
    refine ⟨_, rfl, ?_⟩
    have n0_ := bkb BK252 hb
    have n1_ := bkb BK253 hb
    have n2_ := bkb BK260 hb
    have n3_ := bst HB hb
    have z_BK267 := fun (h0_ : b 9 = true) (h1_ : b 10 = false) => (show w83.heap[gb267]? = some (.cells (mixA (Value.int .u16) [] (LA.zero 40)) 28 (0, 0)) from by first | exact (blk_below (g := gb267) (o := .cells (mixA (Value.int .u16) [] (LA.zero 40)) 28 (0, 0)) (by (with_reducible repeat (first | refine blk_drewN ?_ _ | refine blk_drew ?_ | refine blk_alloc ?_ _)); exact (Q_BK267 h0_ h1_)) hb))
    clear BK252
    clear BK253
    clear BK260
    clear HB
    have BK252 := n0_
    have BK253 := n1_
    have BK260 := n2_
    have HB := n3_
    clear n0_ n1_ n2_ n3_
    (try clear hb)
    (try clear hb2)
    (try clear hk)
    (try clear hi)
    refine hK.out _ _ ⟨gb267, m9_, (by rw [ha.out]; exact putSel_upk 3 hb_ rfl rfl rfl), (pk BK252), (pk BK253), (pk BK260), (pbs HB), z_BK267, Q_GW267, Q_GE267, Q_NB252_267, Q_NB267_252, Q_NB253_267, Q_NB267_253, Q_NB260_267, Q_NB267_260, fun h0_ => absurd ((hoff 10 (by kernel_rfl)).symm.trans h0_) (by decide), Q_X9_⟩
   refine steps_cons ?_ ?_
   ·rintro b a w' ⟨gb267, m9_, ha, Q_BK252, Q_BK253, Q_BK260, Q_HB, Q_BK267, Q_GW267, Q_GE267, Q_NB252_267, Q_NB267_252, Q_NB253_267, Q_NB267_253, Q_NB260_267, Q_NB267_260, Q_BK267_e10, Q_X9_⟩ hb_ hon hoff
    refine ⟨_, rfl, fun K hK => ?_⟩
    have e22 : a.tmps[22]? = some (.agg (mixA (Value.int .u16) [.int .i8 t261, .int .i8 t262] t263)) := by rw [ha]; exact putSel_on (e := (1, 22, .agg (mixA (Value.int .u16) [.int .i8 t261, .int .i8 t262] t263))) 1 rfl rfl (hon 1 (by kernel_rfl)) rfl
    have e24 : a.tmps[24]? = some (.agg (mixA (Value.int .u16) [] t264)) := by rw [ha]; exact putSel_on (e := (3, 24, .agg (mixA (Value.int .u16) [] t264))) 3 rfl rfl (hon 3 (by kernel_rfl)) rfl
    have e25 : a.tmps[25]? = some (.int .u8 a2) := by rw [ha]; exact (putSel_off rfl).trans rfl
    replace ha := Aside0.mk ha
    have BK252 := Aside0.mk Q_BK252
    have BK253 := Aside0.mk Q_BK253
    have BK260 := Aside0.mk Q_BK260
    have HB := Aside0.mk Q_HB
    refine goes_ Tryd.func13 (by kernel_rfl) rfl #[.agg (mixA (Value.int .u16) [.int .i8 t261, .int .i8 t262] t263), .agg (mixA (Value.int .u16) [] t264), .int .u8 a2] (by rfl) rfl rfl (by first | (simp only [List.map_toArray, List.map_cons, List.map_nil, Act.eval, Array.getD_eq_getD_getElem?, Option.getD_some, e22, e24, e25]; done) | (simp only [List.map_toArray, List.map_cons, List.map_nil, Act.eval, Array.getD_eq_getD_getElem?, Option.getD_some, e22, e24, e25]; rfl)) ?_
    with_reducible refine (impl_MoveCrowd.calls k t261 t262 t263 t264 a2 t265 t266 _ A9.out).mono ?_
    rintro e w84 ⟨rfl, hb⟩
    refine ⟨_, rfl, ?_⟩
    have n0_ := bkb BK252 hb
    have n1_ := bkb BK253 hb
    have n2_ := bkb BK260 hb
    have n3_ := bst HB hb
    have z_BK267 := fun (h0_ : b 9 = true) (h1_ : b 10 = false) => (show w84.heap[gb267]? = some (.cells (mixA (Value.int .u16) [] (LA.zero 40)) 28 (0, 0)) from by first | exact (blk_below (g := gb267) (o := .cells (mixA (Value.int .u16) [] (LA.zero 40)) 28 (0, 0)) (by (with_reducible repeat (first | refine blk_drewN ?_ _ | refine blk_drew ?_ | refine blk_alloc ?_ _)); exact (Q_BK267 h0_ h1_)) hb))
    clear BK252
    clear BK253
    clear BK260
    clear HB
    have BK252 := n0_
    have BK253 := n1_
    have BK260 := n2_
    have HB := n3_
    clear n0_ n1_ n2_ n3_
    (try clear hb)
    (try clear hb2)
    (try clear hk)
    (try clear hi)
    refine hK.out _ _ ⟨gb267, m9_, (by rw [ha.out]; exact putSel_upk 4 hb_ rfl rfl rfl), (pk BK252), (pk BK253), (pk BK260), (pbs HB), z_BK267, Q_GW267, Q_GE267, Q_NB252_267, Q_NB267_252, Q_NB253_267, Q_NB267_253, Q_NB260_267, Q_NB267_260, fun h0_ => absurd ((hoff 10 (by kernel_rfl)).symm.trans h0_) (by decide), Q_X9_⟩
   refine steps_cons ?_ ?_
   ·rintro b a w' ⟨gb267, m9_, ha, Q_BK252, Q_BK253, Q_BK260, Q_HB, Q_BK267, Q_GW267, Q_GE267, Q_NB252_267, Q_NB267_252, Q_NB253_267, Q_NB267_253, Q_NB260_267, Q_NB267_260, Q_BK267_e10, Q_X9_⟩ hb_ hon hoff
    refine ⟨_, rfl, fun K hK => ?_⟩
    have e26 : a.tmps[26]? = some (.tuple #[.agg (mixA (Value.int .u16) [] t265), .int .i64 t266]) := by rw [ha]; exact putSel_on (e := (5, 26, .tuple #[.agg (mixA (Value.int .u16) [] t265), .int .i64 t266])) 4 rfl rfl (hon 5 (by kernel_rfl)) rfl
    replace ha := Aside0.mk ha
    have BK252 := Aside0.mk Q_BK252
    have BK253 := Aside0.mk Q_BK253
    have BK260 := Aside0.mk Q_BK260
    have HB := Aside0.mk Q_HB
    refine value_ (w1 := w') (v := .tuple #[.agg (mixA (Value.int .u16) [] t265), .int .i64 t266]) (by rfl) rfl ?_ ?_
    ·go_simp
     (try simp only [i64_w])
     try rfl
    refine hK.out _ _ ⟨gb267, m9_, (by rw [ha.out]; exact putSel_upk 5 hb_ rfl rfl rfl), Q_BK252, Q_BK253, Q_BK260, Q_HB, Q_BK267, Q_GW267, Q_GE267, Q_NB252_267, Q_NB267_252, Q_NB253_267, Q_NB267_253, Q_NB260_267, Q_NB267_260, fun h0_ => absurd ((hoff 10 (by kernel_rfl)).symm.trans h0_) (by decide), Q_X9_⟩
   refine steps_cons ?_ ?_
   ·rintro b a w' ⟨gb267, m9_, ha, Q_BK252, Q_BK253, Q_BK260, Q_HB, Q_BK267, Q_GW267, Q_GE267, Q_NB252_267, Q_NB267_252, Q_NB253_267, Q_NB267_253, Q_NB260_267, Q_NB267_260, Q_BK267_e10, Q_X9_⟩ hb_ hon hoff
    refine ⟨_, rfl, fun K hK => ?_⟩
    have e20 : a.tmps[20]? = some (.tuple #[.agg (mixA (Value.int .u16) [] t265), .int .i64 t266]) := by rw [ha]; exact putSel_on (e := (6, 20, .tuple #[.agg (mixA (Value.int .u16) [] t265), .int .i64 t266])) 5 rfl rfl (hon 6 (by kernel_rfl)) rfl
    replace ha := Aside0.mk ha
    have BK252 := Aside0.mk Q_BK252
    have BK253 := Aside0.mk Q_BK253
    have BK260 := Aside0.mk Q_BK260
    have HB := Aside0.mk Q_HB
    refine value_ (w1 := w') (v := .agg (mixA (Value.int .u16) [] t265)) (by rfl) rfl ?_ ?_
    ·go_simp
     (try simp only [i64_w])
     try rfl
    refine hK.out _ _ ⟨gb267, m9_, (by rw [ha.out]; exact putSel_upk 6 hb_ rfl rfl rfl), Q_BK252, Q_BK253, Q_BK260, Q_HB, Q_BK267, Q_GW267, Q_GE267, Q_NB252_267, Q_NB267_252, Q_NB253_267, Q_NB267_253, Q_NB260_267, Q_NB267_260, fun h0_ => absurd ((hoff 10 (by kernel_rfl)).symm.trans h0_) (by decide), Q_X9_⟩
   refine steps_cons ?_ ?_
   ·rintro b a w' ⟨gb267, m9_, ha, Q_BK252, Q_BK253, Q_BK260, Q_HB, Q_BK267, Q_GW267, Q_GE267, Q_NB252_267, Q_NB267_252, Q_NB253_267, Q_NB267_253, Q_NB260_267, Q_NB267_260, Q_BK267_e10, Q_X9_⟩ hb_ hon hoff
    refine ⟨_, rfl, fun K hK => ?_⟩
    have e20 : a.tmps[20]? = some (.tuple #[.agg (mixA (Value.int .u16) [] t265), .int .i64 t266]) := by rw [ha]; exact putSel_on (e := (6, 20, .tuple #[.agg (mixA (Value.int .u16) [] t265), .int .i64 t266])) 5 rfl rfl (hon 6 (by kernel_rfl)) rfl
    replace ha := Aside0.mk ha
    have BK252 := Aside0.mk Q_BK252
    have BK253 := Aside0.mk Q_BK253
    have BK260 := Aside0.mk Q_BK260
    have HB := Aside0.mk Q_HB
    refine value_ (w1 := w') (v := .int .i64 t266) (by rfl) rfl ?_ ?_
    ·go_simp
     (try simp only [i64_w])
     try rfl
    refine hK.out _ _ ⟨gb267, m9_, (by rw [ha.out]; exact putSel_upk 7 hb_ rfl rfl rfl), Q_BK252, Q_BK253, Q_BK260, Q_HB, Q_BK267, Q_GW267, Q_GE267, Q_NB252_267, Q_NB267_252, Q_NB253_267, Q_NB267_253, Q_NB260_267, Q_NB267_260, Q_BK267_e10, Q_X9_⟩
   refine steps_cons ?_ ?_
   ·rintro b a w' ⟨gb267, m9_, ha, Q_BK252, Q_BK253, Q_BK260, Q_HB, Q_BK267, Q_GW267, Q_GE267, Q_NB252_267, Q_NB267_252, Q_NB253_267, Q_NB267_253, Q_NB260_267, Q_NB267_260, Q_BK267_e10, Q_X9_⟩ hb_ hon hoff
    refine ⟨_, rfl, fun K hK => ?_⟩
    replace ha := Aside0.mk ha
    have BK252 := Aside0.mk Q_BK252
    have BK253 := Aside0.mk Q_BK253
    have BK260 := Aside0.mk Q_BK260
    have HB := Aside0.mk Q_HB
    refine box_step ?hg (N := 9) ?hd (cs := (mixA (Value.int .u16) [] (LA.zero 40))) (t := 28) ?hr ?_; (case hd => rfl); (case hg => rfl); (case hr => first | (go_simp; done) | (go_simp; rfl))
    intro gb267 hg w81 hbox hb
    have n0_ := bkb BK252 hb
    have n1_ := bkb BK253 hb
    have n2_ := bkb BK260 hb
    have n3_ := bst HB hb
    have n4_ := Aside0.mk (hbox)
    have n5_ := gwl HB hg
    have n6_ := gwl HB hg
    have n7_ := nbl BK252 hg
    have n8_ := nbg BK252 hg
    have n9_ := nbl BK253 hg
    have n10_ := nbg BK253 hg
    have n11_ := nbl BK260 hg
    have n12_ := nbg BK260 hg
    clear BK252
    clear BK253
    clear BK260
    clear HB
    have BK252 := n0_
    have BK253 := n1_
    have BK260 := n2_
    have HB := n3_
    have BK267 := n4_
    have GW267 := n5_
    have GE267 := n6_
    have NB252_267 := n7_
    have NB267_252 := n8_
    have NB253_267 := n9_
    have NB267_253 := n10_
    have NB260_267 := n11_
    have NB267_260 := n12_
    clear n0_ n1_ n2_ n3_ n4_ n5_ n6_ n7_ n8_ n9_ n10_ n11_ n12_
    clear hb hbox hg
    refine hK.out _ _ ⟨gb267, (.pointer (some ⟨gb267, 0, none⟩)), (by rw [ha.out]; exact putSel_upk 8 hb_ rfl rfl rfl), (pk BK252), (pk BK253), (pk BK260), (pbs HB), fun _ _ => (pk BK267), fun _ => GW267.out, fun _ => GE267.out, fun _ => NB252_267.out, fun _ => NB267_252.out, fun _ => NB253_267.out, fun _ => NB267_253.out, fun _ => NB260_267.out, fun _ => NB267_260.out, fun h0_ => absurd ((hoff 10 (by kernel_rfl)).symm.trans h0_) (by decide), fun _ => rfl⟩
   refine steps_cons ?_ ?_
   ·rintro b a w' ⟨gb267, m9_, ha, Q_BK252, Q_BK253, Q_BK260, Q_HB, Q_BK267, Q_GW267, Q_GE267, Q_NB252_267, Q_NB267_252, Q_NB253_267, Q_NB267_253, Q_NB260_267, Q_NB267_260, Q_BK267_e10, Q_X9_⟩ hb_ hon hoff
    refine ⟨_, rfl, fun K hK => ?_⟩
    have e9 : a.tmps[9]? = some (m9_) := by rw [ha]; exact putSel_on (e := (9, 9, m9_)) 8 rfl rfl (hon 9 (by kernel_rfl)) rfl
    rw [Q_X9_ (hon 9 (by kernel_rfl))] at e9
    have e27 : a.tmps[27]? = some (.agg (mixA (Value.int .u16) [] t265)) := by rw [ha]; exact putSel_on (e := (7, 27, .agg (mixA (Value.int .u16) [] t265))) 6 rfl rfl (hon 7 (by kernel_rfl)) rfl
    replace ha := Aside0.mk ha
    have BK252 := Aside0.mk Q_BK252
    have BK253 := Aside0.mk Q_BK253
    have BK260 := Aside0.mk Q_BK260
    have HB := Aside0.mk Q_HB
    have BK267 := Aside0.mk (Q_BK267 (hon 9 (by kernel_rfl)) hb_)
    have GW267 := Aside0.mk (Q_GW267 (hon 9 (by kernel_rfl)))
    have GE267 := Aside0.mk (Q_GE267 (hon 9 (by kernel_rfl)))
    have NB252_267 := Aside0.mk (Q_NB252_267 (hon 9 (by kernel_rfl)))
    have NB267_252 := Aside0.mk (Q_NB267_252 (hon 9 (by kernel_rfl)))
    have NB253_267 := Aside0.mk (Q_NB253_267 (hon 9 (by kernel_rfl)))
    have NB267_253 := Aside0.mk (Q_NB267_253 (hon 9 (by kernel_rfl)))
    have NB260_267 := Aside0.mk (Q_NB260_267 (hon 9 (by kernel_rfl)))
    have NB267_260 := Aside0.mk (Q_NB267_260 (hon 9 (by kernel_rfl)))
    refine step_store_lmix (by rfl) rfl 28 _ _ rfl gb267 (e := (Value.int .u16)) (cs' := []) (W' := t265) (cs := []) (W := (LA.zero 40)) (T := 28) (by first | (simp only [List.map_toArray, List.map_cons, List.map_nil, Act.eval, Array.getD_eq_getD_getElem?, Option.getD_some, e9, e27]; done) | (simp only [List.map_toArray, List.map_cons, List.map_nil, Act.eval, Array.getD_eq_getD_getElem?, Option.getD_some, e9, e27]; rfl)) (by first | (simp only [List.map_toArray, List.map_cons, List.map_nil, Act.eval, Array.getD_eq_getD_getElem?, Option.getD_some, e9, e27]; done) | (simp only [List.map_toArray, List.map_cons, List.map_nil, Act.eval, Array.getD_eq_getD_getElem?, Option.getD_some, e9, e27]; rfl)) (pk BK267) rfl (by kernel_rfl) rfl (fun _ => rfl) rfl ?_
    intro w86 hi hk hbl
    have n0_ := Aside0.mk (KeepBut.blk hk (g' := gb252) (o := .cells (mixA (Value.int .u16) [.int .i8 a0_0, .int .i8 a0_1] a0_2) 26 (0, 0)) (pk BK252) NB252_267.out (by simp))
    have n1_ := Aside0.mk (KeepBut.blk hk (g' := gb253) (o := .cells (mixA (Value.int .u16) [] a1) 27 (0, 0)) (pk BK253) NB253_267.out (by simp))
    have n2_ := Aside0.mk (KeepBut.blk hk (g' := gb260) (o := .cells (mixA (Value.int .u16) [] t258) 28 (0, 0)) (pk BK260) NB260_267.out (by simp))
    have n3_ := Aside0.mk (hbl _ _ (pbs HB) GE267.out)
    have n4_ := Aside0.mk (hi)
    clear BK252
    clear BK253
    clear BK260
    clear HB
    clear BK267
    have BK252 := n0_
    have BK253 := n1_
    have BK260 := n2_
    have HB := n3_
    have BK267 := n4_
    clear n0_ n1_ n2_ n3_ n4_
    clear hi hk hbl
    refine hK.out _ _ ⟨gb267, m9_, (by rw [ha.out]; exact putSel_none (v := undef) rfl), (pk BK252), (pk BK253), (pk BK260), (pbs HB), fun _ h1_ => absurd ((up_self b 10).symm.trans h1_) (by decide), fun _ => GW267.out, fun _ => GE267.out, fun _ => NB252_267.out, fun _ => NB267_252.out, fun _ => NB253_267.out, fun _ => NB267_253.out, fun _ => NB260_267.out, fun _ => NB267_260.out, fun _ => (pk BK267), Q_X9_⟩
   refine steps_cons ?_ ?_
   ·rintro b a w' ⟨gb267, m9_, ha, Q_BK252, Q_BK253, Q_BK260, Q_HB, Q_BK267, Q_GW267, Q_GE267, Q_NB252_267, Q_NB267_252, Q_NB253_267, Q_NB267_253, Q_NB260_267, Q_NB267_260, Q_BK267_e10, Q_X9_⟩ hb_ hon hoff
    refine ⟨_, rfl, fun K hK => ?_⟩
    have e28 : a.tmps[28]? = some (.int .i64 t266) := by rw [ha]; exact putSel_on (e := (8, 28, .int .i64 t266)) 7 rfl rfl (hon 8 (by kernel_rfl)) rfl
    replace ha := Aside0.mk ha
    have BK252 := Aside0.mk Q_BK252
    have BK253 := Aside0.mk Q_BK253
    have BK260 := Aside0.mk Q_BK260
    have HB := Aside0.mk Q_HB
    have GW267 := Aside0.mk (Q_GW267 (hon 9 (by kernel_rfl)))
    have GE267 := Aside0.mk (Q_GE267 (hon 9 (by kernel_rfl)))
    have NB252_267 := Aside0.mk (Q_NB252_267 (hon 9 (by kernel_rfl)))
    have NB267_252 := Aside0.mk (Q_NB267_252 (hon 9 (by kernel_rfl)))
    have NB253_267 := Aside0.mk (Q_NB253_267 (hon 9 (by kernel_rfl)))
    have NB267_253 := Aside0.mk (Q_NB267_253 (hon 9 (by kernel_rfl)))
    have NB260_267 := Aside0.mk (Q_NB260_267 (hon 9 (by kernel_rfl)))
    have NB267_260 := Aside0.mk (Q_NB267_260 (hon 9 (by kernel_rfl)))
    have BK267 := Aside0.mk (Q_BK267_e10 (hon 10 (by kernel_rfl)))
    refine value_ (w1 := w') (v := .int .i64 t266) (by rfl) rfl ?_ ?_
    ·go_simp
     (try simp only [i64_w])
     try rfl
    refine hK.out _ _ ⟨gb267, m9_, (by rw [ha.out]; exact putSel_upk 9 hb_ rfl rfl rfl), Q_BK252, Q_BK253, Q_BK260, Q_HB, fun _ h1_ => absurd ((hon 10 (by kernel_rfl)).symm.trans h1_) (by decide), Q_GW267, Q_GE267, Q_NB252_267, Q_NB267_252, Q_NB253_267, Q_NB267_253, Q_NB260_267, Q_NB267_260, Q_BK267_e10, Q_X9_⟩
   exact steps_nil
  rintro b a w86 hall ⟨gb267, m9_, ha, Q_BK252, Q_BK253, Q_BK260, Q_HB, Q_BK267, Q_GW267, Q_GE267, Q_NB252_267, Q_NB267_252, Q_NB253_267, Q_NB267_253, Q_NB260_267, Q_NB267_260, Q_BK267_e10, Q_X9_⟩
  clear BK252 BK253 BK260 HB
  have hb0_ := hall 0 (by kernel_rfl)
  have hb1_ := hall 1 (by kernel_rfl)
  have hb2_ := hall 2 (by kernel_rfl)
  have hb3_ := hall 3 (by kernel_rfl)
  have hb5_ := hall 5 (by kernel_rfl)
  have hb6_ := hall 6 (by kernel_rfl)
  have hb7_ := hall 7 (by kernel_rfl)
  have hb8_ := hall 8 (by kernel_rfl)
  have hb9_ := hall 9 (by kernel_rfl)
  have hb10_ := hall 10 (by kernel_rfl)
  have hb11_ := hall 11 (by kernel_rfl)
  subst ha
  obtain rfl := (Q_X9_ hb9_).symm
  simp only [putSel, hb0_, hb1_, hb2_, hb3_, hb5_, hb6_, hb7_, hb8_, hb9_, hb10_, hb11_, if_true, Act.put, List.setIfInBounds_toArray, List.set_cons_zero, List.set_cons_succ]
  have BK252 := Aside0.mk Q_BK252
  clear Q_BK252
  have BK253 := Aside0.mk Q_BK253
  clear Q_BK253
  have BK260 := Aside0.mk Q_BK260
  clear Q_BK260
  have HB := Aside0.mk Q_HB
  clear Q_HB
  clear Q_BK267
  have GW267 := Aside0.mk (Q_GW267 hb9_)
  clear Q_GW267
  have GE267 := Aside0.mk (Q_GE267 hb9_)
  clear Q_GE267
  have NB252_267 := Aside0.mk (Q_NB252_267 hb9_)
  clear Q_NB252_267
  have NB267_252 := Aside0.mk (Q_NB267_252 hb9_)
  clear Q_NB267_252
  have NB253_267 := Aside0.mk (Q_NB253_267 hb9_)
  clear Q_NB253_267
  have NB267_253 := Aside0.mk (Q_NB267_253 hb9_)
  clear Q_NB267_253
  have NB260_267 := Aside0.mk (Q_NB260_267 hb9_)
  clear Q_NB260_267
  have NB267_260 := Aside0.mk (Q_NB267_260 hb9_)
  clear Q_NB267_260
  have BK267 := Aside0.mk (Q_BK267_e10 hb10_)
  clear Q_BK267_e10
  clear hall hb0_ hb1_ hb2_ hb3_ hb5_ hb6_ hb7_ hb8_ hb9_ hb10_ hb11_
  try go_wp2_with (first | ((with_reducible refine gate_dst (N := 29) rfl ?_); refine wpList_run0 (v := .agg (mixA (Value.int .u16) [] t265)) rfl (load_mix_run (P := Tryd.prog) 28 (.tmp 9) rfl gb267 rfl (show World.rangeAt _ gb267 0 ([] ++ t265.l.map (Value.int .u16)) from mix_range (show (World.heap _)[gb267]? = some (.cells (mixA (Value.int .u16) [] t265) 28 (0, 0)) from by (with_reducible repeat (first | refine blk_drewN ?_ _ | refine blk_drew ?_ | refine blk_alloc ?_ _)); exact BK267.out)) Tryd.underlying28 rfl (by kernel_rfl) rfl) ?_) | ((with_reducible refine gate_dst (N := 30) rfl ?_); refine wpList_run0 (v := .agg (mixA (Value.int .u16) [] t258)) rfl (load_mix_run (P := Tryd.prog) 28 (.tmp 7) rfl gb260 rfl (show World.rangeAt _ gb260 0 ([] ++ t258.l.map (Value.int .u16)) from mix_range (show (World.heap _)[gb260]? = some (.cells (mixA (Value.int .u16) [] t258) 28 (0, 0)) from by (with_reducible repeat (first | refine blk_drewN ?_ _ | refine blk_drew ?_ | refine blk_alloc ?_ _)); exact BK260.out)) Tryd.underlying28 rfl (by kernel_rfl) rfl) ?_) | ((with_reducible refine gate_callee (f := 10) rfl ?_); refine goesL_ (some 31) rfl rfl Tryd.func10 (by kernel_rfl) rfl #[.agg (mixA (Value.int .u16) [] t265), .agg (mixA (Value.int .u16) [] t258)] rfl (by (try simp only [List.map_toArray, List.map_cons, List.map_nil]); first | done | rfl | (simp only [List.length_drop, List.length_take]; rfl)) ?_; (with_reducible refine (laws_eqCrowd.calls k t265 t258 false _ A10.out).mono ?_); rintro e w93 ⟨rfl, hb⟩; refine ⟨_, rfl, ?_⟩; have n0_ := bkb BK252 hb; have n1_ := bkb BK253 hb; have n2_ := bkb BK260 hb; have n3_ := bkb BK267 hb; have n4_ := bst HB hb; clear BK252; clear BK253; clear BK260; clear BK267; clear HB; have BK252 := n0_; have BK253 := n1_; have BK260 := n2_; have BK267 := n3_; have HB := n4_; clear n0_ n1_ n2_ n3_ n4_; (try clear hb); (try clear hb2); (try clear hk); (try clear hi)))
  go_ret
  exact ⟨by first | rfl | (simp [errW_none, errW_some] <;> rfl) | (simp [*, errW_none, errW_some] <;> rfl), pbs HB⟩
end Go.Proofs.YtdedijjbdkoekaaDoor.PB
end
section
namespace Go.Proofs.YtdedijjbdkoekaaDoor.PB
open Go.RowKit Go.Proofs.YtdedijjbdkoekaaDoorW.PrintWords Go.Proofs.YtdedijjbdkoekaaDoorW.PrintLast Go.Proofs.YtdedijjbdkoekaaDoorW.PrintMore Go.Proofs.YtdedijjbdkoekaaDoor.La
attribute [local go_sem] max2_int min2_int max_two min_two max_three min_three max_four min_four   -- for this text's walks alone
set_option linter.unusedVariables false
set_option linter.unusedSimpArgs false
def spec_l06Moves.l0 : Nat → ByteArray → Int → Option (Int)
 | 0, _, _ => none
 | k + 1, x0, x3 => if x3 < (x0.size : Int) then (if 0 ≤ x3 then ((spec_l06Letter.f (bt x0 x3)).bind fun t269 => (if t269 = true then (spec_l06Moves.l0 k x0 (wrap64 (x3 + 1))) else (some 5))) else (none)) else (some 0)
def spec_l06Moves.f (k : Nat) (a0 : ByteArray) : Option (Int) := if (a0.size : Int) > 60 then (some 3) else (spec_l06Moves.l0 k a0 0)
theorem spec_l06Moves.mono_l : ∀ k, (∀ y0 y1, LeO (spec_l06Moves.l0 k y0 y1) (spec_l06Moves.l0 (k + 1) y0 y1))
 | 0 => fun _ _ r h => by simp [spec_l06Moves.l0] at h
 | k + 1 => by
  have ih0 := spec_l06Moves.mono_l k
  ·intro y0 y1
   unfold spec_l06Moves.l0
   repeat' first
   | (with_reducible exact ih0 _ _)
   | (with_reducible exact LeO.refl _)
   | (with_reducible exact LeO.none _)
   | (with_reducible refine LeO.ite ?_ ?_)
   | (with_reducible refine LeO.bind ?_ (fun _ => ?_))
   | exact ih0 _ _
   | exact LeO.none _
   | refine LeO.ite ?_ ?_
   | refine LeO.bind ?_ (fun _ => ?_)
theorem spec_l06Moves.mono : ∀ a0 k, LeO (spec_l06Moves.f k a0) (spec_l06Moves.f (k + 1) a0) := by
 intro a0 k
 have ih0 := spec_l06Moves.mono_l k
 unfold spec_l06Moves.f
 repeat' first
   | (with_reducible exact ih0 _ _)
   | (with_reducible exact LeO.refl _)
   | (with_reducible exact LeO.none _)
   | (with_reducible refine LeO.ite ?_ ?_)
   | (with_reducible refine LeO.bind ?_ (fun _ => ?_))
   | exact ih0 _ _
   | exact LeO.none _
   | refine LeO.ite ?_ ?_
   | refine LeO.bind ?_ (fun _ => ?_)
end Go.Proofs.YtdedijjbdkoekaaDoor.PB
end
section
namespace Go.Proofs.YtdedijjbdkoekaaDoor.PB
open Go.RowKit Go.Proofs.YtdedijjbdkoekaaDoorW.PrintWords Go.Proofs.YtdedijjbdkoekaaDoorW.PrintLast Go.Proofs.YtdedijjbdkoekaaDoorW.PrintMore Go.Proofs.YtdedijjbdkoekaaDoor.La
attribute [local go_sem] max2_int min2_int max_two min_two max_three min_three max_four min_four   -- for this text's walks alone
set_option linter.unusedVariables false
set_option linter.unusedSimpArgs false
def spec_MovesCrowd.l0 : Nat → ByteArray → Int → Int → Int → LA 10 → LA 40 → Option (LA 40 × Int)
 | 0, _, _, _, _, _, _ => none
 | k + 1, x2, x9, x271000, x271001, x271002, x272000 => if x9 < (x2.size : Int) then (if 0 ≤ x9 then ((spec_l06Move.f k x271000 x271001 x271002 x272000 (bt x2 x9)).bind fun t275 => (spec_MovesCrowd.l0 k x2 (wrap64 (x9 + 1)) x271000 x271001 x271002 t275)) else (none)) else (some (x272000, 0))
def spec_MovesCrowd.f (k : Nat) (a0_0 : Int) (a0_1 : Int) (a0_2 : LA 10) (a1 : LA 40) (a2 : ByteArray) : Option (LA 40 × Int) := (spec_l06Ok.f k a0_0 a0_1 a0_2 a1).bind fun t273 => (if t273 = true then ((spec_l06Moves.f k a2).bind fun t274 => (if t274 = 0 then (spec_MovesCrowd.l0 k a2 0 a0_0 a0_1 a0_2 a1) else (some ((LA.zero 40), t274)))) else (some ((LA.zero 40), 1)))
theorem spec_MovesCrowd.mono_l : ∀ k, (∀ y0 y1 y2 y3 y4 y5, LeO (spec_MovesCrowd.l0 k y0 y1 y2 y3 y4 y5) (spec_MovesCrowd.l0 (k + 1) y0 y1 y2 y3 y4 y5))
 | 0 => fun _ _ _ _ _ _ r h => by simp [spec_MovesCrowd.l0] at h
 | k + 1 => by
  have ih0 := spec_MovesCrowd.mono_l k
  ·intro y0 y1 y2 y3 y4 y5
   unfold spec_MovesCrowd.l0
   repeat' first
   | (with_reducible exact ih0 _ _ _ _ _ _)
   | (with_reducible exact spec_l06Move.mono _ _ _ _ _ _)
   | (with_reducible exact spec_l06Moves.mono _ _)
   | (with_reducible exact spec_l06Ok.mono _ _ _ _ _)
   | (with_reducible exact LeO.refl _)
   | (with_reducible exact LeO.none _)
   | (with_reducible refine LeO.ite ?_ ?_)
   | (with_reducible refine LeO.bind ?_ (fun _ => ?_))
   | exact ih0 _ _ _ _ _ _
   | exact spec_l06Move.mono _ _ _ _ _ _
   | exact spec_l06Moves.mono _ _
   | exact spec_l06Ok.mono _ _ _ _ _
   | exact LeO.none _
   | refine LeO.ite ?_ ?_
   | refine LeO.bind ?_ (fun _ => ?_)
theorem spec_MovesCrowd.mono : ∀ a0 a1 a2 a3 a4 k, LeO (spec_MovesCrowd.f k a0 a1 a2 a3 a4) (spec_MovesCrowd.f (k + 1) a0 a1 a2 a3 a4) := by
 intro a0 a1 a2 a3 a4 k
 have ih0 := spec_MovesCrowd.mono_l k
 unfold spec_MovesCrowd.f
 repeat' first
   | (with_reducible exact ih0 _ _ _ _ _ _)
   | (with_reducible exact spec_l06Move.mono _ _ _ _ _ _)
   | (with_reducible exact spec_l06Moves.mono _ _)
   | (with_reducible exact spec_l06Ok.mono _ _ _ _ _)
   | (with_reducible exact LeO.refl _)
   | (with_reducible exact LeO.none _)
   | (with_reducible refine LeO.ite ?_ ?_)
   | (with_reducible refine LeO.bind ?_ (fun _ => ?_))
   | exact ih0 _ _ _ _ _ _
   | exact spec_l06Move.mono _ _ _ _ _ _
   | exact spec_l06Moves.mono _ _
   | exact spec_l06Ok.mono _ _ _ _ _
   | exact LeO.none _
   | refine LeO.ite ?_ ?_
   | refine LeO.bind ?_ (fun _ => ?_)
end Go.Proofs.YtdedijjbdkoekaaDoor.PB
end
section
namespace Go.Proofs.YtdedijjbdkoekaaDoor.PB
open Go.RowKit Go.Proofs.YtdedijjbdkoekaaDoorW.PrintWords Go.Proofs.YtdedijjbdkoekaaDoorW.PrintLast Go.Proofs.YtdedijjbdkoekaaDoorW.PrintMore Go.Proofs.YtdedijjbdkoekaaDoor.La
attribute [local go_sem] max2_int min2_int max_two min_two max_three min_three max_four min_four   -- for this text's walks alone
set_option linter.unusedVariables false
set_option linter.unusedSimpArgs false
def bits_OnesCount16.f (a0 : Int) : Option (Int) := if 0 ≤ (a0 / 256) then (if (a0 / 256) < 256 then (if 0 ≤ (Go.bits .and .u16 a0 255) then (if (Go.bits .and .u16 a0 255) < 256 then (some (((bt (⟨#[0, 1, 1, 2, 1, 2, 2, 3, 1, 2, 2, 3, 2, 3, 3, 4, 1, 2, 2, 3, 2, 3, 3, 4, 2, 3, 3, 4, 3, 4, 4, 5, 1, 2, 2, 3, 2, 3, 3, 4, 2, 3, 3, 4, 3, 4, 4, 5, 2, 3, 3, 4, 3, 4, 4, 5, 3, 4, 4, 5, 4, 5, 5, 6, 1, 2, 2, 3, 2, 3, 3, 4, 2, 3, 3, 4, 3, 4, 4, 5, 2, 3, 3, 4, 3, 4, 4, 5, 3, 4, 4, 5, 4, 5, 5, 6, 2, 3, 3, 4, 3, 4, 4, 5, 3, 4, 4, 5, 4, 5, 5, 6, 3, 4, 4, 5, 4, 5, 5, 6, 4, 5, 5, 6, 5, 6, 6, 7, 1, 2, 2, 3, 2, 3, 3, 4, 2, 3, 3, 4, 3, 4, 4, 5, 2, 3, 3, 4, 3, 4, 4, 5, 3, 4, 4, 5, 4, 5, 5, 6, 2, 3, 3, 4, 3, 4, 4, 5, 3, 4, 4, 5, 4, 5, 5, 6, 3, 4, 4, 5, 4, 5, 5, 6, 4, 5, 5, 6, 5, 6, 6, 7, 2, 3, 3, 4, 3, 4, 4, 5, 3, 4, 4, 5, 4, 5, 5, 6, 3, 4, 4, 5, 4, 5, 5, 6, 4, 5, 5, 6, 5, 6, 6, 7, 3, 4, 4, 5, 4, 5, 5, 6, 4, 5, 5, 6, 5, 6, 6, 7, 4, 5, 5, 6, 5, 6, 6, 7, 5, 6, 6, 7, 6, 7, 7, 8]⟩ : ByteArray) (a0 / 256)) + (bt (⟨#[0, 1, 1, 2, 1, 2, 2, 3, 1, 2, 2, 3, 2, 3, 3, 4, 1, 2, 2, 3, 2, 3, 3, 4, 2, 3, 3, 4, 3, 4, 4, 5, 1, 2, 2, 3, 2, 3, 3, 4, 2, 3, 3, 4, 3, 4, 4, 5, 2, 3, 3, 4, 3, 4, 4, 5, 3, 4, 4, 5, 4, 5, 5, 6, 1, 2, 2, 3, 2, 3, 3, 4, 2, 3, 3, 4, 3, 4, 4, 5, 2, 3, 3, 4, 3, 4, 4, 5, 3, 4, 4, 5, 4, 5, 5, 6, 2, 3, 3, 4, 3, 4, 4, 5, 3, 4, 4, 5, 4, 5, 5, 6, 3, 4, 4, 5, 4, 5, 5, 6, 4, 5, 5, 6, 5, 6, 6, 7, 1, 2, 2, 3, 2, 3, 3, 4, 2, 3, 3, 4, 3, 4, 4, 5, 2, 3, 3, 4, 3, 4, 4, 5, 3, 4, 4, 5, 4, 5, 5, 6, 2, 3, 3, 4, 3, 4, 4, 5, 3, 4, 4, 5, 4, 5, 5, 6, 3, 4, 4, 5, 4, 5, 5, 6, 4, 5, 5, 6, 5, 6, 6, 7, 2, 3, 3, 4, 3, 4, 4, 5, 3, 4, 4, 5, 4, 5, 5, 6, 3, 4, 4, 5, 4, 5, 5, 6, 4, 5, 5, 6, 5, 6, 6, 7, 3, 4, 4, 5, 4, 5, 5, 6, 4, 5, 5, 6, 5, 6, 6, 7, 4, 5, 5, 6, 5, 6, 6, 7, 5, 6, 6, 7, 6, 7, 7, 8]⟩ : ByteArray) (Go.bits .and .u16 a0 255))) % 256)) else (none)) else (none)) else (none)) else (none)
mutual
def impl_CountCrowd.l0 : Nat → Int → LA 40 → Int → Option (Int)
 | 0, _, _, _ => none
 | k + 1, x3, x8, x9 => if x9 < 4 then (if 0 ≤ x9 then (impl_CountCrowd.l1 k x3 x8 x9 (LA.row x8 10 x9) 0) else (none)) else (some x3)
def impl_CountCrowd.l1 : Nat → Int → LA 40 → Int → LA 10 → Int → Option (Int)
 | 0, _, _, _, _, _ => none
 | k + 1, x3, x8, x9, x12, x13 => if x13 < 10 then (if 0 ≤ x13 then ((bits_OnesCount16.f (Go.bits .and .u16 (rd x12.l x13) 1023)).bind fun t312 => (impl_CountCrowd.l1 k (wrap64 (x3 + t312)) x8 x9 x12 (wrap64 (x13 + 1)))) else (none)) else (impl_CountCrowd.l0 k x3 x8 (wrap64 (x9 + 1)))
end
def impl_CountCrowd.f (k : Nat) (a0 : LA 40) : Option (Int) := impl_CountCrowd.l0 k 0 a0 0
theorem impl_CountCrowd.mono_l : ∀ k, (∀ y0 y1 y2, LeO (impl_CountCrowd.l0 k y0 y1 y2) (impl_CountCrowd.l0 (k + 1) y0 y1 y2)) ∧ (∀ y0 y1 y2 y3 y4, LeO (impl_CountCrowd.l1 k y0 y1 y2 y3 y4) (impl_CountCrowd.l1 (k + 1) y0 y1 y2 y3 y4))
 | 0 => ⟨fun _ _ _ r h => by simp [impl_CountCrowd.l0] at h, fun _ _ _ _ _ r h => by simp [impl_CountCrowd.l1] at h⟩
 | k + 1 => by
  obtain ⟨ih0, ih1⟩ := impl_CountCrowd.mono_l k
  refine ⟨?_, ?_⟩
  ·intro y0 y1 y2
   unfold impl_CountCrowd.l0
   repeat' first
   | (with_reducible exact ih0 _ _ _)
   | (with_reducible exact ih1 _ _ _ _ _)
   | (with_reducible exact LeO.refl _)
   | (with_reducible exact LeO.none _)
   | (with_reducible refine LeO.ite ?_ ?_)
   | (with_reducible refine LeO.bind ?_ (fun _ => ?_))
   | exact ih0 _ _ _
   | exact ih1 _ _ _ _ _
   | exact LeO.none _
   | refine LeO.ite ?_ ?_
   | refine LeO.bind ?_ (fun _ => ?_)
  ·intro y0 y1 y2 y3 y4
   unfold impl_CountCrowd.l1
   repeat' first
   | (with_reducible exact ih0 _ _ _)
   | (with_reducible exact ih1 _ _ _ _ _)
   | (with_reducible exact LeO.refl _)
   | (with_reducible exact LeO.none _)
   | (with_reducible refine LeO.ite ?_ ?_)
   | (with_reducible refine LeO.bind ?_ (fun _ => ?_))
   | exact ih0 _ _ _
   | exact ih1 _ _ _ _ _
   | exact LeO.none _
   | refine LeO.ite ?_ ?_
   | refine LeO.bind ?_ (fun _ => ?_)
theorem impl_CountCrowd.mono : ∀ a0 k, LeO (impl_CountCrowd.f k a0) (impl_CountCrowd.f (k + 1) a0) := by
 intro a0 k
 obtain ⟨ih0, ih1⟩ := impl_CountCrowd.mono_l k
 unfold impl_CountCrowd.f
 repeat' first
   | (with_reducible exact ih0 _ _ _)
   | (with_reducible exact ih1 _ _ _ _ _)
   | (with_reducible exact LeO.refl _)
   | (with_reducible exact LeO.none _)
   | (with_reducible refine LeO.ite ?_ ?_)
   | (with_reducible refine LeO.bind ?_ (fun _ => ?_))
   | exact ih0 _ _ _
   | exact ih1 _ _ _ _ _
   | exact LeO.none _
   | refine LeO.ite ?_ ?_
   | refine LeO.bind ?_ (fun _ => ?_)
end Go.Proofs.YtdedijjbdkoekaaDoor.PB
end
section
namespace Go.Proofs.YtdedijjbdkoekaaDoor.PB
open Go.RowKit Go.Proofs.YtdedijjbdkoekaaDoorW.PrintWords Go.Proofs.YtdedijjbdkoekaaDoorW.PrintLast Go.Proofs.YtdedijjbdkoekaaDoorW.PrintMore Go.Proofs.YtdedijjbdkoekaaDoor.La
attribute [local go_sem] max2_int min2_int max_two min_two max_three min_three max_four min_four   -- for this text's walks alone
set_option linter.unusedVariables false
set_option linter.unusedSimpArgs false
mutual
def impl_anywhere.l0 : Nat → List (S41) → Int → Int → LA 40 → Option (LA 40)
 | 0, _, _, _, _ => none
 | k + 1, x9, x10, x11, x385000 => if x11 < x10 then (if 0 ≤ x11 then (if x11 < (x9.length : Int) then (impl_anywhere.l1 k x9 x10 x11 0 x385000 ((rd_T41 x9 x11).f0) ((rd_T41 x9 x11).f1)) else (none)) else (none)) else (some x385000)
def impl_anywhere.l1 : Nat → List (S41) → Int → Int → Int → LA 40 → Int → Int → Option (LA 40)
 | 0, _, _, _, _, _, _, _ => none
 | k + 1, x9, x10, x11, x15, x385000, x390000, x390001 => if x15 < 4 then ((impl_Crowd_set.f x385000 x390000 x390001 x15).bind fun t390 => (impl_anywhere.l1 k x9 x10 x11 (wrap64 (x15 + 1)) t390 x390000 x390001)) else (impl_anywhere.l0 k x9 x10 (wrap64 (x11 + 1)) x385000)
end
def impl_anywhere.f (k : Nat) (a0_0 : Int) (a0_1 : Int) (a0_2 : LA 10) : Option (LA 40) := (impl_Room_free.f k a0_0 a0_1 a0_2).bind fun t385 => (impl_anywhere.l0 k t385 (t385.length : Int) 0 (LA.zero 40))
theorem impl_anywhere.mono_l : ∀ k, (∀ y0 y1 y2 y3, LeO (impl_anywhere.l0 k y0 y1 y2 y3) (impl_anywhere.l0 (k + 1) y0 y1 y2 y3)) ∧ (∀ y0 y1 y2 y3 y4 y5 y6, LeO (impl_anywhere.l1 k y0 y1 y2 y3 y4 y5 y6) (impl_anywhere.l1 (k + 1) y0 y1 y2 y3 y4 y5 y6))
 | 0 => ⟨fun _ _ _ _ r h => by simp [impl_anywhere.l0] at h, fun _ _ _ _ _ _ _ r h => by simp [impl_anywhere.l1] at h⟩
 | k + 1 => by
  obtain ⟨ih0, ih1⟩ := impl_anywhere.mono_l k
  refine ⟨?_, ?_⟩
  ·intro y0 y1 y2 y3
   unfold impl_anywhere.l0
   repeat' first
   | (with_reducible exact ih0 _ _ _ _)
   | (with_reducible exact ih1 _ _ _ _ _ _ _)
   | (with_reducible exact impl_Room_free.mono _ _ _ _)
   | (with_reducible exact LeO.refl _)
   | (with_reducible exact LeO.none _)
   | (with_reducible refine LeO.ite ?_ ?_)
   | (with_reducible refine LeO.bind ?_ (fun _ => ?_))
   | exact ih0 _ _ _ _
   | exact ih1 _ _ _ _ _ _ _
   | exact impl_Room_free.mono _ _ _ _
   | exact LeO.none _
   | refine LeO.ite ?_ ?_
   | refine LeO.bind ?_ (fun _ => ?_)
  ·intro y0 y1 y2 y3 y4 y5 y6
   unfold impl_anywhere.l1
   repeat' first
   | (with_reducible exact ih0 _ _ _ _)
   | (with_reducible exact ih1 _ _ _ _ _ _ _)
   | (with_reducible exact impl_Room_free.mono _ _ _ _)
   | (with_reducible exact LeO.refl _)
   | (with_reducible exact LeO.none _)
   | (with_reducible refine LeO.ite ?_ ?_)
   | (with_reducible refine LeO.bind ?_ (fun _ => ?_))
   | exact ih0 _ _ _ _
   | exact ih1 _ _ _ _ _ _ _
   | exact impl_Room_free.mono _ _ _ _
   | exact LeO.none _
   | refine LeO.ite ?_ ?_
   | refine LeO.bind ?_ (fun _ => ?_)
theorem impl_anywhere.mono : ∀ a0 a1 a2 k, LeO (impl_anywhere.f k a0 a1 a2) (impl_anywhere.f (k + 1) a0 a1 a2) := by
 intro a0 a1 a2 k
 obtain ⟨ih0, ih1⟩ := impl_anywhere.mono_l k
 unfold impl_anywhere.f
 repeat' first
   | (with_reducible exact ih0 _ _ _ _)
   | (with_reducible exact ih1 _ _ _ _ _ _ _)
   | (with_reducible exact impl_Room_free.mono _ _ _ _)
   | (with_reducible exact LeO.refl _)
   | (with_reducible exact LeO.none _)
   | (with_reducible refine LeO.ite ?_ ?_)
   | (with_reducible refine LeO.bind ?_ (fun _ => ?_))
   | exact ih0 _ _ _ _
   | exact ih1 _ _ _ _ _ _ _
   | exact impl_Room_free.mono _ _ _ _
   | exact LeO.none _
   | refine LeO.ite ?_ ?_
   | refine LeO.bind ?_ (fun _ => ?_)
def impl_Anywhere.f (k : Nat) (a0_0 : Int) (a0_1 : Int) (a0_2 : LA 10) : Option (LA 40 × Int) := (impl_ValidRoom.f k a0_0 a0_1 a0_2).bind fun t393 => (if t393 = true then ((impl_anywhere.f k a0_0 a0_1 a0_2).bind fun t394 => (some (t394, 0))) else (some ((LA.zero 40), 1)))
theorem impl_Anywhere.mono : ∀ a0 a1 a2 k, LeO (impl_Anywhere.f k a0 a1 a2) (impl_Anywhere.f (k + 1) a0 a1 a2) := by
 intro a0 a1 a2 k
 unfold impl_Anywhere.f
 repeat' first
   | (with_reducible exact impl_ValidRoom.mono _ _ _ _)
   | (with_reducible exact impl_anywhere.mono _ _ _ _)
   | (with_reducible exact LeO.refl _)
   | (with_reducible exact LeO.none _)
   | (with_reducible refine LeO.ite ?_ ?_)
   | (with_reducible refine LeO.bind ?_ (fun _ => ?_))
   | exact impl_ValidRoom.mono _ _ _ _
   | exact impl_anywhere.mono _ _ _ _
   | exact LeO.none _
   | refine LeO.ite ?_ ?_
   | refine LeO.bind ?_ (fun _ => ?_)
mutual
def impl_Crowd_only.l0 : Nat → List (S41) → Int → Int → LA 40 → Option (Int × Int × Int)
 | 0, _, _, _, _ => none
 | k + 1, x10, x11, x12, x396000 => if x12 < x11 then (if 0 ≤ x12 then (if x12 < (x10.length : Int) then (impl_Crowd_only.l1 k x10 x11 x12 0 x396000 ((rd_T41 x10 x12).f0) ((rd_T41 x10 x12).f1)) else (none)) else (none)) else (some (0, 0, 0))
def impl_Crowd_only.l1 : Nat → List (S41) → Int → Int → Int → LA 40 → Int → Int → Option (Int × Int × Int)
 | 0, _, _, _, _, _, _, _ => none
 | k + 1, x10, x11, x12, x16, x396000, x403000, x403001 => if x16 < 4 then ((impl_Crowd_has.f x396000 x403000 x403001 x16).bind fun t403 => (if t403 = true then (some (x403000, x403001, x16)) else (impl_Crowd_only.l1 k x10 x11 x12 (wrap64 (x16 + 1)) x396000 x403000 x403001))) else (impl_Crowd_only.l0 k x10 x11 (wrap64 (x12 + 1)) x396000)
end
def impl_Crowd_only.f (k : Nat) (a0 : LA 40) (a1_0 : Int) (a1_1 : Int) (a1_2 : LA 10) : Option (Int × Int × Int) := (impl_Room_free.f k a1_0 a1_1 a1_2).bind fun t398 => (impl_Crowd_only.l0 k t398 (t398.length : Int) 0 a0)
theorem impl_Crowd_only.mono_l : ∀ k, (∀ y0 y1 y2 y3, LeO (impl_Crowd_only.l0 k y0 y1 y2 y3) (impl_Crowd_only.l0 (k + 1) y0 y1 y2 y3)) ∧ (∀ y0 y1 y2 y3 y4 y5 y6, LeO (impl_Crowd_only.l1 k y0 y1 y2 y3 y4 y5 y6) (impl_Crowd_only.l1 (k + 1) y0 y1 y2 y3 y4 y5 y6))
 | 0 => ⟨fun _ _ _ _ r h => by simp [impl_Crowd_only.l0] at h, fun _ _ _ _ _ _ _ r h => by simp [impl_Crowd_only.l1] at h⟩
 | k + 1 => by
  obtain ⟨ih0, ih1⟩ := impl_Crowd_only.mono_l k
  refine ⟨?_, ?_⟩
  ·intro y0 y1 y2 y3
   unfold impl_Crowd_only.l0
   repeat' first
   | (with_reducible exact ih0 _ _ _ _)
   | (with_reducible exact ih1 _ _ _ _ _ _ _)
   | (with_reducible exact impl_Room_free.mono _ _ _ _)
   | (with_reducible exact LeO.refl _)
   | (with_reducible exact LeO.none _)
   | (with_reducible refine LeO.ite ?_ ?_)
   | (with_reducible refine LeO.bind ?_ (fun _ => ?_))
   | exact ih0 _ _ _ _
   | exact ih1 _ _ _ _ _ _ _
   | exact impl_Room_free.mono _ _ _ _
   | exact LeO.none _
   | refine LeO.ite ?_ ?_
   | refine LeO.bind ?_ (fun _ => ?_)
  ·intro y0 y1 y2 y3 y4 y5 y6
   unfold impl_Crowd_only.l1
   repeat' first
   | (with_reducible exact ih0 _ _ _ _)
   | (with_reducible exact ih1 _ _ _ _ _ _ _)
   | (with_reducible exact impl_Room_free.mono _ _ _ _)
   | (with_reducible exact LeO.refl _)
   | (with_reducible exact LeO.none _)
   | (with_reducible refine LeO.ite ?_ ?_)
   | (with_reducible refine LeO.bind ?_ (fun _ => ?_))
   | exact ih0 _ _ _ _
   | exact ih1 _ _ _ _ _ _ _
   | exact impl_Room_free.mono _ _ _ _
   | exact LeO.none _
   | refine LeO.ite ?_ ?_
   | refine LeO.bind ?_ (fun _ => ?_)
theorem impl_Crowd_only.mono : ∀ a0 a1 a2 a3 k, LeO (impl_Crowd_only.f k a0 a1 a2 a3) (impl_Crowd_only.f (k + 1) a0 a1 a2 a3) := by
 intro a0 a1 a2 a3 k
 obtain ⟨ih0, ih1⟩ := impl_Crowd_only.mono_l k
 unfold impl_Crowd_only.f
 repeat' first
   | (with_reducible exact ih0 _ _ _ _)
   | (with_reducible exact ih1 _ _ _ _ _ _ _)
   | (with_reducible exact impl_Room_free.mono _ _ _ _)
   | (with_reducible exact LeO.refl _)
   | (with_reducible exact LeO.none _)
   | (with_reducible refine LeO.ite ?_ ?_)
   | (with_reducible refine LeO.bind ?_ (fun _ => ?_))
   | exact ih0 _ _ _ _
   | exact ih1 _ _ _ _ _ _ _
   | exact impl_Room_free.mono _ _ _ _
   | exact LeO.none _
   | refine LeO.ite ?_ ?_
   | refine LeO.bind ?_ (fun _ => ?_)
def impl_WhereNow.f (k : Nat) (a0_0 : Int) (a0_1 : Int) (a0_2 : LA 10) (a1 : ByteArray) : Option (Int × Int × Int × Int) := (impl_Anywhere.f k a0_0 a0_1 a0_2).bind fun bt406 => ((impl_MovesCrowd.f k a0_0 a0_1 a0_2 bt406.1 a1).bind fun bt409 => ((impl_CountCrowd.f k bt409.1).bind fun t412 => (if bt409.2 = 0 then (if t412 > 1 then (some (0, 0, 0, 4)) else (if t412 = 0 then (some (0, 0, 0, 6)) else ((impl_Crowd_only.f k bt409.1 a0_0 a0_1 a0_2).bind fun bt413 => (some (bt413.1, bt413.2.1, bt413.2.2, 0))))) else (some (0, 0, 0, bt409.2)))))
theorem impl_WhereNow.mono : ∀ a0 a1 a2 a3 k, LeO (impl_WhereNow.f k a0 a1 a2 a3) (impl_WhereNow.f (k + 1) a0 a1 a2 a3) := by
 intro a0 a1 a2 a3 k
 unfold impl_WhereNow.f
 repeat' first
   | (with_reducible exact impl_Anywhere.mono _ _ _ _)
   | (with_reducible exact impl_CountCrowd.mono _ _)
   | (with_reducible exact impl_Crowd_only.mono _ _ _ _ _)
   | (with_reducible exact impl_MovesCrowd.mono _ _ _ _ _ _)
   | (with_reducible exact LeO.refl _)
   | (with_reducible exact LeO.none _)
   | (with_reducible refine LeO.ite ?_ ?_)
   | (with_reducible refine LeO.bind ?_ (fun _ => ?_))
   | exact impl_Anywhere.mono _ _ _ _
   | exact impl_CountCrowd.mono _ _
   | exact impl_Crowd_only.mono _ _ _ _ _
   | exact impl_MovesCrowd.mono _ _ _ _ _ _
   | exact LeO.none _
   | refine LeO.ite ?_ ?_
   | refine LeO.bind ?_ (fun _ => ?_)
def laws_eqSpot.f (a0_0 : Int) (a0_1 : Int) (a1_0 : Int) (a1_1 : Int) : Option (Bool) := if a0_0 = a1_0 then (if a0_1 = a1_1 then (some true) else (some false)) else (some false)
end Go.Proofs.YtdedijjbdkoekaaDoor.PB
end
