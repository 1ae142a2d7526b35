/- Lean functions for Go functions, and proofs that Go comes to just their answers; written by a program of this session. -/
import Derived.Test.YtdedijjbdkoekaaProg
import Derived.Below
import Derived.Deep.Draws
import Derived.Deep.AppendLies
import Derived.Maps.AppendAt
import Derived.OwnWalk
import Derived.Laws.BytesArg
import Derived.Laws.MakeOwn
import Derived.Laws.OwnMore
import Derived.Deep.OwnRows
import Derived.Tactics
import Derived.Lib.ConvBytes
import Derived.Laws.Slices
import Derived.WalkKit
import Derived.KernelRfl
import Derived.RowKit3
import Derived.Deep.LoopGhost
import Derived.Deep.QuietTactic
import Derived.BigQuiet
import Derived.WideLaws
import Derived.Deep.DeepCutAuto
import Derived.Deep.CutBlock
import Derived.Deep.RegionHeld3
import Derived.Laws.Rows
import Derived.Lib.AppendStr
import Derived.ArgAppend
import Derived.Laws.IdiomCopy
import Derived.OrdersHeld
import Derived.Laws.BitsLemmas
import Derived.RowKit
import Derived.Deep.DeepMust
import Derived.Deep.MidRow
import Derived.StillTailTactics
import Derived.Test.YtdedijjbdkoekaaWWords
import Derived.Test.YtdedijjbdkoekaaWLast
import Derived.Test.YtdedijjbdkoekaaWTab
import Derived.Test.YtdedijjbdkoekaaWFour
import Derived.Test.YtdedijjbdkoekaaWQPut
import Derived.Test.YtdedijjbdkoekaaWApart
import Derived.Test.YtdedijjbdkoekaaWArr
import Derived.Test.YtdedijjbdkoekaaWZeros
import Derived.Test.YtdedijjbdkoekaaWFoot
import Derived.Test.YtdedijjbdkoekaaWKept
import Derived.Test.YtdedijjbdkoekaaWShare
import Derived.Test.YtdedijjbdkoekaaWN
import Derived.Test.YtdedijjbdkoekaaWFootNe
import Derived.Test.YtdedijjbdkoekaaWAt
import Derived.Test.YtdedijjbdkoekaaWEqStruct
import Derived.Test.YtdedijjbdkoekaaWRepsOne
import Derived.Test.YtdedijjbdkoekaaWInv
import Derived.Test.YtdedijjbdkoekaaWInvWords
import Derived.Test.YtdedijjbdkoekaaWGuard
import Derived.Test.YtdedijjbdkoekaaWNEv
import Derived.Test.YtdedijjbdkoekaaWMore
namespace Go.Proofs.Ytdedijjbdkoekaa.PA
open Go.RowKit Go.Proofs.YtdedijjbdkoekaaW.PrintWords Go.Proofs.YtdedijjbdkoekaaW.PrintLast Go.Proofs.YtdedijjbdkoekaaW.PrintMore
attribute [local go_sem] max2_int min2_int max_two min_two max_three min_three max_four min_four   -- for this text's walks alone
set_option linter.unusedVariables false
set_option linter.unusedSimpArgs false



def errW : Option Int → Value
  | none => .nilIface
  | some c => .iface 0 (.int .i64 c)
theorem errW_none : errW none = .nilIface := rfl
theorem errW_some (c : Int) : errW (some c) = .iface 0 (.int .i64 c) := rfl

theorem info33 : (Try.prog.info? 33).map (fun i => (i.zero, i.size, i.bytes)) = some (some (.agg #[(.int .i8 0), (.int .i8 0)]), 2, 2) := by kernel_rfl
-- the values' own types
/-! #### struct type 23 -/
structure S23 where
  f0 : Int
  f1 : Int
  f2 : Int
  f3 : Int
  f4 : Int
  f5 : Int
  f6 : Int
  f7 : Int
  f8 : Int
  f9 : Int
def z23 : S23 := ⟨(0 : Int), (0 : Int), (0 : Int), (0 : Int), (0 : Int), (0 : Int), (0 : Int), (0 : Int), (0 : Int), (0 : Int)⟩
def k23 : Kd S23 := Kd.iso (Kd.pair (Kd.int .u16) (Kd.pair (Kd.int .u16) (Kd.pair (Kd.int .u16) (Kd.pair (Kd.int .u16) (Kd.pair (Kd.int .u16) (Kd.pair (Kd.int .u16) (Kd.pair (Kd.int .u16) (Kd.pair (Kd.int .u16) (Kd.pair (Kd.int .u16) (Kd.int .u16)))))))))) (fun x : S23 => (x.f0, x.f1, x.f2, x.f3, x.f4, x.f5, x.f6, x.f7, x.f8, x.f9))
theorem k23_open {w : World} {x : S23} {cs : List Value} (h : k23.K w x cs) : cs = [.int .u16 x.f0, .int .u16 x.f1, .int .u16 x.f2, .int .u16 x.f3, .int .u16 x.f4, .int .u16 x.f5, .int .u16 x.f6, .int .u16 x.f7, .int .u16 x.f8, .int .u16 x.f9] := by
  obtain ⟨_, _, rfl, rfl, ⟨_, _, rfl, rfl, ⟨_, _, rfl, rfl, ⟨_, _, rfl, rfl, ⟨_, _, rfl, rfl, ⟨_, _, rfl, rfl, ⟨_, _, rfl, rfl, ⟨_, _, rfl, rfl, ⟨_, _, rfl, rfl, rfl⟩⟩⟩⟩⟩⟩⟩⟩⟩ := h
  exact rfl
theorem k23_openM {w : World} {base : Nat} {ok : Nat → Prop} {x : S23} {cs : List Value} (h : k23.M w base ok x cs) : cs = [.int .u16 x.f0, .int .u16 x.f1, .int .u16 x.f2, .int .u16 x.f3, .int .u16 x.f4, .int .u16 x.f5, .int .u16 x.f6, .int .u16 x.f7, .int .u16 x.f8, .int .u16 x.f9] := by
  obtain ⟨_, _, rfl, rfl, ⟨_, _, rfl, rfl, ⟨_, _, rfl, rfl, ⟨_, _, rfl, rfl, ⟨_, _, rfl, rfl, ⟨_, _, rfl, rfl, ⟨_, _, rfl, rfl, ⟨_, _, rfl, rfl, ⟨_, _, rfl, rfl, rfl⟩⟩⟩⟩⟩⟩⟩⟩⟩ := h
  exact rfl
theorem k23_mk (w : World) (x : S23)  : k23.K w x [.int .u16 x.f0, .int .u16 x.f1, .int .u16 x.f2, .int .u16 x.f3, .int .u16 x.f4, .int .u16 x.f5, .int .u16 x.f6, .int .u16 x.f7, .int .u16 x.f8, .int .u16 x.f9] := ⟨[.int .u16 x.f0], [.int .u16 x.f1, .int .u16 x.f2, .int .u16 x.f3, .int .u16 x.f4, .int .u16 x.f5, .int .u16 x.f6, .int .u16 x.f7, .int .u16 x.f8, .int .u16 x.f9], rfl, rfl, ⟨[.int .u16 x.f1], [.int .u16 x.f2, .int .u16 x.f3, .int .u16 x.f4, .int .u16 x.f5, .int .u16 x.f6, .int .u16 x.f7, .int .u16 x.f8, .int .u16 x.f9], rfl, rfl, ⟨[.int .u16 x.f2], [.int .u16 x.f3, .int .u16 x.f4, .int .u16 x.f5, .int .u16 x.f6, .int .u16 x.f7, .int .u16 x.f8, .int .u16 x.f9], rfl, rfl, ⟨[.int .u16 x.f3], [.int .u16 x.f4, .int .u16 x.f5, .int .u16 x.f6, .int .u16 x.f7, .int .u16 x.f8, .int .u16 x.f9], rfl, rfl, ⟨[.int .u16 x.f4], [.int .u16 x.f5, .int .u16 x.f6, .int .u16 x.f7, .int .u16 x.f8, .int .u16 x.f9], rfl, rfl, ⟨[.int .u16 x.f5], [.int .u16 x.f6, .int .u16 x.f7, .int .u16 x.f8, .int .u16 x.f9], rfl, rfl, ⟨[.int .u16 x.f6], [.int .u16 x.f7, .int .u16 x.f8, .int .u16 x.f9], rfl, rfl, ⟨[.int .u16 x.f7], [.int .u16 x.f8, .int .u16 x.f9], rfl, rfl, ⟨[.int .u16 x.f8], [.int .u16 x.f9], rfl, rfl, rfl⟩⟩⟩⟩⟩⟩⟩⟩⟩
theorem k23_mkM (w : World) (base : Nat) (ok : Nat → Prop) (x : S23)  : k23.M w base ok x [.int .u16 x.f0, .int .u16 x.f1, .int .u16 x.f2, .int .u16 x.f3, .int .u16 x.f4, .int .u16 x.f5, .int .u16 x.f6, .int .u16 x.f7, .int .u16 x.f8, .int .u16 x.f9] := ⟨[.int .u16 x.f0], [.int .u16 x.f1, .int .u16 x.f2, .int .u16 x.f3, .int .u16 x.f4, .int .u16 x.f5, .int .u16 x.f6, .int .u16 x.f7, .int .u16 x.f8, .int .u16 x.f9], rfl, rfl, ⟨[.int .u16 x.f1], [.int .u16 x.f2, .int .u16 x.f3, .int .u16 x.f4, .int .u16 x.f5, .int .u16 x.f6, .int .u16 x.f7, .int .u16 x.f8, .int .u16 x.f9], rfl, rfl, ⟨[.int .u16 x.f2], [.int .u16 x.f3, .int .u16 x.f4, .int .u16 x.f5, .int .u16 x.f6, .int .u16 x.f7, .int .u16 x.f8, .int .u16 x.f9], rfl, rfl, ⟨[.int .u16 x.f3], [.int .u16 x.f4, .int .u16 x.f5, .int .u16 x.f6, .int .u16 x.f7, .int .u16 x.f8, .int .u16 x.f9], rfl, rfl, ⟨[.int .u16 x.f4], [.int .u16 x.f5, .int .u16 x.f6, .int .u16 x.f7, .int .u16 x.f8, .int .u16 x.f9], rfl, rfl, ⟨[.int .u16 x.f5], [.int .u16 x.f6, .int .u16 x.f7, .int .u16 x.f8, .int .u16 x.f9], rfl, rfl, ⟨[.int .u16 x.f6], [.int .u16 x.f7, .int .u16 x.f8, .int .u16 x.f9], rfl, rfl, ⟨[.int .u16 x.f7], [.int .u16 x.f8, .int .u16 x.f9], rfl, rfl, ⟨[.int .u16 x.f8], [.int .u16 x.f9], rfl, rfl, rfl⟩⟩⟩⟩⟩⟩⟩⟩⟩
def rd_T23 (xs : List S23) (i : Int) : S23 := xs.getD i.toNat z23
theorem at_T23 {w : World} {A : Option Addr} {n : Nat} {xs : List S23} (h : Kd.C k23 w A n xs) (i : Int) (h0 : 0 ≤ i) (h1 : i < n) : ∃ ad , A = some ad ∧ w.cell? (ad.add (i.toNat * 10)) = some (.int .u16 (rd_T23 xs i).f0) ∧ w.cell? ⟨(ad.add (i.toNat * 10)).block, (ad.add (i.toNat * 10)).off + 1, none⟩ = some (.int .u16 (rd_T23 xs i).f1) ∧ w.cell? ⟨(ad.add (i.toNat * 10)).block, (ad.add (i.toNat * 10)).off + 2, none⟩ = some (.int .u16 (rd_T23 xs i).f2) ∧ w.cell? ⟨(ad.add (i.toNat * 10)).block, (ad.add (i.toNat * 10)).off + 3, none⟩ = some (.int .u16 (rd_T23 xs i).f3) ∧ w.cell? ⟨(ad.add (i.toNat * 10)).block, (ad.add (i.toNat * 10)).off + 4, none⟩ = some (.int .u16 (rd_T23 xs i).f4) ∧ w.cell? ⟨(ad.add (i.toNat * 10)).block, (ad.add (i.toNat * 10)).off + 5, none⟩ = some (.int .u16 (rd_T23 xs i).f5) ∧ w.cell? ⟨(ad.add (i.toNat * 10)).block, (ad.add (i.toNat * 10)).off + 6, none⟩ = some (.int .u16 (rd_T23 xs i).f6) ∧ w.cell? ⟨(ad.add (i.toNat * 10)).block, (ad.add (i.toNat * 10)).off + 7, none⟩ = some (.int .u16 (rd_T23 xs i).f7) ∧ w.cell? ⟨(ad.add (i.toNat * 10)).block, (ad.add (i.toNat * 10)).off + 8, none⟩ = some (.int .u16 (rd_T23 xs i).f8) ∧ w.cell? ⟨(ad.add (i.toNat * 10)).block, (ad.add (i.toNat * 10)).off + 9, none⟩ = some (.int .u16 (rd_T23 xs i).f9) := by
  obtain ⟨ad, c, e, _, hK, hc0⟩ := Kd.C_get h z23 i h0 h1
  have hc : ∀ j u, c[j]? = some u → w.cell? (ad.add (i.toNat * 10 + j)) = some u := hc0
  obtain rfl := k23_open hK
  exact ⟨ad, e, hc 0 _ rfl, by rw [← add_field _ _ 1 (by omega)]; exact hc 1 _ rfl, by rw [← add_field _ _ 2 (by omega)]; exact hc 2 _ rfl, by rw [← add_field _ _ 3 (by omega)]; exact hc 3 _ rfl, by rw [← add_field _ _ 4 (by omega)]; exact hc 4 _ rfl, by rw [← add_field _ _ 5 (by omega)]; exact hc 5 _ rfl, by rw [← add_field _ _ 6 (by omega)]; exact hc 6 _ rfl, by rw [← add_field _ _ 7 (by omega)]; exact hc 7 _ rfl, by rw [← add_field _ _ 8 (by omega)]; exact hc 8 _ rfl, by rw [← add_field _ _ 9 (by omega)]; exact hc 9 _ rfl⟩

/-! #### struct type 33 -/
structure S33 where
  f0 : Int
  f1 : Int
def z33 : S33 := ⟨(0 : Int), (0 : Int)⟩
def k33 : Kd S33 := Kd.iso (Kd.pair (Kd.int .i8) (Kd.int .i8)) (fun x : S33 => (x.f0, x.f1))
theorem k33_open {w : World} {x : S33} {cs : List Value} (h : k33.K w x cs) : cs = [.int .i8 x.f0, .int .i8 x.f1] := by
  obtain ⟨_, _, rfl, rfl, rfl⟩ := h
  exact rfl
theorem k33_openM {w : World} {base : Nat} {ok : Nat → Prop} {x : S33} {cs : List Value} (h : k33.M w base ok x cs) : cs = [.int .i8 x.f0, .int .i8 x.f1] := by
  obtain ⟨_, _, rfl, rfl, rfl⟩ := h
  exact rfl
theorem k33_mk (w : World) (x : S33)  : k33.K w x [.int .i8 x.f0, .int .i8 x.f1] := ⟨[.int .i8 x.f0], [.int .i8 x.f1], rfl, rfl, rfl⟩
theorem k33_mkM (w : World) (base : Nat) (ok : Nat → Prop) (x : S33)  : k33.M w base ok x [.int .i8 x.f0, .int .i8 x.f1] := ⟨[.int .i8 x.f0], [.int .i8 x.f1], rfl, rfl, rfl⟩
def rd_T33 (xs : List S33) (i : Int) : S33 := xs.getD i.toNat z33
theorem at_T33 {w : World} {A : Option Addr} {n : Nat} {xs : List S33} (h : Kd.C k33 w A n xs) (i : Int) (h0 : 0 ≤ i) (h1 : i < n) : ∃ ad , A = some ad ∧ w.cell? (ad.add (i.toNat * 2)) = some (.int .i8 (rd_T33 xs i).f0) ∧ w.cell? ⟨(ad.add (i.toNat * 2)).block, (ad.add (i.toNat * 2)).off + 1, none⟩ = some (.int .i8 (rd_T33 xs i).f1) := by
  obtain ⟨ad, c, e, _, hK, hc0⟩ := Kd.C_get h z33 i h0 h1
  have hc : ∀ j u, c[j]? = some u → w.cell? (ad.add (i.toNat * 2 + j)) = some u := hc0
  obtain rfl := k33_open hK
  exact ⟨ad, e, hc 0 _ rfl, by rw [← add_field _ _ 1 (by omega)]; exact hc 1 _ rfl⟩

/-! #### struct type 26 -/
structure S26 where
  f0 : S23
  f1 : S23
  f2 : S23
  f3 : S23
def z26 : S26 := ⟨z23, z23, z23, z23⟩
def k26 : Kd S26 := Kd.iso (Kd.pair k23 (Kd.pair k23 (Kd.pair k23 k23))) (fun x : S26 => (x.f0, x.f1, x.f2, x.f3))
theorem k26_open {w : World} {x : S26} {cs : List Value} (h : k26.K w x cs) : cs = [.int .u16 x.f0.f0, .int .u16 x.f0.f1, .int .u16 x.f0.f2, .int .u16 x.f0.f3, .int .u16 x.f0.f4, .int .u16 x.f0.f5, .int .u16 x.f0.f6, .int .u16 x.f0.f7, .int .u16 x.f0.f8, .int .u16 x.f0.f9, .int .u16 x.f1.f0, .int .u16 x.f1.f1, .int .u16 x.f1.f2, .int .u16 x.f1.f3, .int .u16 x.f1.f4, .int .u16 x.f1.f5, .int .u16 x.f1.f6, .int .u16 x.f1.f7, .int .u16 x.f1.f8, .int .u16 x.f1.f9, .int .u16 x.f2.f0, .int .u16 x.f2.f1, .int .u16 x.f2.f2, .int .u16 x.f2.f3, .int .u16 x.f2.f4, .int .u16 x.f2.f5, .int .u16 x.f2.f6, .int .u16 x.f2.f7, .int .u16 x.f2.f8, .int .u16 x.f2.f9, .int .u16 x.f3.f0, .int .u16 x.f3.f1, .int .u16 x.f3.f2, .int .u16 x.f3.f3, .int .u16 x.f3.f4, .int .u16 x.f3.f5, .int .u16 x.f3.f6, .int .u16 x.f3.f7, .int .u16 x.f3.f8, .int .u16 x.f3.f9] := by
  obtain ⟨_, _, rfl, s0, ⟨_, _, rfl, s10, ⟨_, _, rfl, s20, s30⟩⟩⟩ := h
  obtain rfl := k23_open s0
  obtain rfl := k23_open s10
  obtain rfl := k23_open s20
  obtain rfl := k23_open s30
  exact rfl
theorem k26_openM {w : World} {base : Nat} {ok : Nat → Prop} {x : S26} {cs : List Value} (h : k26.M w base ok x cs) : cs = [.int .u16 x.f0.f0, .int .u16 x.f0.f1, .int .u16 x.f0.f2, .int .u16 x.f0.f3, .int .u16 x.f0.f4, .int .u16 x.f0.f5, .int .u16 x.f0.f6, .int .u16 x.f0.f7, .int .u16 x.f0.f8, .int .u16 x.f0.f9, .int .u16 x.f1.f0, .int .u16 x.f1.f1, .int .u16 x.f1.f2, .int .u16 x.f1.f3, .int .u16 x.f1.f4, .int .u16 x.f1.f5, .int .u16 x.f1.f6, .int .u16 x.f1.f7, .int .u16 x.f1.f8, .int .u16 x.f1.f9, .int .u16 x.f2.f0, .int .u16 x.f2.f1, .int .u16 x.f2.f2, .int .u16 x.f2.f3, .int .u16 x.f2.f4, .int .u16 x.f2.f5, .int .u16 x.f2.f6, .int .u16 x.f2.f7, .int .u16 x.f2.f8, .int .u16 x.f2.f9, .int .u16 x.f3.f0, .int .u16 x.f3.f1, .int .u16 x.f3.f2, .int .u16 x.f3.f3, .int .u16 x.f3.f4, .int .u16 x.f3.f5, .int .u16 x.f3.f6, .int .u16 x.f3.f7, .int .u16 x.f3.f8, .int .u16 x.f3.f9] := by
  obtain ⟨_, _, rfl, s0, ⟨_, _, rfl, s10, ⟨_, _, rfl, s20, s30⟩⟩⟩ := h
  obtain rfl := k23_openM s0
  obtain rfl := k23_openM s10
  obtain rfl := k23_openM s20
  obtain rfl := k23_openM s30
  exact rfl
theorem k26_mk (w : World) (x : S26)  : k26.K w x [.int .u16 x.f0.f0, .int .u16 x.f0.f1, .int .u16 x.f0.f2, .int .u16 x.f0.f3, .int .u16 x.f0.f4, .int .u16 x.f0.f5, .int .u16 x.f0.f6, .int .u16 x.f0.f7, .int .u16 x.f0.f8, .int .u16 x.f0.f9, .int .u16 x.f1.f0, .int .u16 x.f1.f1, .int .u16 x.f1.f2, .int .u16 x.f1.f3, .int .u16 x.f1.f4, .int .u16 x.f1.f5, .int .u16 x.f1.f6, .int .u16 x.f1.f7, .int .u16 x.f1.f8, .int .u16 x.f1.f9, .int .u16 x.f2.f0, .int .u16 x.f2.f1, .int .u16 x.f2.f2, .int .u16 x.f2.f3, .int .u16 x.f2.f4, .int .u16 x.f2.f5, .int .u16 x.f2.f6, .int .u16 x.f2.f7, .int .u16 x.f2.f8, .int .u16 x.f2.f9, .int .u16 x.f3.f0, .int .u16 x.f3.f1, .int .u16 x.f3.f2, .int .u16 x.f3.f3, .int .u16 x.f3.f4, .int .u16 x.f3.f5, .int .u16 x.f3.f6, .int .u16 x.f3.f7, .int .u16 x.f3.f8, .int .u16 x.f3.f9] := ⟨[.int .u16 x.f0.f0, .int .u16 x.f0.f1, .int .u16 x.f0.f2, .int .u16 x.f0.f3, .int .u16 x.f0.f4, .int .u16 x.f0.f5, .int .u16 x.f0.f6, .int .u16 x.f0.f7, .int .u16 x.f0.f8, .int .u16 x.f0.f9], [.int .u16 x.f1.f0, .int .u16 x.f1.f1, .int .u16 x.f1.f2, .int .u16 x.f1.f3, .int .u16 x.f1.f4, .int .u16 x.f1.f5, .int .u16 x.f1.f6, .int .u16 x.f1.f7, .int .u16 x.f1.f8, .int .u16 x.f1.f9, .int .u16 x.f2.f0, .int .u16 x.f2.f1, .int .u16 x.f2.f2, .int .u16 x.f2.f3, .int .u16 x.f2.f4, .int .u16 x.f2.f5, .int .u16 x.f2.f6, .int .u16 x.f2.f7, .int .u16 x.f2.f8, .int .u16 x.f2.f9, .int .u16 x.f3.f0, .int .u16 x.f3.f1, .int .u16 x.f3.f2, .int .u16 x.f3.f3, .int .u16 x.f3.f4, .int .u16 x.f3.f5, .int .u16 x.f3.f6, .int .u16 x.f3.f7, .int .u16 x.f3.f8, .int .u16 x.f3.f9], rfl, (k23_mk w x.f0 ), ⟨[.int .u16 x.f1.f0, .int .u16 x.f1.f1, .int .u16 x.f1.f2, .int .u16 x.f1.f3, .int .u16 x.f1.f4, .int .u16 x.f1.f5, .int .u16 x.f1.f6, .int .u16 x.f1.f7, .int .u16 x.f1.f8, .int .u16 x.f1.f9], [.int .u16 x.f2.f0, .int .u16 x.f2.f1, .int .u16 x.f2.f2, .int .u16 x.f2.f3, .int .u16 x.f2.f4, .int .u16 x.f2.f5, .int .u16 x.f2.f6, .int .u16 x.f2.f7, .int .u16 x.f2.f8, .int .u16 x.f2.f9, .int .u16 x.f3.f0, .int .u16 x.f3.f1, .int .u16 x.f3.f2, .int .u16 x.f3.f3, .int .u16 x.f3.f4, .int .u16 x.f3.f5, .int .u16 x.f3.f6, .int .u16 x.f3.f7, .int .u16 x.f3.f8, .int .u16 x.f3.f9], rfl, (k23_mk w x.f1 ), ⟨[.int .u16 x.f2.f0, .int .u16 x.f2.f1, .int .u16 x.f2.f2, .int .u16 x.f2.f3, .int .u16 x.f2.f4, .int .u16 x.f2.f5, .int .u16 x.f2.f6, .int .u16 x.f2.f7, .int .u16 x.f2.f8, .int .u16 x.f2.f9], [.int .u16 x.f3.f0, .int .u16 x.f3.f1, .int .u16 x.f3.f2, .int .u16 x.f3.f3, .int .u16 x.f3.f4, .int .u16 x.f3.f5, .int .u16 x.f3.f6, .int .u16 x.f3.f7, .int .u16 x.f3.f8, .int .u16 x.f3.f9], rfl, (k23_mk w x.f2 ), (k23_mk w x.f3 )⟩⟩⟩
theorem k26_mkM (w : World) (base : Nat) (ok : Nat → Prop) (x : S26)  : k26.M w base ok x [.int .u16 x.f0.f0, .int .u16 x.f0.f1, .int .u16 x.f0.f2, .int .u16 x.f0.f3, .int .u16 x.f0.f4, .int .u16 x.f0.f5, .int .u16 x.f0.f6, .int .u16 x.f0.f7, .int .u16 x.f0.f8, .int .u16 x.f0.f9, .int .u16 x.f1.f0, .int .u16 x.f1.f1, .int .u16 x.f1.f2, .int .u16 x.f1.f3, .int .u16 x.f1.f4, .int .u16 x.f1.f5, .int .u16 x.f1.f6, .int .u16 x.f1.f7, .int .u16 x.f1.f8, .int .u16 x.f1.f9, .int .u16 x.f2.f0, .int .u16 x.f2.f1, .int .u16 x.f2.f2, .int .u16 x.f2.f3, .int .u16 x.f2.f4, .int .u16 x.f2.f5, .int .u16 x.f2.f6, .int .u16 x.f2.f7, .int .u16 x.f2.f8, .int .u16 x.f2.f9, .int .u16 x.f3.f0, .int .u16 x.f3.f1, .int .u16 x.f3.f2, .int .u16 x.f3.f3, .int .u16 x.f3.f4, .int .u16 x.f3.f5, .int .u16 x.f3.f6, .int .u16 x.f3.f7, .int .u16 x.f3.f8, .int .u16 x.f3.f9] := ⟨[.int .u16 x.f0.f0, .int .u16 x.f0.f1, .int .u16 x.f0.f2, .int .u16 x.f0.f3, .int .u16 x.f0.f4, .int .u16 x.f0.f5, .int .u16 x.f0.f6, .int .u16 x.f0.f7, .int .u16 x.f0.f8, .int .u16 x.f0.f9], [.int .u16 x.f1.f0, .int .u16 x.f1.f1, .int .u16 x.f1.f2, .int .u16 x.f1.f3, .int .u16 x.f1.f4, .int .u16 x.f1.f5, .int .u16 x.f1.f6, .int .u16 x.f1.f7, .int .u16 x.f1.f8, .int .u16 x.f1.f9, .int .u16 x.f2.f0, .int .u16 x.f2.f1, .int .u16 x.f2.f2, .int .u16 x.f2.f3, .int .u16 x.f2.f4, .int .u16 x.f2.f5, .int .u16 x.f2.f6, .int .u16 x.f2.f7, .int .u16 x.f2.f8, .int .u16 x.f2.f9, .int .u16 x.f3.f0, .int .u16 x.f3.f1, .int .u16 x.f3.f2, .int .u16 x.f3.f3, .int .u16 x.f3.f4, .int .u16 x.f3.f5, .int .u16 x.f3.f6, .int .u16 x.f3.f7, .int .u16 x.f3.f8, .int .u16 x.f3.f9], rfl, (k23_mkM w base ok x.f0 ), ⟨[.int .u16 x.f1.f0, .int .u16 x.f1.f1, .int .u16 x.f1.f2, .int .u16 x.f1.f3, .int .u16 x.f1.f4, .int .u16 x.f1.f5, .int .u16 x.f1.f6, .int .u16 x.f1.f7, .int .u16 x.f1.f8, .int .u16 x.f1.f9], [.int .u16 x.f2.f0, .int .u16 x.f2.f1, .int .u16 x.f2.f2, .int .u16 x.f2.f3, .int .u16 x.f2.f4, .int .u16 x.f2.f5, .int .u16 x.f2.f6, .int .u16 x.f2.f7, .int .u16 x.f2.f8, .int .u16 x.f2.f9, .int .u16 x.f3.f0, .int .u16 x.f3.f1, .int .u16 x.f3.f2, .int .u16 x.f3.f3, .int .u16 x.f3.f4, .int .u16 x.f3.f5, .int .u16 x.f3.f6, .int .u16 x.f3.f7, .int .u16 x.f3.f8, .int .u16 x.f3.f9], rfl, (k23_mkM w base ok x.f1 ), ⟨[.int .u16 x.f2.f0, .int .u16 x.f2.f1, .int .u16 x.f2.f2, .int .u16 x.f2.f3, .int .u16 x.f2.f4, .int .u16 x.f2.f5, .int .u16 x.f2.f6, .int .u16 x.f2.f7, .int .u16 x.f2.f8, .int .u16 x.f2.f9], [.int .u16 x.f3.f0, .int .u16 x.f3.f1, .int .u16 x.f3.f2, .int .u16 x.f3.f3, .int .u16 x.f3.f4, .int .u16 x.f3.f5, .int .u16 x.f3.f6, .int .u16 x.f3.f7, .int .u16 x.f3.f8, .int .u16 x.f3.f9], rfl, (k23_mkM w base ok x.f2 ), (k23_mkM w base ok x.f3 )⟩⟩⟩
def rd_T26 (xs : List S26) (i : Int) : S26 := xs.getD i.toNat z26
theorem at_T26 {w : World} {A : Option Addr} {n : Nat} {xs : List S26} (h : Kd.C k26 w A n xs) (i : Int) (h0 : 0 ≤ i) (h1 : i < n) : ∃ ad , A = some ad ∧ w.cell? (ad.add (i.toNat * 40)) = some (.int .u16 (rd_T26 xs i).f0.f0) ∧ w.cell? ⟨(ad.add (i.toNat * 40)).block, (ad.add (i.toNat * 40)).off + 1, none⟩ = some (.int .u16 (rd_T26 xs i).f0.f1) ∧ w.cell? ⟨(ad.add (i.toNat * 40)).block, (ad.add (i.toNat * 40)).off + 2, none⟩ = some (.int .u16 (rd_T26 xs i).f0.f2) ∧ w.cell? ⟨(ad.add (i.toNat * 40)).block, (ad.add (i.toNat * 40)).off + 3, none⟩ = some (.int .u16 (rd_T26 xs i).f0.f3) ∧ w.cell? ⟨(ad.add (i.toNat * 40)).block, (ad.add (i.toNat * 40)).off + 4, none⟩ = some (.int .u16 (rd_T26 xs i).f0.f4) ∧ w.cell? ⟨(ad.add (i.toNat * 40)).block, (ad.add (i.toNat * 40)).off + 5, none⟩ = some (.int .u16 (rd_T26 xs i).f0.f5) ∧ w.cell? ⟨(ad.add (i.toNat * 40)).block, (ad.add (i.toNat * 40)).off + 6, none⟩ = some (.int .u16 (rd_T26 xs i).f0.f6) ∧ w.cell? ⟨(ad.add (i.toNat * 40)).block, (ad.add (i.toNat * 40)).off + 7, none⟩ = some (.int .u16 (rd_T26 xs i).f0.f7) ∧ w.cell? ⟨(ad.add (i.toNat * 40)).block, (ad.add (i.toNat * 40)).off + 8, none⟩ = some (.int .u16 (rd_T26 xs i).f0.f8) ∧ w.cell? ⟨(ad.add (i.toNat * 40)).block, (ad.add (i.toNat * 40)).off + 9, none⟩ = some (.int .u16 (rd_T26 xs i).f0.f9) ∧ w.cell? ⟨(ad.add (i.toNat * 40)).block, (ad.add (i.toNat * 40)).off + 10, none⟩ = some (.int .u16 (rd_T26 xs i).f1.f0) ∧ w.cell? ⟨(ad.add (i.toNat * 40)).block, (ad.add (i.toNat * 40)).off + 11, none⟩ = some (.int .u16 (rd_T26 xs i).f1.f1) ∧ w.cell? ⟨(ad.add (i.toNat * 40)).block, (ad.add (i.toNat * 40)).off + 12, none⟩ = some (.int .u16 (rd_T26 xs i).f1.f2) ∧ w.cell? ⟨(ad.add (i.toNat * 40)).block, (ad.add (i.toNat * 40)).off + 13, none⟩ = some (.int .u16 (rd_T26 xs i).f1.f3) ∧ w.cell? ⟨(ad.add (i.toNat * 40)).block, (ad.add (i.toNat * 40)).off + 14, none⟩ = some (.int .u16 (rd_T26 xs i).f1.f4) ∧ w.cell? ⟨(ad.add (i.toNat * 40)).block, (ad.add (i.toNat * 40)).off + 15, none⟩ = some (.int .u16 (rd_T26 xs i).f1.f5) ∧ w.cell? ⟨(ad.add (i.toNat * 40)).block, (ad.add (i.toNat * 40)).off + 16, none⟩ = some (.int .u16 (rd_T26 xs i).f1.f6) ∧ w.cell? ⟨(ad.add (i.toNat * 40)).block, (ad.add (i.toNat * 40)).off + 17, none⟩ = some (.int .u16 (rd_T26 xs i).f1.f7) ∧ w.cell? ⟨(ad.add (i.toNat * 40)).block, (ad.add (i.toNat * 40)).off + 18, none⟩ = some (.int .u16 (rd_T26 xs i).f1.f8) ∧ w.cell? ⟨(ad.add (i.toNat * 40)).block, (ad.add (i.toNat * 40)).off + 19, none⟩ = some (.int .u16 (rd_T26 xs i).f1.f9) ∧ w.cell? ⟨(ad.add (i.toNat * 40)).block, (ad.add (i.toNat * 40)).off + 20, none⟩ = some (.int .u16 (rd_T26 xs i).f2.f0) ∧ w.cell? ⟨(ad.add (i.toNat * 40)).block, (ad.add (i.toNat * 40)).off + 21, none⟩ = some (.int .u16 (rd_T26 xs i).f2.f1) ∧ w.cell? ⟨(ad.add (i.toNat * 40)).block, (ad.add (i.toNat * 40)).off + 22, none⟩ = some (.int .u16 (rd_T26 xs i).f2.f2) ∧ w.cell? ⟨(ad.add (i.toNat * 40)).block, (ad.add (i.toNat * 40)).off + 23, none⟩ = some (.int .u16 (rd_T26 xs i).f2.f3) ∧ w.cell? ⟨(ad.add (i.toNat * 40)).block, (ad.add (i.toNat * 40)).off + 24, none⟩ = some (.int .u16 (rd_T26 xs i).f2.f4) ∧ w.cell? ⟨(ad.add (i.toNat * 40)).block, (ad.add (i.toNat * 40)).off + 25, none⟩ = some (.int .u16 (rd_T26 xs i).f2.f5) ∧ w.cell? ⟨(ad.add (i.toNat * 40)).block, (ad.add (i.toNat * 40)).off + 26, none⟩ = some (.int .u16 (rd_T26 xs i).f2.f6) ∧ w.cell? ⟨(ad.add (i.toNat * 40)).block, (ad.add (i.toNat * 40)).off + 27, none⟩ = some (.int .u16 (rd_T26 xs i).f2.f7) ∧ w.cell? ⟨(ad.add (i.toNat * 40)).block, (ad.add (i.toNat * 40)).off + 28, none⟩ = some (.int .u16 (rd_T26 xs i).f2.f8) ∧ w.cell? ⟨(ad.add (i.toNat * 40)).block, (ad.add (i.toNat * 40)).off + 29, none⟩ = some (.int .u16 (rd_T26 xs i).f2.f9) ∧ w.cell? ⟨(ad.add (i.toNat * 40)).block, (ad.add (i.toNat * 40)).off + 30, none⟩ = some (.int .u16 (rd_T26 xs i).f3.f0) ∧ w.cell? ⟨(ad.add (i.toNat * 40)).block, (ad.add (i.toNat * 40)).off + 31, none⟩ = some (.int .u16 (rd_T26 xs i).f3.f1) ∧ w.cell? ⟨(ad.add (i.toNat * 40)).block, (ad.add (i.toNat * 40)).off + 32, none⟩ = some (.int .u16 (rd_T26 xs i).f3.f2) ∧ w.cell? ⟨(ad.add (i.toNat * 40)).block, (ad.add (i.toNat * 40)).off + 33, none⟩ = some (.int .u16 (rd_T26 xs i).f3.f3) ∧ w.cell? ⟨(ad.add (i.toNat * 40)).block, (ad.add (i.toNat * 40)).off + 34, none⟩ = some (.int .u16 (rd_T26 xs i).f3.f4) ∧ w.cell? ⟨(ad.add (i.toNat * 40)).block, (ad.add (i.toNat * 40)).off + 35, none⟩ = some (.int .u16 (rd_T26 xs i).f3.f5) ∧ w.cell? ⟨(ad.add (i.toNat * 40)).block, (ad.add (i.toNat * 40)).off + 36, none⟩ = some (.int .u16 (rd_T26 xs i).f3.f6) ∧ w.cell? ⟨(ad.add (i.toNat * 40)).block, (ad.add (i.toNat * 40)).off + 37, none⟩ = some (.int .u16 (rd_T26 xs i).f3.f7) ∧ w.cell? ⟨(ad.add (i.toNat * 40)).block, (ad.add (i.toNat * 40)).off + 38, none⟩ = some (.int .u16 (rd_T26 xs i).f3.f8) ∧ w.cell? ⟨(ad.add (i.toNat * 40)).block, (ad.add (i.toNat * 40)).off + 39, none⟩ = some (.int .u16 (rd_T26 xs i).f3.f9) := by
  obtain ⟨ad, c, e, _, hK, hc0⟩ := Kd.C_get h z26 i h0 h1
  have hc : ∀ j u, c[j]? = some u → w.cell? (ad.add (i.toNat * 40 + j)) = some u := hc0
  obtain rfl := k26_open hK
  exact ⟨ad, e, hc 0 _ rfl, by rw [← add_field _ _ 1 (by omega)]; exact hc 1 _ rfl, by rw [← add_field _ _ 2 (by omega)]; exact hc 2 _ rfl, by rw [← add_field _ _ 3 (by omega)]; exact hc 3 _ rfl, by rw [← add_field _ _ 4 (by omega)]; exact hc 4 _ rfl, by rw [← add_field _ _ 5 (by omega)]; exact hc 5 _ rfl, by rw [← add_field _ _ 6 (by omega)]; exact hc 6 _ rfl, by rw [← add_field _ _ 7 (by omega)]; exact hc 7 _ rfl, by rw [← add_field _ _ 8 (by omega)]; exact hc 8 _ rfl, by rw [← add_field _ _ 9 (by omega)]; exact hc 9 _ rfl, by rw [← add_field _ _ 10 (by omega)]; exact hc 10 _ rfl, by rw [← add_field _ _ 11 (by omega)]; exact hc 11 _ rfl, by rw [← add_field _ _ 12 (by omega)]; exact hc 12 _ rfl, by rw [← add_field _ _ 13 (by omega)]; exact hc 13 _ rfl, by rw [← add_field _ _ 14 (by omega)]; exact hc 14 _ rfl, by rw [← add_field _ _ 15 (by omega)]; exact hc 15 _ rfl, by rw [← add_field _ _ 16 (by omega)]; exact hc 16 _ rfl, by rw [← add_field _ _ 17 (by omega)]; exact hc 17 _ rfl, by rw [← add_field _ _ 18 (by omega)]; exact hc 18 _ rfl, by rw [← add_field _ _ 19 (by omega)]; exact hc 19 _ rfl, by rw [← add_field _ _ 20 (by omega)]; exact hc 20 _ rfl, by rw [← add_field _ _ 21 (by omega)]; exact hc 21 _ rfl, by rw [← add_field _ _ 22 (by omega)]; exact hc 22 _ rfl, by rw [← add_field _ _ 23 (by omega)]; exact hc 23 _ rfl, by rw [← add_field _ _ 24 (by omega)]; exact hc 24 _ rfl, by rw [← add_field _ _ 25 (by omega)]; exact hc 25 _ rfl, by rw [← add_field _ _ 26 (by omega)]; exact hc 26 _ rfl, by rw [← add_field _ _ 27 (by omega)]; exact hc 27 _ rfl, by rw [← add_field _ _ 28 (by omega)]; exact hc 28 _ rfl, by rw [← add_field _ _ 29 (by omega)]; exact hc 29 _ rfl, by rw [← add_field _ _ 30 (by omega)]; exact hc 30 _ rfl, by rw [← add_field _ _ 31 (by omega)]; exact hc 31 _ rfl, by rw [← add_field _ _ 32 (by omega)]; exact hc 32 _ rfl, by rw [← add_field _ _ 33 (by omega)]; exact hc 33 _ rfl, by rw [← add_field _ _ 34 (by omega)]; exact hc 34 _ rfl, by rw [← add_field _ _ 35 (by omega)]; exact hc 35 _ rfl, by rw [← add_field _ _ 36 (by omega)]; exact hc 36 _ rfl, by rw [← add_field _ _ 37 (by omega)]; exact hc 37 _ rfl, by rw [← add_field _ _ 38 (by omega)]; exact hc 38 _ rfl, by rw [← add_field _ _ 39 (by omega)]; exact hc 39 _ rfl⟩

end Go.Proofs.Ytdedijjbdkoekaa.PA
