/- The statement FnExactSeenAlong of this program: what its proof uses, part 5 of 18. The call returns true for all arguments. No condition of its own. -/
import Derived.Shelf.SlSortCmp.NoneTotal
import Derived.Test.YtjogemppgdeomaaZFnExactSeenAlong3
section
namespace Go.Proofs
open Go.Shelf Go.RowKit Go.Lib Go.Sort
def Try.sortSpot_ren : Go.Shelf.Ren := ⟨fun | 6 => 102 | 15 => 124 | 14 => 123 | 28 => 138 | 29 => 139 | 20 => 130 | 21 => 131 | 22 => 132 | 23 => 133 | 24 => 134 | 25 => 135 | 26 => 136 | 27 => 137 | 46 => 140 | 47 => 141 | 48 => 142 | 49 => 143 | 50 => 144 | 57 => 145 | n => n, fun | 22 => 29 | 24 => 55 | 25 => 131 | 3 => 3 | 39 => 114 | 0 => 0 | 53 => 163 | 55 => 135 | 4 => 4 | 46 => 156 | 45 => 155 | 50 => 160 | 5 => 5 | 9 => 9 | 66 => 165 | 70 => 169 | 76 => 171 | 77 => 172 | n => n, fun | n => n⟩
theorem Try.sortSpot : Go.Proofs.SlLaysF0.n6 Try.prog Try.sortSpot_ren := {
  mixed := by kernel_rfl
  f6 := ⟨"slices.SortFunc[[]loop.example/g01361/impl.Spot,loop.example/g01361/impl.Spot]", by decide, Try.func102.trans (congrArg some (by kernel_rfl))⟩
  f14 := ⟨"slices.pdqsortCmpFunc[loop.example/g01361/impl.Spot]", by decide, Try.func123.trans (congrArg some (by kernel_rfl))⟩
  f15 := Try.func124.trans (congrArg some (by kernel_rfl))
  f20 := ⟨"slices.insertionSortCmpFunc[loop.example/g01361/impl.Spot]", by decide, Try.func130.trans (congrArg some (by kernel_rfl))⟩
  f21 := ⟨"slices.heapSortCmpFunc[loop.example/g01361/impl.Spot]", by decide, Try.func131.trans (congrArg some (by kernel_rfl))⟩
  f22 := ⟨"slices.breakPatternsCmpFunc[loop.example/g01361/impl.Spot]", by decide, Try.func132.trans (congrArg some (by kernel_rfl))⟩
  f23 := ⟨"slices.choosePivotCmpFunc[loop.example/g01361/impl.Spot]", by decide, Try.func133.trans (congrArg some (by kernel_rfl))⟩
  f24 := ⟨"slices.reverseRangeCmpFunc[loop.example/g01361/impl.Spot]", by decide, Try.func134.trans (congrArg some (by kernel_rfl))⟩
  f25 := ⟨"slices.partialInsertionSortCmpFunc[loop.example/g01361/impl.Spot]", by decide, Try.func135.trans (congrArg some (by kernel_rfl))⟩
  f26 := ⟨"slices.partitionEqualCmpFunc[loop.example/g01361/impl.Spot]", by decide, Try.func136.trans (congrArg some (by kernel_rfl))⟩
  f27 := ⟨"slices.partitionCmpFunc[loop.example/g01361/impl.Spot]", by decide, Try.func137.trans (congrArg some (by kernel_rfl))⟩
  f28 := Try.func138.trans (congrArg some (by kernel_rfl))
  f29 := Try.func139.trans (congrArg some (by kernel_rfl))
  f46 := ⟨"slices.siftDownCmpFunc[loop.example/g01361/impl.Spot]", by decide, Try.func140.trans (congrArg some (by kernel_rfl))⟩
  f47 := Try.func141.trans (congrArg some (by kernel_rfl))
  f48 := Try.func142.trans (congrArg some (by kernel_rfl))
  f49 := ⟨"slices.medianAdjacentCmpFunc[loop.example/g01361/impl.Spot]", by decide, Try.func143.trans (congrArg some (by kernel_rfl))⟩
  f50 := ⟨"slices.medianCmpFunc[loop.example/g01361/impl.Spot]", by decide, Try.func144.trans (congrArg some (by kernel_rfl))⟩
  f57 := ⟨"slices.order2CmpFunc[loop.example/g01361/impl.Spot]", by decide, Try.func145.trans (congrArg some (by kernel_rfl))⟩
  t0 := Try.underlying0
  a0 := Try.isAgg0
  z0 := Try.sizeOf0
  v0 := Try.zeroValue0
  t3 := Try.underlying3
  a3 := Try.isAgg3
  z3 := Try.sizeOf3
  v3 := Try.zeroValue3
  t4 := Try.underlying4
  a4 := Try.isAgg4
  z4 := Try.sizeOf4
  v4 := Try.zeroValue4
  t5 := Try.underlying5
  a5 := Try.isAgg5
  z5 := Try.sizeOf5
  v5 := Try.zeroValue5
  t9 := Try.underlying9
  a9 := Try.isAgg9
  z9 := Try.sizeOf9
  v9 := Try.zeroValue9
  t22 := Try.underlying29
  a22 := Try.isAgg29
  z22 := Try.sizeOf29
  v22 := Try.zeroValue29
  t25 := Try.underlying131
  a25 := Try.isAgg131
  z25 := Try.sizeOf131
  v25 := Try.zeroValue131
  t39 := Try.underlying114
  a39 := Try.isAgg114
  z39 := Try.sizeOf114
  v39 := Try.zeroValue114
  t45 := Try.underlying155
  a45 := Try.isAgg155
  z45 := Try.sizeOf155
  v45 := Try.zeroValue155
  t46 := Try.underlying156
  a46 := Try.isAgg156
  z46 := Try.sizeOf156
  v46 := Try.zeroValue156
  t50 := Try.underlying160
  a50 := Try.isAgg160
  z50 := Try.sizeOf160
  v50 := Try.zeroValue160
  t53 := Try.underlying163
  a53 := Try.isAgg163
  z53 := Try.sizeOf163
  v53 := Try.zeroValue163
  t55 := Try.underlying135
  a55 := Try.isAgg135
  z55 := Try.sizeOf135
  v55 := Try.zeroValue135
  t66 := Try.underlying165
  a66 := Try.isAgg165
  z66 := Try.sizeOf165
  v66 := Try.zeroValue165
  t70 := Try.underlying169
  a70 := Try.isAgg169
  z70 := Try.sizeOf169
  v70 := Try.zeroValue169
  t76 := Try.underlying171
  a76 := Try.isAgg171
  z76 := Try.sizeOf171
  v76 := Try.zeroValue171
  t77 := Try.underlying172
  a77 := Try.isAgg172
  z77 := Try.sizeOf172
  v77 := Try.zeroValue172 }
abbrev S8 := { p : Int × Int // (-128 ≤ p.1 ∧ p.1 < 128) ∧ (-128 ≤ p.2 ∧ p.2 < 128) }
instance : Inhabited S8 := ⟨⟨(0, 0), by decide⟩⟩
def encS8 (x : S8) : List Value := [.int .i8 x.1.1, .int .i8 x.1.2]
def cfS8 (x y : S8) : Int := if x.1.2 ≠ y.1.2 then x.1.2 - y.1.2 else x.1.1 - y.1.1
def ltS8 (x y : S8) : Prop := x.1.2 < y.1.2 ∨ (x.1.2 = y.1.2 ∧ x.1.1 < y.1.1)
theorem ltOf_S8 (x y : S8) : ltOf cfS8 x y = true ↔ ltS8 x y := by
  unfold ltOf cfS8 ltS8; rw [decide_eq_true_iff]
  split <;> omega
theorem swoS8 : SWO (ltOf cfS8) := by
  refine ⟨fun x => ?_, fun x y z h1 h2 => ?_, fun x y z h1 h2 => ?_⟩
  · rw [Bool.eq_false_iff, Ne, ltOf_S8]; unfold ltS8; omega
  · rw [ltOf_S8] at *; unfold ltS8 at *; omega
  · rw [Bool.eq_false_iff, Ne, ltOf_S8] at *; unfold ltS8 at *; omega
set_option maxHeartbeats 1000000 in
theorem compareSpots_S8 (x y : S8) (W : World) : Calls Try.prog 103 #[.agg #[.int .i8 x.1.1, .int .i8 x.1.2], .agg #[.int .i8 y.1.1, .int .i8 y.1.2]] W fun e w' => e = .returned (.int .i64 (cfS8 x y)) ∧ ∃ q os', w' = grow (W.drewN q) os' := by
  obtain ⟨⟨a, b⟩, ⟨h1, h2⟩, h3, h4⟩ := x; obtain ⟨⟨c, d⟩, ⟨h5, h6⟩, h7, h8⟩ := y
  obtain ⟨r, er, e1, e2⟩ : ∃ r, r = cfS8 ⟨(a, b), ⟨h1, h2⟩, h3, h4⟩ ⟨(c, d), ⟨h5, h6⟩, h7, h8⟩ ∧ (b ≠ d → r = b - d) ∧ (b = d → r = a - c) :=
    ⟨_, rfl, fun h => by simp [cfS8, h], fun h => by simp [cfS8, h]⟩
  rw [← er]; clear er; replace e1 : Hid (b ≠ d → r = b - d) := e1; replace e2 : Hid (b = d → r = a - c) := e2
  dsimp only at h1 h2 h3 h4 h5 h6 h7 h8 ⊢
  go_enter Try.func103, Try.ntmps103
  go_wp2
  all_goals go_ret
  · rename_i hne
    refine ⟨?_, 0, _, by rw [alloc_eq_grow, alloc_eq_grow, grow_grow]; rfl⟩; have e : r = b - d := e1 (by simpa using hne); rw [e]; rfl
  · rename_i hne
    refine ⟨?_, 0, _, by rw [alloc_eq_grow, alloc_eq_grow, grow_grow]; rfl⟩; have e : r = a - c := e2 (by simpa using hne); rw [e]; rfl
theorem sortSpots (blk off cap : Nat) (d : Array S8) (w : World) (hH : HoldsK encS8 2 w blk off d) (hblk : blk < w.heap.size) (hsz : d.size < 4611686018427387904) :
    Calls Try.prog 102 #[.slice (some ⟨blk, off, none⟩) d.size cap, .func (.func 103) #[] #[]] w fun e w' => e = .returned (.tuple #[]) ∧ ∃ n os, w' = sortWorldK encS8 2 w blk off n (d.toList.mergeSort fun x y => !(ltOf cfS8) y x).toArray os := by
  have eg : ∀ args w, (callFunc 103 args).run Try.prog w = .ok (.enter 103 args) w := enters_of Try.func103 (by kernel_rfl) rfl
  exact AnyQ.slices_SortFunc_total Try.sortSpot 2 Try.isAgg55 Try.sizeOf55 encS8 (fun _ => rfl) (fun x v hv => by simp [encS8] at hv; rcases hv with rfl | rfl <;> rfl) cfS8 swoS8 103 #[] blk off cap d w eg (fun _ _ _ _ x y => compareSpots_S8 x y _) hH hblk hsz
    (by
      intro x y hx hy; obtain ⟨⟨a, b⟩, h1⟩ := x; obtain ⟨⟨c, e⟩, h2⟩ := y; rw [Bool.eq_false_iff, Ne, ltOf_S8] at hx hy; simp only [ltS8] at hx hy
      have : a = c ∧ b = e := by omega
      obtain ⟨rfl, rfl⟩ := this
      rfl)
end Go.Proofs
end
