/-
  No cell of these rows narrows 'for every input' (looked for: loops, veiled, ifaces, maps, wideKeys, modest, calm, conditions, laid).
  DERIVED. THE GIVEN ROWS OF THIS SEAT. 8 by the template 'for every input the law returns true; each argument reads behind the call as it read before'; 0 by the template 'total and deterministic' (their statements: YtdedijjbdkoekaaTotals.lean).
  GIVEN WITH THE SEED: the statements are not yours to turn. If you find one false, say at which input.
  Laid BY PROGRAM, IN A SANDBOX (cutbox-rows.mjs): the forced cells as the released guide's own fill.sh prints them over the translation 302439f4516810a2… (all of the seat's roots in one cut). By AI agents, Wed Nov 11 2026. No macro, syntax, notation, axiom, sorry.
-/
import Derived.Test.YtdedijjbdkoekaaChecked
import GoSem.Claim
import GoSem.ClaimJoined
import GoSem.ClaimMapViews
import Derived.JoinedTies
import Derived.KernelRfl
namespace Go.Proofs.Ytdedijjbdkoekaa
/- THE CELL 'sum', in the pinned program and in every row, IS THE sha256 OF THE DUMP (.gsa) THAT YtdedijjbdkoekaaProg.lean LOADS. Nothing in Lean hashes anything: it is a label: what it is worth is what the hold of that sum in a sandbox is worth. -/
noncomputable def Try.pinned : Pinned := { name := "ytdedijjbdkoekaa", sum := "302439f4516810a27be182a84d6b3b2fb2a4520585e26cbbc1235a9608ecd1a2", checked := Try.checked }
namespace Rows
def none {H : Type} : Left H := { results := [], args := [] }

/-- 'laws.FnExactCountCrowd': WHATEVER THE INPUT: true; the input reads as it did. -/
def fnExactCountCrowdSpec : ChangeSpec := { name := "fnExactCountCrowd", fn := fun _ => fun
  | [d] => { results := [.lit (.bool true)], args := [d] }
  | _ => none }
def fnExactCountCrowdRow : OpenClaim := { program := "ytdedijjbdkoekaa", sum := "302439f4516810a27be182a84d6b3b2fb2a4520585e26cbbc1235a9608ecd1a2", func := "loop.example/g01361/laws.FnExactCountCrowd", spec := "fnExactCountCrowd", plainKeys := false, apart := false }
def FnExactCountCrowdSaid : Prop := fnExactCountCrowdRow.holds Try.pinned (OpenSpec.ofChange fnExactCountCrowdSpec)

/-- ITS FALSE NEIGHBOUR: 'it returns false'. Refute it at one input. -/
def fnExactCountCrowdWrong : ChangeSpec := { name := "fnExactCountCrowd", fn := fun _ => fun
  | [d] => { results := [.lit (.bool false)], args := [d] }
  | _ => none }
def FnExactCountCrowdWrongFalsely : Prop := fnExactCountCrowdRow.holds Try.pinned (OpenSpec.ofChange fnExactCountCrowdWrong)

/-- 'laws.FnExactSoundFrom': WHATEVER THE INPUT: true; the input reads as it did. -/
def fnExactSoundFromSpec : ChangeSpec := { name := "fnExactSoundFrom", fn := fun _ => fun
  | [d1, d2] => { results := [.lit (.bool true)], args := [d1, d2] }
  | _ => none }
def fnExactSoundFromRow : OpenClaim := { program := "ytdedijjbdkoekaa", sum := "302439f4516810a27be182a84d6b3b2fb2a4520585e26cbbc1235a9608ecd1a2", func := "loop.example/g01361/laws.FnExactSoundFrom", spec := "fnExactSoundFrom", plainKeys := false, apart := false }
def FnExactSoundFromSaid : Prop := fnExactSoundFromRow.holds Try.pinned (OpenSpec.ofChange fnExactSoundFromSpec)

/-- ITS FALSE NEIGHBOUR: 'it returns false'. Refute it at one input. -/
def fnExactSoundFromWrong : ChangeSpec := { name := "fnExactSoundFrom", fn := fun _ => fun
  | [d1, d2] => { results := [.lit (.bool false)], args := [d1, d2] }
  | _ => none }
def FnExactSoundFromWrongFalsely : Prop := fnExactSoundFromRow.holds Try.pinned (OpenSpec.ofChange fnExactSoundFromWrong)

/-- 'laws.FnExactValidCrowd': WHATEVER THE INPUT: true; the input reads as it did. -/
def fnExactValidCrowdSpec : ChangeSpec := { name := "fnExactValidCrowd", fn := fun _ => fun
  | [d1, d2] => { results := [.lit (.bool true)], args := [d1, d2] }
  | _ => none }
def fnExactValidCrowdRow : OpenClaim := { program := "ytdedijjbdkoekaa", sum := "302439f4516810a27be182a84d6b3b2fb2a4520585e26cbbc1235a9608ecd1a2", func := "loop.example/g01361/laws.FnExactValidCrowd", spec := "fnExactValidCrowd", plainKeys := false, apart := false }
def FnExactValidCrowdSaid : Prop := fnExactValidCrowdRow.holds Try.pinned (OpenSpec.ofChange fnExactValidCrowdSpec)

/-- ITS FALSE NEIGHBOUR: 'it returns false'. Refute it at one input. -/
def fnExactValidCrowdWrong : ChangeSpec := { name := "fnExactValidCrowd", fn := fun _ => fun
  | [d1, d2] => { results := [.lit (.bool false)], args := [d1, d2] }
  | _ => none }
def FnExactValidCrowdWrongFalsely : Prop := fnExactValidCrowdRow.holds Try.pinned (OpenSpec.ofChange fnExactValidCrowdWrong)

/-- 'laws.FnExactAnywhere': WHATEVER THE INPUT: true; the input reads as it did. -/
def fnExactAnywhereSpec : ChangeSpec := { name := "fnExactAnywhere", fn := fun _ => fun
  | [d] => { results := [.lit (.bool true)], args := [d] }
  | _ => none }
def fnExactAnywhereRow : OpenClaim := { program := "ytdedijjbdkoekaa", sum := "302439f4516810a27be182a84d6b3b2fb2a4520585e26cbbc1235a9608ecd1a2", func := "loop.example/g01361/laws.FnExactAnywhere", spec := "fnExactAnywhere", unfollowed := true, recurses := true, plainKeys := false, apart := false }
def FnExactAnywhereSaid : Prop := fnExactAnywhereRow.holds Try.pinned (OpenSpec.ofChange fnExactAnywhereSpec)

/-- ITS FALSE NEIGHBOUR: 'it returns false'. Refute it at one input. -/
def fnExactAnywhereWrong : ChangeSpec := { name := "fnExactAnywhere", fn := fun _ => fun
  | [d] => { results := [.lit (.bool false)], args := [d] }
  | _ => none }
def FnExactAnywhereWrongFalsely : Prop := fnExactAnywhereRow.holds Try.pinned (OpenSpec.ofChange fnExactAnywhereWrong)

/-- 'laws.FnExactCrowdAt': WHATEVER THE INPUT: true; the input reads as it did. -/
def fnExactCrowdAtSpec : ChangeSpec := { name := "fnExactCrowdAt", fn := fun _ => fun
  | [d1, d2, d3] => { results := [.lit (.bool true)], args := [d1, d2, d3] }
  | _ => none }
def fnExactCrowdAtRow : OpenClaim := { program := "ytdedijjbdkoekaa", sum := "302439f4516810a27be182a84d6b3b2fb2a4520585e26cbbc1235a9608ecd1a2", func := "loop.example/g01361/laws.FnExactCrowdAt", spec := "fnExactCrowdAt", unfollowed := true, recurses := true, plainKeys := false, apart := false }
def FnExactCrowdAtSaid : Prop := fnExactCrowdAtRow.holds Try.pinned (OpenSpec.ofChange fnExactCrowdAtSpec)

/-- ITS FALSE NEIGHBOUR: 'it returns false'. Refute it at one input. -/
def fnExactCrowdAtWrong : ChangeSpec := { name := "fnExactCrowdAt", fn := fun _ => fun
  | [d1, d2, d3] => { results := [.lit (.bool false)], args := [d1, d2, d3] }
  | _ => none }
def FnExactCrowdAtWrongFalsely : Prop := fnExactCrowdAtRow.holds Try.pinned (OpenSpec.ofChange fnExactCrowdAtWrong)

/-- 'laws.FnExactSpotsOf': WHATEVER THE INPUT: true; the input reads as it did. -/
def fnExactSpotsOfSpec : ChangeSpec := { name := "fnExactSpotsOf", fn := fun _ => fun
  | [d1, d2] => { results := [.lit (.bool true)], args := [d1, d2] }
  | _ => none }
def fnExactSpotsOfRow : OpenClaim := { program := "ytdedijjbdkoekaa", sum := "302439f4516810a27be182a84d6b3b2fb2a4520585e26cbbc1235a9608ecd1a2", func := "loop.example/g01361/laws.FnExactSpotsOf", spec := "fnExactSpotsOf", unfollowed := true, recurses := true, plainKeys := false, apart := false }
def FnExactSpotsOfSaid : Prop := fnExactSpotsOfRow.holds Try.pinned (OpenSpec.ofChange fnExactSpotsOfSpec)

/-- ITS FALSE NEIGHBOUR: 'it returns false'. Refute it at one input. -/
def fnExactSpotsOfWrong : ChangeSpec := { name := "fnExactSpotsOf", fn := fun _ => fun
  | [d1, d2] => { results := [.lit (.bool false)], args := [d1, d2] }
  | _ => none }
def FnExactSpotsOfWrongFalsely : Prop := fnExactSpotsOfRow.holds Try.pinned (OpenSpec.ofChange fnExactSpotsOfWrong)

/-- 'laws.FnExactCrowdText': WHATEVER THE INPUT: true; the input reads as it did. -/
def fnExactCrowdTextSpec : ChangeSpec := { name := "fnExactCrowdText", fn := fun _ => fun
  | [d1, d2] => { results := [.lit (.bool true)], args := [d1, d2] }
  | _ => none }
def fnExactCrowdTextRow : OpenClaim := { program := "ytdedijjbdkoekaa", sum := "302439f4516810a27be182a84d6b3b2fb2a4520585e26cbbc1235a9608ecd1a2", func := "loop.example/g01361/laws.FnExactCrowdText", spec := "fnExactCrowdText", inPlace := ["internal/abi.NoEscape", "internal/bytealg.MakeNoZero"], unfollowed := true, recurses := true, plainKeys := false, apart := false }
def FnExactCrowdTextSaid : Prop := fnExactCrowdTextRow.holds Try.pinned (OpenSpec.ofChange fnExactCrowdTextSpec)

/-- ITS FALSE NEIGHBOUR: 'it returns false'. Refute it at one input. -/
def fnExactCrowdTextWrong : ChangeSpec := { name := "fnExactCrowdText", fn := fun _ => fun
  | [d1, d2] => { results := [.lit (.bool false)], args := [d1, d2] }
  | _ => none }
def FnExactCrowdTextWrongFalsely : Prop := fnExactCrowdTextRow.holds Try.pinned (OpenSpec.ofChange fnExactCrowdTextWrong)

/-- 'laws.FnExactFindingMoves': WHATEVER THE INPUT: true; the input reads as it did. -/
def fnExactFindingMovesSpec : ChangeSpec := { name := "fnExactFindingMoves", fn := fun _ => fun
  | [d1, d2] => { results := [.lit (.bool true)], args := [d1, d2] }
  | _ => none }
def fnExactFindingMovesRow : OpenClaim := { program := "ytdedijjbdkoekaa", sum := "302439f4516810a27be182a84d6b3b2fb2a4520585e26cbbc1235a9608ecd1a2", func := "loop.example/g01361/laws.FnExactFindingMoves", spec := "fnExactFindingMoves", unfollowed := true, recurses := true, plainKeys := false, apart := false }
def FnExactFindingMovesSaid : Prop := fnExactFindingMovesRow.holds Try.pinned (OpenSpec.ofChange fnExactFindingMovesSpec)

/-- ITS FALSE NEIGHBOUR: 'it returns false'. Refute it at one input. -/
def fnExactFindingMovesWrong : ChangeSpec := { name := "fnExactFindingMoves", fn := fun _ => fun
  | [d1, d2] => { results := [.lit (.bool false)], args := [d1, d2] }
  | _ => none }
def FnExactFindingMovesWrongFalsely : Prop := fnExactFindingMovesRow.holds Try.pinned (OpenSpec.ofChange fnExactFindingMovesWrong)

/- THE SECOND FORM. 'bulk': how many values and letters a reading holds, each counted each time it is reached (what is shared counts as often as it is met; a slice's spare places count too). A statement '..UptoSaid' is the law's where the arguments, and the package variables that the reading takes, are together of bulk at most 1048576: NARROWER than '..Said'. Prove '..Said' where nothing that the law and all that it calls make is longer than what came in: it says more and counts as full. Else prove '..UptoSaid'. A law counts once. -/
mutual
def uptoBulk {H : Type} : DataW H → Nat
  | .lit (.string bytes) => bytes.length + 1
  | .lit _ => 1
  | .nil => 1
  | .ptr d => uptoBulk d + 1
  | .slice elems spare => uptoBulkAll elems + uptoBulkAll spare + 1
  | .agg parts => uptoBulkAll parts + 1
  | .iface _ d => uptoBulk d + 1
  | .map entries => uptoBulkEntries entries + 1
  | .held _ => 1
def uptoBulkAll {H : Type} : List (DataW H) → Nat
  | [] => 0
  | d :: r => uptoBulk d + uptoBulkAll r
def uptoBulkEntries {H : Type} : List (Lit × DataW H) → Nat
  | [] => 0
  | x :: r => uptoBulkEntry x + uptoBulkEntries r
def uptoBulkEntry {H : Type} : Lit × DataW H → Nat
  | (.string bytes, d) => bytes.length + uptoBulk d + 1
  | (_, d) => uptoBulk d + 1
 end
def uptoSmall : (H : Type) → List (DataW H) → Bool := fun _ ds => decide (uptoBulkAll ds ≤ 1048576)
def OpenSpec.upto (s : _root_.Go.ChangeSpec) : _root_.Go.OpenSpec := { _root_.Go.OpenSpec.ofChange s with cond := some uptoSmall }

/-- 'laws.FnExactCountCrowd', WHERE WHAT IT READS IS OF BULK AT MOST 1048576: true; the input reads as it did. -/
def fnExactCountCrowdUptoRow : OpenClaim := { program := "ytdedijjbdkoekaa", sum := "302439f4516810a27be182a84d6b3b2fb2a4520585e26cbbc1235a9608ecd1a2", func := "loop.example/g01361/laws.FnExactCountCrowd", spec := "fnExactCountCrowd", plainKeys := false, apart := false, narrowed := true }
def FnExactCountCrowdUptoSaid : Prop := fnExactCountCrowdUptoRow.holds Try.pinned (OpenSpec.upto fnExactCountCrowdSpec)

/-- 'laws.FnExactSoundFrom', WHERE WHAT IT READS IS OF BULK AT MOST 1048576: true; the input reads as it did. -/
def fnExactSoundFromUptoRow : OpenClaim := { program := "ytdedijjbdkoekaa", sum := "302439f4516810a27be182a84d6b3b2fb2a4520585e26cbbc1235a9608ecd1a2", func := "loop.example/g01361/laws.FnExactSoundFrom", spec := "fnExactSoundFrom", plainKeys := false, apart := false, narrowed := true }
def FnExactSoundFromUptoSaid : Prop := fnExactSoundFromUptoRow.holds Try.pinned (OpenSpec.upto fnExactSoundFromSpec)

/-- 'laws.FnExactValidCrowd', WHERE WHAT IT READS IS OF BULK AT MOST 1048576: true; the input reads as it did. -/
def fnExactValidCrowdUptoRow : OpenClaim := { program := "ytdedijjbdkoekaa", sum := "302439f4516810a27be182a84d6b3b2fb2a4520585e26cbbc1235a9608ecd1a2", func := "loop.example/g01361/laws.FnExactValidCrowd", spec := "fnExactValidCrowd", plainKeys := false, apart := false, narrowed := true }
def FnExactValidCrowdUptoSaid : Prop := fnExactValidCrowdUptoRow.holds Try.pinned (OpenSpec.upto fnExactValidCrowdSpec)

/-- 'laws.FnExactAnywhere', WHERE WHAT IT READS IS OF BULK AT MOST 1048576: true; the input reads as it did. -/
def fnExactAnywhereUptoRow : OpenClaim := { program := "ytdedijjbdkoekaa", sum := "302439f4516810a27be182a84d6b3b2fb2a4520585e26cbbc1235a9608ecd1a2", func := "loop.example/g01361/laws.FnExactAnywhere", spec := "fnExactAnywhere", unfollowed := true, recurses := true, plainKeys := false, apart := false, narrowed := true }
def FnExactAnywhereUptoSaid : Prop := fnExactAnywhereUptoRow.holds Try.pinned (OpenSpec.upto fnExactAnywhereSpec)

/-- 'laws.FnExactCrowdAt', WHERE WHAT IT READS IS OF BULK AT MOST 1048576: true; the input reads as it did. -/
def fnExactCrowdAtUptoRow : OpenClaim := { program := "ytdedijjbdkoekaa", sum := "302439f4516810a27be182a84d6b3b2fb2a4520585e26cbbc1235a9608ecd1a2", func := "loop.example/g01361/laws.FnExactCrowdAt", spec := "fnExactCrowdAt", unfollowed := true, recurses := true, plainKeys := false, apart := false, narrowed := true }
def FnExactCrowdAtUptoSaid : Prop := fnExactCrowdAtUptoRow.holds Try.pinned (OpenSpec.upto fnExactCrowdAtSpec)

/-- 'laws.FnExactSpotsOf', WHERE WHAT IT READS IS OF BULK AT MOST 1048576: true; the input reads as it did. -/
def fnExactSpotsOfUptoRow : OpenClaim := { program := "ytdedijjbdkoekaa", sum := "302439f4516810a27be182a84d6b3b2fb2a4520585e26cbbc1235a9608ecd1a2", func := "loop.example/g01361/laws.FnExactSpotsOf", spec := "fnExactSpotsOf", unfollowed := true, recurses := true, plainKeys := false, apart := false, narrowed := true }
def FnExactSpotsOfUptoSaid : Prop := fnExactSpotsOfUptoRow.holds Try.pinned (OpenSpec.upto fnExactSpotsOfSpec)

/-- 'laws.FnExactCrowdText', WHERE WHAT IT READS IS OF BULK AT MOST 1048576: true; the input reads as it did. -/
def fnExactCrowdTextUptoRow : OpenClaim := { program := "ytdedijjbdkoekaa", sum := "302439f4516810a27be182a84d6b3b2fb2a4520585e26cbbc1235a9608ecd1a2", func := "loop.example/g01361/laws.FnExactCrowdText", spec := "fnExactCrowdText", inPlace := ["internal/abi.NoEscape", "internal/bytealg.MakeNoZero"], unfollowed := true, recurses := true, plainKeys := false, apart := false, narrowed := true }
def FnExactCrowdTextUptoSaid : Prop := fnExactCrowdTextUptoRow.holds Try.pinned (OpenSpec.upto fnExactCrowdTextSpec)

/-- 'laws.FnExactFindingMoves', WHERE WHAT IT READS IS OF BULK AT MOST 1048576: true; the input reads as it did. -/
def fnExactFindingMovesUptoRow : OpenClaim := { program := "ytdedijjbdkoekaa", sum := "302439f4516810a27be182a84d6b3b2fb2a4520585e26cbbc1235a9608ecd1a2", func := "loop.example/g01361/laws.FnExactFindingMoves", spec := "fnExactFindingMoves", unfollowed := true, recurses := true, plainKeys := false, apart := false, narrowed := true }
def FnExactFindingMovesUptoSaid : Prop := fnExactFindingMovesUptoRow.holds Try.pinned (OpenSpec.upto fnExactFindingMovesSpec)

end Rows
end Go.Proofs.Ytdedijjbdkoekaa
