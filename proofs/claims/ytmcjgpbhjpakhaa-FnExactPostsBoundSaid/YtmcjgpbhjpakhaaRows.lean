/-
  No cell of these rows narrows 'for every input' (looked for: loops, veiled, ifaces, maps, wideKeys, modest, calm, conditions, laid).
  DERIVED. THE GIVEN ROWS OF THIS SEAT. 6 by the template 'for every input the law returns true; each argument reads behind the call as it read before'; 0 by the template 'total and deterministic' (their statements: YtmcjgpbhjpakhaaTotals.lean).
  GIVEN WITH THE SEED: the statements are not yours to turn. If you find one false, say at which input.
  Laid BY PROGRAM, IN A SANDBOX (cutbox-rows.mjs): the forced cells as the released guide's own fill.sh prints them over the translation 62c4929c66c4dc73… (all of the seat's roots in one cut). By AI agents, Wed Nov 11 2026. No macro, syntax, notation, axiom, sorry.
-/
import Derived.Test.YtmcjgpbhjpakhaaChecked
import GoSem.Claim
import GoSem.ClaimJoined
import GoSem.ClaimMapViews
import Derived.JoinedTies
import Derived.KernelRfl
namespace Go.Proofs.Ytmcjgpbhjpakhaa
/- THE CELL 'sum', in the pinned program and in every row, IS THE sha256 OF THE DUMP (.gsa) THAT YtmcjgpbhjpakhaaProg.lean LOADS. Nothing in Lean hashes anything: it is a label: what it is worth is what the hold of that sum in a sandbox is worth. -/
noncomputable def Try.pinned : Pinned := { name := "ytmcjgpbhjpakhaa", sum := "62c4929c66c4dc7363e3be842a115d5fb8afe178c0920b97d2fdacfd5565bf45", checked := Try.checked }
namespace Rows
def none {H : Type} : Left H := { results := [], args := [] }

/-- 'laws.FnExactPostsBound': WHATEVER THE INPUT: true; the input reads as it did. -/
def fnExactPostsBoundSpec : ChangeSpec := { name := "fnExactPostsBound", fn := fun _ => fun
  | [d1, d2, d3] => { results := [.lit (.bool true)], args := [d1, d2, d3] }
  | _ => none }
def fnExactPostsBoundRow : OpenClaim := { program := "ytmcjgpbhjpakhaa", sum := "62c4929c66c4dc7363e3be842a115d5fb8afe178c0920b97d2fdacfd5565bf45", func := "loop.example/g01361/laws.FnExactPostsBound", spec := "fnExactPostsBound", unfollowed := true, recurses := true, plainKeys := false, apart := false }
def FnExactPostsBoundSaid : Prop := fnExactPostsBoundRow.holds Try.pinned (OpenSpec.ofChange fnExactPostsBoundSpec)

/-- ITS FALSE NEIGHBOUR: 'it returns false'. Refute it at one input. -/
def fnExactPostsBoundWrong : ChangeSpec := { name := "fnExactPostsBound", fn := fun _ => fun
  | [d1, d2, d3] => { results := [.lit (.bool false)], args := [d1, d2, d3] }
  | _ => none }
def FnExactPostsBoundWrongFalsely : Prop := fnExactPostsBoundRow.holds Try.pinned (OpenSpec.ofChange fnExactPostsBoundWrong)

/-- 'laws.FnExactFarCells': WHATEVER THE INPUT: true; the input reads as it did. -/
def fnExactFarCellsSpec : ChangeSpec := { name := "fnExactFarCells", fn := fun _ => fun
  | [d1, d2, d3] => { results := [.lit (.bool true)], args := [d1, d2, d3] }
  | _ => none }
def fnExactFarCellsRow : OpenClaim := { program := "ytmcjgpbhjpakhaa", sum := "62c4929c66c4dc7363e3be842a115d5fb8afe178c0920b97d2fdacfd5565bf45", func := "loop.example/g01361/laws.FnExactFarCells", spec := "fnExactFarCells", unfollowed := true, recurses := true, plainKeys := false, apart := false }
def FnExactFarCellsSaid : Prop := fnExactFarCellsRow.holds Try.pinned (OpenSpec.ofChange fnExactFarCellsSpec)

/-- ITS FALSE NEIGHBOUR: 'it returns false'. Refute it at one input. -/
def fnExactFarCellsWrong : ChangeSpec := { name := "fnExactFarCells", fn := fun _ => fun
  | [d1, d2, d3] => { results := [.lit (.bool false)], args := [d1, d2, d3] }
  | _ => none }
def FnExactFarCellsWrongFalsely : Prop := fnExactFarCellsRow.holds Try.pinned (OpenSpec.ofChange fnExactFarCellsWrong)

/-- 'laws.FnExactNearExits': WHATEVER THE INPUT: true; the input reads as it did. -/
def fnExactNearExitsSpec : ChangeSpec := { name := "fnExactNearExits", fn := fun _ => fun
  | [d1, d2, d3] => { results := [.lit (.bool true)], args := [d1, d2, d3] }
  | _ => none }
def fnExactNearExitsRow : OpenClaim := { program := "ytmcjgpbhjpakhaa", sum := "62c4929c66c4dc7363e3be842a115d5fb8afe178c0920b97d2fdacfd5565bf45", func := "loop.example/g01361/laws.FnExactNearExits", spec := "fnExactNearExits", unfollowed := true, recurses := true, plainKeys := false, apart := false }
def FnExactNearExitsSaid : Prop := fnExactNearExitsRow.holds Try.pinned (OpenSpec.ofChange fnExactNearExitsSpec)

/-- ITS FALSE NEIGHBOUR: 'it returns false'. Refute it at one input. -/
def fnExactNearExitsWrong : ChangeSpec := { name := "fnExactNearExits", fn := fun _ => fun
  | [d1, d2, d3] => { results := [.lit (.bool false)], args := [d1, d2, d3] }
  | _ => none }
def FnExactNearExitsWrongFalsely : Prop := fnExactNearExitsRow.holds Try.pinned (OpenSpec.ofChange fnExactNearExitsWrong)

/-- 'laws.FnExactGreedyPosts': WHATEVER THE INPUT: true; the input reads as it did. -/
def fnExactGreedyPostsSpec : ChangeSpec := { name := "fnExactGreedyPosts", fn := fun _ => fun
  | [d1, d2, d3] => { results := [.lit (.bool true)], args := [d1, d2, d3] }
  | _ => none }
def fnExactGreedyPostsRow : OpenClaim := { program := "ytmcjgpbhjpakhaa", sum := "62c4929c66c4dc7363e3be842a115d5fb8afe178c0920b97d2fdacfd5565bf45", func := "loop.example/g01361/laws.FnExactGreedyPosts", spec := "fnExactGreedyPosts", unfollowed := true, recurses := true, plainKeys := false, apart := false }
def FnExactGreedyPostsSaid : Prop := fnExactGreedyPostsRow.holds Try.pinned (OpenSpec.ofChange fnExactGreedyPostsSpec)

/-- ITS FALSE NEIGHBOUR: 'it returns false'. Refute it at one input. -/
def fnExactGreedyPostsWrong : ChangeSpec := { name := "fnExactGreedyPosts", fn := fun _ => fun
  | [d1, d2, d3] => { results := [.lit (.bool false)], args := [d1, d2, d3] }
  | _ => none }
def FnExactGreedyPostsWrongFalsely : Prop := fnExactGreedyPostsRow.holds Try.pinned (OpenSpec.ofChange fnExactGreedyPostsWrong)

/-- 'laws.FnExactRopeToPosts': WHATEVER THE INPUT: true; the input reads as it did. -/
def fnExactRopeToPostsSpec : ChangeSpec := { name := "fnExactRopeToPosts", fn := fun _ => fun
  | [d1, d2, d3] => { results := [.lit (.bool true)], args := [d1, d2, d3] }
  | _ => none }
def fnExactRopeToPostsRow : OpenClaim := { program := "ytmcjgpbhjpakhaa", sum := "62c4929c66c4dc7363e3be842a115d5fb8afe178c0920b97d2fdacfd5565bf45", func := "loop.example/g01361/laws.FnExactRopeToPosts", spec := "fnExactRopeToPosts", unfollowed := true, recurses := true, plainKeys := false, apart := false }
def FnExactRopeToPostsSaid : Prop := fnExactRopeToPostsRow.holds Try.pinned (OpenSpec.ofChange fnExactRopeToPostsSpec)

/-- ITS FALSE NEIGHBOUR: 'it returns false'. Refute it at one input. -/
def fnExactRopeToPostsWrong : ChangeSpec := { name := "fnExactRopeToPosts", fn := fun _ => fun
  | [d1, d2, d3] => { results := [.lit (.bool false)], args := [d1, d2, d3] }
  | _ => none }
def FnExactRopeToPostsWrongFalsely : Prop := fnExactRopeToPostsRow.holds Try.pinned (OpenSpec.ofChange fnExactRopeToPostsWrong)

/-- 'laws.FnExactFewestPosts': WHATEVER THE INPUT: true; the input reads as it did. -/
def fnExactFewestPostsSpec : ChangeSpec := { name := "fnExactFewestPosts", fn := fun _ => fun
  | [d1, d2, d3, d4] => { results := [.lit (.bool true)], args := [d1, d2, d3, d4] }
  | _ => none }
def fnExactFewestPostsRow : OpenClaim := { program := "ytmcjgpbhjpakhaa", sum := "62c4929c66c4dc7363e3be842a115d5fb8afe178c0920b97d2fdacfd5565bf45", func := "loop.example/g01361/laws.FnExactFewestPosts", spec := "fnExactFewestPosts", unfollowed := true, recurses := true, plainKeys := false, apart := false }
def FnExactFewestPostsSaid : Prop := fnExactFewestPostsRow.holds Try.pinned (OpenSpec.ofChange fnExactFewestPostsSpec)

/-- ITS FALSE NEIGHBOUR: 'it returns false'. Refute it at one input. -/
def fnExactFewestPostsWrong : ChangeSpec := { name := "fnExactFewestPosts", fn := fun _ => fun
  | [d1, d2, d3, d4] => { results := [.lit (.bool false)], args := [d1, d2, d3, d4] }
  | _ => none }
def FnExactFewestPostsWrongFalsely : Prop := fnExactFewestPostsRow.holds Try.pinned (OpenSpec.ofChange fnExactFewestPostsWrong)

/- THE SECOND FORM. 'bulk': how many values and letters a reading holds, each counted each time it is reached (what is shared counts as often as it is met; a slice's spare places count too). A statement '..UptoSaid' is the law's where the arguments, and the package variables that the reading takes, are together of bulk at most 1048576: NARROWER than '..Said'. Prove '..Said' where nothing that the law and all that it calls make is longer than what came in: it says more and counts as full. Else prove '..UptoSaid'. A law counts once. -/
mutual
def uptoBulk {H : Type} : DataW H → Nat
  | .lit (.string bytes) => bytes.length + 1
  | .lit _ => 1
  | .nil => 1
  | .ptr d => uptoBulk d + 1
  | .slice elems spare => uptoBulkAll elems + uptoBulkAll spare + 1
  | .agg parts => uptoBulkAll parts + 1
  | .iface _ d => uptoBulk d + 1
  | .map entries => uptoBulkEntries entries + 1
  | .held _ => 1
def uptoBulkAll {H : Type} : List (DataW H) → Nat
  | [] => 0
  | d :: r => uptoBulk d + uptoBulkAll r
def uptoBulkEntries {H : Type} : List (Lit × DataW H) → Nat
  | [] => 0
  | x :: r => uptoBulkEntry x + uptoBulkEntries r
def uptoBulkEntry {H : Type} : Lit × DataW H → Nat
  | (.string bytes, d) => bytes.length + uptoBulk d + 1
  | (_, d) => uptoBulk d + 1
 end
def uptoSmall : (H : Type) → List (DataW H) → Bool := fun _ ds => decide (uptoBulkAll ds ≤ 1048576)
def OpenSpec.upto (s : _root_.Go.ChangeSpec) : _root_.Go.OpenSpec := { _root_.Go.OpenSpec.ofChange s with cond := some uptoSmall }

/-- 'laws.FnExactPostsBound', WHERE WHAT IT READS IS OF BULK AT MOST 1048576: true; the input reads as it did. -/
def fnExactPostsBoundUptoRow : OpenClaim := { program := "ytmcjgpbhjpakhaa", sum := "62c4929c66c4dc7363e3be842a115d5fb8afe178c0920b97d2fdacfd5565bf45", func := "loop.example/g01361/laws.FnExactPostsBound", spec := "fnExactPostsBound", unfollowed := true, recurses := true, plainKeys := false, apart := false, narrowed := true }
def FnExactPostsBoundUptoSaid : Prop := fnExactPostsBoundUptoRow.holds Try.pinned (OpenSpec.upto fnExactPostsBoundSpec)

/-- 'laws.FnExactFarCells', WHERE WHAT IT READS IS OF BULK AT MOST 1048576: true; the input reads as it did. -/
def fnExactFarCellsUptoRow : OpenClaim := { program := "ytmcjgpbhjpakhaa", sum := "62c4929c66c4dc7363e3be842a115d5fb8afe178c0920b97d2fdacfd5565bf45", func := "loop.example/g01361/laws.FnExactFarCells", spec := "fnExactFarCells", unfollowed := true, recurses := true, plainKeys := false, apart := false, narrowed := true }
def FnExactFarCellsUptoSaid : Prop := fnExactFarCellsUptoRow.holds Try.pinned (OpenSpec.upto fnExactFarCellsSpec)

/-- 'laws.FnExactNearExits', WHERE WHAT IT READS IS OF BULK AT MOST 1048576: true; the input reads as it did. -/
def fnExactNearExitsUptoRow : OpenClaim := { program := "ytmcjgpbhjpakhaa", sum := "62c4929c66c4dc7363e3be842a115d5fb8afe178c0920b97d2fdacfd5565bf45", func := "loop.example/g01361/laws.FnExactNearExits", spec := "fnExactNearExits", unfollowed := true, recurses := true, plainKeys := false, apart := false, narrowed := true }
def FnExactNearExitsUptoSaid : Prop := fnExactNearExitsUptoRow.holds Try.pinned (OpenSpec.upto fnExactNearExitsSpec)

/-- 'laws.FnExactGreedyPosts', WHERE WHAT IT READS IS OF BULK AT MOST 1048576: true; the input reads as it did. -/
def fnExactGreedyPostsUptoRow : OpenClaim := { program := "ytmcjgpbhjpakhaa", sum := "62c4929c66c4dc7363e3be842a115d5fb8afe178c0920b97d2fdacfd5565bf45", func := "loop.example/g01361/laws.FnExactGreedyPosts", spec := "fnExactGreedyPosts", unfollowed := true, recurses := true, plainKeys := false, apart := false, narrowed := true }
def FnExactGreedyPostsUptoSaid : Prop := fnExactGreedyPostsUptoRow.holds Try.pinned (OpenSpec.upto fnExactGreedyPostsSpec)

/-- 'laws.FnExactRopeToPosts', WHERE WHAT IT READS IS OF BULK AT MOST 1048576: true; the input reads as it did. -/
def fnExactRopeToPostsUptoRow : OpenClaim := { program := "ytmcjgpbhjpakhaa", sum := "62c4929c66c4dc7363e3be842a115d5fb8afe178c0920b97d2fdacfd5565bf45", func := "loop.example/g01361/laws.FnExactRopeToPosts", spec := "fnExactRopeToPosts", unfollowed := true, recurses := true, plainKeys := false, apart := false, narrowed := true }
def FnExactRopeToPostsUptoSaid : Prop := fnExactRopeToPostsUptoRow.holds Try.pinned (OpenSpec.upto fnExactRopeToPostsSpec)

/-- 'laws.FnExactFewestPosts', WHERE WHAT IT READS IS OF BULK AT MOST 1048576: true; the input reads as it did. -/
def fnExactFewestPostsUptoRow : OpenClaim := { program := "ytmcjgpbhjpakhaa", sum := "62c4929c66c4dc7363e3be842a115d5fb8afe178c0920b97d2fdacfd5565bf45", func := "loop.example/g01361/laws.FnExactFewestPosts", spec := "fnExactFewestPosts", unfollowed := true, recurses := true, plainKeys := false, apart := false, narrowed := true }
def FnExactFewestPostsUptoSaid : Prop := fnExactFewestPostsUptoRow.holds Try.pinned (OpenSpec.upto fnExactFewestPostsSpec)

end Rows
end Go.Proofs.Ytmcjgpbhjpakhaa
