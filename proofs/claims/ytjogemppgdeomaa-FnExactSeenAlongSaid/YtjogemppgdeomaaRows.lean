/-
  No cell of these rows narrows 'for every input' (looked for: loops, veiled, ifaces, maps, wideKeys, modest, calm, conditions, laid).
  DERIVED. THE GIVEN ROWS OF THIS SEAT. 7 by the template 'for every input the law returns true; each argument reads behind the call as it read before'; 0 by the template 'total and deterministic' (their statements: YtjogemppgdeomaaTotals.lean).
  GIVEN WITH THE SEED: the statements are not yours to turn. If you find one false, say at which input.
  Laid BY PROGRAM, IN A SANDBOX (cutbox-rows.mjs): the forced cells as the released guide's own fill.sh prints them over the translation 73b736bca5a1c350… (all of the seat's roots in one cut). By AI agents, Wed Nov 11 2026. No macro, syntax, notation, axiom, sorry.
-/
import Derived.Test.YtjogemppgdeomaaChecked
import GoSem.Claim
import GoSem.ClaimJoined
import GoSem.ClaimMapViews
import Derived.JoinedTies
import Derived.KernelRfl
namespace Go.Proofs.Ytjogemppgdeomaa
/- THE CELL 'sum', in the pinned program and in every row, IS THE sha256 OF THE DUMP (.gsa) THAT YtjogemppgdeomaaProg.lean LOADS. Nothing in Lean hashes anything: it is a label: what it is worth is what the hold of that sum in a sandbox is worth. -/
noncomputable def Try.pinned : Pinned := { name := "ytjogemppgdeomaa", sum := "73b736bca5a1c35005398f87d7d0e746fefb0395bc1c6101866bd2781b555da5", checked := Try.checked }
namespace Rows
def none {H : Type} : Left H := { results := [], args := [] }

/-- 'laws.FnExactMoveFile': WHATEVER THE INPUT: true; the input reads as it did. -/
def fnExactMoveFileSpec : ChangeSpec := { name := "fnExactMoveFile", fn := fun _ => fun
  | [d1, d2, d3] => { results := [.lit (.bool true)], args := [d1, d2, d3] }
  | _ => none }
def fnExactMoveFileRow : OpenClaim := { program := "ytjogemppgdeomaa", sum := "73b736bca5a1c35005398f87d7d0e746fefb0395bc1c6101866bd2781b555da5", func := "loop.example/g01361/laws.FnExactMoveFile", spec := "fnExactMoveFile", unfollowed := true, recurses := true, apart := false }
def FnExactMoveFileSaid : Prop := fnExactMoveFileRow.holds Try.pinned (OpenSpec.ofChange fnExactMoveFileSpec)

/-- ITS FALSE NEIGHBOUR: 'it returns false'. Refute it at one input. -/
def fnExactMoveFileWrong : ChangeSpec := { name := "fnExactMoveFile", fn := fun _ => fun
  | [d1, d2, d3] => { results := [.lit (.bool false)], args := [d1, d2, d3] }
  | _ => none }
def FnExactMoveFileWrongFalsely : Prop := fnExactMoveFileRow.holds Try.pinned (OpenSpec.ofChange fnExactMoveFileWrong)

/-- 'laws.FnExactFirstBadMove': WHATEVER THE INPUT: true; the input reads as it did. -/
def fnExactFirstBadMoveSpec : ChangeSpec := { name := "fnExactFirstBadMove", fn := fun _ => fun
  | [d1, d2, d3] => { results := [.lit (.bool true)], args := [d1, d2, d3] }
  | _ => none }
def fnExactFirstBadMoveRow : OpenClaim := { program := "ytjogemppgdeomaa", sum := "73b736bca5a1c35005398f87d7d0e746fefb0395bc1c6101866bd2781b555da5", func := "loop.example/g01361/laws.FnExactFirstBadMove", spec := "fnExactFirstBadMove", unfollowed := true, recurses := true, apart := false }
def FnExactFirstBadMoveSaid : Prop := fnExactFirstBadMoveRow.holds Try.pinned (OpenSpec.ofChange fnExactFirstBadMoveSpec)

/-- ITS FALSE NEIGHBOUR: 'it returns false'. Refute it at one input. -/
def fnExactFirstBadMoveWrong : ChangeSpec := { name := "fnExactFirstBadMove", fn := fun _ => fun
  | [d1, d2, d3] => { results := [.lit (.bool false)], args := [d1, d2, d3] }
  | _ => none }
def FnExactFirstBadMoveWrongFalsely : Prop := fnExactFirstBadMoveRow.holds Try.pinned (OpenSpec.ofChange fnExactFirstBadMoveWrong)

/-- 'laws.FnExactWalkFile': WHATEVER THE INPUT: true; the input reads as it did. -/
def fnExactWalkFileSpec : ChangeSpec := { name := "fnExactWalkFile", fn := fun _ => fun
  | [d1, d2, d3] => { results := [.lit (.bool true)], args := [d1, d2, d3] }
  | _ => none }
def fnExactWalkFileRow : OpenClaim := { program := "ytjogemppgdeomaa", sum := "73b736bca5a1c35005398f87d7d0e746fefb0395bc1c6101866bd2781b555da5", func := "loop.example/g01361/laws.FnExactWalkFile", spec := "fnExactWalkFile", unfollowed := true, recurses := true, apart := false }
def FnExactWalkFileSaid : Prop := fnExactWalkFileRow.holds Try.pinned (OpenSpec.ofChange fnExactWalkFileSpec)

/-- ITS FALSE NEIGHBOUR: 'it returns false'. Refute it at one input. -/
def fnExactWalkFileWrong : ChangeSpec := { name := "fnExactWalkFile", fn := fun _ => fun
  | [d1, d2, d3] => { results := [.lit (.bool false)], args := [d1, d2, d3] }
  | _ => none }
def FnExactWalkFileWrongFalsely : Prop := fnExactWalkFileRow.holds Try.pinned (OpenSpec.ofChange fnExactWalkFileWrong)

/-- 'laws.FnExactLeadTo': WHATEVER THE INPUT: true; the input reads as it did. -/
def fnExactLeadToSpec : ChangeSpec := { name := "fnExactLeadTo", fn := fun _ => fun
  | [d1, d2, d3, d4] => { results := [.lit (.bool true)], args := [d1, d2, d3, d4] }
  | _ => none }
def fnExactLeadToRow : OpenClaim := { program := "ytjogemppgdeomaa", sum := "73b736bca5a1c35005398f87d7d0e746fefb0395bc1c6101866bd2781b555da5", func := "loop.example/g01361/laws.FnExactLeadTo", spec := "fnExactLeadTo", unfollowed := true, recurses := true, apart := false }
def FnExactLeadToSaid : Prop := fnExactLeadToRow.holds Try.pinned (OpenSpec.ofChange fnExactLeadToSpec)

/-- ITS FALSE NEIGHBOUR: 'it returns false'. Refute it at one input. -/
def fnExactLeadToWrong : ChangeSpec := { name := "fnExactLeadTo", fn := fun _ => fun
  | [d1, d2, d3, d4] => { results := [.lit (.bool false)], args := [d1, d2, d3, d4] }
  | _ => none }
def FnExactLeadToWrongFalsely : Prop := fnExactLeadToRow.holds Try.pinned (OpenSpec.ofChange fnExactLeadToWrong)

/-- 'laws.FnExactLeadAll': WHATEVER THE INPUT: true; the input reads as it did. -/
def fnExactLeadAllSpec : ChangeSpec := { name := "fnExactLeadAll", fn := fun _ => fun
  | [d1, d2, d3, d4] => { results := [.lit (.bool true)], args := [d1, d2, d3, d4] }
  | _ => none }
def fnExactLeadAllRow : OpenClaim := { program := "ytjogemppgdeomaa", sum := "73b736bca5a1c35005398f87d7d0e746fefb0395bc1c6101866bd2781b555da5", func := "loop.example/g01361/laws.FnExactLeadAll", spec := "fnExactLeadAll", unfollowed := true, recurses := true, apart := false }
def FnExactLeadAllSaid : Prop := fnExactLeadAllRow.holds Try.pinned (OpenSpec.ofChange fnExactLeadAllSpec)

/-- ITS FALSE NEIGHBOUR: 'it returns false'. Refute it at one input. -/
def fnExactLeadAllWrong : ChangeSpec := { name := "fnExactLeadAll", fn := fun _ => fun
  | [d1, d2, d3, d4] => { results := [.lit (.bool false)], args := [d1, d2, d3, d4] }
  | _ => none }
def FnExactLeadAllWrongFalsely : Prop := fnExactLeadAllRow.holds Try.pinned (OpenSpec.ofChange fnExactLeadAllWrong)

/-- 'laws.FnExactSeenAlong': WHATEVER THE INPUT: true; the input reads as it did. -/
def fnExactSeenAlongSpec : ChangeSpec := { name := "fnExactSeenAlong", fn := fun _ => fun
  | [d1, d2, d3] => { results := [.lit (.bool true)], args := [d1, d2, d3] }
  | _ => none }
def fnExactSeenAlongRow : OpenClaim := { program := "ytjogemppgdeomaa", sum := "73b736bca5a1c35005398f87d7d0e746fefb0395bc1c6101866bd2781b555da5", func := "loop.example/g01361/laws.FnExactSeenAlong", spec := "fnExactSeenAlong", unfollowed := true, recurses := true, apart := false }
def FnExactSeenAlongSaid : Prop := fnExactSeenAlongRow.holds Try.pinned (OpenSpec.ofChange fnExactSeenAlongSpec)

/-- ITS FALSE NEIGHBOUR: 'it returns false'. Refute it at one input. -/
def fnExactSeenAlongWrong : ChangeSpec := { name := "fnExactSeenAlong", fn := fun _ => fun
  | [d1, d2, d3] => { results := [.lit (.bool false)], args := [d1, d2, d3] }
  | _ => none }
def FnExactSeenAlongWrongFalsely : Prop := fnExactSeenAlongRow.holds Try.pinned (OpenSpec.ofChange fnExactSeenAlongWrong)

/-- 'laws.FnLead': WHATEVER THE INPUT: true; the input reads as it did. -/
def fnLeadSpec : ChangeSpec := { name := "fnLead", fn := fun _ => fun
  | [d1, d2] => { results := [.lit (.bool true)], args := [d1, d2] }
  | _ => none }
def fnLeadRow : OpenClaim := { program := "ytjogemppgdeomaa", sum := "73b736bca5a1c35005398f87d7d0e746fefb0395bc1c6101866bd2781b555da5", func := "loop.example/g01361/laws.FnLead", spec := "fnLead", unfollowed := true, recurses := true, apart := false }
def FnLeadSaid : Prop := fnLeadRow.holds Try.pinned (OpenSpec.ofChange fnLeadSpec)

/-- ITS FALSE NEIGHBOUR: 'it returns false'. Refute it at one input. -/
def fnLeadWrong : ChangeSpec := { name := "fnLead", fn := fun _ => fun
  | [d1, d2] => { results := [.lit (.bool false)], args := [d1, d2] }
  | _ => none }
def FnLeadWrongFalsely : Prop := fnLeadRow.holds Try.pinned (OpenSpec.ofChange fnLeadWrong)

/- THE SECOND FORM. 'bulk': how many values and letters a reading holds, each counted each time it is reached (what is shared counts as often as it is met; a slice's spare places count too). A statement '..UptoSaid' is the law's where the arguments, and the package variables that the reading takes, are together of bulk at most 1048576: NARROWER than '..Said'. Prove '..Said' where nothing that the law and all that it calls make is longer than what came in: it says more and counts as full. Else prove '..UptoSaid'. A law counts once. -/
mutual
def uptoBulk {H : Type} : DataW H → Nat
  | .lit (.string bytes) => bytes.length + 1
  | .lit _ => 1
  | .nil => 1
  | .ptr d => uptoBulk d + 1
  | .slice elems spare => uptoBulkAll elems + uptoBulkAll spare + 1
  | .agg parts => uptoBulkAll parts + 1
  | .iface _ d => uptoBulk d + 1
  | .map entries => uptoBulkEntries entries + 1
  | .held _ => 1
def uptoBulkAll {H : Type} : List (DataW H) → Nat
  | [] => 0
  | d :: r => uptoBulk d + uptoBulkAll r
def uptoBulkEntries {H : Type} : List (Lit × DataW H) → Nat
  | [] => 0
  | x :: r => uptoBulkEntry x + uptoBulkEntries r
def uptoBulkEntry {H : Type} : Lit × DataW H → Nat
  | (.string bytes, d) => bytes.length + uptoBulk d + 1
  | (_, d) => uptoBulk d + 1
 end
def uptoSmall : (H : Type) → List (DataW H) → Bool := fun _ ds => decide (uptoBulkAll ds ≤ 1048576)
def OpenSpec.upto (s : _root_.Go.ChangeSpec) : _root_.Go.OpenSpec := { _root_.Go.OpenSpec.ofChange s with cond := some uptoSmall }

/-- 'laws.FnExactMoveFile', WHERE WHAT IT READS IS OF BULK AT MOST 1048576: true; the input reads as it did. -/
def fnExactMoveFileUptoRow : OpenClaim := { program := "ytjogemppgdeomaa", sum := "73b736bca5a1c35005398f87d7d0e746fefb0395bc1c6101866bd2781b555da5", func := "loop.example/g01361/laws.FnExactMoveFile", spec := "fnExactMoveFile", unfollowed := true, recurses := true, apart := false, narrowed := true }
def FnExactMoveFileUptoSaid : Prop := fnExactMoveFileUptoRow.holds Try.pinned (OpenSpec.upto fnExactMoveFileSpec)

/-- 'laws.FnExactFirstBadMove', WHERE WHAT IT READS IS OF BULK AT MOST 1048576: true; the input reads as it did. -/
def fnExactFirstBadMoveUptoRow : OpenClaim := { program := "ytjogemppgdeomaa", sum := "73b736bca5a1c35005398f87d7d0e746fefb0395bc1c6101866bd2781b555da5", func := "loop.example/g01361/laws.FnExactFirstBadMove", spec := "fnExactFirstBadMove", unfollowed := true, recurses := true, apart := false, narrowed := true }
def FnExactFirstBadMoveUptoSaid : Prop := fnExactFirstBadMoveUptoRow.holds Try.pinned (OpenSpec.upto fnExactFirstBadMoveSpec)

/-- 'laws.FnExactWalkFile', WHERE WHAT IT READS IS OF BULK AT MOST 1048576: true; the input reads as it did. -/
def fnExactWalkFileUptoRow : OpenClaim := { program := "ytjogemppgdeomaa", sum := "73b736bca5a1c35005398f87d7d0e746fefb0395bc1c6101866bd2781b555da5", func := "loop.example/g01361/laws.FnExactWalkFile", spec := "fnExactWalkFile", unfollowed := true, recurses := true, apart := false, narrowed := true }
def FnExactWalkFileUptoSaid : Prop := fnExactWalkFileUptoRow.holds Try.pinned (OpenSpec.upto fnExactWalkFileSpec)

/-- 'laws.FnExactLeadTo', WHERE WHAT IT READS IS OF BULK AT MOST 1048576: true; the input reads as it did. -/
def fnExactLeadToUptoRow : OpenClaim := { program := "ytjogemppgdeomaa", sum := "73b736bca5a1c35005398f87d7d0e746fefb0395bc1c6101866bd2781b555da5", func := "loop.example/g01361/laws.FnExactLeadTo", spec := "fnExactLeadTo", unfollowed := true, recurses := true, apart := false, narrowed := true }
def FnExactLeadToUptoSaid : Prop := fnExactLeadToUptoRow.holds Try.pinned (OpenSpec.upto fnExactLeadToSpec)

/-- 'laws.FnExactLeadAll', WHERE WHAT IT READS IS OF BULK AT MOST 1048576: true; the input reads as it did. -/
def fnExactLeadAllUptoRow : OpenClaim := { program := "ytjogemppgdeomaa", sum := "73b736bca5a1c35005398f87d7d0e746fefb0395bc1c6101866bd2781b555da5", func := "loop.example/g01361/laws.FnExactLeadAll", spec := "fnExactLeadAll", unfollowed := true, recurses := true, apart := false, narrowed := true }
def FnExactLeadAllUptoSaid : Prop := fnExactLeadAllUptoRow.holds Try.pinned (OpenSpec.upto fnExactLeadAllSpec)

/-- 'laws.FnExactSeenAlong', WHERE WHAT IT READS IS OF BULK AT MOST 1048576: true; the input reads as it did. -/
def fnExactSeenAlongUptoRow : OpenClaim := { program := "ytjogemppgdeomaa", sum := "73b736bca5a1c35005398f87d7d0e746fefb0395bc1c6101866bd2781b555da5", func := "loop.example/g01361/laws.FnExactSeenAlong", spec := "fnExactSeenAlong", unfollowed := true, recurses := true, apart := false, narrowed := true }
def FnExactSeenAlongUptoSaid : Prop := fnExactSeenAlongUptoRow.holds Try.pinned (OpenSpec.upto fnExactSeenAlongSpec)

/-- 'laws.FnLead', WHERE WHAT IT READS IS OF BULK AT MOST 1048576: true; the input reads as it did. -/
def fnLeadUptoRow : OpenClaim := { program := "ytjogemppgdeomaa", sum := "73b736bca5a1c35005398f87d7d0e746fefb0395bc1c6101866bd2781b555da5", func := "loop.example/g01361/laws.FnLead", spec := "fnLead", unfollowed := true, recurses := true, apart := false, narrowed := true }
def FnLeadUptoSaid : Prop := fnLeadUptoRow.holds Try.pinned (OpenSpec.upto fnLeadSpec)

end Rows
end Go.Proofs.Ytjogemppgdeomaa
