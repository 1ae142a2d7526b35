/-
  No cell of these rows narrows 'for every input' (looked for: loops, veiled, ifaces, maps, wideKeys, modest, calm, conditions, laid).
  DERIVED. THE GIVEN ROWS OF THIS SEAT. 3 by the template 'for every input the law returns true; each argument reads behind the call as it read before'; 0 by the template 'total and deterministic' (their statements: YtjieacofpegmpaaTotals.lean).
  GIVEN WITH THE SEED: the statements are not yours to turn. If you find one false, say at which input.
  Laid BY PROGRAM, IN A SANDBOX (cutbox-rows.mjs): the forced cells as the released guide's own fill.sh prints them over the translation 1d8ff4dd7cf27fc4… (all of the seat's roots in one cut). By AI agents, Wed Nov 11 2026. No macro, syntax, notation, axiom, sorry.
-/
import Derived.Test.YtjieacofpegmpaaChecked
import GoSem.Claim
import GoSem.ClaimJoined
import GoSem.ClaimMapViews
import Derived.JoinedTies
import Derived.KernelRfl
namespace Go.Proofs.Ytjieacofpegmpaa
/- THE CELL 'sum', in the pinned program and in every row, IS THE sha256 OF THE DUMP (.gsa) THAT YtjieacofpegmpaaProg.lean LOADS. Nothing in Lean hashes anything: it is a label: what it is worth is what the hold of that sum in a sandbox is worth. -/
noncomputable def Try.pinned : Pinned := { name := "ytjieacofpegmpaa", sum := "1d8ff4dd7cf27fc44bfed64415156c61d88d2e7aad1a3478a3913c7c75259fee", checked := Try.checked }
namespace Rows
def none {H : Type} : Left H := { results := [], args := [] }

/-- 'laws.FnExactFirstCome': WHATEVER THE INPUT: true; the input reads as it did. -/
def fnExactFirstComeSpec : ChangeSpec := { name := "fnExactFirstCome", fn := fun _ => fun
  | [d] => { results := [.lit (.bool true)], args := [d] }
  | _ => none }
def fnExactFirstComeRow : OpenClaim := { program := "ytjieacofpegmpaa", sum := "1d8ff4dd7cf27fc44bfed64415156c61d88d2e7aad1a3478a3913c7c75259fee", func := "loop.example/g01361/laws.FnExactFirstCome", spec := "fnExactFirstCome", unfollowed := true, recurses := true, apart := false }
def FnExactFirstComeSaid : Prop := fnExactFirstComeRow.holds Try.pinned (OpenSpec.ofChange fnExactFirstComeSpec)

/-- ITS FALSE NEIGHBOUR: 'it returns false'. Refute it at one input. -/
def fnExactFirstComeWrong : ChangeSpec := { name := "fnExactFirstCome", fn := fun _ => fun
  | [d] => { results := [.lit (.bool false)], args := [d] }
  | _ => none }
def FnExactFirstComeWrongFalsely : Prop := fnExactFirstComeRow.holds Try.pinned (OpenSpec.ofChange fnExactFirstComeWrong)

/-- 'laws.FnExactFewestLeaders': WHATEVER THE INPUT: true; the input reads as it did. -/
def fnExactFewestLeadersSpec : ChangeSpec := { name := "fnExactFewestLeaders", fn := fun _ => fun
  | [d1, d2] => { results := [.lit (.bool true)], args := [d1, d2] }
  | _ => none }
def fnExactFewestLeadersRow : OpenClaim := { program := "ytjieacofpegmpaa", sum := "1d8ff4dd7cf27fc44bfed64415156c61d88d2e7aad1a3478a3913c7c75259fee", func := "loop.example/g01361/laws.FnExactFewestLeaders", spec := "fnExactFewestLeaders", unfollowed := true, recurses := true, apart := false }
def FnExactFewestLeadersSaid : Prop := fnExactFewestLeadersRow.holds Try.pinned (OpenSpec.ofChange fnExactFewestLeadersSpec)

/-- ITS FALSE NEIGHBOUR: 'it returns false'. Refute it at one input. -/
def fnExactFewestLeadersWrong : ChangeSpec := { name := "fnExactFewestLeaders", fn := fun _ => fun
  | [d1, d2] => { results := [.lit (.bool false)], args := [d1, d2] }
  | _ => none }
def FnExactFewestLeadersWrongFalsely : Prop := fnExactFewestLeadersRow.holds Try.pinned (OpenSpec.ofChange fnExactFewestLeadersWrong)

/-- 'laws.FnDoor': WHATEVER THE INPUT: true; the input reads as it did. -/
def fnDoorSpec : ChangeSpec := { name := "fnDoor", fn := fun _ => fun
  | [d1, d2] => { results := [.lit (.bool true)], args := [d1, d2] }
  | _ => none }
def fnDoorRow : OpenClaim := { program := "ytjieacofpegmpaa", sum := "1d8ff4dd7cf27fc44bfed64415156c61d88d2e7aad1a3478a3913c7c75259fee", func := "loop.example/g01361/laws.FnDoor", spec := "fnDoor", unfollowed := true, recurses := true, apart := false }
def FnDoorSaid : Prop := fnDoorRow.holds Try.pinned (OpenSpec.ofChange fnDoorSpec)

/-- ITS FALSE NEIGHBOUR: 'it returns false'. Refute it at one input. -/
def fnDoorWrong : ChangeSpec := { name := "fnDoor", fn := fun _ => fun
  | [d1, d2] => { results := [.lit (.bool false)], args := [d1, d2] }
  | _ => none }
def FnDoorWrongFalsely : Prop := fnDoorRow.holds Try.pinned (OpenSpec.ofChange fnDoorWrong)

/- THE SECOND FORM. 'bulk': how many values and letters a reading holds, each counted each time it is reached (what is shared counts as often as it is met; a slice's spare places count too). A statement '..UptoSaid' is the law's where the arguments, and the package variables that the reading takes, are together of bulk at most 1048576: NARROWER than '..Said'. Prove '..Said' where nothing that the law and all that it calls make is longer than what came in: it says more and counts as full. Else prove '..UptoSaid'. A law counts once. -/
mutual
def uptoBulk {H : Type} : DataW H → Nat
  | .lit (.string bytes) => bytes.length + 1
  | .lit _ => 1
  | .nil => 1
  | .ptr d => uptoBulk d + 1
  | .slice elems spare => uptoBulkAll elems + uptoBulkAll spare + 1
  | .agg parts => uptoBulkAll parts + 1
  | .iface _ d => uptoBulk d + 1
  | .map entries => uptoBulkEntries entries + 1
  | .held _ => 1
def uptoBulkAll {H : Type} : List (DataW H) → Nat
  | [] => 0
  | d :: r => uptoBulk d + uptoBulkAll r
def uptoBulkEntries {H : Type} : List (Lit × DataW H) → Nat
  | [] => 0
  | x :: r => uptoBulkEntry x + uptoBulkEntries r
def uptoBulkEntry {H : Type} : Lit × DataW H → Nat
  | (.string bytes, d) => bytes.length + uptoBulk d + 1
  | (_, d) => uptoBulk d + 1
 end
def uptoSmall : (H : Type) → List (DataW H) → Bool := fun _ ds => decide (uptoBulkAll ds ≤ 1048576)
def OpenSpec.upto (s : _root_.Go.ChangeSpec) : _root_.Go.OpenSpec := { _root_.Go.OpenSpec.ofChange s with cond := some uptoSmall }

/-- 'laws.FnExactFirstCome', WHERE WHAT IT READS IS OF BULK AT MOST 1048576: true; the input reads as it did. -/
def fnExactFirstComeUptoRow : OpenClaim := { program := "ytjieacofpegmpaa", sum := "1d8ff4dd7cf27fc44bfed64415156c61d88d2e7aad1a3478a3913c7c75259fee", func := "loop.example/g01361/laws.FnExactFirstCome", spec := "fnExactFirstCome", unfollowed := true, recurses := true, apart := false, narrowed := true }
def FnExactFirstComeUptoSaid : Prop := fnExactFirstComeUptoRow.holds Try.pinned (OpenSpec.upto fnExactFirstComeSpec)

/-- 'laws.FnExactFewestLeaders', WHERE WHAT IT READS IS OF BULK AT MOST 1048576: true; the input reads as it did. -/
def fnExactFewestLeadersUptoRow : OpenClaim := { program := "ytjieacofpegmpaa", sum := "1d8ff4dd7cf27fc44bfed64415156c61d88d2e7aad1a3478a3913c7c75259fee", func := "loop.example/g01361/laws.FnExactFewestLeaders", spec := "fnExactFewestLeaders", unfollowed := true, recurses := true, apart := false, narrowed := true }
def FnExactFewestLeadersUptoSaid : Prop := fnExactFewestLeadersUptoRow.holds Try.pinned (OpenSpec.upto fnExactFewestLeadersSpec)

/-- 'laws.FnDoor', WHERE WHAT IT READS IS OF BULK AT MOST 1048576: true; the input reads as it did. -/
def fnDoorUptoRow : OpenClaim := { program := "ytjieacofpegmpaa", sum := "1d8ff4dd7cf27fc44bfed64415156c61d88d2e7aad1a3478a3913c7c75259fee", func := "loop.example/g01361/laws.FnDoor", spec := "fnDoor", unfollowed := true, recurses := true, apart := false, narrowed := true }
def FnDoorUptoSaid : Prop := fnDoorUptoRow.holds Try.pinned (OpenSpec.upto fnDoorSpec)

end Rows
end Go.Proofs.Ytjieacofpegmpaa
