/-
  No cell of these rows narrows 'for every input' (looked for: loops, veiled, ifaces, maps, wideKeys, modest, calm, conditions, laid).
  DERIVED. THE GIVEN ROWS OF THIS SEAT. 3 by the template 'for every input the law returns true; each argument reads behind the call as it read before'; 0 by the template 'total and deterministic' (their statements: YtjpponjekcemjaaTotals.lean).
  GIVEN WITH THE SEED: the statements are not yours to turn. If you find one false, say at which input.
  Laid BY PROGRAM, IN A SANDBOX (cutbox-rows.mjs): the forced cells as the released guide's own fill.sh prints them over the translation 80683f0d6a9f6fbf… (all of the seat's roots in one cut). By AI agents, Wed Nov 11 2026. No macro, syntax, notation, axiom, sorry.
-/
import Derived.Test.YtjpponjekcemjaaChecked
import GoSem.Claim
import GoSem.ClaimJoined
import GoSem.ClaimMapViews
import Derived.JoinedTies
import Derived.KernelRfl
namespace Go.Proofs.Ytjpponjekcemjaa
/- THE CELL 'sum', in the pinned program and in every row, IS THE sha256 OF THE DUMP (.gsa) THAT YtjpponjekcemjaaProg.lean LOADS. Nothing in Lean hashes anything: it is a label: what it is worth is what the hold of that sum in a sandbox is worth. -/
noncomputable def Try.pinned : Pinned := { name := "ytjpponjekcemjaa", sum := "80683f0d6a9f6fbfebafe3d88dfef00276b88e7e035ec00f0e96daa3746ce43f", checked := Try.checked }
namespace Rows
def none {H : Type} : Left H := { results := [], args := [] }

/-- 'laws.FnExactLeadTo': WHATEVER THE INPUT: true; the input reads as it did. -/
def fnExactLeadToSpec : ChangeSpec := { name := "fnExactLeadTo", fn := fun _ => fun
  | [d1, d2, d3, d4] => { results := [.lit (.bool true)], args := [d1, d2, d3, d4] }
  | _ => none }
def fnExactLeadToRow : OpenClaim := { program := "ytjpponjekcemjaa", sum := "80683f0d6a9f6fbfebafe3d88dfef00276b88e7e035ec00f0e96daa3746ce43f", func := "loop.example/g01361/laws.FnExactLeadTo", spec := "fnExactLeadTo", unfollowed := true, recurses := true, apart := false }
def FnExactLeadToSaid : Prop := fnExactLeadToRow.holds Try.pinned (OpenSpec.ofChange fnExactLeadToSpec)

/-- ITS FALSE NEIGHBOUR: 'it returns false'. Refute it at one input. -/
def fnExactLeadToWrong : ChangeSpec := { name := "fnExactLeadTo", fn := fun _ => fun
  | [d1, d2, d3, d4] => { results := [.lit (.bool false)], args := [d1, d2, d3, d4] }
  | _ => none }
def FnExactLeadToWrongFalsely : Prop := fnExactLeadToRow.holds Try.pinned (OpenSpec.ofChange fnExactLeadToWrong)

/-- 'laws.FnExactLeadAll': WHATEVER THE INPUT: true; the input reads as it did. -/
def fnExactLeadAllSpec : ChangeSpec := { name := "fnExactLeadAll", fn := fun _ => fun
  | [d1, d2, d3, d4] => { results := [.lit (.bool true)], args := [d1, d2, d3, d4] }
  | _ => none }
def fnExactLeadAllRow : OpenClaim := { program := "ytjpponjekcemjaa", sum := "80683f0d6a9f6fbfebafe3d88dfef00276b88e7e035ec00f0e96daa3746ce43f", func := "loop.example/g01361/laws.FnExactLeadAll", spec := "fnExactLeadAll", unfollowed := true, recurses := true, apart := false }
def FnExactLeadAllSaid : Prop := fnExactLeadAllRow.holds Try.pinned (OpenSpec.ofChange fnExactLeadAllSpec)

/-- ITS FALSE NEIGHBOUR: 'it returns false'. Refute it at one input. -/
def fnExactLeadAllWrong : ChangeSpec := { name := "fnExactLeadAll", fn := fun _ => fun
  | [d1, d2, d3, d4] => { results := [.lit (.bool false)], args := [d1, d2, d3, d4] }
  | _ => none }
def FnExactLeadAllWrongFalsely : Prop := fnExactLeadAllRow.holds Try.pinned (OpenSpec.ofChange fnExactLeadAllWrong)

/-- 'laws.FnLead': WHATEVER THE INPUT: true; the input reads as it did. -/
def fnLeadSpec : ChangeSpec := { name := "fnLead", fn := fun _ => fun
  | [d1, d2] => { results := [.lit (.bool true)], args := [d1, d2] }
  | _ => none }
def fnLeadRow : OpenClaim := { program := "ytjpponjekcemjaa", sum := "80683f0d6a9f6fbfebafe3d88dfef00276b88e7e035ec00f0e96daa3746ce43f", func := "loop.example/g01361/laws.FnLead", spec := "fnLead", unfollowed := true, recurses := true, apart := false }
def FnLeadSaid : Prop := fnLeadRow.holds Try.pinned (OpenSpec.ofChange fnLeadSpec)

/-- ITS FALSE NEIGHBOUR: 'it returns false'. Refute it at one input. -/
def fnLeadWrong : ChangeSpec := { name := "fnLead", fn := fun _ => fun
  | [d1, d2] => { results := [.lit (.bool false)], args := [d1, d2] }
  | _ => none }
def FnLeadWrongFalsely : Prop := fnLeadRow.holds Try.pinned (OpenSpec.ofChange fnLeadWrong)

/- THE SECOND FORM. 'bulk': how many values and letters a reading holds, each counted each time it is reached (what is shared counts as often as it is met; a slice's spare places count too). A statement '..UptoSaid' is the law's where the arguments, and the package variables that the reading takes, are together of bulk at most 1048576: NARROWER than '..Said'. Prove '..Said' where nothing that the law and all that it calls make is longer than what came in: it says more and counts as full. Else prove '..UptoSaid'. A law counts once. -/
mutual
def uptoBulk {H : Type} : DataW H → Nat
  | .lit (.string bytes) => bytes.length + 1
  | .lit _ => 1
  | .nil => 1
  | .ptr d => uptoBulk d + 1
  | .slice elems spare => uptoBulkAll elems + uptoBulkAll spare + 1
  | .agg parts => uptoBulkAll parts + 1
  | .iface _ d => uptoBulk d + 1
  | .map entries => uptoBulkEntries entries + 1
  | .held _ => 1
def uptoBulkAll {H : Type} : List (DataW H) → Nat
  | [] => 0
  | d :: r => uptoBulk d + uptoBulkAll r
def uptoBulkEntries {H : Type} : List (Lit × DataW H) → Nat
  | [] => 0
  | x :: r => uptoBulkEntry x + uptoBulkEntries r
def uptoBulkEntry {H : Type} : Lit × DataW H → Nat
  | (.string bytes, d) => bytes.length + uptoBulk d + 1
  | (_, d) => uptoBulk d + 1
 end
def uptoSmall : (H : Type) → List (DataW H) → Bool := fun _ ds => decide (uptoBulkAll ds ≤ 1048576)
def OpenSpec.upto (s : _root_.Go.ChangeSpec) : _root_.Go.OpenSpec := { _root_.Go.OpenSpec.ofChange s with cond := some uptoSmall }

/-- 'laws.FnExactLeadTo', WHERE WHAT IT READS IS OF BULK AT MOST 1048576: true; the input reads as it did. -/
def fnExactLeadToUptoRow : OpenClaim := { program := "ytjpponjekcemjaa", sum := "80683f0d6a9f6fbfebafe3d88dfef00276b88e7e035ec00f0e96daa3746ce43f", func := "loop.example/g01361/laws.FnExactLeadTo", spec := "fnExactLeadTo", unfollowed := true, recurses := true, apart := false, narrowed := true }
def FnExactLeadToUptoSaid : Prop := fnExactLeadToUptoRow.holds Try.pinned (OpenSpec.upto fnExactLeadToSpec)

/-- 'laws.FnExactLeadAll', WHERE WHAT IT READS IS OF BULK AT MOST 1048576: true; the input reads as it did. -/
def fnExactLeadAllUptoRow : OpenClaim := { program := "ytjpponjekcemjaa", sum := "80683f0d6a9f6fbfebafe3d88dfef00276b88e7e035ec00f0e96daa3746ce43f", func := "loop.example/g01361/laws.FnExactLeadAll", spec := "fnExactLeadAll", unfollowed := true, recurses := true, apart := false, narrowed := true }
def FnExactLeadAllUptoSaid : Prop := fnExactLeadAllUptoRow.holds Try.pinned (OpenSpec.upto fnExactLeadAllSpec)

/-- 'laws.FnLead', WHERE WHAT IT READS IS OF BULK AT MOST 1048576: true; the input reads as it did. -/
def fnLeadUptoRow : OpenClaim := { program := "ytjpponjekcemjaa", sum := "80683f0d6a9f6fbfebafe3d88dfef00276b88e7e035ec00f0e96daa3746ce43f", func := "loop.example/g01361/laws.FnLead", spec := "fnLead", unfollowed := true, recurses := true, apart := false, narrowed := true }
def FnLeadUptoSaid : Prop := fnLeadUptoRow.holds Try.pinned (OpenSpec.upto fnLeadSpec)

end Rows
end Go.Proofs.Ytjpponjekcemjaa
