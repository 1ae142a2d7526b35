/-
  No cell of these rows narrows 'for every input' (looked for: loops, veiled, ifaces, maps, wideKeys, modest, calm, conditions, laid).
  DERIVED. THE GIVEN ROWS OF THIS SEAT. 12 by the template 'for every input the law returns true; each argument reads behind the call as it read before'; 0 by the template 'total and deterministic' (their statements: YthfinhdmdfekcaaTotals.lean).
  GIVEN WITH THE SEED: the statements are not yours to turn. If you find one false, say at which input.
  Laid BY PROGRAM, IN A SANDBOX (cutbox-rows.mjs): the forced cells as the released guide's own fill.sh prints them over the translation 1560533dc25df09d… (all of the seat's roots in one cut). By AI agents, Wed Nov 11 2026. No macro, syntax, notation, axiom, sorry.
-/
import Derived.Test.YthfinhdmdfekcaaChecked
import GoSem.Claim
import GoSem.ClaimJoined
import GoSem.ClaimMapViews
import Derived.JoinedTies
import Derived.KernelRfl
namespace Go.Proofs.Ythfinhdmdfekcaa
/- THE CELL 'sum', in the pinned program and in every row, IS THE sha256 OF THE DUMP (.gsa) THAT YthfinhdmdfekcaaProg.lean LOADS. Nothing in Lean hashes anything: it is a label: what it is worth is what the hold of that sum in a sandbox is worth. -/
noncomputable def Try.pinned : Pinned := { name := "ythfinhdmdfekcaa", sum := "1560533dc25df09dbe8c33164bdc8b33a7f24f8a66640453e40533dd94214651", checked := Try.checked }
namespace Rows
def none {H : Type} : Left H := { results := [], args := [] }

/-- 'laws.FnExactValidLegs': WHATEVER THE INPUT: true; the input reads as it did. -/
def fnExactValidLegsSpec : ChangeSpec := { name := "fnExactValidLegs", fn := fun _ => fun
  | [d] => { results := [.lit (.bool true)], args := [d] }
  | _ => none }
def fnExactValidLegsRow : OpenClaim := { program := "ythfinhdmdfekcaa", sum := "1560533dc25df09dbe8c33164bdc8b33a7f24f8a66640453e40533dd94214651", func := "loop.example/g01361/laws.FnExactValidLegs", spec := "fnExactValidLegs", unfollowed := true, recurses := true, apart := false }
def FnExactValidLegsSaid : Prop := fnExactValidLegsRow.holds Try.pinned (OpenSpec.ofChange fnExactValidLegsSpec)

/-- ITS FALSE NEIGHBOUR: 'it returns false'. Refute it at one input. -/
def fnExactValidLegsWrong : ChangeSpec := { name := "fnExactValidLegs", fn := fun _ => fun
  | [d] => { results := [.lit (.bool false)], args := [d] }
  | _ => none }
def FnExactValidLegsWrongFalsely : Prop := fnExactValidLegsRow.holds Try.pinned (OpenSpec.ofChange fnExactValidLegsWrong)

/-- 'laws.FnExactValidParties': WHATEVER THE INPUT: true; the input reads as it did. -/
def fnExactValidPartiesSpec : ChangeSpec := { name := "fnExactValidParties", fn := fun _ => fun
  | [d] => { results := [.lit (.bool true)], args := [d] }
  | _ => none }
def fnExactValidPartiesRow : OpenClaim := { program := "ythfinhdmdfekcaa", sum := "1560533dc25df09dbe8c33164bdc8b33a7f24f8a66640453e40533dd94214651", func := "loop.example/g01361/laws.FnExactValidParties", spec := "fnExactValidParties", unfollowed := true, recurses := true, apart := false }
def FnExactValidPartiesSaid : Prop := fnExactValidPartiesRow.holds Try.pinned (OpenSpec.ofChange fnExactValidPartiesSpec)

/-- ITS FALSE NEIGHBOUR: 'it returns false'. Refute it at one input. -/
def fnExactValidPartiesWrong : ChangeSpec := { name := "fnExactValidParties", fn := fun _ => fun
  | [d] => { results := [.lit (.bool false)], args := [d] }
  | _ => none }
def FnExactValidPartiesWrongFalsely : Prop := fnExactValidPartiesRow.holds Try.pinned (OpenSpec.ofChange fnExactValidPartiesWrong)

/-- 'laws.FnExactValidGuides': WHATEVER THE INPUT: true; the input reads as it did. -/
def fnExactValidGuidesSpec : ChangeSpec := { name := "fnExactValidGuides", fn := fun _ => fun
  | [d] => { results := [.lit (.bool true)], args := [d] }
  | _ => none }
def fnExactValidGuidesRow : OpenClaim := { program := "ythfinhdmdfekcaa", sum := "1560533dc25df09dbe8c33164bdc8b33a7f24f8a66640453e40533dd94214651", func := "loop.example/g01361/laws.FnExactValidGuides", spec := "fnExactValidGuides", unfollowed := true, recurses := true, apart := false }
def FnExactValidGuidesSaid : Prop := fnExactValidGuidesRow.holds Try.pinned (OpenSpec.ofChange fnExactValidGuidesSpec)

/-- ITS FALSE NEIGHBOUR: 'it returns false'. Refute it at one input. -/
def fnExactValidGuidesWrong : ChangeSpec := { name := "fnExactValidGuides", fn := fun _ => fun
  | [d] => { results := [.lit (.bool false)], args := [d] }
  | _ => none }
def FnExactValidGuidesWrongFalsely : Prop := fnExactValidGuidesRow.holds Try.pinned (OpenSpec.ofChange fnExactValidGuidesWrong)

/-- 'laws.FnExactCheckLeaders': WHATEVER THE INPUT: true; the input reads as it did. -/
def fnExactCheckLeadersSpec : ChangeSpec := { name := "fnExactCheckLeaders", fn := fun _ => fun
  | [d1, d2, d3] => { results := [.lit (.bool true)], args := [d1, d2, d3] }
  | _ => none }
def fnExactCheckLeadersRow : OpenClaim := { program := "ythfinhdmdfekcaa", sum := "1560533dc25df09dbe8c33164bdc8b33a7f24f8a66640453e40533dd94214651", func := "loop.example/g01361/laws.FnExactCheckLeaders", spec := "fnExactCheckLeaders", unfollowed := true, recurses := true, apart := false }
def FnExactCheckLeadersSaid : Prop := fnExactCheckLeadersRow.holds Try.pinned (OpenSpec.ofChange fnExactCheckLeadersSpec)

/-- ITS FALSE NEIGHBOUR: 'it returns false'. Refute it at one input. -/
def fnExactCheckLeadersWrong : ChangeSpec := { name := "fnExactCheckLeaders", fn := fun _ => fun
  | [d1, d2, d3] => { results := [.lit (.bool false)], args := [d1, d2, d3] }
  | _ => none }
def FnExactCheckLeadersWrongFalsely : Prop := fnExactCheckLeadersRow.holds Try.pinned (OpenSpec.ofChange fnExactCheckLeadersWrong)

/-- 'laws.FnExactCountLeaders': WHATEVER THE INPUT: true; the input reads as it did. -/
def fnExactCountLeadersSpec : ChangeSpec := { name := "fnExactCountLeaders", fn := fun _ => fun
  | [d1, d2] => { results := [.lit (.bool true)], args := [d1, d2] }
  | _ => none }
def fnExactCountLeadersRow : OpenClaim := { program := "ythfinhdmdfekcaa", sum := "1560533dc25df09dbe8c33164bdc8b33a7f24f8a66640453e40533dd94214651", func := "loop.example/g01361/laws.FnExactCountLeaders", spec := "fnExactCountLeaders", unfollowed := true, recurses := true, apart := false }
def FnExactCountLeadersSaid : Prop := fnExactCountLeadersRow.holds Try.pinned (OpenSpec.ofChange fnExactCountLeadersSpec)

/-- ITS FALSE NEIGHBOUR: 'it returns false'. Refute it at one input. -/
def fnExactCountLeadersWrong : ChangeSpec := { name := "fnExactCountLeaders", fn := fun _ => fun
  | [d1, d2] => { results := [.lit (.bool false)], args := [d1, d2] }
  | _ => none }
def FnExactCountLeadersWrongFalsely : Prop := fnExactCountLeadersRow.holds Try.pinned (OpenSpec.ofChange fnExactCountLeadersWrong)

/-- 'laws.FnExactWaitingOf': WHATEVER THE INPUT: true; the input reads as it did. -/
def fnExactWaitingOfSpec : ChangeSpec := { name := "fnExactWaitingOf", fn := fun _ => fun
  | [d1, d2] => { results := [.lit (.bool true)], args := [d1, d2] }
  | _ => none }
def fnExactWaitingOfRow : OpenClaim := { program := "ythfinhdmdfekcaa", sum := "1560533dc25df09dbe8c33164bdc8b33a7f24f8a66640453e40533dd94214651", func := "loop.example/g01361/laws.FnExactWaitingOf", spec := "fnExactWaitingOf", unfollowed := true, recurses := true, apart := false }
def FnExactWaitingOfSaid : Prop := fnExactWaitingOfRow.holds Try.pinned (OpenSpec.ofChange fnExactWaitingOfSpec)

/-- ITS FALSE NEIGHBOUR: 'it returns false'. Refute it at one input. -/
def fnExactWaitingOfWrong : ChangeSpec := { name := "fnExactWaitingOf", fn := fun _ => fun
  | [d1, d2] => { results := [.lit (.bool false)], args := [d1, d2] }
  | _ => none }
def FnExactWaitingOfWrongFalsely : Prop := fnExactWaitingOfRow.holds Try.pinned (OpenSpec.ofChange fnExactWaitingOfWrong)

/-- 'laws.FnExactMinutesFor': WHATEVER THE INPUT: true; the input reads as it did. -/
def fnExactMinutesForSpec : ChangeSpec := { name := "fnExactMinutesFor", fn := fun _ => fun
  | [d1, d2, d3, d4, d5] => { results := [.lit (.bool true)], args := [d1, d2, d3, d4, d5] }
  | _ => none }
def fnExactMinutesForRow : OpenClaim := { program := "ythfinhdmdfekcaa", sum := "1560533dc25df09dbe8c33164bdc8b33a7f24f8a66640453e40533dd94214651", func := "loop.example/g01361/laws.FnExactMinutesFor", spec := "fnExactMinutesFor", unfollowed := true, recurses := true, apart := false }
def FnExactMinutesForSaid : Prop := fnExactMinutesForRow.holds Try.pinned (OpenSpec.ofChange fnExactMinutesForSpec)

/-- ITS FALSE NEIGHBOUR: 'it returns false'. Refute it at one input. -/
def fnExactMinutesForWrong : ChangeSpec := { name := "fnExactMinutesFor", fn := fun _ => fun
  | [d1, d2, d3, d4, d5] => { results := [.lit (.bool false)], args := [d1, d2, d3, d4, d5] }
  | _ => none }
def FnExactMinutesForWrongFalsely : Prop := fnExactMinutesForRow.holds Try.pinned (OpenSpec.ofChange fnExactMinutesForWrong)

/-- 'laws.FnExactLongestWait': WHATEVER THE INPUT: true; the input reads as it did. -/
def fnExactLongestWaitSpec : ChangeSpec := { name := "fnExactLongestWait", fn := fun _ => fun
  | [d1, d2] => { results := [.lit (.bool true)], args := [d1, d2] }
  | _ => none }
def fnExactLongestWaitRow : OpenClaim := { program := "ythfinhdmdfekcaa", sum := "1560533dc25df09dbe8c33164bdc8b33a7f24f8a66640453e40533dd94214651", func := "loop.example/g01361/laws.FnExactLongestWait", spec := "fnExactLongestWait", unfollowed := true, recurses := true, apart := false }
def FnExactLongestWaitSaid : Prop := fnExactLongestWaitRow.holds Try.pinned (OpenSpec.ofChange fnExactLongestWaitSpec)

/-- ITS FALSE NEIGHBOUR: 'it returns false'. Refute it at one input. -/
def fnExactLongestWaitWrong : ChangeSpec := { name := "fnExactLongestWait", fn := fun _ => fun
  | [d1, d2] => { results := [.lit (.bool false)], args := [d1, d2] }
  | _ => none }
def FnExactLongestWaitWrongFalsely : Prop := fnExactLongestWaitRow.holds Try.pinned (OpenSpec.ofChange fnExactLongestWaitWrong)

/-- 'laws.FnExactDoorTimes': WHATEVER THE INPUT: true; the input reads as it did. -/
def fnExactDoorTimesSpec : ChangeSpec := { name := "fnExactDoorTimes", fn := fun _ => fun
  | [d1, d2] => { results := [.lit (.bool true)], args := [d1, d2] }
  | _ => none }
def fnExactDoorTimesRow : OpenClaim := { program := "ythfinhdmdfekcaa", sum := "1560533dc25df09dbe8c33164bdc8b33a7f24f8a66640453e40533dd94214651", func := "loop.example/g01361/laws.FnExactDoorTimes", spec := "fnExactDoorTimes", unfollowed := true, recurses := true, apart := false }
def FnExactDoorTimesSaid : Prop := fnExactDoorTimesRow.holds Try.pinned (OpenSpec.ofChange fnExactDoorTimesSpec)

/-- ITS FALSE NEIGHBOUR: 'it returns false'. Refute it at one input. -/
def fnExactDoorTimesWrong : ChangeSpec := { name := "fnExactDoorTimes", fn := fun _ => fun
  | [d1, d2] => { results := [.lit (.bool false)], args := [d1, d2] }
  | _ => none }
def FnExactDoorTimesWrongFalsely : Prop := fnExactDoorTimesRow.holds Try.pinned (OpenSpec.ofChange fnExactDoorTimesWrong)

/-- 'laws.FnExactBestDoor': WHATEVER THE INPUT: true; the input reads as it did. -/
def fnExactBestDoorSpec : ChangeSpec := { name := "fnExactBestDoor", fn := fun _ => fun
  | [d] => { results := [.lit (.bool true)], args := [d] }
  | _ => none }
def fnExactBestDoorRow : OpenClaim := { program := "ythfinhdmdfekcaa", sum := "1560533dc25df09dbe8c33164bdc8b33a7f24f8a66640453e40533dd94214651", func := "loop.example/g01361/laws.FnExactBestDoor", spec := "fnExactBestDoor", unfollowed := true, recurses := true, apart := false }
def FnExactBestDoorSaid : Prop := fnExactBestDoorRow.holds Try.pinned (OpenSpec.ofChange fnExactBestDoorSpec)

/-- ITS FALSE NEIGHBOUR: 'it returns false'. Refute it at one input. -/
def fnExactBestDoorWrong : ChangeSpec := { name := "fnExactBestDoor", fn := fun _ => fun
  | [d] => { results := [.lit (.bool false)], args := [d] }
  | _ => none }
def FnExactBestDoorWrongFalsely : Prop := fnExactBestDoorRow.holds Try.pinned (OpenSpec.ofChange fnExactBestDoorWrong)

/-- 'laws.FnExactFirstLeaders': WHATEVER THE INPUT: true; the input reads as it did. -/
def fnExactFirstLeadersSpec : ChangeSpec := { name := "fnExactFirstLeaders", fn := fun _ => fun
  | [d1, d2] => { results := [.lit (.bool true)], args := [d1, d2] }
  | _ => none }
def fnExactFirstLeadersRow : OpenClaim := { program := "ythfinhdmdfekcaa", sum := "1560533dc25df09dbe8c33164bdc8b33a7f24f8a66640453e40533dd94214651", func := "loop.example/g01361/laws.FnExactFirstLeaders", spec := "fnExactFirstLeaders", unfollowed := true, recurses := true, apart := false }
def FnExactFirstLeadersSaid : Prop := fnExactFirstLeadersRow.holds Try.pinned (OpenSpec.ofChange fnExactFirstLeadersSpec)

/-- ITS FALSE NEIGHBOUR: 'it returns false'. Refute it at one input. -/
def fnExactFirstLeadersWrong : ChangeSpec := { name := "fnExactFirstLeaders", fn := fun _ => fun
  | [d1, d2] => { results := [.lit (.bool false)], args := [d1, d2] }
  | _ => none }
def FnExactFirstLeadersWrongFalsely : Prop := fnExactFirstLeadersRow.holds Try.pinned (OpenSpec.ofChange fnExactFirstLeadersWrong)

/-- 'laws.FnExactFastestLeaders': WHATEVER THE INPUT: true; the input reads as it did. -/
def fnExactFastestLeadersSpec : ChangeSpec := { name := "fnExactFastestLeaders", fn := fun _ => fun
  | [d1, d2] => { results := [.lit (.bool true)], args := [d1, d2] }
  | _ => none }
def fnExactFastestLeadersRow : OpenClaim := { program := "ythfinhdmdfekcaa", sum := "1560533dc25df09dbe8c33164bdc8b33a7f24f8a66640453e40533dd94214651", func := "loop.example/g01361/laws.FnExactFastestLeaders", spec := "fnExactFastestLeaders", unfollowed := true, recurses := true, apart := false }
def FnExactFastestLeadersSaid : Prop := fnExactFastestLeadersRow.holds Try.pinned (OpenSpec.ofChange fnExactFastestLeadersSpec)

/-- ITS FALSE NEIGHBOUR: 'it returns false'. Refute it at one input. -/
def fnExactFastestLeadersWrong : ChangeSpec := { name := "fnExactFastestLeaders", fn := fun _ => fun
  | [d1, d2] => { results := [.lit (.bool false)], args := [d1, d2] }
  | _ => none }
def FnExactFastestLeadersWrongFalsely : Prop := fnExactFastestLeadersRow.holds Try.pinned (OpenSpec.ofChange fnExactFastestLeadersWrong)

/- THE SECOND FORM. 'bulk': how many values and letters a reading holds, each counted each time it is reached (what is shared counts as often as it is met; a slice's spare places count too). A statement '..UptoSaid' is the law's where the arguments, and the package variables that the reading takes, are together of bulk at most 1048576: NARROWER than '..Said'. Prove '..Said' where nothing that the law and all that it calls make is longer than what came in: it says more and counts as full. Else prove '..UptoSaid'. A law counts once. -/
mutual
def uptoBulk {H : Type} : DataW H → Nat
  | .lit (.string bytes) => bytes.length + 1
  | .lit _ => 1
  | .nil => 1
  | .ptr d => uptoBulk d + 1
  | .slice elems spare => uptoBulkAll elems + uptoBulkAll spare + 1
  | .agg parts => uptoBulkAll parts + 1
  | .iface _ d => uptoBulk d + 1
  | .map entries => uptoBulkEntries entries + 1
  | .held _ => 1
def uptoBulkAll {H : Type} : List (DataW H) → Nat
  | [] => 0
  | d :: r => uptoBulk d + uptoBulkAll r
def uptoBulkEntries {H : Type} : List (Lit × DataW H) → Nat
  | [] => 0
  | x :: r => uptoBulkEntry x + uptoBulkEntries r
def uptoBulkEntry {H : Type} : Lit × DataW H → Nat
  | (.string bytes, d) => bytes.length + uptoBulk d + 1
  | (_, d) => uptoBulk d + 1
 end
def uptoSmall : (H : Type) → List (DataW H) → Bool := fun _ ds => decide (uptoBulkAll ds ≤ 1048576)
def OpenSpec.upto (s : _root_.Go.ChangeSpec) : _root_.Go.OpenSpec := { _root_.Go.OpenSpec.ofChange s with cond := some uptoSmall }

/-- 'laws.FnExactValidLegs', WHERE WHAT IT READS IS OF BULK AT MOST 1048576: true; the input reads as it did. -/
def fnExactValidLegsUptoRow : OpenClaim := { program := "ythfinhdmdfekcaa", sum := "1560533dc25df09dbe8c33164bdc8b33a7f24f8a66640453e40533dd94214651", func := "loop.example/g01361/laws.FnExactValidLegs", spec := "fnExactValidLegs", unfollowed := true, recurses := true, apart := false, narrowed := true }
def FnExactValidLegsUptoSaid : Prop := fnExactValidLegsUptoRow.holds Try.pinned (OpenSpec.upto fnExactValidLegsSpec)

/-- 'laws.FnExactValidParties', WHERE WHAT IT READS IS OF BULK AT MOST 1048576: true; the input reads as it did. -/
def fnExactValidPartiesUptoRow : OpenClaim := { program := "ythfinhdmdfekcaa", sum := "1560533dc25df09dbe8c33164bdc8b33a7f24f8a66640453e40533dd94214651", func := "loop.example/g01361/laws.FnExactValidParties", spec := "fnExactValidParties", unfollowed := true, recurses := true, apart := false, narrowed := true }
def FnExactValidPartiesUptoSaid : Prop := fnExactValidPartiesUptoRow.holds Try.pinned (OpenSpec.upto fnExactValidPartiesSpec)

/-- 'laws.FnExactValidGuides', WHERE WHAT IT READS IS OF BULK AT MOST 1048576: true; the input reads as it did. -/
def fnExactValidGuidesUptoRow : OpenClaim := { program := "ythfinhdmdfekcaa", sum := "1560533dc25df09dbe8c33164bdc8b33a7f24f8a66640453e40533dd94214651", func := "loop.example/g01361/laws.FnExactValidGuides", spec := "fnExactValidGuides", unfollowed := true, recurses := true, apart := false, narrowed := true }
def FnExactValidGuidesUptoSaid : Prop := fnExactValidGuidesUptoRow.holds Try.pinned (OpenSpec.upto fnExactValidGuidesSpec)

/-- 'laws.FnExactCheckLeaders', WHERE WHAT IT READS IS OF BULK AT MOST 1048576: true; the input reads as it did. -/
def fnExactCheckLeadersUptoRow : OpenClaim := { program := "ythfinhdmdfekcaa", sum := "1560533dc25df09dbe8c33164bdc8b33a7f24f8a66640453e40533dd94214651", func := "loop.example/g01361/laws.FnExactCheckLeaders", spec := "fnExactCheckLeaders", unfollowed := true, recurses := true, apart := false, narrowed := true }
def FnExactCheckLeadersUptoSaid : Prop := fnExactCheckLeadersUptoRow.holds Try.pinned (OpenSpec.upto fnExactCheckLeadersSpec)

/-- 'laws.FnExactCountLeaders', WHERE WHAT IT READS IS OF BULK AT MOST 1048576: true; the input reads as it did. -/
def fnExactCountLeadersUptoRow : OpenClaim := { program := "ythfinhdmdfekcaa", sum := "1560533dc25df09dbe8c33164bdc8b33a7f24f8a66640453e40533dd94214651", func := "loop.example/g01361/laws.FnExactCountLeaders", spec := "fnExactCountLeaders", unfollowed := true, recurses := true, apart := false, narrowed := true }
def FnExactCountLeadersUptoSaid : Prop := fnExactCountLeadersUptoRow.holds Try.pinned (OpenSpec.upto fnExactCountLeadersSpec)

/-- 'laws.FnExactWaitingOf', WHERE WHAT IT READS IS OF BULK AT MOST 1048576: true; the input reads as it did. -/
def fnExactWaitingOfUptoRow : OpenClaim := { program := "ythfinhdmdfekcaa", sum := "1560533dc25df09dbe8c33164bdc8b33a7f24f8a66640453e40533dd94214651", func := "loop.example/g01361/laws.FnExactWaitingOf", spec := "fnExactWaitingOf", unfollowed := true, recurses := true, apart := false, narrowed := true }
def FnExactWaitingOfUptoSaid : Prop := fnExactWaitingOfUptoRow.holds Try.pinned (OpenSpec.upto fnExactWaitingOfSpec)

/-- 'laws.FnExactMinutesFor', WHERE WHAT IT READS IS OF BULK AT MOST 1048576: true; the input reads as it did. -/
def fnExactMinutesForUptoRow : OpenClaim := { program := "ythfinhdmdfekcaa", sum := "1560533dc25df09dbe8c33164bdc8b33a7f24f8a66640453e40533dd94214651", func := "loop.example/g01361/laws.FnExactMinutesFor", spec := "fnExactMinutesFor", unfollowed := true, recurses := true, apart := false, narrowed := true }
def FnExactMinutesForUptoSaid : Prop := fnExactMinutesForUptoRow.holds Try.pinned (OpenSpec.upto fnExactMinutesForSpec)

/-- 'laws.FnExactLongestWait', WHERE WHAT IT READS IS OF BULK AT MOST 1048576: true; the input reads as it did. -/
def fnExactLongestWaitUptoRow : OpenClaim := { program := "ythfinhdmdfekcaa", sum := "1560533dc25df09dbe8c33164bdc8b33a7f24f8a66640453e40533dd94214651", func := "loop.example/g01361/laws.FnExactLongestWait", spec := "fnExactLongestWait", unfollowed := true, recurses := true, apart := false, narrowed := true }
def FnExactLongestWaitUptoSaid : Prop := fnExactLongestWaitUptoRow.holds Try.pinned (OpenSpec.upto fnExactLongestWaitSpec)

/-- 'laws.FnExactDoorTimes', WHERE WHAT IT READS IS OF BULK AT MOST 1048576: true; the input reads as it did. -/
def fnExactDoorTimesUptoRow : OpenClaim := { program := "ythfinhdmdfekcaa", sum := "1560533dc25df09dbe8c33164bdc8b33a7f24f8a66640453e40533dd94214651", func := "loop.example/g01361/laws.FnExactDoorTimes", spec := "fnExactDoorTimes", unfollowed := true, recurses := true, apart := false, narrowed := true }
def FnExactDoorTimesUptoSaid : Prop := fnExactDoorTimesUptoRow.holds Try.pinned (OpenSpec.upto fnExactDoorTimesSpec)

/-- 'laws.FnExactBestDoor', WHERE WHAT IT READS IS OF BULK AT MOST 1048576: true; the input reads as it did. -/
def fnExactBestDoorUptoRow : OpenClaim := { program := "ythfinhdmdfekcaa", sum := "1560533dc25df09dbe8c33164bdc8b33a7f24f8a66640453e40533dd94214651", func := "loop.example/g01361/laws.FnExactBestDoor", spec := "fnExactBestDoor", unfollowed := true, recurses := true, apart := false, narrowed := true }
def FnExactBestDoorUptoSaid : Prop := fnExactBestDoorUptoRow.holds Try.pinned (OpenSpec.upto fnExactBestDoorSpec)

/-- 'laws.FnExactFirstLeaders', WHERE WHAT IT READS IS OF BULK AT MOST 1048576: true; the input reads as it did. -/
def fnExactFirstLeadersUptoRow : OpenClaim := { program := "ythfinhdmdfekcaa", sum := "1560533dc25df09dbe8c33164bdc8b33a7f24f8a66640453e40533dd94214651", func := "loop.example/g01361/laws.FnExactFirstLeaders", spec := "fnExactFirstLeaders", unfollowed := true, recurses := true, apart := false, narrowed := true }
def FnExactFirstLeadersUptoSaid : Prop := fnExactFirstLeadersUptoRow.holds Try.pinned (OpenSpec.upto fnExactFirstLeadersSpec)

/-- 'laws.FnExactFastestLeaders', WHERE WHAT IT READS IS OF BULK AT MOST 1048576: true; the input reads as it did. -/
def fnExactFastestLeadersUptoRow : OpenClaim := { program := "ythfinhdmdfekcaa", sum := "1560533dc25df09dbe8c33164bdc8b33a7f24f8a66640453e40533dd94214651", func := "loop.example/g01361/laws.FnExactFastestLeaders", spec := "fnExactFastestLeaders", unfollowed := true, recurses := true, apart := false, narrowed := true }
def FnExactFastestLeadersUptoSaid : Prop := fnExactFastestLeadersUptoRow.holds Try.pinned (OpenSpec.upto fnExactFastestLeadersSpec)

end Rows
end Go.Proofs.Ythfinhdmdfekcaa
