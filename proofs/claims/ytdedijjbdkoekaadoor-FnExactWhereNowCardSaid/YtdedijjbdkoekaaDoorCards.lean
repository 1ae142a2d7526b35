/-
  DERIVED. GIVEN WITH THE SEED: THE CARDS: each row of YtdedijjbdkoekaaDoorRows.lean that lists a variable, with what it lists TIED to the program's text (the seventh form; the later family's looks); each row that meets fmt, with fmt's text TOLD by the authors' own Lean function (tested against real Go, not proved from fmt's source: count such statements apart). THE CARD IS WHAT COUNTS. Prove the row's statement (the work); the ties are given (YtdedijjbdkoekaaDoorTie.lean); close each card by the builder's one call (the guide's Derived/Test/ToyasCard.lean, 'card_holds'). Laid BY PROGRAM, IN A SANDBOX (cutbox-door.mjs). By AI agents, Wed Nov 11 2026. No macro, syntax, notation, axiom, sorry.
-/
import Derived.Test.YtdedijjbdkoekaaDoorRows
import GoSem.ClaimSeven
namespace Go.Proofs.YtdedijjbdkoekaaDoor
namespace Rows

/-- THE TIED CARD OF 'laws.FnExactWhereBegun'. -/
def fnExactWhereBegunCard : Claim7 := { stood := { row := fnExactWhereBegunRow, standIns := [], harness := (true, "e42de06e2884c5b87839127fa959614da09cc71e2411342c96ad45a2b12fbad3"), looks := false }, kinds := [], alts := [], laidByText := true, laidKinds := [.data, .pinned], laidTests := true, laidLooks := .later }
def FnExactWhereBegunCardSaid : Prop := Claim7.holds Tryd.pinned (.plain (OpenSpec.ofChange fnExactWhereBegunSpec)) fnExactWhereBegunCard

/-- THE TIED CARD OF 'laws.FnExactMoveCrowd'. -/
def fnExactMoveCrowdCard : Claim7 := { stood := { row := fnExactMoveCrowdRow, standIns := [], harness := (true, "e42de06e2884c5b87839127fa959614da09cc71e2411342c96ad45a2b12fbad3"), looks := false }, kinds := [], alts := [], laidByText := true, laidKinds := [.data, .pinned], laidTests := true, laidLooks := .later }
def FnExactMoveCrowdCardSaid : Prop := Claim7.holds Tryd.pinned (.plain (OpenSpec.ofChange fnExactMoveCrowdSpec)) fnExactMoveCrowdCard

/-- THE TIED CARD OF 'laws.FnExactMovesCrowd'. -/
def fnExactMovesCrowdCard : Claim7 := { stood := { row := fnExactMovesCrowdRow, standIns := [], harness := (true, "e42de06e2884c5b87839127fa959614da09cc71e2411342c96ad45a2b12fbad3"), looks := false }, kinds := [], alts := [], laidByText := true, laidKinds := [.data, .pinned], laidTests := true, laidLooks := .later }
def FnExactMovesCrowdCardSaid : Prop := Claim7.holds Tryd.pinned (.plain (OpenSpec.ofChange fnExactMovesCrowdSpec)) fnExactMovesCrowdCard

/-- THE TIED CARD OF 'laws.FnExactWhereNow'. -/
def fnExactWhereNowCard : Claim7 := { stood := { row := fnExactWhereNowRow, standIns := [], harness := (true, "e42de06e2884c5b87839127fa959614da09cc71e2411342c96ad45a2b12fbad3"), looks := false }, kinds := [], alts := [], laidByText := true, laidKinds := [.data, .pinned], laidTests := true, laidLooks := .later }
def FnExactWhereNowCardSaid : Prop := Claim7.holds Tryd.pinned (.plain (OpenSpec.ofChange fnExactWhereNowSpec)) fnExactWhereNowCard

/-- THE SECOND FORM's CARD OF 'laws.FnExactWhereBegun'. -/
def fnExactWhereBegunUptoCard : Claim7 := { stood := { row := fnExactWhereBegunUptoRow, standIns := [], harness := (true, "e42de06e2884c5b87839127fa959614da09cc71e2411342c96ad45a2b12fbad3"), looks := false }, kinds := [], alts := [], laidByText := true, laidKinds := [.data, .pinned], laidTests := true, laidLooks := .later }
def FnExactWhereBegunUptoCardSaid : Prop := Claim7.holds Tryd.pinned (.plain (OpenSpec.upto fnExactWhereBegunSpec)) fnExactWhereBegunUptoCard

/-- THE SECOND FORM's CARD OF 'laws.FnExactMoveCrowd'. -/
def fnExactMoveCrowdUptoCard : Claim7 := { stood := { row := fnExactMoveCrowdUptoRow, standIns := [], harness := (true, "e42de06e2884c5b87839127fa959614da09cc71e2411342c96ad45a2b12fbad3"), looks := false }, kinds := [], alts := [], laidByText := true, laidKinds := [.data, .pinned], laidTests := true, laidLooks := .later }
def FnExactMoveCrowdUptoCardSaid : Prop := Claim7.holds Tryd.pinned (.plain (OpenSpec.upto fnExactMoveCrowdSpec)) fnExactMoveCrowdUptoCard

/-- THE SECOND FORM's CARD OF 'laws.FnExactMovesCrowd'. -/
def fnExactMovesCrowdUptoCard : Claim7 := { stood := { row := fnExactMovesCrowdUptoRow, standIns := [], harness := (true, "e42de06e2884c5b87839127fa959614da09cc71e2411342c96ad45a2b12fbad3"), looks := false }, kinds := [], alts := [], laidByText := true, laidKinds := [.data, .pinned], laidTests := true, laidLooks := .later }
def FnExactMovesCrowdUptoCardSaid : Prop := Claim7.holds Tryd.pinned (.plain (OpenSpec.upto fnExactMovesCrowdSpec)) fnExactMovesCrowdUptoCard

/-- THE SECOND FORM's CARD OF 'laws.FnExactWhereNow'. -/
def fnExactWhereNowUptoCard : Claim7 := { stood := { row := fnExactWhereNowUptoRow, standIns := [], harness := (true, "e42de06e2884c5b87839127fa959614da09cc71e2411342c96ad45a2b12fbad3"), looks := false }, kinds := [], alts := [], laidByText := true, laidKinds := [.data, .pinned], laidTests := true, laidLooks := .later }
def FnExactWhereNowUptoCardSaid : Prop := Claim7.holds Tryd.pinned (.plain (OpenSpec.upto fnExactWhereNowSpec)) fnExactWhereNowUptoCard
end Rows
end Go.Proofs.YtdedijjbdkoekaaDoor
