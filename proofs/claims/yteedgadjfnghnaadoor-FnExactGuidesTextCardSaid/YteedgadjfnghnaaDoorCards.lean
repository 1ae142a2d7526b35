/-
  DERIVED. GIVEN WITH THE SEED: THE CARDS: each row of YteedgadjfnghnaaDoorRows.lean that lists a variable, with what it lists TIED to the program's text (the seventh form; the later family's looks); each row that meets fmt, with fmt's text TOLD by the authors' own Lean function (tested against real Go, not proved from fmt's source: count such statements apart). THE CARD IS WHAT COUNTS. Prove the row's statement (the work); the ties are given (YteedgadjfnghnaaDoorTie.lean); close each card by the builder's one call (the guide's Derived/Test/ToyasCard.lean, 'card_holds'). Laid BY PROGRAM, IN A SANDBOX (cutbox-door.mjs). By AI agents, Wed Nov 11 2026. No macro, syntax, notation, axiom, sorry.
-/
import Derived.Test.YteedgadjfnghnaaDoorRows
import GoSem.ClaimSeven
namespace Go.Proofs.YteedgadjfnghnaaDoor
namespace Rows

/-- THE TIED CARD OF 'laws.FnExactGuidesText'. -/
def fnExactGuidesTextCard : Claim7 := { stood := { row := fnExactGuidesTextRow, standIns := [], harness := (true, "757e33cf3e50be3301a17a3f240cbf99fa7ef7640e59348d76b1d4717a753546"), looks := true }, kinds := [], alts := [], laidByText := true, laidKinds := [.data, .data, .data], laidTests := true, laidLooks := .later }
def FnExactGuidesTextCardSaid : Prop := Claim7.holds Tryd.pinned (.plain (OpenSpec.ofChange fnExactGuidesTextSpec)) fnExactGuidesTextCard

/-- THE TIED CARD OF 'laws.FnExactReadGuides'. -/
def fnExactReadGuidesCard : Claim7 := { stood := { row := fnExactReadGuidesRow, standIns := [], harness := (true, "757e33cf3e50be3301a17a3f240cbf99fa7ef7640e59348d76b1d4717a753546"), looks := true }, kinds := [], alts := [], laidByText := true, laidKinds := [.data, .data, .data, .data, .sentinel, .sentinel, .pinned], laidTests := true, laidLooks := .later }
def FnExactReadGuidesCardSaid : Prop := Claim7.holds Tryd.pinned (.plain (OpenSpec.ofChange fnExactReadGuidesSpec)) fnExactReadGuidesCard

/-- THE SECOND FORM's CARD OF 'laws.FnExactGuidesText'. -/
def fnExactGuidesTextUptoCard : Claim7 := { stood := { row := fnExactGuidesTextUptoRow, standIns := [], harness := (true, "757e33cf3e50be3301a17a3f240cbf99fa7ef7640e59348d76b1d4717a753546"), looks := true }, kinds := [], alts := [], laidByText := true, laidKinds := [.data, .data, .data], laidTests := true, laidLooks := .later }
def FnExactGuidesTextUptoCardSaid : Prop := Claim7.holds Tryd.pinned (.plain (OpenSpec.upto fnExactGuidesTextSpec)) fnExactGuidesTextUptoCard

/-- THE SECOND FORM's CARD OF 'laws.FnExactReadGuides'. -/
def fnExactReadGuidesUptoCard : Claim7 := { stood := { row := fnExactReadGuidesUptoRow, standIns := [], harness := (true, "757e33cf3e50be3301a17a3f240cbf99fa7ef7640e59348d76b1d4717a753546"), looks := true }, kinds := [], alts := [], laidByText := true, laidKinds := [.data, .data, .data, .data, .sentinel, .sentinel, .pinned], laidTests := true, laidLooks := .later }
def FnExactReadGuidesUptoCardSaid : Prop := Claim7.holds Tryd.pinned (.plain (OpenSpec.upto fnExactReadGuidesSpec)) fnExactReadGuidesUptoCard
end Rows
end Go.Proofs.YteedgadjfnghnaaDoor
