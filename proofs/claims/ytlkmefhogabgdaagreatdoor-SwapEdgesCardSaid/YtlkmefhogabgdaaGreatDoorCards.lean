/-
  DERIVED. GIVEN WITH THE SEED: THE CARDS: each row of YtlkmefhogabgdaaGreatDoorRows.lean that lists a variable, with what it lists TIED to the program's text (the seventh form; the later family's looks); each row that meets fmt, with fmt's text TOLD by the authors' own Lean function (tested against real Go, not proved from fmt's source: count such statements apart). THE CARD IS WHAT COUNTS. Prove the row's statement (the work); the ties are given (YtlkmefhogabgdaaGreatDoorTie.lean); close each card by the builder's one call (the guide's Derived/Test/ToyasCard.lean, 'card_holds'). Laid BY PROGRAM, IN A SANDBOX (cutbox-door.mjs). By AI agents, Wed Nov 11 2026. No macro, syntax, notation, axiom, sorry.
-/
import Derived.Test.YtlkmefhogabgdaaGreatDoorRows
import GoSem.ClaimSeven
namespace Go.Proofs.YtlkmefhogabgdaaGreatDoor
namespace Rows

/-- THE TIED CARD OF 'clerestorylaw16.SwapTells'. -/
def swapTellsCard : Claim7 := { stood := { row := swapTellsRow, standIns := [], harness := (true, "b76d6fa77bbf1adf3821b938a9946fe58c9b798d4ad9cf785718f3ce3b19a9ab"), looks := false }, kinds := [], alts := [], laidByText := true, laidKinds := [.listed, .data], laidTests := true, laidLooks := .later }
def SwapTellsCardSaid : Prop := Claim7.holds Tryz.pinned (.plain (OpenSpec.ofChange swapTellsSpec)) swapTellsCard

/-- THE TIED CARD OF 'clerestorylaw16.SwapEdges'. -/
def swapEdgesCard : Claim7 := { stood := { row := swapEdgesRow, standIns := [], harness := (true, "b76d6fa77bbf1adf3821b938a9946fe58c9b798d4ad9cf785718f3ce3b19a9ab"), looks := false }, kinds := [], alts := [], laidByText := true, laidKinds := [.listed, .data], laidTests := true, laidLooks := .later }
def SwapEdgesCardSaid : Prop := Claim7.holds Tryz.pinned (.plain (OpenSpec.ofChange swapEdgesSpec)) swapEdgesCard

/-- THE SECOND FORM's CARD OF 'clerestorylaw16.SwapTells'. -/
def swapTellsUptoCard : Claim7 := { stood := { row := swapTellsUptoRow, standIns := [], harness := (true, "b76d6fa77bbf1adf3821b938a9946fe58c9b798d4ad9cf785718f3ce3b19a9ab"), looks := false }, kinds := [], alts := [], laidByText := true, laidKinds := [.listed, .data], laidTests := true, laidLooks := .later }
def SwapTellsUptoCardSaid : Prop := Claim7.holds Tryz.pinned (.plain (OpenSpec.upto swapTellsSpec)) swapTellsUptoCard

/-- THE SECOND FORM's CARD OF 'clerestorylaw16.SwapEdges'. -/
def swapEdgesUptoCard : Claim7 := { stood := { row := swapEdgesUptoRow, standIns := [], harness := (true, "b76d6fa77bbf1adf3821b938a9946fe58c9b798d4ad9cf785718f3ce3b19a9ab"), looks := false }, kinds := [], alts := [], laidByText := true, laidKinds := [.listed, .data], laidTests := true, laidLooks := .later }
def SwapEdgesUptoCardSaid : Prop := Claim7.holds Tryz.pinned (.plain (OpenSpec.upto swapEdgesSpec)) swapEdgesUptoCard
end Rows
end Go.Proofs.YtlkmefhogabgdaaGreatDoor
