/-
  DERIVED. GIVEN WITH THE SEED: THE CARDS: each row of YtmikjhohnfcedaaGreatDoorRows.lean that lists a variable, with what it lists TIED to the program's text (the seventh form; the later family's looks); each row that meets fmt, with fmt's text TOLD by the authors' own Lean function (tested against real Go, not proved from fmt's source: count such statements apart). THE CARD IS WHAT COUNTS. Prove the row's statement (the work); the ties are given (YtmikjhohnfcedaaGreatDoorTie.lean); close each card by the builder's one call (the guide's Derived/Test/ToyasCard.lean, 'card_holds'). Laid BY PROGRAM, IN A SANDBOX (cutbox-door.mjs). By AI agents, Wed Nov 11 2026. No macro, syntax, notation, axiom, sorry.
-/
import Derived.Test.YtmikjhohnfcedaaGreatDoorRows
import GoSem.ClaimSeven
namespace Go.Proofs.YtmikjhohnfcedaaGreatDoor
namespace Rows

/-- THE TIED CARD OF 'clerestorylaw16.SwapBack'. -/
def swapBackCard : Claim7 := { stood := { row := swapBackRow, standIns := [], harness := (true, "f0660b545de01b02d0f8a5ad85a89798f8e084f151b73195bc694e17796a920b"), looks := false }, kinds := [], alts := [], laidByText := true, laidKinds := [.listed, .data], laidTests := true, laidLooks := .later }
def SwapBackCardSaid : Prop := Claim7.holds Tryz.pinned (.plain (OpenSpec.ofChange swapBackSpec)) swapBackCard

/-- THE TIED CARD OF 'clerestorylaw16.SwapApart'. -/
def swapApartCard : Claim7 := { stood := { row := swapApartRow, standIns := [], harness := (true, "f0660b545de01b02d0f8a5ad85a89798f8e084f151b73195bc694e17796a920b"), looks := false }, kinds := [], alts := [], laidByText := true, laidKinds := [.listed, .data], laidTests := true, laidLooks := .later }
def SwapApartCardSaid : Prop := Claim7.holds Tryz.pinned (.plain (OpenSpec.ofChange swapApartSpec)) swapApartCard

/-- THE SECOND FORM's CARD OF 'clerestorylaw16.SwapBack'. -/
def swapBackUptoCard : Claim7 := { stood := { row := swapBackUptoRow, standIns := [], harness := (true, "f0660b545de01b02d0f8a5ad85a89798f8e084f151b73195bc694e17796a920b"), looks := false }, kinds := [], alts := [], laidByText := true, laidKinds := [.listed, .data], laidTests := true, laidLooks := .later }
def SwapBackUptoCardSaid : Prop := Claim7.holds Tryz.pinned (.plain (OpenSpec.upto swapBackSpec)) swapBackUptoCard

/-- THE SECOND FORM's CARD OF 'clerestorylaw16.SwapApart'. -/
def swapApartUptoCard : Claim7 := { stood := { row := swapApartUptoRow, standIns := [], harness := (true, "f0660b545de01b02d0f8a5ad85a89798f8e084f151b73195bc694e17796a920b"), looks := false }, kinds := [], alts := [], laidByText := true, laidKinds := [.listed, .data], laidTests := true, laidLooks := .later }
def SwapApartUptoCardSaid : Prop := Claim7.holds Tryz.pinned (.plain (OpenSpec.upto swapApartSpec)) swapApartUptoCard
end Rows
end Go.Proofs.YtmikjhohnfcedaaGreatDoor
