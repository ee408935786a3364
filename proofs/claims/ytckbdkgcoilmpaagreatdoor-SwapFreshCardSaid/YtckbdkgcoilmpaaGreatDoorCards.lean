/-
  DERIVED. GIVEN WITH THE SEED: THE CARDS: each row of YtckbdkgcoilmpaaGreatDoorRows.lean that lists a variable, with what it lists TIED to the program's text (the seventh form; the later family's looks); each row that meets fmt, with fmt's text TOLD by the authors' own Lean function (tested against real Go, not proved from fmt's source: count such statements apart). THE CARD IS WHAT COUNTS. Prove the row's statement (the work); the ties are given (YtckbdkgcoilmpaaGreatDoorTie.lean); close each card by the builder's one call (the guide's Derived/Test/ToyasCard.lean, 'card_holds'). Laid BY PROGRAM, IN A SANDBOX (cutbox-door.mjs). By AI agents, Wed Nov 11 2026. No macro, syntax, notation, axiom, sorry.
-/
import Derived.Test.YtckbdkgcoilmpaaGreatDoorRows
import GoSem.ClaimSeven
namespace Go.Proofs.YtckbdkgcoilmpaaGreatDoor
namespace Rows

/-- THE TIED CARD OF 'clerestorylaw16.SwapSame'. -/
def swapSameCard : Claim7 := { stood := { row := swapSameRow, standIns := [], harness := (true, "d07f0a7871f209f5289bab0ca82cc83366eae6bc7d76112521f65148669c253e"), looks := true }, kinds := [], alts := [], laidByText := true, laidKinds := [.listed, .data], laidTests := true, laidLooks := .later }
def SwapSameCardSaid : Prop := Claim7.holds Tryz.pinned (.plain (OpenSpec.ofChange swapSameSpec)) swapSameCard

/-- THE TIED CARD OF 'clerestorylaw16.SwapThree'. -/
def swapThreeCard : Claim7 := { stood := { row := swapThreeRow, standIns := [], harness := (true, "d07f0a7871f209f5289bab0ca82cc83366eae6bc7d76112521f65148669c253e"), looks := true }, kinds := [], alts := [], laidByText := true, laidKinds := [.listed, .data], laidTests := true, laidLooks := .later }
def SwapThreeCardSaid : Prop := Claim7.holds Tryz.pinned (.plain (OpenSpec.ofChange swapThreeSpec)) swapThreeCard

/-- THE TIED CARD OF 'clerestorylaw16.SwapFresh'. -/
def swapFreshCard : Claim7 := { stood := { row := swapFreshRow, standIns := [], harness := (true, "d07f0a7871f209f5289bab0ca82cc83366eae6bc7d76112521f65148669c253e"), looks := true }, kinds := [], alts := [], laidByText := true, laidKinds := [.listed, .data], laidTests := true, laidLooks := .later }
def SwapFreshCardSaid : Prop := Claim7.holds Tryz.pinned (.plain (OpenSpec.ofChange swapFreshSpec)) swapFreshCard

/-- THE SECOND FORM's CARD OF 'clerestorylaw16.SwapSame'. -/
def swapSameUptoCard : Claim7 := { stood := { row := swapSameUptoRow, standIns := [], harness := (true, "d07f0a7871f209f5289bab0ca82cc83366eae6bc7d76112521f65148669c253e"), looks := true }, kinds := [], alts := [], laidByText := true, laidKinds := [.listed, .data], laidTests := true, laidLooks := .later }
def SwapSameUptoCardSaid : Prop := Claim7.holds Tryz.pinned (.plain (OpenSpec.upto swapSameSpec)) swapSameUptoCard

/-- THE SECOND FORM's CARD OF 'clerestorylaw16.SwapThree'. -/
def swapThreeUptoCard : Claim7 := { stood := { row := swapThreeUptoRow, standIns := [], harness := (true, "d07f0a7871f209f5289bab0ca82cc83366eae6bc7d76112521f65148669c253e"), looks := true }, kinds := [], alts := [], laidByText := true, laidKinds := [.listed, .data], laidTests := true, laidLooks := .later }
def SwapThreeUptoCardSaid : Prop := Claim7.holds Tryz.pinned (.plain (OpenSpec.upto swapThreeSpec)) swapThreeUptoCard

/-- THE SECOND FORM's CARD OF 'clerestorylaw16.SwapFresh'. -/
def swapFreshUptoCard : Claim7 := { stood := { row := swapFreshUptoRow, standIns := [], harness := (true, "d07f0a7871f209f5289bab0ca82cc83366eae6bc7d76112521f65148669c253e"), looks := true }, kinds := [], alts := [], laidByText := true, laidKinds := [.listed, .data], laidTests := true, laidLooks := .later }
def SwapFreshUptoCardSaid : Prop := Claim7.holds Tryz.pinned (.plain (OpenSpec.upto swapFreshSpec)) swapFreshUptoCard
end Rows
end Go.Proofs.YtckbdkgcoilmpaaGreatDoor
