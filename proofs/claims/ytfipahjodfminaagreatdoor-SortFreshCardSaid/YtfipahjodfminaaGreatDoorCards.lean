/-
  DERIVED. GIVEN WITH THE SEED: THE CARDS: each row of YtfipahjodfminaaGreatDoorRows.lean that lists a variable, with what it lists TIED to the program's text (the seventh form; the later family's looks); each row that meets fmt, with fmt's text TOLD by the authors' own Lean function (tested against real Go, not proved from fmt's source: count such statements apart). THE CARD IS WHAT COUNTS. Prove the row's statement (the work); the ties are given (YtfipahjodfminaaGreatDoorTie.lean); close each card by the builder's one call (the guide's Derived/Test/ToyasCard.lean, 'card_holds'). Laid BY PROGRAM, IN A SANDBOX (cutbox-door.mjs). By AI agents, Wed Nov 11 2026. No macro, syntax, notation, axiom, sorry.
-/
import Derived.Test.YtfipahjodfminaaGreatDoorRows
import GoSem.ClaimSeven
namespace Go.Proofs.YtfipahjodfminaaGreatDoor
namespace Rows

/-- THE TIED CARD OF 'clerestorylaw15.SortTells'. -/
def sortTellsCard : Claim7 := { stood := { row := sortTellsRow, standIns := [], harness := (true, "9d3680833721fe8fa4ac4057cd249500beca39e21ce5b1e602afd53d59b5bc17"), looks := true }, kinds := [], alts := [], laidByText := true, laidKinds := [.listed, .data], laidTests := true, laidLooks := .later }
def SortTellsCardSaid : Prop := Claim7.holds Tryz.pinned (.plain (OpenSpec.ofChange sortTellsSpec)) sortTellsCard

/-- THE TIED CARD OF 'clerestorylaw15.SortNumbers'. -/
def sortNumbersCard : Claim7 := { stood := { row := sortNumbersRow, standIns := [], harness := (true, "9d3680833721fe8fa4ac4057cd249500beca39e21ce5b1e602afd53d59b5bc17"), looks := true }, kinds := [], alts := [], laidByText := true, laidKinds := [.listed, .data], laidTests := true, laidLooks := .later }
def SortNumbersCardSaid : Prop := Claim7.holds Tryz.pinned (.plain (OpenSpec.ofChange sortNumbersSpec)) sortNumbersCard

/-- THE TIED CARD OF 'clerestorylaw15.SortFresh'. -/
def sortFreshCard : Claim7 := { stood := { row := sortFreshRow, standIns := [], harness := (true, "9d3680833721fe8fa4ac4057cd249500beca39e21ce5b1e602afd53d59b5bc17"), looks := true }, kinds := [], alts := [], laidByText := true, laidKinds := [.listed, .data], laidTests := true, laidLooks := .later }
def SortFreshCardSaid : Prop := Claim7.holds Tryz.pinned (.plain (OpenSpec.ofChange sortFreshSpec)) sortFreshCard

/-- THE TIED CARD OF 'clerestorylaw15.SortBack'. -/
def sortBackCard : Claim7 := { stood := { row := sortBackRow, standIns := [], harness := (true, "9d3680833721fe8fa4ac4057cd249500beca39e21ce5b1e602afd53d59b5bc17"), looks := true }, kinds := [], alts := [], laidByText := true, laidKinds := [.listed, .data], laidTests := true, laidLooks := .later }
def SortBackCardSaid : Prop := Claim7.holds Tryz.pinned (.plain (OpenSpec.ofChange sortBackSpec)) sortBackCard

/-- THE SECOND FORM's CARD OF 'clerestorylaw15.SortTells'. -/
def sortTellsUptoCard : Claim7 := { stood := { row := sortTellsUptoRow, standIns := [], harness := (true, "9d3680833721fe8fa4ac4057cd249500beca39e21ce5b1e602afd53d59b5bc17"), looks := true }, kinds := [], alts := [], laidByText := true, laidKinds := [.listed, .data], laidTests := true, laidLooks := .later }
def SortTellsUptoCardSaid : Prop := Claim7.holds Tryz.pinned (.plain (OpenSpec.upto sortTellsSpec)) sortTellsUptoCard

/-- THE SECOND FORM's CARD OF 'clerestorylaw15.SortNumbers'. -/
def sortNumbersUptoCard : Claim7 := { stood := { row := sortNumbersUptoRow, standIns := [], harness := (true, "9d3680833721fe8fa4ac4057cd249500beca39e21ce5b1e602afd53d59b5bc17"), looks := true }, kinds := [], alts := [], laidByText := true, laidKinds := [.listed, .data], laidTests := true, laidLooks := .later }
def SortNumbersUptoCardSaid : Prop := Claim7.holds Tryz.pinned (.plain (OpenSpec.upto sortNumbersSpec)) sortNumbersUptoCard

/-- THE SECOND FORM's CARD OF 'clerestorylaw15.SortFresh'. -/
def sortFreshUptoCard : Claim7 := { stood := { row := sortFreshUptoRow, standIns := [], harness := (true, "9d3680833721fe8fa4ac4057cd249500beca39e21ce5b1e602afd53d59b5bc17"), looks := true }, kinds := [], alts := [], laidByText := true, laidKinds := [.listed, .data], laidTests := true, laidLooks := .later }
def SortFreshUptoCardSaid : Prop := Claim7.holds Tryz.pinned (.plain (OpenSpec.upto sortFreshSpec)) sortFreshUptoCard

/-- THE SECOND FORM's CARD OF 'clerestorylaw15.SortBack'. -/
def sortBackUptoCard : Claim7 := { stood := { row := sortBackUptoRow, standIns := [], harness := (true, "9d3680833721fe8fa4ac4057cd249500beca39e21ce5b1e602afd53d59b5bc17"), looks := true }, kinds := [], alts := [], laidByText := true, laidKinds := [.listed, .data], laidTests := true, laidLooks := .later }
def SortBackUptoCardSaid : Prop := Claim7.holds Tryz.pinned (.plain (OpenSpec.upto sortBackSpec)) sortBackUptoCard
end Rows
end Go.Proofs.YtfipahjodfminaaGreatDoor
