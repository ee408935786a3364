/- What the listed package-level variables give the walks (chapter 5's laws): Env; and the door's own heap meets the list. -/
import Derived.Test.YtnchfjhnacidlaaDoorLexProg
import Derived.Test.YtnchfjhnacidlaaDoorCards
import Derived.Test.YtnchfjhnacidlaaDoorTie
import Derived.ProofKit
import Derived.LaidMore
import Derived.OpenShut
import Derived.Stop.Joined
import Derived.Stop.LaidErr
import Derived.Lib.LaidTab
import Derived.Deep.DeepHandedRow
namespace Go.Proofs.YtnchfjhnacidlaaDoor
open Go.ChangeShapes Go.WideShapes Go.ChangeAt Go.RowKit

theorem own : ownKnob Tryd.prog.godebug = none := by kernel_rfl
theorem g0N : Tryd.prog.globalNamed "math/bits.deBruijn32tab" = some 6 := by kernel_rfl
theorem gPow : Tryd.prog.globalNamed "internal/strconv.uint64pow10" = some 5 := by kernel_rfl
theorem gRange : Tryd.prog.globalNamed "strconv.ErrRange" = some 4 := by kernel_rfl
theorem gSyntax : Tryd.prog.globalNamed "strconv.ErrSyntax" = some 3 := by kernel_rfl
theorem gSpace : Tryd.prog.globalNamed "strings.asciiSpace" = some 0 := by kernel_rfl
theorem tPow : (Tryd.prog.globals[5]?).map (·.type) = some 112 := by kernel_rfl
theorem tRange : (Tryd.prog.globals[4]?).map (·.type) = some 68 := by kernel_rfl
theorem tSyntax : (Tryd.prog.globals[3]?).map (·.type) = some 68 := by kernel_rfl
theorem tSpace : (Tryd.prog.globals[0]?).map (·.type) = some 63 := by kernel_rfl
theorem cPow : Tryd.prog.cellsOf 112 = 20 := by kernel_rfl
theorem cSpace : Tryd.prog.cellsOf 63 = 256 := by kernel_rfl
theorem cU64 : Tryd.prog.cellsOf 34 = 1 := by kernel_rfl
theorem cU8 : Tryd.prog.cellsOf 5 = 1 := by kernel_rfl
theorem cStr : Tryd.prog.cellsOf 9 = 1 := by kernel_rfl
theorem cErrS : Tryd.prog.cellsOf 118 = 1 := by kernel_rfl

theorem star : "*" ++ "errors.errorString" = "*errors.errorString" := by decide
theorem rowErr (u : TypeId) (h : Tryd.prog.typeName? 3 u = some "*errors.errorString") : u = 116 :=
  typeName_ptr_named (nm := "errors.errorString") (by rw [star]; kernel_rfl) (by kernel_rfl) (by decide) u (by rw [star]; exact h)
set_option maxRecDepth 100000 in
theorem spaceTab {W : World} (h : laidMet Tryd.prog [("strings.asciiSpace", Rows.laid_strings_asciiSpace)] W) : Lib.TabIs Tryd.prog W "strings.asciiSpace" .u8 Lib.asciiSpaceTab :=
  Lib.tabIs_of_head (rest := []) gSpace tSpace Tryd.underlying63 Tryd.underlying5 cU8 cSpace (by rw [show Lib.tabData (H := Unit) .u8 Lib.asciiSpaceTab = Rows.laid_strings_asciiSpace from by kernel_rfl]; exact h)
theorem env_of_laid {W : World} (h : laidMetH Tryd.prog Rows.lexTellsRow.laid W) : Env W := by
  rw [MakeChecks.laidMetH_plain _ _ _ (by kernel_rfl)] at h
  have h2 := h.tail.tail
  have h3 := h2.tail
  have h4 := h3.tail
  have h6 := h4.tail.tail
  refine ⟨spaceTab h6, Lib.tabIs_of_head gPow tPow Tryd.underlying112 Tryd.underlying34 cU64 cPow h2, ?_, ?_⟩
  · obtain ⟨a, s, hv, _, _, _⟩ := laid_sentinel h4 gSyntax tSyntax Tryd.underlying68 rowErr Tryd.underlying116 Tryd.underlying118 rfl rfl Tryd.underlying9 cErrS cStr
    exact ⟨_, _, hv⟩
  · obtain ⟨a, s, hv, _, _, _⟩ := laid_sentinel h3 gRange tRange Tryd.underlying68 rowErr Tryd.underlying116 Tryd.underlying118 rfl rfl Tryd.underlying9 cErrS cStr
    exact ⟨_, _, hv⟩

/-- The door's own heap meets the list. -/
theorem door_met (os : Os) (args : Array Value) : laidMetH Tryd.prog Rows.lexTellsRow.laid ((World.doorLaid Tryd.prog 86 os).forCall (fun _ _ => 0) ⟨#[], args, []⟩).memory :=
  laidMetH_of_parts3 (fuel := 8) (laidMet_of_run' 8 (by kernel_rfl) (by kernel_rfl)) (by kernel_rfl) (by kernel_rfl)
end Go.Proofs.YtnchfjhnacidlaaDoor
