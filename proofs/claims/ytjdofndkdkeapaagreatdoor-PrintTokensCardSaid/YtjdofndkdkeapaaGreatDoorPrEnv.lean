/- What the listed package-level variables give the walks of chapter 8; an argument of the type Node opened and shut. -/
import Derived.Test.YtjdofndkdkeapaaGreatDoorPrOpen
import Derived.Test.YtjdofndkdkeapaaGreatDoorLexProg
import Derived.Carry
import Derived.Test.YtjdofndkdkeapaaGreatDoorCards
import Derived.Test.YtjdofndkdkeapaaGreatDoorTie
import Derived.ProofKit
import Derived.LaidMore
import Derived.OpenShut
import Derived.Stop.Joined
import Derived.Stop.LaidErr
import Derived.Lib.LaidTab
import Derived.Deep.DeepHandedRow
namespace Go.Proofs.YtjdofndkdkeapaaGreatDoor
open Go.ChangeShapes Go.WideShapes Go.ChangeAt Go.RowKit

theorem own : ownKnob Tryz.prog.godebug = none := by kernel_rfl
theorem g0N : Tryz.prog.globalNamed "math/bits.deBruijn32tab" = some 6 := by kernel_rfl
theorem gPow : Tryz.prog.globalNamed "internal/strconv.uint64pow10" = some 5 := by kernel_rfl
theorem gRange : Tryz.prog.globalNamed "strconv.ErrRange" = some 4 := by kernel_rfl
theorem gSyntax : Tryz.prog.globalNamed "strconv.ErrSyntax" = some 3 := by kernel_rfl
theorem gSpace : Tryz.prog.globalNamed "strings.asciiSpace" = some 0 := by kernel_rfl
theorem tPow : (Tryz.prog.globals[5]?).map (·.type) = some 165 := by kernel_rfl
theorem tRange : (Tryz.prog.globals[4]?).map (·.type) = some 100 := by kernel_rfl
theorem tSyntax : (Tryz.prog.globals[3]?).map (·.type) = some 100 := by kernel_rfl
theorem tSpace : (Tryz.prog.globals[0]?).map (·.type) = some 104 := by kernel_rfl
theorem cPow : Tryz.prog.cellsOf 165 = 20 := by kernel_rfl
theorem cSpace : Tryz.prog.cellsOf 104 = 256 := by kernel_rfl
theorem cU64 : Tryz.prog.cellsOf 132 = 1 := by kernel_rfl
theorem cU8p : Tryz.prog.cellsOf 5 = 1 := by kernel_rfl
theorem cStr : Tryz.prog.cellsOf 9 = 1 := by kernel_rfl
theorem cErrS : Tryz.prog.cellsOf 179 = 1 := by kernel_rfl

theorem star : "*" ++ "errors.errorString" = "*errors.errorString" := by decide
theorem rowErr (u : TypeId) (h : Tryz.prog.typeName? 3 u = some "*errors.errorString") : u = 177 :=
  typeName_ptr_named (nm := "errors.errorString") (by rw [star]; kernel_rfl) (by kernel_rfl) (by decide) u (by rw [star]; exact h)
set_option maxRecDepth 100000 in
theorem spaceTab {W : World} (h : laidMet Tryz.prog [("strings.asciiSpace", Rows.laid_strings_asciiSpace)] W) : Lib.TabIs Tryz.prog W "strings.asciiSpace" .u8 Lib.asciiSpaceTab :=
  Lib.tabIs_of_head (rest := []) gSpace tSpace Tryz.underlying104 Tryz.underlying5 cU8p cSpace (by rw [show Lib.tabData (H := Unit) .u8 Lib.asciiSpaceTab = Rows.laid_strings_asciiSpace from by kernel_rfl]; exact h)
theorem env_of_laid {W : World} (h : laidMetH Tryz.prog Rows.printTokensRow.laid W) : Lx.Env W := by
  rw [MakeChecks.laidMetH_plain _ _ _ (by kernel_rfl)] at h
  have h2 := h.tail.tail
  have h3 := h2.tail
  have h4 := h3.tail
  have h6 := h4.tail.tail
  refine ⟨spaceTab h6, Lib.tabIs_of_head gPow tPow Tryz.underlying165 Tryz.underlying132 cU64 cPow h2, ?_, ?_⟩
  · obtain ⟨a, s, hv, _, _, _⟩ := laid_sentinel h4 gSyntax tSyntax Tryz.underlying100 rowErr Tryz.underlying177 Tryz.underlying179 rfl rfl Tryz.underlying9 cErrS cStr
    exact ⟨_, _, hv⟩
  · obtain ⟨a, s, hv, _, _, _⟩ := laid_sentinel h3 gRange tRange Tryz.underlying100 rowErr Tryz.underlying177 Tryz.underlying179 rfl rfl Tryz.underlying9 cErrS cStr
    exact ⟨_, _, hv⟩

/-- The door's own heap meets the list. -/
theorem door_met (os : Os) (args : Array Value) : laidMetH Tryz.prog Rows.printTokensRow.laid ((World.doorLaid Tryz.prog 86 os).forCall (fun _ _ => 0) ⟨#[], args, []⟩).memory :=
  laidMetH_of_parts3 (fuel := 8) (laidMet_of_run' 8 (by kernel_rfl) (by kernel_rfl)) (by kernel_rfl) (by kernel_rfl)
theorem laidOut : laidOutB Tryz.prog = true := by kernel_rfl
theorem readNode : Tryz.prog.readableRec 25 = true := by kernel_rfl
theorem rowNode : 25 < Tryz.prog.types.size := of_decide_eq_true (by kernel_rfl)
section
variable {H : Type} {enc : TypeId × Value → H}
set_option maxRecDepth 20000 in
/-- An argument of the type Node: its value written out, what it is, and that it is small enough for the walk. -/
theorem arg_node {W : World} {r : Reach} {base : Nat} {v : Value} {d : DataW H} {ps : List MemPlace} (hv : Value.okWide Tryz.prog W r base 25 v) (h : DataW.Trod enc Tryz.prog W 0 (fun _ => true) true 25 v d ps) :
    ∃ (t : Tree) (A : Option Addr) (c : Nat), v = .agg #[.int .u8 t.kind, .string (sb t.text), .int .i64 t.num, .slice A t.kids.length c] ∧ NodeIs W t t.kind (sb t.text) t.num A t.kids.length c ∧ ((∀ z ∈ d.weights Tryz.prog 25, z ≤ reachBytes) → t.short LL) := by
  obtain ⟨cs, rfl, _⟩ := okWide_struct Tryz.underlying25 hv
  obtain ⟨n, hn⟩ := h
  obtain ⟨t, ⟨A, c, hcs, hK, b1, b2, b3⟩, hf⟩ := open_node n _ _ hn
  have h2 : cs.toList = [.int .u8 t.kind, .string (sb t.text), .int .i64 t.num, .slice A t.kids.length c] := hcs
  refine ⟨t, A, c, ?_, ?_, hf⟩
  · rw [← Array.toArray_toList (xs := cs), h2]
  · obtain ⟨k, s, x, ks⟩ := t
    exact ⟨ks, rfl, b1, by have b2' : s.length ≤ maxLen := b2; show s.toArray.size ≤ _; simpa using b2', b3, hK⟩
theorem node_stays {W W' : World} {v : Value} {d : DataW H} {ps : List MemPlace} (h : DataW.Trod enc Tryz.prog W 0 (fun _ => true) true 25 v d ps) (hb : Below W.heap.size W W') (hlt : ∀ x ∈ ps, x.block < W.heap.size) :
    DataW.Trod enc Tryz.prog W' 0 (fun b => decide (b < W.heap.size)) true 25 v d ps := Below.trod laidOut readNode rowNode h hb hlt
end
end Go.Proofs.YtjdofndkdkeapaaGreatDoor
