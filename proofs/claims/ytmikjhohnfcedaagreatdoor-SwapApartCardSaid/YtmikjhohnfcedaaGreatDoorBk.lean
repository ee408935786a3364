/- What the listed package-level variables give the walks of chapter 16; an argument of the type Edit opened and shut.
   From the memory's reading to the walk over the law SwapBack: its row and its tied card. -/
import Derived.Test.YtmikjhohnfcedaaGreatDoorBkR
import Derived.Test.YtmikjhohnfcedaaGreatDoorCards
import Derived.Test.YtmikjhohnfcedaaGreatDoorTie
import Derived.ProofKit
import Derived.LaidMore
import Derived.OpenShut
import Derived.Carry
import Derived.Stop.Joined
import Derived.Stop.LaidErr
import Derived.Lib.LaidTab
import Derived.Deep.DeepHandedRow
namespace Go.Proofs.YtmikjhohnfcedaaGreatDoor
set_option linter.unusedSimpArgs false
set_option linter.unusedVariables false
open Go.ChangeShapes Go.WideShapes Go.ChangeAt Go.RowKit
set_option linter.unusedSimpArgs false
set_option linter.unusedVariables false

theorem own : ownKnob Tryz.prog.godebug = none := by kernel_rfl
theorem gSpace : Tryz.prog.globalNamed "strings.asciiSpace" = some 0 := by kernel_rfl
theorem tSpace : (Tryz.prog.globals[0]?).map (·.type) = some 131 := by kernel_rfl
theorem cSpace : Tryz.prog.cellsOf 131 = 256 := by kernel_rfl
theorem cU8 : Tryz.prog.cellsOf 5 = 1 := by kernel_rfl
theorem laidOut : laidOutB Tryz.prog = true := by kernel_rfl
theorem readEdit : Tryz.prog.readableRec 26 = true := by kernel_rfl
theorem rowEdit : 26 < Tryz.prog.types.size := of_decide_eq_true (by kernel_rfl)
set_option maxRecDepth 100000 in
theorem spaceTab {W : World} (h : laidMet Tryz.prog [("strings.asciiSpace", Rows.laid_strings_asciiSpace)] W) : Lib.TabIs Tryz.prog W "strings.asciiSpace" .u8 Lib.asciiSpaceTab :=
  Lib.tabIs_of_head (rest := []) gSpace tSpace Tryz.underlying131 Tryz.underlying5 cU8 cSpace (by rw [show Lib.tabData (H := Unit) .u8 Lib.asciiSpaceTab = Rows.laid_strings_asciiSpace from by kernel_rfl]; exact h)
theorem laid_plain {P : Program} {l : List (String × DataW Unit)} {w : World} (h : (l.all fun x => x.2.handleName?.isNone) = true) (hm : laidMetH P l w) : laidMet P l w := by
  rw [MakeChecks.laidMetH_plain P l w h] at hm; exact hm
set_option maxRecDepth 100000 in
theorem env_of_laidS {W : World} (h : laidMetH Tryz.prog Rows.swapBackRow.laid W) : EnvS W := by
  exact ⟨spaceTab (laid_plain (by kernel_rfl) h).tail⟩
section
variable {H : Type} {enc : TypeId × Value → H}
set_option maxRecDepth 20000 in
/-- An argument of the type Edit: its value written out, what it is, and that it is small enough for the walk. -/
theorem arg_edit {W : World} {r : Reach} {base : Nat} {v : Value} {d : DataW H} {ps : List MemPlace} (hv : Value.okWide Tryz.prog W r base 26 v) (h : DataW.Trod enc Tryz.prog W 0 (fun _ => true) true 26 v d ps) :
    ∃ (e : Edt) (k : Nat) (pA : Option Addr) (pn pc : Nat) (i j : Int) (f t : ByteArray) (oA : Option Addr) (on oc : Nat) (nA : Option Addr) (nn nc : Nat), v = .agg #[.int .u8 k, .slice pA pn pc, .int .i64 i, .int .i64 j, .string f, .string t, .slice oA on oc, .slice nA nn nc] ∧
      EditIs W e k pA pn pc i j f t oA on oc nA nn nc ∧ ((∀ z ∈ d.weights Tryz.prog 26, z ≤ reachBytes) → e.fine) := by
  obtain ⟨cs, rfl, _⟩ := okWide_struct Tryz.underlying26 hv
  obtain ⟨n, hn⟩ := h
  obtain ⟨e, k, pA, pn, pc, i, j, f, t, oA, on, oc, nA, nn, nc, hcs, hI, hf, _⟩ := open_edit hn
  have h2 : cs.toList = [.int .u8 k, .slice pA pn pc, .int .i64 i, .int .i64 j, .string f, .string t, .slice oA on oc, .slice nA nn nc] := hcs
  refine ⟨e, k, pA, pn, pc, i, j, f, t, oA, on, oc, nA, nn, nc, ?_, hI, hf⟩
  rw [← Array.toArray_toList (xs := cs), h2]
theorem edit_stays {W W' : World} {v : Value} {d : DataW H} {ps : List MemPlace} (h : DataW.Trod enc Tryz.prog W 0 (fun _ => true) true 26 v d ps) (hb : Below W.heap.size W W') (hlt : ∀ x ∈ ps, x.block < W.heap.size) :
    DataW.Trod enc Tryz.prog W' 0 (fun b => decide (b < W.heap.size)) true 26 v d ps := Below.trod laidOut readEdit rowEdit h hb hlt
end
end Go.Proofs.YtmikjhohnfcedaaGreatDoor

namespace Go.Proofs.YtmikjhohnfcedaaGreatDoor
set_option linter.unusedSimpArgs false
set_option linter.unusedVariables false
open Go.ChangeShapes Go.WideShapes Go.ChangeAt Go.RowKit
set_option linter.unusedSimpArgs false

/-- The door's own heap meets the list. -/
theorem swapBack_met (os : Os) (args : Array Value) : laidMetH Tryz.prog Rows.swapBackRow.laid ((World.doorLaid Tryz.prog 33 os).forCall (fun _ _ => 0) ⟨#[], args, []⟩).memory :=
  laidMetH_of_parts3 (fuel := 8) (laidMet_of_run' 8 (by kernel_rfl) (by kernel_rfl)) (by kernel_rfl) (by kernel_rfl)
set_option maxRecDepth 100000 in
theorem swapBack_lifted (os : Os) (started : os.Started) (H : Type) (enc : TypeId × Value → H) :
    ReturnsInHanded {} Tryz.checked os 3 .any (fun w args => (Rows.swapBackSpec.pre enc Tryz.prog Tryz.f3 [] false w args ∧ laidMetH Tryz.prog Rows.swapBackRow.laid w) ∧ sizedMet enc Tryz.prog Tryz.f3 (OpenSpec.ofChange Rows.swapBackSpec) false w args)
      (Rows.swapBackSpec.post enc Tryz.prog Tryz.f3 false true false false) := by
  refine returnsInHanded_of_change_and (C := Tryz.checked) (X := fun w _ => laidMetH Tryz.prog Rows.swapBackRow.laid w) (fun _ _ _ hh h => h.of_heap hh) own started (by kernel_rfl) Tryz.func3
    (ChangeSpec.witness_shaped (enc := enc) (C := Tryz.checked) (os := os) (X := fun w _ => laidMetH Tryz.prog Rows.swapBackRow.laid w) false (World.doorLaid Tryz.prog 33 os) #[.agg #[.int .u8 0, .slice none 0 0, .int .i64 0, .int .i64 0, .string ⟨#[]⟩, .string ⟨#[]⟩, .slice none 0 0, .slice none 0 0], .agg #[.int .u8 0, .slice none 0 0, .int .i64 0, .int .i64 0, .string ⟨#[]⟩, .string ⟨#[]⟩, .slice none 0 0, .slice none 0 0]] 8 rfl (World.shaped_of_RefB (by kernel_rfl) (by kernel_rfl)) (by kernel_rfl) (by kernel_rfl) (by kernel_rfl) (swapBack_met os _)) ?_
  intro W base args ds gs before hval0 hW _ hsz0 hL _
  have hval : ∀ (j : Nat) t v, Tryz.f3.params[j]? = some t → args[j]? = some v → Value.okWide Tryz.prog W .any base t v := hval0
  have hW' := hW
  have hlt := hW'.lt
  obtain ⟨p, q, hA0, hV, rfl, hfz, hnd⟩ := hW
  have hA : DataW.TrodAll enc Tryz.prog W 0 (fun _ => true) true Tryz.f3.params.toList args.toList ds p := hA0
  rw [Tryz.params3] at hA hval
  obtain ⟨v0, v1, d0, d1, p0, p1, rfl, rfl, rfl, h0, h1⟩ := trodAll_two hA
  obtain ⟨rfl, rfl⟩ := trodVars_none hV
  clear hA0 hV
  simp only [List.append_nil] at hW' hlt
  have hE := env_of_laidS hL
  have z0 : ∀ z ∈ d0.weights Tryz.prog 26, z ≤ reachBytes := fun z hz => by
    have := List.all_eq_true.1 hsz0 z (DataW.weights_mem_each (j := 0) (t := 26) (d := d0) (by rfl) (by rfl) z hz)
    simpa using this
  have z1 : ∀ z ∈ d1.weights Tryz.prog 26, z ≤ reachBytes := fun z hz => by
    have := List.all_eq_true.1 hsz0 z (DataW.weights_mem_each (j := 1) (t := 26) (d := d1) (by rfl) (by rfl) z hz)
    simpa using this
  obtain ⟨e0, k, pA, pn, pc, i, j, f, t, oA, on, oc, nA, nn, nc, hv0, hI0, hf0⟩ := arg_edit (hval 0 26 v0 rfl rfl) h0
  obtain ⟨e1, k', pA', pn', pc', i', j', f', t', oA', on', oc', nA', nn', nc', hv1, hI1, hf1⟩ := arg_edit (hval 1 26 v1 rfl rfl) h1
  have hF0 := hf0 z0
  have hF1 := hf1 z1
  subst hv0 hv1
  clear hf0 hf1 z0 z1 hval hval0
  refine (l_back e0 e1 k pA pn pc i j f t oA on oc nA nn nc k' pA' pn' pc' i' j' f' t' oA' on' oc' nA' nn' nc' W hI0 hI1 hE hF0 hF1).mono fun e W' ⟨he, hb⟩ => ?_
  subst he
  exact ⟨_, rfl, _, _, _, [], _, [], hW', trodAll_mk1 (shut_bool Tryz.underlying4 _), trodAll_mk2 (edit_stays h0 hb fun x hx => hlt x (by simp [hx])) (edit_stays h1 hb fun x hx => hlt x (by simp [hx])), rfl, hb.frame _, fun h => by cases h⟩

theorem swapBack_said : Rows.SwapBackSaid :=
  OpenClaim.holds_of_wide 3 Tryz.f3 rfl rfl rfl rfl rfl rfl rfl ⟨rfl, rfl, rfl, rfl, rfl⟩ rfl rfl rfl rfl rfl (by kernel_rfl) Tryz.func3 (by kernel_rfl)
    (of_decide_eq_true (by kernel_rfl)) (by unfold Func.isWrapper; first | (rw [if_pos (by decide +kernel)]; kernel_rfl) | (rw [if_neg (by decide +kernel)]; exact ⟨rfl, rfl⟩))
    (fun os started H enc _ => swapBack_lifted os started H enc)

/-- No parameter wants a stand-in; the program's own looks are what the card says. -/
theorem swapBack_plain (f : FuncId) (fn : Func) (hf : Tryz.pinned.checked.prog.funcNamed "clerestory/clerestorylaw16.SwapBack" = some f) (hfn : Tryz.pinned.checked.prog.funcs[f]? = some fn) :
    false = Tryz.pinned.checked.prog.looks [] ∧ ∀ (j : Nat) t, fn.params[j]? = some t → Tryz.pinned.checked.prog.wantsStandIn t = false := by
  obtain rfl : f = 3 := Option.some.inj ((show Tryz.prog.funcNamed "clerestory/clerestorylaw16.SwapBack" = some 3 by kernel_rfl).symm.trans hf) |>.symm
  obtain rfl : fn = Tryz.f3 := (Option.some.inj (Tryz.func3.symm.trans hfn)).symm
  refine ⟨by kernel_rfl, fun j t ht => ?_⟩
  rw [Tryz.params3] at ht
  have hm : t ∈ [26, 26] := by simpa using Array.mem_of_getElem? ht
  have hall : ([26, 26].all fun u => !Tryz.prog.wantsStandIn u) = true := by kernel_rfl
  exact (show Tryz.prog.wantsStandIn t = false by simpa using List.all_eq_true.1 hall t hm)
theorem swapBack_card : Rows.SwapBackCardSaid :=
  Claim7.holds_tied_plain_at .later [] _ _ _ _ swapBack_said (fun _ h => by cases h) (by kernel_rfl) (fun _ h => by cases h) swapBack_row_tie rfl ⟨rfl, rfl⟩ (by kernel_rfl) rfl swapBack_plain (by kernel_rfl)
#print axioms swapBack_card
end Go.Proofs.YtmikjhohnfcedaaGreatDoor
