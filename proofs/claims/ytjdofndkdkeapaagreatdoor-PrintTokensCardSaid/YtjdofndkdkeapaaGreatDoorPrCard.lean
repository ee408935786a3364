/- From the memory's reading to the walk over the law PrintTokens: its row and its tied card. -/
import Derived.Test.YtjdofndkdkeapaaGreatDoorPrLaw
import Derived.Test.YtjdofndkdkeapaaGreatDoorPrEnv
namespace Go.Proofs.YtjdofndkdkeapaaGreatDoor
open Go.ChangeShapes Go.WideShapes Go.ChangeAt Go.RowKit
set_option linter.unusedSimpArgs false

set_option maxRecDepth 100000 in
theorem printTokens_lifted (os : Os) (started : os.Started) (H : Type) (enc : TypeId × Value → H) :
    ReturnsInHanded {} Tryz.checked os 3 .any (fun w args => (Rows.printTokensSpec.pre enc Tryz.prog Tryz.f3 [] false w args ∧ laidMetH Tryz.prog Rows.printTokensRow.laid w) ∧ sizedMet enc Tryz.prog Tryz.f3 (OpenSpec.ofChange Rows.printTokensSpec) false w args)
      (Rows.printTokensSpec.post enc Tryz.prog Tryz.f3 false true false false) := by
  refine returnsInHanded_of_change_and (C := Tryz.checked) (X := fun w _ => laidMetH Tryz.prog Rows.printTokensRow.laid w) (fun _ _ _ hh h => h.of_heap hh) own started (by kernel_rfl) Tryz.func3
    (ChangeSpec.witness_shaped (enc := enc) (C := Tryz.checked) (os := os) (X := fun w _ => laidMetH Tryz.prog Rows.printTokensRow.laid w) false (World.doorLaid Tryz.prog 86 os) #[.agg #[.int .u8 0, .string ⟨#[]⟩, .int .i64 0, .slice none 0 0], .agg #[.int .u8 0, .string ⟨#[]⟩, .int .i64 0, .slice none 0 0]] 8 rfl (World.shaped_of_RefB (by kernel_rfl) (by kernel_rfl)) (by kernel_rfl) (by kernel_rfl) (by kernel_rfl) (door_met os _)) ?_
  intro W base args ds gs before hval0 hW _ hsz0 hL _
  have hval : ∀ (j : Nat) t v, Tryz.f3.params[j]? = some t → args[j]? = some v → Value.okWide Tryz.prog W .any base t v := hval0
  have hW' := hW
  have hlt := hW'.lt
  obtain ⟨p, q, hA0, hV, rfl, hfz, hnd⟩ := hW
  have hA : DataW.TrodAll enc Tryz.prog W 0 (fun _ => true) true Tryz.f3.params.toList args.toList ds p := hA0
  rw [Tryz.params3] at hA hval
  obtain ⟨v0, v1, d0, d1, p0, p1, rfl, rfl, rfl, h0, h1⟩ := trodAll_two hA
  obtain ⟨rfl, rfl⟩ := trodVars_none hV
  clear hA0 hV
  simp only [List.append_nil] at hW' hlt
  have hE := env_of_laid hL
  have z0 : ∀ z ∈ d0.weights Tryz.prog 25, z ≤ reachBytes := fun z hz => by
    have := List.all_eq_true.1 hsz0 z (DataW.weights_mem_each (j := 0) (t := 25) (d := d0) (by rfl) (by rfl) z hz)
    simpa using this
  have z1 : ∀ z ∈ d1.weights Tryz.prog 25, z ≤ reachBytes := fun z hz => by
    have := List.all_eq_true.1 hsz0 z (DataW.weights_mem_each (j := 1) (t := 25) (d := d1) (by rfl) (by rfl) z hz)
    simpa using this
  obtain ⟨n0, A, c, hv0, hI0, hf0⟩ := arg_node (hval 0 25 v0 rfl rfl) h0
  obtain ⟨n1, B, d, hv1, hI1, hf1⟩ := arg_node (hval 1 25 v1 rfl rfl) h1
  have hF0 := hf0 z0
  have hF1 := hf1 z1
  subst hv0 hv1
  clear hf0 hf1 z0 z1 hval hval0
  refine (l_print n0 n1 A B c d W hI0 hI1 hF0 hF1 hE).mono fun e W' ⟨he, hb⟩ => ?_
  subst he
  exact ⟨_, rfl, _, _, _, [], _, [], hW', trodAll_mk1 (shut_bool Tryz.underlying4 _), trodAll_mk2 (node_stays h0 hb fun x hx => hlt x (by simp [hx])) (node_stays h1 hb fun x hx => hlt x (by simp [hx])), rfl, hb.frame _, fun h => by cases h⟩

theorem printTokens_said : Rows.PrintTokensSaid :=
  OpenClaim.holds_of_wide 3 Tryz.f3 rfl rfl rfl rfl rfl rfl rfl ⟨rfl, rfl, rfl, rfl, rfl⟩ rfl rfl rfl rfl rfl (by kernel_rfl) Tryz.func3 (by kernel_rfl)
    (of_decide_eq_true (by kernel_rfl)) (by unfold Func.isWrapper; first | (rw [if_pos (by decide +kernel)]; kernel_rfl) | (rw [if_neg (by decide +kernel)]; exact ⟨rfl, rfl⟩))
    (fun os started H enc _ => printTokens_lifted os started H enc)

/-- No parameter wants a stand-in; the program's own looks are what the card says. -/
theorem printTokens_plain (f : FuncId) (fn : Func) (hf : Tryz.pinned.checked.prog.funcNamed "clerestory/clerestorylaw08.PrintTokens" = some f) (hfn : Tryz.pinned.checked.prog.funcs[f]? = some fn) :
    true = Tryz.pinned.checked.prog.looks [] ∧ ∀ (j : Nat) t, fn.params[j]? = some t → Tryz.pinned.checked.prog.wantsStandIn t = false := by
  obtain rfl : f = 3 := Option.some.inj ((show Tryz.prog.funcNamed "clerestory/clerestorylaw08.PrintTokens" = some 3 by kernel_rfl).symm.trans hf) |>.symm
  obtain rfl : fn = Tryz.f3 := (Option.some.inj (Tryz.func3.symm.trans hfn)).symm
  refine ⟨by kernel_rfl, fun j t ht => ?_⟩
  rw [Tryz.params3] at ht
  have hm : t ∈ [25, 25] := by simpa using Array.mem_of_getElem? ht
  have hall : ([25, 25].all fun u => !Tryz.prog.wantsStandIn u) = true := by kernel_rfl
  exact (show Tryz.prog.wantsStandIn t = false by simpa using List.all_eq_true.1 hall t hm)
theorem printTokens_card : Rows.PrintTokensCardSaid :=
  Claim7.holds_tied_plain_at .later [] _ _ _ _ printTokens_said (fun _ h => by cases h) (by kernel_rfl) (fun _ h => by cases h) printTokens_row_tie rfl ⟨rfl, rfl⟩ (by kernel_rfl) rfl printTokens_plain (by kernel_rfl)
#print axioms printTokens_card
end Go.Proofs.YtjdofndkdkeapaaGreatDoor
