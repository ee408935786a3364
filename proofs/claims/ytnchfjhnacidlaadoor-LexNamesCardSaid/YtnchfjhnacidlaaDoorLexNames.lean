/- LexNames: of any text the program tells whether it is a name as the document does; the words are the document's, and none of them is a name. No condition. -/
import Derived.Test.YtnchfjhnacidlaaDoorLexLaw1
import Derived.Test.YtnchfjhnacidlaaDoorLexEnv
import Derived.ShutString
namespace Go.Proofs.YtnchfjhnacidlaaDoor
open Go.RowKit

theorem strTake_same {ts us : List Bytes} {k : Nat} {t : Bytes} (h : ts.take k = us.take k) (h1 : ts[k]? = some t) (h2 : us[k]? = some t) : ts.take (k + 1) = us.take (k + 1) := by
  rw [List.take_add_one, List.take_add_one, h, h1, h2]
theorem strTake_other {ts us : List Bytes} {k : Nat} {t u : Bytes} (h1 : ts[k]? = some t) (h2 : us[k]? = some u) (h : t ≠ u) : ts ≠ us := by
  intro e
  rw [e, h2] at h1
  injection h1 with h1
  exact h h1.symm

set_option maxHeartbeats 1000000 in
theorem k_same_texts (g g' n c n' c' : Nat) (ts us : List Bytes) (w : World) (h : StrRow w (some ⟨g, 0, none⟩) n ts) (h' : StrRow w (some ⟨g', 0, none⟩) n' us) (hn : n ≤ 2147483647) :
    Calls Tryd.prog 15 #[.slice (some ⟨g, 0, none⟩) n c, .slice (some ⟨g', 0, none⟩) n' c'] w (DrawnPost (.bool (decide (ts = us))) w) := by
  have H := Lib.hid h
  have H' := Lib.hid h'
  have hl : Hid (ts.length = n) := h.1
  have hl' : Hid (us.length = n') := h'.1
  clear h h'
  by_cases hnn : n = n'
  · subst hnn
    go_enter Tryd.func15, Tryd.ntmps15
    go_wp2
    go_loopw [5] (fun i wx => ∃ k d : Nat, k ≤ n ∧ i = .int .i64 k ∧ wx = w.drewN d ∧ Hid (ts.take k = us.take k)) (fun i _ => n - (intOf i).toNat)
    case atStart => exact ⟨0, 0, Nat.zero_le _, rfl, rfl, by show _ = _; simp⟩
    case round =>
      obtain ⟨k, d, hk, rfl, rfl, HT⟩ := hrel
      by_cases hlt : k < n
      · obtain ⟨ad, t, had, _, ht, hc⟩ := H.out.at_ hlt
        injection had with had
        subst had
        obtain ⟨ad', u, had', _, hu, hd⟩ := H'.out.at_ hlt
        injection had' with had'
        subst had'
        rw [add_mid] at hc hd
        simp only [Nat.zero_add] at hc hd
        have HT1 := Lib.hid ht
        have HU1 := Lib.hid hu
        clear ht hu
        by_cases heq : t = u
        · have HN := Lib.hid (strTake_same HT.out HT1.out (heq ▸ HU1.out))
          have e1 : (t == u) = true := by simp [heq]
          clear heq
          go_wp2
          go_quiet (fail)
          go_wp2
          go_roundw
          case rel => exact ⟨k + 1, _, by omega, by go_num, rfl, HN⟩
          case measure => simp [intOf]; omega
        · have HN := Lib.hid (strTake_other HT1.out HU1.out heq)
          have e1 : (t == u) = false := by simp [heq]
          clear heq
          go_wp2
          go_quiet (fail)
          go_wp2
          go_ret
          exact ⟨ret_bool (by simp [HN.out]), d + nq, by simp [World.drewN, Nat.add_assoc]⟩
      · go_wp2
        go_ret
        have h1 := HT.out
        rw [List.take_of_length_le (by have := hl.out; omega), List.take_of_length_le (by have := hl'.out; omega)] at h1
        exact ⟨ret_bool (by simp [h1]), _, rfl⟩
  · have hne : ((n : Int) != n') = true := by simp; omega
    go_enter Tryd.func15, Tryd.ntmps15
    go_wp2
    go_ret
    refine ⟨ret_bool ?_, 0, rfl⟩
    have : ts ≠ us := fun e => by
      have h1 := hl.out; have h2 := hl'.out
      rw [e] at h1; omega
    simp [this]

theorem words_not_names : ∀ u ∈ wordsL, isName u = false := by decide

theorem StrRow.later {w w' : World} {g n : Nat} {ss : List Bytes} {B : Nat} (h : StrRow w (some ⟨g, 0, none⟩) n ss) (hb : Below B w w') (hB : w.heap.size ≤ B) : StrRow w' (some ⟨g, 0, none⟩) n ss := by
  refine ⟨h.1, fun hn => ?_⟩
  obtain ⟨ad, e, hlt, hc⟩ := h.2 hn
  injection e with e
  subst e
  refine ⟨_, rfl, Nat.lt_of_lt_of_le hlt hb.size, fun j u hu => ?_⟩
  rw [hb.cell (p := Addr.add ⟨g, 0, none⟩ j) (by rw [block_add]; exact Nat.lt_of_lt_of_le hlt hB)]
  exact hc j u hu

set_option maxHeartbeats 1000000 in
set_option maxRecDepth 20000 in
theorem law_names (s : ByteArray) (w : World) (hE : Env w) (_hs : s.size ≤ 9223372036854775807) : Calls Tryd.prog 4 #[.string s] w (NamePost true w) := by
  have HE := Lib.hid hE
  clear hE
  by_cases h2 : s.size ≤ 2000
  all_goals
    go_enter Tryd.func4, Tryd.ntmps4
    go_wp2_with fail
    refine (p_awake _ HE.out).mono ?_
    rintro e w1 ⟨rfl, hb1⟩
    have HB1 := Lib.hid hb1
    clear hb1
  rotate_left
  · go_wp2_with fail
    refine (p_words _ (HE.out.below HB1.out (Nat.le_refl _))).mono ?_
    rintro e w4 ⟨A1, rfl, hrow, hb4, _, g1, rfl⟩
    have HB4 : Hid (Below w.heap.size w w4) := HB1.out.trans (hb4.mono HB1.out.size)
    have HR4 := Lib.hid hrow
    clear hrow hb4 HB1
    go_wp2_with fail
    go_loopw [4] (fun i wx => ∃ k : Nat, k ≤ 11 ∧ i = .int .i64 k ∧ Hid (Below w4.heap.size w4 wx)) (fun i _ => 11 - (intOf i).toNat)
    case atStart => exact ⟨0, Nat.zero_le _, rfl, Below.refl _ _⟩
    case round =>
      obtain ⟨k, hk, rfl, HBk⟩ := hrel
      have HRk := Lib.hid (HR4.out.later HBk.out (Nat.le_refl _))
      have HBw : Hid (Below w.heap.size w wr) := HB4.out.trans (HBk.out.mono HB4.out.size)
      by_cases hlt : k < 11
      · obtain ⟨ad, u, had, _, hu, hc⟩ := HRk.out.at_ hlt
        injection had with had
        subst had
        rw [add_mid] at hc
        simp only [Nat.zero_add] at hc
        have HN : Hid (isName (bl (sb u)) = false) := words_not_names u (List.mem_of_getElem? hu)
        have hul : u.length ≤ 24 := (by decide : ∀ u ∈ wordsL, u.length ≤ 24) u (List.mem_of_getElem? hu)
        clear hu
        go_wp2_with fail
        refine (p_name (sb u) _ (HE.out.below HBw.out (Nat.le_refl _)) (by show u.length ≤ _; omega)).mono ?_
        rintro e w5 ⟨rfl, hb5⟩
        rw [HN.out]
        have HB5 : Hid (Below w4.heap.size w4 w5) := HBk.out.trans (hb5.mono HBk.out.size)
        clear hb5
        go_wp2
        go_roundw
        case rel => exact ⟨k + 1, by omega, by go_num, HB5⟩
        case measure => simp [intOf]; omega
      · go_wp2_with fail
        refine (r_words _).mono ?_
        rintro e w5 ⟨A5, rfl, hrow5, hb5, _, g5, rfl⟩
        have HR6 := Lib.hid (HRk.out.later hb5 (Nat.le_refl _))
        have HR5 := Lib.hid hrow5
        have HB6 : Hid (Below w.heap.size w w5) := HBw.out.trans (hb5.mono HBw.out.size)
        clear hrow5 hb5
        go_wp2_with fail
        refine (k_same_texts _ _ _ _ _ _ wordsL wordsL _ HR6.out HR5.out (by omega)).mono ?_
        rintro e w7 ⟨rfl, d, rfl⟩
        go_wp2
        go_ret
        exact ⟨ret_bool (by simp), HB6.out.trans (below_draws' _ _ _)⟩
  cases hnm : isName (bl s) with
  | true =>
    have HNM := Lib.hid hnm
    clear hnm
    go_wp2_with fail
    refine (p_name s _ (HE.out.below HB1.out (Nat.le_refl _)) (by omega)).mono ?_
    rintro e w2 ⟨rfl, hb2⟩
    rw [HNM.out]
    have HB2 : Hid (Below w.heap.size w w2) := HB1.out.trans (hb2.mono HB1.out.size)
    clear hb2
    go_wp2_with fail
    refine (r_name s _ (by omega)).mono ?_
    rintro e w3 ⟨rfl, hb3⟩
    rw [HNM.out]
    have HB3 : Hid (Below w.heap.size w w3) := HB2.out.trans (hb3.mono HB2.out.size)
    clear hb3 HB1 HB2
    go_wp2_with fail
    refine (p_words _ (HE.out.below HB3.out (Nat.le_refl _))).mono ?_
    rintro e w4 ⟨A1, rfl, hrow, hb4, _, g1, rfl⟩
    have HB4 : Hid (Below w.heap.size w w4) := HB3.out.trans (hb4.mono HB3.out.size)
    have HR4 := Lib.hid hrow
    clear hrow hb4 HB3
    go_wp2_with fail
    go_loopw [4] (fun i wx => ∃ k : Nat, k ≤ 11 ∧ i = .int .i64 k ∧ Hid (Below w4.heap.size w4 wx)) (fun i _ => 11 - (intOf i).toNat)
    case atStart => exact ⟨0, Nat.zero_le _, rfl, Below.refl _ _⟩
    case round =>
      obtain ⟨k, hk, rfl, HBk⟩ := hrel
      have HRk := Lib.hid (HR4.out.later HBk.out (Nat.le_refl _))
      have HBw : Hid (Below w.heap.size w wr) := HB4.out.trans (HBk.out.mono HB4.out.size)
      by_cases hlt : k < 11
      · obtain ⟨ad, u, had, _, hu, hc⟩ := HRk.out.at_ hlt
        injection had with had
        subst had
        rw [add_mid] at hc
        simp only [Nat.zero_add] at hc
        have HN : Hid (isName (bl (sb u)) = false) := words_not_names u (List.mem_of_getElem? hu)
        have hul : u.length ≤ 24 := (by decide : ∀ u ∈ wordsL, u.length ≤ 24) u (List.mem_of_getElem? hu)
        clear hu
        go_wp2_with fail
        refine (p_name (sb u) _ (HE.out.below HBw.out (Nat.le_refl _)) (by show u.length ≤ _; omega)).mono ?_
        rintro e w5 ⟨rfl, hb5⟩
        rw [HN.out]
        have HB5 : Hid (Below w4.heap.size w4 w5) := HBk.out.trans (hb5.mono HBk.out.size)
        clear hb5
        go_wp2
        go_roundw
        case rel => exact ⟨k + 1, by omega, by go_num, HB5⟩
        case measure => simp [intOf]; omega
      · go_wp2_with fail
        refine (r_words _).mono ?_
        rintro e w5 ⟨A5, rfl, hrow5, hb5, _, g5, rfl⟩
        have HR6 := Lib.hid (HRk.out.later hb5 (Nat.le_refl _))
        have HR5 := Lib.hid hrow5
        have HB6 : Hid (Below w.heap.size w w5) := HBw.out.trans (hb5.mono HBw.out.size)
        clear hrow5 hb5
        go_wp2_with fail
        refine (k_same_texts _ _ _ _ _ _ wordsL wordsL _ HR6.out HR5.out (by omega)).mono ?_
        rintro e w7 ⟨rfl, d, rfl⟩
        go_wp2
        go_ret
        exact ⟨ret_bool (by simp), HB6.out.trans (below_draws' _ _ _)⟩
  | false =>
    have HNM := Lib.hid hnm
    clear hnm
    go_wp2_with fail
    refine (p_name s _ (HE.out.below HB1.out (Nat.le_refl _)) (by omega)).mono ?_
    rintro e w2 ⟨rfl, hb2⟩
    rw [HNM.out]
    have HB2 : Hid (Below w.heap.size w w2) := HB1.out.trans (hb2.mono HB1.out.size)
    clear hb2
    go_wp2_with fail
    refine (r_name s _ (by omega)).mono ?_
    rintro e w3 ⟨rfl, hb3⟩
    rw [HNM.out]
    have HB3 : Hid (Below w.heap.size w w3) := HB2.out.trans (hb3.mono HB2.out.size)
    clear hb3 HB1 HB2
    go_wp2_with fail
    refine (p_words _ (HE.out.below HB3.out (Nat.le_refl _))).mono ?_
    rintro e w4 ⟨A1, rfl, hrow, hb4, _, g1, rfl⟩
    have HB4 : Hid (Below w.heap.size w w4) := HB3.out.trans (hb4.mono HB3.out.size)
    have HR4 := Lib.hid hrow
    clear hrow hb4 HB3
    go_wp2_with fail
    go_loopw [4] (fun i wx => ∃ k : Nat, k ≤ 11 ∧ i = .int .i64 k ∧ Hid (Below w4.heap.size w4 wx)) (fun i _ => 11 - (intOf i).toNat)
    case atStart => exact ⟨0, Nat.zero_le _, rfl, Below.refl _ _⟩
    case round =>
      obtain ⟨k, hk, rfl, HBk⟩ := hrel
      have HRk := Lib.hid (HR4.out.later HBk.out (Nat.le_refl _))
      have HBw : Hid (Below w.heap.size w wr) := HB4.out.trans (HBk.out.mono HB4.out.size)
      by_cases hlt : k < 11
      · obtain ⟨ad, u, had, _, hu, hc⟩ := HRk.out.at_ hlt
        injection had with had
        subst had
        rw [add_mid] at hc
        simp only [Nat.zero_add] at hc
        have HN : Hid (isName (bl (sb u)) = false) := words_not_names u (List.mem_of_getElem? hu)
        have hul : u.length ≤ 24 := (by decide : ∀ u ∈ wordsL, u.length ≤ 24) u (List.mem_of_getElem? hu)
        clear hu
        go_wp2_with fail
        refine (p_name (sb u) _ (HE.out.below HBw.out (Nat.le_refl _)) (by show u.length ≤ _; omega)).mono ?_
        rintro e w5 ⟨rfl, hb5⟩
        rw [HN.out]
        have HB5 : Hid (Below w4.heap.size w4 w5) := HBk.out.trans (hb5.mono HBk.out.size)
        clear hb5
        go_wp2
        go_roundw
        case rel => exact ⟨k + 1, by omega, by go_num, HB5⟩
        case measure => simp [intOf]; omega
      · go_wp2_with fail
        refine (r_words _).mono ?_
        rintro e w5 ⟨A5, rfl, hrow5, hb5, _, g5, rfl⟩
        have HR6 := Lib.hid (HRk.out.later hb5 (Nat.le_refl _))
        have HR5 := Lib.hid hrow5
        have HB6 : Hid (Below w.heap.size w w5) := HBw.out.trans (hb5.mono HBw.out.size)
        clear hrow5 hb5
        go_wp2_with fail
        refine (k_same_texts _ _ _ _ _ _ wordsL wordsL _ HR6.out HR5.out (by omega)).mono ?_
        rintro e w7 ⟨rfl, d, rfl⟩
        go_wp2
        go_ret
        exact ⟨ret_bool (by simp), HB6.out.trans (below_draws' _ _ _)⟩

/-! ### The row and the card of LexNames -/
section
open Go.ChangeShapes Go.WideShapes Go.ChangeAt Go.RowKit
open Go.ChangeMaps (open_string shut_string)

set_option maxRecDepth 100000 in
theorem lexNames_lifted (os : Os) (started : os.Started) (H : Type) (enc : TypeId × Value → H) :
    ReturnsInHanded {} Tryd.checked os 4 .any (fun w args => (Rows.lexNamesSpec.pre enc Tryd.prog Tryd.f4 [] false w args ∧ laidMetH Tryd.prog Rows.lexNamesRow.laid w) ∧ sizedMet enc Tryd.prog Tryd.f4 (OpenSpec.ofChange Rows.lexNamesSpec) false w args)
      (Rows.lexNamesSpec.post enc Tryd.prog Tryd.f4 false true false false) := by
  refine returnsInHanded_of_change_and (C := Tryd.checked) (X := fun w _ => laidMetH Tryd.prog Rows.lexNamesRow.laid w) (fun _ _ _ hh h => h.of_heap hh) own started (by kernel_rfl) Tryd.func4
    (ChangeSpec.witness_shaped (enc := enc) (C := Tryd.checked) (os := os) (X := fun w _ => laidMetH Tryd.prog Rows.lexNamesRow.laid w) false (World.doorLaid Tryd.prog 86 os) #[.string ByteArray.empty] 8 rfl (World.shaped_of_RefB (by kernel_rfl) (by kernel_rfl)) (by kernel_rfl) (by kernel_rfl) (by kernel_rfl) (door_met os _)) ?_
  intro W base args ds gs before hval0 hW _ _ hL _
  have hval : ∀ (j : Nat) t v, Tryd.f4.params[j]? = some t → args[j]? = some v → Value.okWide Tryd.prog W .any base t v := hval0
  have hW' := hW
  obtain ⟨p, q, hA0, hV, rfl, hfz, hnd⟩ := hW
  have hA : DataW.TrodAll enc Tryd.prog W 0 (fun _ => true) true Tryd.f4.params.toList args.toList ds p := hA0
  rw [Tryd.params4] at hA hval
  obtain ⟨v0, d0, rfl, rfl, h0⟩ := trodAll_one hA
  obtain ⟨rfl, rfl⟩ := trodVars_none hV
  obtain ⟨x0, rfl, rfl, rfl, w0⟩ := open_string Tryd.underlying9 (hval 0 9 v0 rfl rfl) h0
  clear hA0 hval0
  simp only [List.append_nil] at hW'
  have hE := env_of_laid hL
  refine (law_names x0 W hE (by have := w0; unfold maxLen at this; omega)).mono fun e W' ⟨he, hb⟩ => ?_
  subst he
  exact ⟨_, rfl, _, _, _, [], [], [], hW', trodAll_mk1 (shut_bool Tryd.underlying4 _), trodAll_mk1 (shut_string Tryd.underlying9 w0), rfl, hb.frame _, fun h => by cases h⟩

theorem lexNames_said : Rows.LexNamesSaid :=
  OpenClaim.holds_of_wide 4 Tryd.f4 rfl rfl rfl rfl rfl rfl rfl ⟨rfl, rfl, rfl, rfl, rfl⟩ rfl rfl rfl rfl rfl (by kernel_rfl) Tryd.func4 (by kernel_rfl)
    (of_decide_eq_true (by kernel_rfl)) (by unfold Func.isWrapper; first | (rw [if_pos (by decide +kernel)]; kernel_rfl) | (rw [if_neg (by decide +kernel)]; exact ⟨rfl, rfl⟩))
    (fun os started H enc _ => lexNames_lifted os started H enc)

/-- No parameter wants a stand-in; the program's own looks are what the card says. -/
theorem lexNames_plain (f : FuncId) (fn : Func) (hf : Tryd.pinned.checked.prog.funcNamed "clerestory/clerestorylaw05.LexNames" = some f) (hfn : Tryd.pinned.checked.prog.funcs[f]? = some fn) :
    true = Tryd.pinned.checked.prog.looks [] ∧ ∀ (j : Nat) t, fn.params[j]? = some t → Tryd.pinned.checked.prog.wantsStandIn t = false := by
  obtain rfl : f = 4 := Option.some.inj ((show Tryd.prog.funcNamed "clerestory/clerestorylaw05.LexNames" = some 4 by kernel_rfl).symm.trans hf) |>.symm
  obtain rfl : fn = Tryd.f4 := (Option.some.inj (Tryd.func4.symm.trans hfn)).symm
  refine ⟨by kernel_rfl, fun j t ht => ?_⟩
  rw [Tryd.params4] at ht
  have hm : t ∈ [9] := by simpa using Array.mem_of_getElem? ht
  have hall : ([9].all fun u => !Tryd.prog.wantsStandIn u) = true := by kernel_rfl
  exact (show Tryd.prog.wantsStandIn t = false by simpa using List.all_eq_true.1 hall t hm)
theorem lexNames_card : Rows.LexNamesCardSaid :=
  Claim7.holds_tied_plain_at .later [] _ _ _ _ lexNames_said (fun _ h => by cases h) (by kernel_rfl) (fun _ h => by cases h) lexNames_row_tie rfl ⟨rfl, rfl⟩ (by kernel_rfl) rfl lexNames_plain (by kernel_rfl)
#print axioms lexNames_card
end
end Go.Proofs.YtnchfjhnacidlaaDoor
