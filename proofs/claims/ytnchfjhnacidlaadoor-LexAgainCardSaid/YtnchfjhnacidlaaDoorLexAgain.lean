/- LexAgain: the tokens' texts stand in the text, one after the other, and joined by blanks they read as the same tokens. No condition. -/
import Derived.Test.YtnchfjhnacidlaaDoorLexPlain
import Derived.Test.YtnchfjhnacidlaaDoorLexLaw2
import Derived.Test.YtnchfjhnacidlaaDoorLexEnv
import Derived.ShutString
import Derived.BigQuiet
namespace Go.Proofs.YtnchfjhnacidlaaDoor
open Go.RowKit

theorem Stand.at_ {s : Bytes} {us : List Tok} {e k : Nat} (h : Stand s e (us.drop k)) (hk : k < us.length) :
    ∃ t, us[k]? = some t ∧ us.drop k = t :: us.drop (k + 1) ∧ e ≤ t.pos ∧ t.text ≠ [] ∧ t.pos + t.text.length ≤ s.length ∧ (s.drop t.pos).take t.text.length = t.text ∧ Stand s (t.pos + t.text.length) (us.drop (k + 1)) := by
  have hd := List.drop_eq_getElem_cons hk
  rw [hd] at h
  exact ⟨us[k], List.getElem?_eq_getElem hk, hd, h⟩
theorem spread_append : ∀ (a b : List Tok), spread (a ++ b) = spread a ++ spread b
  | [], b => rfl
  | t :: a, b => by simp [spread, spread_append a b]
theorem spread_snoc {us : List Tok} {k : Nat} {t : Tok} (h : us[k]? = some t) : spread (us.take (k + 1)) = (spread (us.take k) ++ [32]) ++ t.text := by
  rw [List.take_add_one, h, spread_append]
  simp [spread]
theorem sb_append (a b : Bytes) : sb a ++ sb b = sb (a ++ b) := bl_inj (Joins.data_append (sb a) (sb b))
theorem Alike.at_ {ts ms : List Tok} (h : Alike ts ms) {k : Nat} {t u : Tok} (h1 : ts[k]? = some t) (h2 : ms[k]? = some u) : u.kind = t.kind ∧ u.text = t.text := by
  have := congrArg (·[k]?) h
  simp only [List.getElem?_map, h1, h2, Option.map_some, Option.some.injEq, Prod.mk.injEq] at this
  exact ⟨this.1.symm, this.2.symm⟩
theorem Alike.len {ts ms : List Tok} (h : Alike ts ms) : ms.length = ts.length := by
  have := congrArg List.length h
  simpa using this.symm

set_option maxHeartbeats 1000000 in
set_option maxRecDepth 20000 in
theorem again_bad (s : ByteArray) (w : World) (hE : Env w) (hs : s.size ≤ 2000) (er p : Nat) (hr : lexOf (bl s) = .error (er, p)) : Calls Tryd.prog 6 #[.string s] w (NamePost true w) := by
  have HE := Lib.hid hE
  have HR := Lib.hid hr
  obtain ⟨her, hp⟩ := lexOf_fault hr
  rw [bl_len] at hp
  clear hE hr
  have hne : ((er : Int) != 0) = true := by rcases her with rfl | rfl <;> rfl
  clear her
  go_enter Tryd.func6, Tryd.ntmps6
  go_wp2_with fail
  refine (p_awake _ HE.out).mono ?_
  rintro e w1 ⟨rfl, hb1⟩
  have HB1 := Lib.hid hb1
  clear hb1
  go_wp2_with fail
  refine (p_tokens_bad s _ (HE.out.below HB1.out (Nat.le_refl _)) (by omega) HR.out).mono ?_
  rintro e w2 ⟨hb2, rfl⟩
  have HB2 : Hid (Below w.heap.size w (w2.alloc (.cells #[.int .i64 er, .int .i64 p] 26))) := HB1.out.trans ((hb2.alloc hb2.size _).mono HB1.out.size)
  clear hb2
  go_wp2
  go_ret
  exact ⟨ret_bool (by simp), HB2.out⟩

set_option maxHeartbeats 1000000 in
set_option maxRecDepth 20000 in
theorem again_ok (s : ByteArray) (w : World) (hE : Env w) (hs : s.size ≤ 2000) (us : List Tok) (hr : lexOf (bl s) = .ok (us ++ [⟨5, [], s.size⟩])) (hst : Stand (bl s) 0 us) (hlo : ∀ t ∈ us, Lone t) :
    Calls Tryd.prog 6 #[.string s] w (NamePost true w) := by
  have HE := Lib.hid hE
  have HR := Lib.hid hr
  have HS := Lib.hid hst
  have HL := Lib.hid hlo
  have hfew := lexOf_few hr
  rw [bl_len] at hfew
  obtain ⟨N, hN⟩ : ∃ N, N = us.length := ⟨_, rfl⟩
  have HN := Lib.hid hN
  have hlen : (us ++ [⟨5, [], s.size⟩] : List Tok).length = N + 1 := by simp [hN]
  have HLen := Lib.hid hlen
  have hN2 : N ≤ 2000 := by omega
  clear hE hr hst hlo hN hfew
  go_enter Tryd.func6, Tryd.ntmps6
  go_wp2_with fail
  refine (p_awake _ HE.out).mono ?_
  rintro e w1 ⟨rfl, hb1⟩
  have HB1 := Lib.hid hb1
  clear hb1
  go_wp2_with fail
  refine (p_tokens_ok s _ (HE.out.below HB1.out (Nat.le_refl _)) (by omega) HR.out).mono ?_
  rintro e w2 ⟨hb2, g2, c2, rfl, ho2⟩
  rw [hlen] at ho2 ⊢
  have HB2 : Hid (Below w.heap.size w (w2.alloc (.cells #[.int .i64 0, .int .i64 0] 26))) := HB1.out.trans ((hb2.alloc hb2.size _).mono HB1.out.size)
  have hrow := own_row (ho2.alloc (.cells #[.int .i64 0, .int .i64 0] 26)) hlen
  have HO2 := Lib.hid (ho2.alloc (.cells #[.int .i64 0, .int .i64 0] 26))
  obtain ⟨g, t, hg, ht, hc0, hc1, hc2⟩ := hrow.at_ (k := N) (by omega)
  obtain rfl : g2 = g := by injection hg with hg; injection hg
  obtain rfl : t = ⟨5, [], s.size⟩ := by
    rw [HN.out] at ht
    simp at ht
    exact ht.symm
  clear hb2 ho2 hrow ht hg
  have hlast : ((N + 1 : Nat) : Int) - 1 = (N : Nat) := by omega
  go_wp2
  go_loopw [5, 6, 7] (fun a e i wx => ∃ k e0 : Nat, k ≤ N ∧ a = .string (sb (spread (us.take k))) ∧ e = .int .i64 e0 ∧ i = .int .i64 k ∧ Hid (Stand (bl s) e0 (us.drop k)) ∧ Hid ((spread (us.take k)).length ≤ k * 2001) ∧ Hid (Below (w2.heap.size + 1) (w2.alloc (.cells #[.int .i64 0, .int .i64 0] 26)) wx)) (fun _ _ i _ => N - (intOf i).toNat)
  case atStart => exact ⟨0, 0, Nat.zero_le _, rfl, rfl, rfl, HS, Nat.le_refl _, Below.refl _ _⟩
  case round =>
    obtain ⟨k, e0, hk, rfl, rfl, rfl, HSt, HSz, HB⟩ := hrel
    by_cases hlt : k < N
    · obtain ⟨t, ht, hd, h1, h2, h3, h4, h5⟩ := HSt.out.at_ (by rw [← HN.out]; exact hlt)
      have hrow := own_row (own_below HO2.out HB.out (by simp)) HLen.out
      obtain ⟨g', t', hg, ht', b0, b1, b2⟩ := hrow.at_ (k := k) (by omega)
      obtain rfl : g2 = g' := by injection hg with hg; injection hg
      obtain rfl : t = t' := by
        rw [List.getElem?_append_left (by rw [← HN.out]; exact hlt), ht] at ht'
        injection ht'
      rw [bl_len] at h3
      have hx : s.extract t.pos (t.pos + t.text.length) = sb t.text := by
        rw [extract_mk, show t.pos + t.text.length - t.pos = t.text.length from by omega, h4]
      have HX : Hid (spread (us.take (k + 1)) = (spread (us.take k) ++ [32]) ++ t.text) := spread_snoc ht
      have HSt2 : Hid (Stand (bl s) (t.pos + t.text.length) (us.drop (k + 1))) := h5
      have HSz2 : Hid ((spread (us.take (k + 1))).length ≤ (k + 1) * 2001) := by
        show _ ≤ _
        rw [HX.out]
        have := HSz.out
        simp only [List.length_append, List.length_cons, List.length_nil]
        omega
      have hne : (t.text == ([] : Bytes)) = false := by simpa using h2
      have hd1 : decide (t.pos < e0) = false := by simp; omega
      have hd3 : decide ((s.size : Int) - t.pos < t.text.length) = false := by simp; omega
      have hp3 : t.pos + t.text.length ≤ s.size := h3
      have hw3 : IntKind.i64.wrap ((s.size : Int) - t.pos) = (s.size : Int) - t.pos := by rw [IntKind.wrap_i64]; omega
      have hz1 : (spread (us.take k)).length ≤ 4004000 := by
        have := HSz.out
        have : k * 2001 ≤ 2000 * 2001 := Nat.mul_le_mul_right _ (by omega)
        omega
      have hz2 : (sb (spread (us.take k)) ++ (⟨#[32]⟩ : ByteArray)).size = (spread (us.take k)).length + 1 := by
        show (sb _ ++ sb [32]).size = _
        rw [sb_append]; simp [mk_size]
      have hz3 : t.text.length ≤ 2000 := by omega
      clear hrow hg ht ht' hd h2 h4 h5
      go_wp2_with fail
      obtain ⟨wb, hwb⟩ : ∃ wb : World, wb = wr.alloc (.cells #[.int .u8 t.kind, .string (sb t.text), .int .i64 t.pos] 38) := ⟨_, rfl⟩
      have k1 : wb.cell? ⟨wr.heap.size, 1, none⟩ = some (.string (sb t.text)) := by rw [hwb]; simp [go_sem]
      have k2 : wb.cell? ⟨wr.heap.size, 2, none⟩ = some (.int .i64 t.pos) := by rw [hwb]; simp [go_sem]
      have HB2' : Hid (Below (w2.heap.size + 1) (w2.alloc (.cells #[.int .i64 0, .int .i64 0] 26)) wb) := by
        show Below _ _ _
        rw [hwb]
        exact HB.out.alloc (by have := HB.out.size; simpa using this) _
      rw [← hwb]
      clear hwb b0 b1 b2
      go_quiet (fail)
      go_wp2_with fail
      go_roundw
      case rel => exact ⟨k + 1, _, by omega, congrArg Value.string (by rw [HX.out, ← sb_append, ← sb_append]), rfl, by go_num, HSt2, HSz2, HB2'.out.trans (below_draws' _ _ _)⟩
      case measure => simp [intOf]; omega
    · obtain rfl : k = N := by omega
      have HSp : Hid (us.take k = us) := List.take_of_length_le (by rw [← HN.out]; exact Nat.le_refl _)
      obtain ⟨ms, hm, ha⟩ := lexOf_spread s.size HL.out
      have hsz : (spread us).length ≤ 4004000 := by
        have := HSz.out
        rw [HSp.out] at this
        have : k * 2001 ≤ 2000 * 2001 := Nat.mul_le_mul_right _ (by omega)
        omega
      have hml : ms.length = k + 1 := by rw [ha.len]; exact HLen.out
      have HM := Lib.hid hm
      have HA := Lib.hid ha
      have HML := Lib.hid hml
      rw [HSp.out]
      clear hm ha hml
      go_wp2_with fail
      refine (p_tokens_ok (sb (spread us)) _ ((HE.out.below HB2.out (Nat.le_refl _)).below HB.out (by simp)) (by rw [mk_size]; omega) HM.out).mono ?_
      rintro e w3 ⟨hb3, g3, c3, rfl, ho3⟩
      rw [HML.out] at ho3 ⊢
      have hB3 : Below (w2.heap.size + 1) (w2.alloc (.cells #[.int .i64 0, .int .i64 0] 26)) (w3.alloc (.cells #[.int .i64 0, .int .i64 0] 26)) :=
        HB.out.trans ((hb3.alloc hb3.size _).mono (by have := HB.out.size; simpa using this))
      have HR2 := Lib.hid (own_row (own_below HO2.out hB3 (by simp)) HLen.out)
      have HR3 := Lib.hid (own_row (ho3.alloc (.cells #[.int .i64 0, .int .i64 0] 26)) HML.out)
      have HF : Hid (Below w.heap.size w (w3.alloc (.cells #[.int .i64 0, .int .i64 0] 26))) := HB2.out.trans (hB3.mono (by have := HB2.out.size; simpa using this))
      obtain ⟨wm, hwm⟩ : ∃ wm, wm = w3.alloc (.cells #[.int .i64 0, .int .i64 0] 26) := ⟨_, rfl⟩
      rw [← hwm] at HR2 HR3 HF
      clear hB3 hb3 ho3 HSt HSz HB
      go_wp2
      go_loopw [11] (fun i wx => ∃ j d : Nat, j ≤ k + 1 ∧ i = .int .i64 j ∧ wx = wm.drewN d) (fun i _ => (k + 1) - (intOf i).toNat)
      case atStart => exact ⟨0, 0, Nat.zero_le _, rfl, hwm.symm⟩
      case round =>
        obtain ⟨j, d, hj, rfl, rfl⟩ := hrel
        clear hwm
        by_cases hlt : j < k + 1
        · obtain ⟨ga, ta, hga, hta, a0, a1, a2⟩ := HR2.out.at_ hlt
          obtain ⟨gb, tb, hgb, htb, b0, b1, b2⟩ := HR3.out.at_ hlt
          obtain ⟨e1, e2⟩ := HA.out.at_ hta htb
          obtain rfl : g2 = ga := by injection hga with hga; injection hga
          obtain rfl : g3 = gb := by injection hgb with hgb; injection hgb
          rw [e1] at b0
          rw [e2] at b1
          clear hta htb hga hgb e1 e2 a2 b2
          go_wp2
          go_quiet (fail)
          go_wp2
          go_roundw
          case rel => exact ⟨j + 1, _, by omega, by go_num, rfl⟩
          case measure => simp [intOf]; omega
        · obtain rfl : j = k + 1 := by omega
          go_wp2
          go_ret
          exact ⟨rfl, HF.out.trans (below_draws' _ _ _)⟩

set_option maxHeartbeats 1000000 in
set_option maxRecDepth 20000 in
theorem law_again (s : ByteArray) (w : World) (hE : Env w) (_hs : s.size ≤ 9223372036854775807) : Calls Tryd.prog 6 #[.string s] w (NamePost true w) := by
  by_cases h2 : 2000 < s.size
  · have HE := Lib.hid hE
    clear hE
    go_enter Tryd.func6, Tryd.ntmps6
    go_wp2_with fail
    refine (p_awake _ HE.out).mono ?_
    rintro e w1 ⟨rfl, hb1⟩
    go_wp2
    go_ret
    exact ⟨rfl, hb1⟩
  · cases hr : lexOf (bl s) with
    | error e => exact again_bad s w hE (by omega) e.1 e.2 hr
    | ok ts =>
      obtain ⟨us, rfl, hst, hlo⟩ := lexOf_stands hr
      exact again_ok s w hE (by omega) us hr hst hlo

/-! ### The row and the card of LexAgain -/
section
open Go.ChangeShapes Go.WideShapes Go.ChangeAt Go.RowKit
open Go.ChangeMaps (open_string shut_string)

set_option maxRecDepth 100000 in
theorem lexAgain_lifted (os : Os) (started : os.Started) (H : Type) (enc : TypeId × Value → H) :
    ReturnsInHanded {} Tryd.checked os 6 .any (fun w args => (Rows.lexAgainSpec.pre enc Tryd.prog Tryd.f6 [] false w args ∧ laidMetH Tryd.prog Rows.lexAgainRow.laid w) ∧ sizedMet enc Tryd.prog Tryd.f6 (OpenSpec.ofChange Rows.lexAgainSpec) false w args)
      (Rows.lexAgainSpec.post enc Tryd.prog Tryd.f6 false true false false) := by
  refine returnsInHanded_of_change_and (C := Tryd.checked) (X := fun w _ => laidMetH Tryd.prog Rows.lexAgainRow.laid w) (fun _ _ _ hh h => h.of_heap hh) own started (by kernel_rfl) Tryd.func6
    (ChangeSpec.witness_shaped (enc := enc) (C := Tryd.checked) (os := os) (X := fun w _ => laidMetH Tryd.prog Rows.lexAgainRow.laid w) false (World.doorLaid Tryd.prog 86 os) #[.string ByteArray.empty] 8 rfl (World.shaped_of_RefB (by kernel_rfl) (by kernel_rfl)) (by kernel_rfl) (by kernel_rfl) (by kernel_rfl) (door_met os _)) ?_
  intro W base args ds gs before hval0 hW _ _ hL _
  have hval : ∀ (j : Nat) t v, Tryd.f6.params[j]? = some t → args[j]? = some v → Value.okWide Tryd.prog W .any base t v := hval0
  have hW' := hW
  obtain ⟨p, q, hA0, hV, rfl, hfz, hnd⟩ := hW
  have hA : DataW.TrodAll enc Tryd.prog W 0 (fun _ => true) true Tryd.f6.params.toList args.toList ds p := hA0
  rw [Tryd.params6] at hA hval
  obtain ⟨v0, d0, rfl, rfl, h0⟩ := trodAll_one hA
  obtain ⟨rfl, rfl⟩ := trodVars_none hV
  obtain ⟨x0, rfl, rfl, rfl, w0⟩ := open_string Tryd.underlying9 (hval 0 9 v0 rfl rfl) h0
  clear hA0 hval0
  simp only [List.append_nil] at hW'
  have hE := env_of_laid hL
  refine (law_again x0 W hE (by have := w0; unfold maxLen at this; omega)).mono fun e W' ⟨he, hb⟩ => ?_
  subst he
  exact ⟨_, rfl, _, _, _, [], [], [], hW', trodAll_mk1 (shut_bool Tryd.underlying4 _), trodAll_mk1 (shut_string Tryd.underlying9 w0), rfl, hb.frame _, fun h => by cases h⟩

theorem lexAgain_said : Rows.LexAgainSaid :=
  OpenClaim.holds_of_wide 6 Tryd.f6 rfl rfl rfl rfl rfl rfl rfl ⟨rfl, rfl, rfl, rfl, rfl⟩ rfl rfl rfl rfl rfl (by kernel_rfl) Tryd.func6 (by kernel_rfl)
    (of_decide_eq_true (by kernel_rfl)) (by unfold Func.isWrapper; first | (rw [if_pos (by decide +kernel)]; kernel_rfl) | (rw [if_neg (by decide +kernel)]; exact ⟨rfl, rfl⟩))
    (fun os started H enc _ => lexAgain_lifted os started H enc)

/-- No parameter wants a stand-in; the program's own looks are what the card says. -/
theorem lexAgain_plain (f : FuncId) (fn : Func) (hf : Tryd.pinned.checked.prog.funcNamed "clerestory/clerestorylaw05.LexAgain" = some f) (hfn : Tryd.pinned.checked.prog.funcs[f]? = some fn) :
    true = Tryd.pinned.checked.prog.looks [] ∧ ∀ (j : Nat) t, fn.params[j]? = some t → Tryd.pinned.checked.prog.wantsStandIn t = false := by
  obtain rfl : f = 6 := Option.some.inj ((show Tryd.prog.funcNamed "clerestory/clerestorylaw05.LexAgain" = some 6 by kernel_rfl).symm.trans hf) |>.symm
  obtain rfl : fn = Tryd.f6 := (Option.some.inj (Tryd.func6.symm.trans hfn)).symm
  refine ⟨by kernel_rfl, fun j t ht => ?_⟩
  rw [Tryd.params6] at ht
  have hm : t ∈ [9] := by simpa using Array.mem_of_getElem? ht
  have hall : ([9].all fun u => !Tryd.prog.wantsStandIn u) = true := by kernel_rfl
  exact (show Tryd.prog.wantsStandIn t = false by simpa using List.all_eq_true.1 hall t hm)
theorem lexAgain_card : Rows.LexAgainCardSaid :=
  Claim7.holds_tied_plain_at .later [] _ _ _ _ lexAgain_said (fun _ h => by cases h) (by kernel_rfl) (fun _ h => by cases h) lexAgain_row_tie rfl ⟨rfl, rfl⟩ (by kernel_rfl) rfl lexAgain_plain (by kernel_rfl)
#print axioms lexAgain_card
end
end Go.Proofs.YtnchfjhnacidlaaDoor
