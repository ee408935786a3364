/- LexInts: a number's digits are one integer, if it is at most 2^63 - 1 and no 0 stands ahead; else the fault. No condition. -/
import Derived.Test.YtnchfjhnacidlaaDoorLexLaw1
import Derived.Test.YtnchfjhnacidlaaDoorLexEnv
import Derived.ShutString
import Derived.Deep.LoopGhost
namespace Go.Proofs.YtnchfjhnacidlaaDoor
open Go.RowKit

theorem dec_spec : ∀ (n u : Nat), u ≤ n → (Lib.decDigits u).all digitB = true ∧ numVal (Lib.decDigits u) = u
  | n, u, hn => by
    rw [Lib.decDigits]
    split
    · rename_i h
      have ht : (UInt8.ofNat (48 + u)).toNat = 48 + u := by simp; omega
      refine ⟨?_, ?_⟩
      · simp only [List.all_cons, List.all_nil, Bool.and_true]
        rw [digitB_iff, ht]
        omega
      · simp only [numVal, List.foldl_cons, List.foldl_nil, ht]
        omega
    · rename_i h
      cases n with
      | zero => omega
      | succ n =>
        obtain ⟨h1, h2⟩ := dec_spec n (u / 10) (by omega)
        have ht : (UInt8.ofNat (48 + u % 10)).toNat = 48 + u % 10 := by simp; omega
        refine ⟨?_, ?_⟩
        · rw [List.all_append, h1]
          simp only [List.all_cons, List.all_nil, Bool.and_true, Bool.true_and]
          rw [digitB_iff, ht]
          omega
        · rw [numVal_snoc, h2, ht]
          omega
theorem dec_len : ∀ (k u : Nat), u < 10 ^ (k + 1) → (Lib.decDigits u).length ≤ k + 1
  | 0, u, h => by rw [Lib.decDigits, dif_pos (by simpa using h)]; simp
  | k + 1, u, h => by
    rw [Lib.decDigits]
    split
    · simp
    · have := dec_len k (u / 10) (by rw [Nat.pow_succ] at h; omega)
      rw [List.length_append]
      simp only [List.length_cons, List.length_nil]
      omega

theorem digit_wordy {c : UInt8} (h : digitB c = true) : wordyB c = true := by simp [wordyB, h]
theorem digit_not_letter {c : UInt8} (h : digitB c = true) : letterB c = false := by
  have := digitB_iff.1 h
  simp [letterB]
  omega
theorem digits_take {l : Bytes} (h : l.all digitB = true) : l.takeWhile wordyB = l := by
  induction l with
  | nil => rfl
  | cons c r ih =>
    simp only [List.all_cons, Bool.and_eq_true] at h
    rw [List.takeWhile_cons, digit_wordy h.1, if_pos rfl, ih h.2]
theorem digits_kind {l : Bytes} (h : l.all digitB = true) (h0 : l ≠ []) : kindOf l = if isInt l then some 3 else none := by
  cases l with
  | nil => exact absurd rfl h0
  | cons c r =>
    simp only [List.all_cons, Bool.and_eq_true] at h
    have hl := digit_not_letter h.1
    have hw : wordsL.contains (c :: r) = false := by
      rw [List.contains_eq_mem]
      simp only [decide_eq_false_iff_not]
      intro hm
      have : ∀ u ∈ wordsL, ∀ c, u.head? = some c → letterB c = true := by decide
      have := this _ hm c rfl
      rw [hl] at this
      cases this
    have hn : isName (c :: r) = false := by simp [isName, hl]
    unfold kindOf
    rw [hw, hn]
    simp
theorem digits_lex {l : Bytes} (h : l.all digitB = true) (h0 : l ≠ []) : lexOf l = if isInt l then .ok [⟨3, l, 0⟩, ⟨5, [], l.length⟩] else .error (101, 0) := by
  have hk := digits_kind h h0
  have ht := digits_take h
  cases l with
  | nil => exact absurd rfl h0
  | cons c r =>
    have hc : digitB c = true := by simp only [List.all_cons, Bool.and_eq_true] at h; exact h.1
    have hw := digit_wordy hc
    have hb := wordy_not_blank hw
    have hs : ([47, 47] : Bytes).isPrefixOf (c :: r) = false := by
      cases hh : ([47, 47] : Bytes).isPrefixOf (c :: r)
      · rfl
      · simp [List.isPrefixOf] at hh
        rw [← hh.1] at hc
        revert hc; decide
    unfold lexOf
    rw [lexAt_cons]
    simp only [headOf, hb, hs, hw, ht, hk]
    cases isInt (c :: r)
    · rfl
    · simp [LexRes.push, lexAt_nil]
theorem dec_isInt (n : Nat) : isInt (Lib.decDigits n) = decide (n ≤ 9223372036854775807) := by
  obtain ⟨h1, h2⟩ := dec_spec n n (Nat.le_refl _)
  by_cases hn : n ≤ 9223372036854775807
  · rw [isInt_good (decDigits_pos n) ?_ h1 (by rw [h2]; exact hn)]
    · simp [hn]
    · by_cases hl : 1 < (Lib.decDigits n).length
      · exact .inr (decDigits_head n n (Nat.le_refl _) hl)
      · have := List.length_pos_iff.2 (decDigits_pos n)
        exact .inl (by omega)
  · rw [isInt_big (by rw [h2]; omega)]
    simp [hn]
theorem lex_number (n : Nat) : lexOf (Lib.decDigits n) = if n ≤ 9223372036854775807 then .ok [⟨3, Lib.decDigits n, 0⟩, ⟨5, [], (Lib.decDigits n).length⟩] else .error (101, 0) := by
  obtain ⟨h1, _⟩ := dec_spec n n (Nat.le_refl _)
  rw [digits_lex h1 (decDigits_pos n), dec_isInt]
  simp
theorem lex_zero (n : Nat) : lexOf (48 :: Lib.decDigits n) = .error (101, 0) := by
  obtain ⟨h1, _⟩ := dec_spec n n (Nat.le_refl _)
  have := List.length_pos_iff.2 (decDigits_pos n)
  rw [digits_lex (by rw [List.all_cons, h1]; rfl) (by simp), isInt_zero (by simp; omega) rfl]
  rfl

/-- The loop's digits. -/
def IntInv (n x : Nat) (s : Bytes) : Prop := (s = [] ∧ x = n) ∨ (s ≠ [] ∧ ((x = 0 ∧ s = Lib.decDigits n) ∨ (0 < x ∧ Lib.decDigits x ++ s = Lib.decDigits n)))
theorem IntInv.step {n x : Nat} {s : Bytes} (h : IntInv n x s) (hx : 0 < x ∨ s = []) : IntInv n (x / 10) (UInt8.ofNat (48 + x % 10) :: s) := by
  right
  refine ⟨by simp, ?_⟩
  have key : Lib.decDigits x ++ s = Lib.decDigits n := by
    rcases h with ⟨rfl, rfl⟩ | ⟨h0, h | h⟩
    · simp
    · rcases hx with hx | hx
      · omega
      · exact absurd hx h0
    · exact h.2
  rw [Lib.decDigits] at key
  split at key
  · rename_i h10
    left
    refine ⟨by omega, ?_⟩
    rw [← key, show x % 10 = x from by omega]
    rfl
  · rename_i h10
    right
    refine ⟨by omega, ?_⟩
    rw [← key]
    simp
theorem IntInv.done {n x : Nat} {s : Bytes} (h : IntInv n x s) (hx : x = 0) (hs : s ≠ []) : s = Lib.decDigits n := by
  rcases h with ⟨h, _⟩ | ⟨_, h | h⟩
  · exact absurd h hs
  · exact h.2
  · omega
theorem IntInv.len {n x : Nat} {s : Bytes} (h : IntInv n x s) (hn : n ≤ 18446744073709551615) : s.length ≤ 20 := by
  have hd := dec_len 19 n (by omega)
  rcases h with ⟨h, _⟩ | ⟨_, h | h⟩
  · rw [h]; simp
  · rw [h.2]; exact hd
  · rw [← h.2, List.length_append] at hd
    omega

theorem sb_append (a b : Bytes) : sb a ++ sb b = sb (a ++ b) := bl_inj (Joins.data_append (sb a) (sb b))
theorem digit_ahead (k : Nat) (s : Bytes) : sb [48 + UInt8.ofNat (k % 10)] ++ sb s = sb (UInt8.ofNat (48 + k % 10) :: s) := by
  rw [sb_append]
  have : UInt8.ofNat (48 + k % 10) = 48 + UInt8.ofNat (k % 10) := by simp
  rw [this]; rfl
theorem digit_ahead_size (a : UInt8) (s : Bytes) : (sb [a] ++ sb s).size = s.length + 1 := by
  rw [sb_append]; simp [mk_size]
theorem digit_conv (wr : World) (k : Nat) :
    (convert 35 9 (.slice (some ⟨wr.heap.size, 0, none⟩) 1 1)).run Tryd.prog (wr.alloc (.cells #[.int .u8 (48 + (k : Int) % 10)] 5)) =
      .ok (.string (sb [UInt8.ofNat (48 + k % 10)])) (wr.alloc (.cells #[.int .u8 (48 + (k : Int) % 10)] 5)) := by
  rw [run_convert_bytes_string _ _ _ 5 _ _ _ Tryd.underlying35 Tryd.underlying5 Tryd.underlying9]
  rw [run_bytesToString _ _ _ _ [48 + (k : Int) % 10] (by simp [loadCells, go_sem])]
  have : (48 + (k : Int) % 10).toNat = 48 + k % 10 := by omega
  simp [this]
  rfl

theorem digit_conv0 (wr : World) :
    (convert 35 9 (.slice (some ⟨wr.heap.size, 0, none⟩) 1 1)).run Tryd.prog (wr.alloc (.cells #[.int .u8 48] 5)) =
      .ok (.string (sb [48])) (wr.alloc (.cells #[.int .u8 48] 5)) := digit_conv wr 0

set_option maxHeartbeats 1000000 in
set_option maxRecDepth 20000 in
theorem law_ints (n : Nat) (zero : Bool) (w : World) (hE : Env w) (hn : n ≤ 18446744073709551615) : Calls Tryd.prog 5 #[.int .u64 n, .bool zero] w (NamePost true w) := by
  have HE := Lib.hid hE
  clear hE
  go_enter Tryd.func5, Tryd.ntmps5
  go_wp2_with fail
  refine (p_awake _ HE.out).mono ?_
  rintro e w1 ⟨rfl, hb1⟩
  have HB1 := Lib.hid hb1
  clear hb1
  go_wp2
  go_loopg [5, 6] (n + 1) (fun g t x wx => ∃ (s : Bytes) (k : Nat), k + (if s = [] then 1 else 0) = g ∧ t = .string (sb s) ∧ x = .int .u64 k ∧ k ≤ n ∧ Hid (IntInv n k s) ∧ Hid (Below w.heap.size w wx))
  case atStart => exact ⟨[], n, rfl, rfl, rfl, Nat.le_refl _, .inl ⟨rfl, rfl⟩, HB1⟩
  case round =>
    obtain ⟨s, k, hg, rfl, rfl, hk, HI, HB⟩ := hrel
    have HG := Lib.hid hg
    clear hg
    have hsl := HI.out.len hn
    by_cases hk0 : 0 < k
    · have HN := Lib.hid (HI.out.step (.inl hk0))
      have hcv := digit_conv wr k
      have HB2 : Hid (Below w.heap.size w (wr.alloc (.cells #[.int .u8 (48 + (k : Int) % 10)] 5))) := HB.out.alloc HB.out.size _
      go_wp2
      go_roundg (k / 10)
      case measure => have := HG.out; omega
      case rel => exact ⟨UInt8.ofNat (48 + k % 10) :: s, k / 10, rfl, congrArg Value.string (digit_ahead k s), by go_num, by omega, HN, HB2⟩
    · obtain rfl : k = 0 := by omega
      by_cases hs0 : s = []
      · have HN := Lib.hid (HI.out.step (.inr hs0))
        have HG2 : Hid (gk = 1) := by show _ = _; have := HG.out; rw [if_pos hs0] at this; omega
        subst hs0
        have hcv := digit_conv0 wr
        have HB2 : Hid (Below w.heap.size w (wr.alloc (.cells #[.int .u8 48] 5))) := HB.out.alloc HB.out.size _
        go_wp2
        go_roundg 0
        case measure => rw [HG2.out]; omega
        case rel => exact ⟨[48], 0, rfl, congrArg Value.string (sb_append [48] []), by simp, by omega, HN, HB2⟩
      · have HS : Hid (s = Lib.decDigits n) := HI.out.done rfl hs0
        have he : s.isEmpty = false := by cases s with | nil => exact absurd rfl hs0 | cons a l => rfl
        clear hs0
        cases zero with
        | true =>
          have HX : Hid (lexOf (bl (sb [48] ++ sb s)) = .error (101, 0)) := by
            show _ = _
            rw [sb_append, HS.out]
            exact lex_zero n
          have hz : (sb [48] ++ sb s).size ≤ 1073741824 := by rw [digit_ahead_size]; omega
          go_wp2_with fail
          refine (p_tokens_bad _ _ (HE.out.below HB.out (Nat.le_refl _)) hz HX.out).mono ?_
          rintro e w2 ⟨hb2, rfl⟩
          have HB2 : Hid (Below w.heap.size w (w2.alloc (.cells #[.int .i64 101, .int .i64 0] 26))) := HB.out.trans ((hb2.alloc hb2.size _).mono HB.out.size)
          clear hb2
          go_wp2
          go_ret
          exact ⟨ret_bool (by simp), HB2.out⟩
        | false =>
          by_cases hm : n ≤ 9223372036854775807
          · have HX : Hid (lexOf (bl (sb s)) = .ok [⟨3, s, 0⟩, ⟨5, [], s.length⟩]) := by
              show _ = _
              have := lex_number n
              rw [if_pos hm, ← HS.out] at this
              exact this
            have hz : (sb s).size ≤ 1073741824 := by rw [mk_size]; omega
            go_wp2_with fail
            refine (p_tokens_ok _ _ (HE.out.below HB.out (Nat.le_refl _)) hz HX.out).mono ?_
            rintro e w2 ⟨hb2, g2, c2, rfl, ho2⟩
            have HB2 : Hid (Below w.heap.size w (w2.alloc (.cells #[.int .i64 0, .int .i64 0] 26))) := HB.out.trans ((hb2.alloc hb2.size _).mono HB.out.size)
            have ho := ho2.alloc (.cells #[.int .i64 0, .int .i64 0] 26)
            have a0 := own_cells ho 0 _ rfl
            have a1 := own_cells ho 1 _ rfl
            have a2 := own_cells ho 2 _ rfl
            clear hb2 ho2 ho
            go_wp2
            go_ret
            exact ⟨ret_bool (by simp), HB2.out⟩
          · have HX : Hid (lexOf (bl (sb s)) = .error (101, 0)) := by
              show _ = _
              have := lex_number n
              rw [if_neg hm, ← HS.out] at this
              exact this
            have hz : (sb s).size ≤ 1073741824 := by rw [mk_size]; omega
            go_wp2_with fail
            refine (p_tokens_bad _ _ (HE.out.below HB.out (Nat.le_refl _)) hz HX.out).mono ?_
            rintro e w2 ⟨hb2, rfl⟩
            have HB2 : Hid (Below w.heap.size w (w2.alloc (.cells #[.int .i64 101, .int .i64 0] 26))) := HB.out.trans ((hb2.alloc hb2.size _).mono HB.out.size)
            clear hb2
            go_wp2
            go_ret
            exact ⟨ret_bool (by simp), HB2.out⟩

/-! ### The row and the card of LexInts -/
section
open Go.ChangeShapes Go.WideShapes Go.ChangeAt Go.RowKit
open Go.ChangeMaps (open_string shut_string)

set_option maxRecDepth 100000 in
theorem lexInts_lifted (os : Os) (started : os.Started) (H : Type) (enc : TypeId × Value → H) :
    ReturnsInHanded {} Tryd.checked os 5 .any (fun w args => (Rows.lexIntsSpec.pre enc Tryd.prog Tryd.f5 [] false w args ∧ laidMetH Tryd.prog Rows.lexIntsRow.laid w) ∧ sizedMet enc Tryd.prog Tryd.f5 (OpenSpec.ofChange Rows.lexIntsSpec) false w args)
      (Rows.lexIntsSpec.post enc Tryd.prog Tryd.f5 false true false false) := by
  refine returnsInHanded_of_change_and (C := Tryd.checked) (X := fun w _ => laidMetH Tryd.prog Rows.lexIntsRow.laid w) (fun _ _ _ hh h => h.of_heap hh) own started (by kernel_rfl) Tryd.func5
    (ChangeSpec.witness_shaped (enc := enc) (C := Tryd.checked) (os := os) (X := fun w _ => laidMetH Tryd.prog Rows.lexIntsRow.laid w) false (World.doorLaid Tryd.prog 86 os) #[.int .u64 0, .bool false] 8 rfl (World.shaped_of_RefB (by kernel_rfl) (by kernel_rfl)) (by kernel_rfl) (by kernel_rfl) (by kernel_rfl) (door_met os _)) ?_
  intro W base args ds gs before hval0 hW _ _ hL _
  have hval : ∀ (j : Nat) t v, Tryd.f5.params[j]? = some t → args[j]? = some v → Value.okWide Tryd.prog W .any base t v := hval0
  have hW' := hW
  obtain ⟨p, q, hA0, hV, rfl, hfz, hnd⟩ := hW
  have hA : DataW.TrodAll enc Tryd.prog W 0 (fun _ => true) true Tryd.f5.params.toList args.toList ds p := hA0
  rw [Tryd.params5] at hA hval
  obtain ⟨v0, v1, d0, d1, p0, p1, rfl, rfl, rfl, h0, h1⟩ := trodAll_two hA
  obtain ⟨rfl, rfl⟩ := trodVars_none hV
  obtain ⟨x0, rfl, rfl, rfl, w0⟩ := open_int Tryd.underlying34 (hval 0 34 v0 rfl rfl) h0
  obtain ⟨x1, rfl, rfl, rfl⟩ := open_bool Tryd.underlying4 (hval 1 4 v1 rfl rfl) h1
  clear hA0 hval0
  simp only [List.append_nil] at hW'
  have hE := env_of_laid hL
  have hx0 : 0 ≤ x0 ∧ x0 ≤ 18446744073709551615 := by have h := w0; simp only [Lit.wf, Bool.and_eq_true, decide_eq_true_eq] at h; exact ⟨h.1, h.2⟩
  obtain ⟨n0, rfl⟩ := Int.eq_ofNat_of_zero_le hx0.1
  refine (law_ints n0 x1 W hE (by have := hx0.2; omega)).mono fun e W' ⟨he, hb⟩ => ?_
  subst he
  exact ⟨_, rfl, _, _, _, [], [], [], hW', trodAll_mk1 (shut_bool Tryd.underlying4 _), trodAll_mk2 (shut_int Tryd.underlying34 w0) (shut_bool Tryd.underlying4 _), rfl, hb.frame _, fun h => by cases h⟩

theorem lexInts_said : Rows.LexIntsSaid :=
  OpenClaim.holds_of_wide 5 Tryd.f5 rfl rfl rfl rfl rfl rfl rfl ⟨rfl, rfl, rfl, rfl, rfl⟩ rfl rfl rfl rfl rfl (by kernel_rfl) Tryd.func5 (by kernel_rfl)
    (of_decide_eq_true (by kernel_rfl)) (by unfold Func.isWrapper; first | (rw [if_pos (by decide +kernel)]; kernel_rfl) | (rw [if_neg (by decide +kernel)]; exact ⟨rfl, rfl⟩))
    (fun os started H enc _ => lexInts_lifted os started H enc)

/-- No parameter wants a stand-in; the program's own looks are what the card says. -/
theorem lexInts_plain (f : FuncId) (fn : Func) (hf : Tryd.pinned.checked.prog.funcNamed "clerestory/clerestorylaw05.LexInts" = some f) (hfn : Tryd.pinned.checked.prog.funcs[f]? = some fn) :
    true = Tryd.pinned.checked.prog.looks [] ∧ ∀ (j : Nat) t, fn.params[j]? = some t → Tryd.pinned.checked.prog.wantsStandIn t = false := by
  obtain rfl : f = 5 := Option.some.inj ((show Tryd.prog.funcNamed "clerestory/clerestorylaw05.LexInts" = some 5 by kernel_rfl).symm.trans hf) |>.symm
  obtain rfl : fn = Tryd.f5 := (Option.some.inj (Tryd.func5.symm.trans hfn)).symm
  refine ⟨by kernel_rfl, fun j t ht => ?_⟩
  rw [Tryd.params5] at ht
  have hm : t ∈ [34, 4] := by simpa using Array.mem_of_getElem? ht
  have hall : ([34, 4].all fun u => !Tryd.prog.wantsStandIn u) = true := by kernel_rfl
  exact (show Tryd.prog.wantsStandIn t = false by simpa using List.all_eq_true.1 hall t hm)
theorem lexInts_card : Rows.LexIntsCardSaid :=
  Claim7.holds_tied_plain_at .later [] _ _ _ _ lexInts_said (fun _ h => by cases h) (by kernel_rfl) (fun _ h => by cases h) lexInts_row_tie rfl ⟨rfl, rfl⟩ (by kernel_rfl) rfl lexInts_plain (by kernel_rfl)
#print axioms lexInts_card
end
end Go.Proofs.YtnchfjhnacidlaaDoor
