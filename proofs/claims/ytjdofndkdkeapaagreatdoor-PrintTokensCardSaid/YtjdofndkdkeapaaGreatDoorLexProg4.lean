/- The walks over the lexer's number and Name. -/
import Derived.Test.YtjdofndkdkeapaaGreatDoorLexProg3
import Derived.Test.YtjdofndkdkeapaaGreatDoorLexNum
namespace Go.Proofs.YtjdofndkdkeapaaGreatDoor.Lx
open Go.RowKit Go.Shelf

theorem parse_range {l : Bytes} {v : Int} (h : Lib.parseIntB 64 l = .ok v) : -9223372036854775808 ≤ v ∧ v ≤ 9223372036854775807 := by
  cases l with
  | nil => cases h
  | cons c r =>
    unfold Lib.parseIntB at h
    simp only at h
    split at h
    · cases h
    · cases h
    · split at h
      · cases h
      · split at h
        · cases h
        · rename_i u _ h1 h2
          injection h with h
          by_cases hn : c.toNat = 45
          · rw [if_pos hn] at h
            have : ¬ 9223372036854775808 < u := fun hh => h2 ⟨hn, hh⟩
            omega
          · rw [if_neg hn] at h
            have : ¬ 9223372036854775808 ≤ u := fun hh => h1 ⟨hn, hh⟩
            omega

theorem below_grow' (w : World) (k : Nat) (os : Array Obj) : Below w.heap.size w (Sort.grow (w.drewN k) os) :=
  ⟨rfl, rfl, rfl, by simp [Sort.grow, World.drewN], fun i hi => by
    show ((w.drewN k).heap ++ os)[i]? = _
    rw [Array.getElem?_append]; exact if_pos hi⟩

def ParseOk (v : Int) (w : World) (e : Ending) (w' : World) : Prop := e = .returned (.tuple #[.int .i64 v, .nilIface]) ∧ Below w.heap.size w w'
def ParseBad (w : World) (e : Ending) (w' : World) : Prop := ∃ (v : Int) (N : Nat), e = .returned (.tuple #[.int .i64 v, .iface 135 (.pointer (some ⟨N, 0, none⟩))]) ∧ Below w.heap.size w w'
theorem p_parse_ok (s : ByteArray) (v : Int) (w : World) (hs : s.size ≤ 2147483648) (h : Lib.parseIntB 64 (bl s) = .ok v) : Calls Tryz.prog 68 #[.string s, .int .i64 10, .int .i64 64] w (ParseOk v w) := by
  refine (Tryz.strconv_ParseInt_10_at64_ok s (by omega) v h w).mono ?_
  rintro e w1 ⟨rfl, h1⟩
  refine ⟨rfl, ?_⟩
  rcases h1 with rfl | ⟨t, rfl⟩
  · exact Below.refl _ _
  · exact Lib.bytesWorld_below w _ t
theorem p_parse_bad (s : ByteArray) (w : World) (hE : Env w) (hs : s.size ≤ 2147483648) (h : ∀ v, Lib.parseIntB 64 (bl s) ≠ .ok v) : Calls Tryz.prog 68 #[.string s, .int .i64 10, .int .i64 64] w (ParseBad w) := by
  cases hp : Lib.parseIntB 64 (bl s)
  case ok v => exact absurd hp (h v)
  case range =>
    obtain ⟨tp, p, hv⟩ := hE.errR
    refine (Any.strconv_ParseInt_10_at64_range_var Tryz.laysC174 s (by omega) hp tp p w hv).mono ?_
    rintro e w1 ⟨N, rfl, _, _, hb⟩
    exact ⟨_, N, rfl, hb⟩
  all_goals
    obtain ⟨tp, p, hv⟩ := hE.errS
    refine (Any.strconv_ParseInt_10_at64_syntax_var Tryz.laysC174 s (by omega) hp tp p w hv).mono ?_
    rintro e w1 ⟨N, rfl, _, _, hb⟩
    exact ⟨_, N, rfl, hb⟩
def FormPost (l : Bytes) (w : World) (e : Ending) (w' : World) : Prop := e = .returned (.string (sb l)) ∧ Below w.heap.size w w'
theorem p_format (v : Int) (w : World) (hE : Env w) (h : -9223372036854775808 ≤ v ∧ v ≤ 9223372036854775807) : Calls Tryz.prog 69 #[.int .i64 v, .int .i64 10] w (FormPost (Lib.itoa v) w) := by
  refine (Tryz.strconv_FormatInt_10 v h.1 h.2 w hE.tabP).mono ?_
  rintro e w1 ⟨rfl, k, os, rfl⟩
  exact ⟨rfl, below_grow' w k os⟩

set_option maxHeartbeats 1000000 in
theorem p_number (s : ByteArray) (w : World) (hE : Env w) (hs : s.size ≤ 2147483647) :
    Calls Tryz.prog 34 #[.string s] w (NamePost (numberB (bl s)) w) := by
  have HE := Lib.hid hE
  clear hE
  cases hp : Lib.parseIntB 64 (bl s) with
  | ok v =>
    have HP := Lib.hid hp
    have HN : Hid (numberB (bl s) = (Lib.itoa v == bl s)) := by show _ = _; unfold numberB; rw [hp]
    clear hp
    have hrg := parse_range HP.out
    cases hq : (Lib.itoa v == s.toList) with
    | true =>
      have HQ : Hid (true = numberB (bl s)) := by show _ = _; rw [HN.out, ← toList_bl, hq]
      go_enter Tryz.func34, Tryz.ntmps34
      go_wp2_with fail
      refine (p_parse_ok s v _ (by omega) HP.out).mono ?_
      rintro e w1 ⟨rfl, hb1⟩
      go_wp2_with fail
      refine (p_format v _ (HE.out.below hb1 (Nat.le_refl _)) hrg).mono ?_
      rintro e w2 ⟨rfl, hb2⟩
      go_wp2
      go_ret
      exact NamePost.intro HQ.out (hb1.trans (hb2.mono hb1.size))
    | false =>
      have HQ : Hid (false = numberB (bl s)) := by show _ = _; rw [HN.out, ← toList_bl, hq]
      go_enter Tryz.func34, Tryz.ntmps34
      go_wp2_with fail
      refine (p_parse_ok s v _ (by omega) HP.out).mono ?_
      rintro e w1 ⟨rfl, hb1⟩
      go_wp2_with fail
      refine (p_format v _ (HE.out.below hb1 (Nat.le_refl _)) hrg).mono ?_
      rintro e w2 ⟨rfl, hb2⟩
      go_wp2
      go_ret
      exact NamePost.intro HQ.out (hb1.trans (hb2.mono hb1.size))
  | _ =>
    have HP : Hid (∀ v, Lib.parseIntB 64 (bl s) ≠ .ok v) := fun v e => by rw [hp] at e; cases e
    have HQ : Hid (false = numberB (bl s)) := by show _ = _; unfold numberB; rw [hp]
    clear hp
    go_enter Tryz.func34, Tryz.ntmps34
    go_wp2_with fail
    refine (p_parse_bad s _ HE.out (by omega) HP.out).mono ?_
    rintro e w1 ⟨v, N, rfl, hb1⟩
    go_wp2
    go_ret
    exact NamePost.intro HQ.out hb1

/-! ### slices.Contains over a row of strings -/
theorem p_contains (g n c : Nat) (ss : List Bytes) (x : ByteArray) (w : World) (h : StrRow w (some ⟨g, 0, none⟩) n ss) (hn : n ≤ 9223372036854775807) :
    Calls Tryz.prog 31 #[.slice (some ⟨g, 0, none⟩) n c, .string x] w fun e w' => e = .returned (.bool (hasB ss (bl x))) ∧ w = w' := by
  have hl := h.1
  by_cases h0 : n = 0
  · subst h0
    have : ss = [] := List.eq_nil_of_length_eq_zero hl
    subst this
    refine (Tryz.slices_Contains_string_empty _ c x w).mono ?_
    rintro e w1 ⟨rfl, rfl⟩
    exact ⟨rfl, rfl⟩
  · obtain ⟨ad, e, _, hc⟩ := h.2 (by omega)
    injection e with e
    subst e
    refine (Tryz.slices_Contains_string g 0 n c (ss.map sb) x w (by simp [hl]) hn ?_).mono ?_
    · intro j hj
      have hj' : j < ss.length := by simpa using hj
      have h1 := hc j ss[j] (List.getElem?_eq_getElem hj')
      rw [add_mid] at h1
      rw [h1]
      congr 1
      simp [List.getD, List.getElem?_map, List.getElem?_eq_getElem hj']
    · rintro e w1 ⟨rfl, rfl⟩
      refine ⟨ret_bool ?_, rfl⟩
      rw [Lib.containsS_iff, List.take_of_length_le (by simp [hl])]
      unfold hasB
      simp only [List.contains_iff_mem, List.mem_map]
      constructor
      · rintro ⟨l, hl, rfl⟩; exact hl
      · intro h; exact ⟨_, h, rfl⟩

set_option maxHeartbeats 1000000 in
theorem p_name (s : ByteArray) (w : World) (hE : Env w) (hs : s.size ≤ 9223372036854775806) :
    Calls Tryz.prog 33 #[.string s] w (NamePost (isName (bl s)) w) := by
  have HE := Lib.hid hE
  clear hE
  by_cases h0 : s.size = 0
  · have he : s.toList = [] := by rw [toList_bl]; exact List.eq_nil_of_length_eq_zero h0
    have hi : Hid (isName (bl s) = false) := by show _ = _; rw [← toList_bl, he]; rfl
    clear h0
    go_enter Tryz.func33, Tryz.ntmps33
    go_wp2
    go_ret
    exact NamePost.intro hi.out.symm (Below.refl _ _)
  · have he : (s.toList.isEmpty) = false := by rw [toList_bl]; cases hh : bl s with | nil => exact absurd (by rw [← bl_len, hh]; rfl) h0 | cons a l => rfl
    have hpos : 0 < s.size := by omega
    clear h0
    by_cases h24 : 24 < s.size
    · have hi := Lib.hid (isName_long h24)
      go_enter Tryz.func33, Tryz.ntmps33
      go_wp2
      go_ret
      exact NamePost.intro hi.out.symm (Below.refl _ _)
    · have h24' : s.size ≤ 24 := by omega
      clear h24
      cases hc : letterB s[0] with
      | false =>
        have hi := Lib.hid (isName_head hpos hc)
        have HC := Lib.hid hc
        clear hc
        go_enter Tryz.func33, Tryz.ntmps33
        go_wp2_with (go_at_call 66; refine (p_letter _ _).mono ?_; rintro e w' ⟨rfl, rfl⟩; rw [HC.out])
        go_ret
        exact NamePost.intro hi.out.symm (Below.refl _ _)
      | true =>
        have HC := Lib.hid hc
        clear hc
        cases hw : hasB wordsL (bl s) with
        | true =>
          have hi := Lib.hid (isName_word hw)
          have HW := Lib.hid hw
          clear hw
          go_enter Tryz.func33, Tryz.ntmps33
          go_wp2_with (first | (go_at_call 66; refine (p_letter _ _).mono ?_; rintro e w' ⟨rfl, rfl⟩; rw [HC.out]) | (go_at_call 32; refine (p_words _ HE.out).mono ?_; rintro e w1 ⟨A1, rfl, hrow, hbel, _, g1, rfl⟩) | (go_at_call 31; refine (p_contains _ _ _ _ _ _ hrow (by omega)).mono ?_; rintro e w' ⟨rfl, rfl⟩; rw [HW.out]))
          go_ret
          exact NamePost.intro hi.out.symm hbel
        | false =>
          have HW := Lib.hid hw
          clear hw
          go_enter Tryz.func33, Tryz.ntmps33
          go_wp2_with (first | (go_at_call 66; refine (p_letter _ _).mono ?_; rintro e w' ⟨rfl, rfl⟩; rw [HC.out]) | (go_at_call 32; refine (p_words _ HE.out).mono ?_; rintro e w1 ⟨A1, rfl, hrow, hbel, _, g1, rfl⟩) | (go_at_call 31; refine (p_contains _ _ _ _ _ _ hrow (by omega)).mono ?_; rintro e w' ⟨rfl, rfl⟩; rw [HW.out]))
          go_loop [24] (fun i => ∃ k : Nat, k ≤ s.size ∧ i = .int .i64 k ∧ Hid (∀ j (h : j < s.size), j < k → wordyB s[j] = true)) (fun i => s.size - (intOf i).toNat)
          case atStart => exact ⟨0, Nat.zero_le _, rfl, fun j _ h => by omega⟩
          case round =>
            obtain ⟨k, hk, rfl, HI⟩ := hrel
            by_cases hlt : k < s.size
            · cases hl : wordyB s[k] with
              | true =>
                have HL := Lib.hid hl
                have HN : Hid (∀ j (h : j < s.size), j < k + 1 → wordyB s[j] = true) := by
                  intro j h hj
                  by_cases e : j = k
                  · subst e; exact hl
                  · exact HI.out j h (by omega)
                clear hl
                go_wp2_with (go_at_call 30; refine (p_wordy _ _).mono ?_; rintro e w' ⟨rfl, rfl⟩; rw [HL.out])
                go_round
                case rel => exact ⟨k + 1, by omega, by go_num, HN⟩
                case measure => simp [intOf]; omega
              | false =>
                have HL := Lib.hid hl
                have hi := Lib.hid (isName_bad hlt hl)
                clear hl
                go_wp2_with (go_at_call 30; refine (p_wordy _ _).mono ?_; rintro e w' ⟨rfl, rfl⟩; rw [HL.out])
                go_ret
                exact NamePost.intro hi.out.symm hbel
            · have hi := Lib.hid (isName_good hpos h24' HC.out HW.out (fun j h => HI.out j h (by omega)))
              go_wp2
              go_ret
              exact NamePost.intro hi.out.symm hbel
end Go.Proofs.YtjdofndkdkeapaaGreatDoor.Lx
