/- The walks over the lexer's Name and what it calls. -/
import Derived.Test.YtjdofndkdkeapaaGreatDoorStr
import Derived.Test.YtjdofndkdkeapaaGreatDoorShelf
import Derived.Lib.SmallJoins
import Derived.Deep.RegionHeld3
import Derived.Deep.QuietTactic
import Derived.BigQuiet
namespace Go.Proofs.YtjdofndkdkeapaaGreatDoor
open Go.RowKit

/-- What the library's functions want of the package-level variables. -/
structure EnvS (w : World) : Prop where
  tabS : Lib.TabIs Tryz.prog w "strings.asciiSpace" .u8 Lib.asciiSpaceTab
theorem var_lt {P : Program} {w : World} {g : Nat} {n : String} {cs : Array Value} (hg : P.globalNamed n = some g) (h : w.var? P n = some cs) : g < w.heap.size := by
  unfold World.var? at h
  simp only [hg, Option.bind_some] at h
  rcases Nat.lt_or_ge g w.heap.size with hl | hl
  · exact hl
  · rw [Array.getElem?_eq_none hl] at h; simp at h
theorem var_at {P : Program} {w w' : World} {B g : Nat} {n : String} {cs : Array Value} (hg : P.globalNamed n = some g) (h : w.var? P n = some cs) (hb : Below B w w') (hB : w.heap.size ≤ B) : w'.var? P n = some cs :=
  var?_below hb hg (Nat.lt_of_lt_of_le (var_lt hg h) hB) h
/-- The variable stands in every later world. -/
theorem EnvS.below {w w' : World} {B : Nat} (h : EnvS w) (hb : Below B w w') (hB : w.heap.size ≤ B) : EnvS w' :=
  ⟨var_at (g := 0) (by kernel_rfl) h.tabS hb hB⟩
theorem ascii_of {l : Bytes} (h : l.all (fun b => b.toNat < 128) = true) : ∀ (j : Nat) (b : UInt8), l[j]? = some b → b.toNat < 128 := by
  intro j b hj
  have := List.all_eq_true.1 h b (List.mem_of_getElem? hj)
  simpa using this
theorem row_of_fields {l : Bytes} {n : Nat} {ss : List Bytes} (hl : Lib.fields l = ss) (hn : ss.length = n) (w : World) :
    RowPost n ss w (.returned (.slice (some ⟨w.heap.size, 0, none⟩) (Lib.fields l).length (Lib.fields l).length)) (w.alloc (.cells ((Lib.fields l).map fun l => Value.string ⟨l.toArray⟩).toArray 9)) := by
  rw [hl]
  refine ⟨some ⟨w.heap.size, 0, none⟩, by rw [hn], StrRow.new ss hn, (Below.refl _ _).alloc (Nat.le_refl _) _, fun ad h => ?_, _, rfl⟩
  injection h with h; rw [← h]; exact Nat.le_refl _
theorem p_fields_words (w : World) (hE : EnvS w) : Calls Tryz.prog 35 #[.string ⟨#[102, 117, 110, 99, 32, 118, 97, 114, 32, 105, 102, 32, 101, 108, 115, 101, 32, 119, 104, 105, 108, 101, 32, 114, 101, 116, 117, 114, 110, 32, 112, 114, 105, 110, 116, 32, 116, 114, 117, 101, 32, 102, 97, 108, 115, 101, 32, 108, 101, 110, 32, 114, 101, 97, 100]⟩] w (RowPost 11 wordsL w) := by
  refine (Tryz.strings_Fields _ w (by decide) (ascii_of (by decide)) hE.tabS).mono ?_
  rintro e w1 ⟨rfl, rfl⟩
  exact row_of_fields (by decide +kernel) (by decide) w

set_option maxHeartbeats 400000 in
theorem p_words (w : World) (hE : EnvS w) : Calls Tryz.prog 32 #[] w (RowPost 11 wordsL w) := by
  have hT := Lib.hid hE
  clear hE
  go_enter Tryz.func32, Tryz.ntmps32
  go_wp2_with (go_at_call 35; refine (p_fields_words _ hT.out).mono ?_; rintro e w1 ⟨A1, rfl, hrow, hbel, hnew⟩)
  go_ret
  exact ⟨A1, rfl, hrow, hbel, hnew⟩

theorem letter_or_all : ∀ n : Fin 256, ((decide (97 ≤ bits BinOp.or IntKind.u8 (n.val : Int) 32) && decide (bits BinOp.or IntKind.u8 (n.val : Int) 32 ≤ 122)) || (n.val == 95)) =
    ((decide (97 ≤ n.val) && decide (n.val ≤ 122)) || (decide (65 ≤ n.val) && decide (n.val ≤ 90)) || n.val == 95) := by decide +kernel
theorem letter_or (c : UInt8) : ((decide (97 ≤ bits BinOp.or IntKind.u8 (c.toNat : Int) 32) && decide (bits BinOp.or IntKind.u8 (c.toNat : Int) 32 ≤ 122)) || (c.toNat == 95)) = letterB c :=
  letter_or_all ⟨c.toNat, c.toNat_lt⟩

set_option maxHeartbeats 400000 in
theorem p_letter (c : UInt8) (w : World) :
    Calls Tryz.prog 66 #[.int .u8 c.toNat] w fun e w' => e = .returned (.bool (letterB c)) ∧ w = w' := by
  have hl := Lib.hid (letter_or c)
  generalize hg : bits BinOp.or IntKind.u8 (c.toNat : Int) 32 = g at hl
  have HG := Lib.hid hg
  go_enter Tryz.func66, Tryz.ntmps66
  go_wp2
  all_goals
    go_ret
    refine ⟨ret_bool ?_, rfl⟩
    rw [← hl.out]
    simp
    omega

set_option maxHeartbeats 400000 in
theorem p_wordy (c : UInt8) (w : World) :
    Calls Tryz.prog 30 #[.int .u8 c.toNat] w fun e w' => e = .returned (.bool (wordyB c)) ∧ w = w' := by
  cases hl : letterB c with
  | true =>
    have HL := Lib.hid hl
    clear hl
    go_enter Tryz.func30, Tryz.ntmps30
    go_wp2_with (go_at_call 66; refine (p_letter _ _).mono ?_; rintro e w1 ⟨rfl, rfl⟩; rw [HL.out])
    go_ret
    exact ⟨ret_bool (by simp [wordyB, HL.out]), rfl⟩
  | false =>
    have HL := Lib.hid hl
    clear hl
    go_enter Tryz.func30, Tryz.ntmps30
    go_wp2_with (go_at_call 66; refine (p_letter _ _).mono ?_; rintro e w1 ⟨rfl, rfl⟩; rw [HL.out])
    all_goals
      go_ret
      exact ⟨ret_bool (by simp [wordyB, HL.out, digitB]; try omega), rfl⟩

/-! ### slices.Contains over a row of strings -/
theorem p_contains (g n c : Nat) (ss : List Bytes) (x : ByteArray) (w : World) (h : StrRow w (some ⟨g, 0, none⟩) n ss) (hn : n ≤ 9223372036854775807) :
    Calls Tryz.prog 31 #[.slice (some ⟨g, 0, none⟩) n c, .string x] w fun e w' => e = .returned (.bool (hasB ss (bl x))) ∧ w = w' := by
  have hl := h.1
  by_cases h0 : n = 0
  · subst h0
    have : ss = [] := List.eq_nil_of_length_eq_zero hl
    subst this
    refine (Tryz.slices_Contains_string_empty _ c x w).mono ?_
    rintro e w1 ⟨rfl, rfl⟩
    exact ⟨rfl, rfl⟩
  · obtain ⟨ad, e, _, hc⟩ := h.2 (by omega)
    injection e with e
    subst e
    refine (Tryz.slices_Contains_string g 0 n c (ss.map sb) x w (by simp [hl]) hn ?_).mono ?_
    · intro j hj
      have hj' : j < ss.length := by simpa using hj
      have h1 := hc j ss[j] (List.getElem?_eq_getElem hj')
      rw [add_mid] at h1
      rw [h1]
      congr 1
      simp [List.getD, List.getElem?_map, List.getElem?_eq_getElem hj']
    · rintro e w1 ⟨rfl, rfl⟩
      refine ⟨ret_bool ?_, rfl⟩
      rw [Lib.containsS_iff, List.take_of_length_le (by simp [hl])]
      unfold hasB
      simp only [List.contains_iff_mem, List.mem_map]
      constructor
      · rintro ⟨l, hl, rfl⟩; exact hl
      · intro h; exact ⟨_, h, rfl⟩

set_option maxHeartbeats 1000000 in
theorem p_name (s : ByteArray) (w : World) (hE : EnvS w) (hs : s.size ≤ 9223372036854775806) :
    Calls Tryz.prog 33 #[.string s] w (NamePost (isName (bl s)) w) := by
  have HE := Lib.hid hE
  clear hE
  by_cases h0 : s.size = 0
  · have he : s.toList = [] := by rw [toList_bl]; exact List.eq_nil_of_length_eq_zero h0
    have hi : Hid (isName (bl s) = false) := by show _ = _; rw [← toList_bl, he]; rfl
    clear h0
    go_enter Tryz.func33, Tryz.ntmps33
    go_wp2
    go_ret
    exact NamePost.intro hi.out.symm (Below.refl _ _)
  · have he : (s.toList.isEmpty) = false := by rw [toList_bl]; cases hh : bl s with | nil => exact absurd (by rw [← bl_len, hh]; rfl) h0 | cons a l => rfl
    have hpos : 0 < s.size := by omega
    clear h0
    by_cases h24 : 24 < s.size
    · have hi := Lib.hid (isName_long h24)
      go_enter Tryz.func33, Tryz.ntmps33
      go_wp2
      go_ret
      exact NamePost.intro hi.out.symm (Below.refl _ _)
    · have h24' : s.size ≤ 24 := by omega
      clear h24
      cases hc : letterB s[0] with
      | false =>
        have hi := Lib.hid (isName_head hpos hc)
        have HC := Lib.hid hc
        clear hc
        go_enter Tryz.func33, Tryz.ntmps33
        go_wp2_with (go_at_call 66; refine (p_letter _ _).mono ?_; rintro e w' ⟨rfl, rfl⟩; rw [HC.out])
        go_ret
        exact NamePost.intro hi.out.symm (Below.refl _ _)
      | true =>
        have HC := Lib.hid hc
        clear hc
        cases hw : hasB wordsL (bl s) with
        | true =>
          have hi := Lib.hid (isName_word hw)
          have HW := Lib.hid hw
          clear hw
          go_enter Tryz.func33, Tryz.ntmps33
          go_wp2_with (first | (go_at_call 66; refine (p_letter _ _).mono ?_; rintro e w' ⟨rfl, rfl⟩; rw [HC.out]) | (go_at_call 32; refine (p_words _ HE.out).mono ?_; rintro e w1 ⟨A1, rfl, hrow, hbel, _, g1, rfl⟩) | (go_at_call 31; refine (p_contains _ _ _ _ _ _ hrow (by omega)).mono ?_; rintro e w' ⟨rfl, rfl⟩; rw [HW.out]))
          go_ret
          exact NamePost.intro hi.out.symm hbel
        | false =>
          have HW := Lib.hid hw
          clear hw
          go_enter Tryz.func33, Tryz.ntmps33
          go_wp2_with (first | (go_at_call 66; refine (p_letter _ _).mono ?_; rintro e w' ⟨rfl, rfl⟩; rw [HC.out]) | (go_at_call 32; refine (p_words _ HE.out).mono ?_; rintro e w1 ⟨A1, rfl, hrow, hbel, _, g1, rfl⟩) | (go_at_call 31; refine (p_contains _ _ _ _ _ _ hrow (by omega)).mono ?_; rintro e w' ⟨rfl, rfl⟩; rw [HW.out]))
          go_loop [24] (fun i => ∃ k : Nat, k ≤ s.size ∧ i = .int .i64 k ∧ Hid (∀ j (h : j < s.size), j < k → wordyB s[j] = true)) (fun i => s.size - (intOf i).toNat)
          case atStart => exact ⟨0, Nat.zero_le _, rfl, fun j _ h => by omega⟩
          case round =>
            obtain ⟨k, hk, rfl, HI⟩ := hrel
            by_cases hlt : k < s.size
            · cases hl : wordyB s[k] with
              | true =>
                have HL := Lib.hid hl
                have HN : Hid (∀ j (h : j < s.size), j < k + 1 → wordyB s[j] = true) := by
                  intro j h hj
                  by_cases e : j = k
                  · subst e; exact hl
                  · exact HI.out j h (by omega)
                clear hl
                go_wp2_with (go_at_call 30; refine (p_wordy _ _).mono ?_; rintro e w' ⟨rfl, rfl⟩; rw [HL.out])
                go_round
                case rel => exact ⟨k + 1, by omega, by go_num, HN⟩
                case measure => simp [intOf]; omega
              | false =>
                have HL := Lib.hid hl
                have hi := Lib.hid (isName_bad hlt hl)
                clear hl
                go_wp2_with (go_at_call 30; refine (p_wordy _ _).mono ?_; rintro e w' ⟨rfl, rfl⟩; rw [HL.out])
                go_ret
                exact NamePost.intro hi.out.symm hbel
            · have hi := Lib.hid (isName_good hpos h24' HC.out HW.out (fun j h => HI.out j h (by omega)))
              go_wp2
              go_ret
              exact NamePost.intro hi.out.symm hbel
end Go.Proofs.YtjdofndkdkeapaaGreatDoor
