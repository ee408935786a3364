/- The walks over the reference's Number and Name (chapter 5). -/
import Derived.Test.YtnchfjhnacidlaaDoorLexRef
namespace Go.Proofs.YtnchfjhnacidlaaDoor
open Go.RowKit

def NumPost (b : Bool) (w : World) (e : Ending) (w' : World) : Prop := w = w' ∧ ∃ x : Int, e = .returned (.tuple #[.int .i64 x, .bool b])

def NumInv (s : ByteArray) (k : Nat) (n : Nat) : Prop := n = numVal ((bl s).take k) ∧ n ≤ 9223372036854775807 ∧ ∀ j c, j < k → (bl s)[j]? = some c → digitB c = true

theorem numInv_step {s : ByteArray} {k n : Nat} (h : NumInv s k n) (hk : k < s.size) (hd : digitB s[k] = true) (hb : 10 * n + (s[k].toNat - 48) ≤ 9223372036854775807) :
    NumInv s (k + 1) (10 * n + (s[k].toNat - 48)) := by
  obtain ⟨h1, h2, h3⟩ := h
  refine ⟨by rw [take_snoc s k hk, numVal_snoc, ← h1], hb, fun j c hj hc => ?_⟩
  by_cases e : j = k
  · subst e
    rw [bl_get s j hk] at hc
    injection hc with hc
    rw [← hc]; exact hd
  · exact h3 j c (by omega) hc

theorem numInv_big {s : ByteArray} {k n : Nat} (h : NumInv s k n) (hk : k < s.size) (hb : 9223372036854775807 < 10 * n + (s[k].toNat - 48)) : isInt (bl s) = false := by
  apply isInt_big
  have := numVal_take (bl s) (k + 1)
  rw [take_snoc s k hk, numVal_snoc, ← h.1] at this
  omega

theorem numInv_done {s : ByteArray} {n : Nat} (h : NumInv s s.size n) (h0 : 0 < s.size) (h1 : s.size = 1 ∨ (bl s)[0]? ≠ some 48) : isInt (bl s) = true := by
  obtain ⟨h1', h2, h3⟩ := h
  apply isInt_good
  · intro e; have := bl_len s; rw [e] at this; simp at this; omega
  · rcases h1 with h | h
    · left; rw [bl_len]; exact h
    · right; exact h
  · rw [List.all_eq_true]
    intro c hc
    obtain ⟨j, hj⟩ := List.getElem?_of_mem hc
    have : j < (bl s).length := (List.getElem?_eq_some_iff.1 hj).1
    exact h3 j c (by rw [← bl_len s]; exact this) hj
  · rw [List.take_of_length_le (by rw [bl_len]; exact Nat.le_refl _)] at h1'
    omega

theorem NumPost.intro {b b' : Bool} {w : World} (x : Int) (h : b' = b) : NumPost b w (.returned (.tuple #[.int .i64 x, .bool b'])) w := ⟨rfl, x, by rw [h]⟩

set_option maxHeartbeats 1000000 in
theorem r_number (s : ByteArray) (w : World) (hs : s.size ≤ 9223372036854775806) :
    Calls Tryd.prog 26 #[.string s] w (NumPost (isInt (bl s)) w) := by
  by_cases h0 : s.size = 0
  · have he : s.toList = [] := by rw [toList_bl]; exact List.eq_nil_of_length_eq_zero h0
    have hi : Hid (isInt (bl s) = false) := by show _ = _; rw [← toList_bl, he]; rfl
    clear h0
    go_enter Tryd.func26, Tryd.ntmps26
    go_wp2
    go_ret2
    exact NumPost.intro _ hi.out.symm
  · have he : (s.toList.isEmpty) = false := by rw [toList_bl]; cases hh : bl s with | nil => exact absurd (by rw [← bl_len, hh]; rfl) h0 | cons a l => rfl
    have hpos : 0 < s.size := by omega
    clear h0
    by_cases hz : 1 < s.size ∧ s[0].toNat = 48
    · obtain ⟨hz1, hz2⟩ := hz
      have hi : Hid (isInt (bl s) = false) := isInt_zero (by rw [bl_len]; exact hz1) (by rw [bl_get s 0 hpos]; exact congrArg some (UInt8.toNat_inj.1 (by rw [hz2]; rfl)))
      have hz3 : ((s[0].toNat : Int) == 48) = true := by simp [hz2]
      clear hz2
      go_enter Tryd.func26, Tryd.ntmps26
      go_wp2
      go_ret2
      exact NumPost.intro _ hi.out.symm
    · have HZ : Hid (s.size = 1 ∨ (bl s)[0]? ≠ some 48) := by
        show _ ∨ _
        by_cases h1 : s.size = 1
        · exact .inl h1
        · right
          rw [bl_get s 0 hpos]
          intro e
          injection e with e
          exact hz ⟨by omega, by rw [e]; rfl⟩
      by_cases h1 : 1 < s.size
      all_goals
        have hz3 : (((s[0].toNat : Nat) : Int) == 48) = false ∨ ¬ 1 < s.size := by
          by_cases h1 : 1 < s.size
          · left; simp; intro e; exact hz ⟨h1, by omega⟩
          · exact .inr h1
        clear hz
        first
          | (have hz4 : (((s[0].toNat : Nat) : Int) == 48) = false := hz3.resolve_right (fun h => h h1); clear hz3)
          | (clear hz3)
        go_enter Tryd.func26, Tryd.ntmps26
        go_wp2
        go_loop [4, 5] (fun m i => ∃ k n : Nat, k ≤ s.size ∧ i = .int .i64 k ∧ m = .int .u64 n ∧ Hid (NumInv s k n)) (fun _ i => s.size - (intOf i).toNat)
        case atStart => exact ⟨0, 0, Nat.zero_le _, rfl, rfl, rfl, by omega, fun j c h => by omega⟩
        case round =>
          obtain ⟨k, n, hk, rfl, rfl, HI⟩ := hrel
          have hn1 : n ≤ 9223372036854775807 := HI.out.2.1
          by_cases hlt : k < s.size
          · cases hd : digitB s[k] with
            | false =>
              have hi : Hid (isInt (bl s) = false) := isInt_bad (bl_get s k hlt) hd
              go_wp2_with (go_at_call 25; refine (r_digit _ _).mono ?_; rintro e w' ⟨rfl, rfl⟩)
              go_ret2
              exact NumPost.intro _ hi.out.symm
            | true =>
              have HD := Lib.hid hd
              have hd1 := (digitB_iff.1 hd).1
              have hd2 := (digitB_iff.1 hd).2
              clear hd
              by_cases hb : n ≤ 922337203685477580
              · by_cases hb2 : 10 * n + (s[k].toNat - 48) ≤ 9223372036854775807
                · have HN := Lib.hid (numInv_step HI.out hlt HD.out hb2)
                  go_wp2_with (go_at_call 25; refine (r_digit _ _).mono ?_; rintro e w' ⟨rfl, rfl⟩; rw [HD.out])
                  go_round
                  case rel => exact ⟨k + 1, 10 * n + (s[k].toNat - 48), by omega, by go_num, by congr 1; omega, HN⟩
                  case measure => simp [intOf]; omega
                · have hi : Hid (isInt (bl s) = false) := numInv_big HI.out hlt (by omega)
                  go_wp2_with (go_at_call 25; refine (r_digit _ _).mono ?_; rintro e w' ⟨rfl, rfl⟩; rw [HD.out])
                  go_ret2
                  exact NumPost.intro _ hi.out.symm
              · have hi : Hid (isInt (bl s) = false) := numInv_big HI.out hlt (by omega)
                go_wp2_with (go_at_call 25; refine (r_digit _ _).mono ?_; rintro e w' ⟨rfl, rfl⟩; rw [HD.out])
                go_ret2
                exact NumPost.intro _ hi.out.symm
          · obtain rfl : k = s.size := by omega
            have hi : Hid (isInt (bl s) = true) := numInv_done HI.out hpos HZ.out
            go_wp2
            go_ret2
            exact NumPost.intro _ hi.out.symm

/-! ### Names -/
def NamePost (b : Bool) (w : World) (e : Ending) (w' : World) : Prop := e = .returned (.bool b) ∧ Below w.heap.size w w'
theorem NamePost.intro {b b' : Bool} {w w' : World} (h : b' = b) (hb : Below w.heap.size w w') : NamePost b w (.returned (.bool b')) w' := ⟨by rw [h], hb⟩

theorem ne_nil {s : ByteArray} (h : 0 < s.size) : ∃ r, bl s = s[0] :: r := ⟨(bl s).drop 1, by have := drop_cons s 0 h; simpa using this⟩
theorem isName_long {s : ByteArray} (h : 24 < s.size) : isName (bl s) = false := by
  obtain ⟨r, hr⟩ := ne_nil (s := s) (by omega)
  have hl := bl_len s
  rw [hr] at hl ⊢
  simp only [isName]
  rw [hl]
  simp [Nat.not_le.2 h]
theorem isName_head {s : ByteArray} (h : 0 < s.size) (hc : letterB s[0] = false) : isName (bl s) = false := by
  obtain ⟨r, hr⟩ := ne_nil (s := s) (by omega)
  rw [hr]
  simp [isName, hc]
theorem isName_word {s : ByteArray} (hw : hasB wordsL (bl s) = true) : isName (bl s) = false := by
  unfold hasB at hw
  cases hr : bl s with
  | nil => rfl
  | cons a l =>
    rw [hr] at hw
    simp only [isName, hw]
    simp
theorem isName_bad {s : ByteArray} {k : Nat} (h : k < s.size) (hc : wordyB s[k] = false) : isName (bl s) = false := by
  have hm := List.mem_of_getElem? (bl_get s k h)
  cases hr : bl s with
  | nil => rfl
  | cons a l =>
    rw [hr] at hm
    have : (a :: l).all wordyB = false := by
      rw [List.all_eq_false]
      exact ⟨_, hm, by simp [hc]⟩
    simp only [isName, this]
    simp
theorem isName_good {s : ByteArray} (h0 : 0 < s.size) (h1 : s.size ≤ 24) (h2 : letterB s[0] = true) (h3 : hasB wordsL (bl s) = false)
    (h4 : ∀ j (h : j < s.size), wordyB s[j] = true) : isName (bl s) = true := by
  unfold hasB at h3
  have ha : (bl s).all wordyB = true := by
    rw [List.all_eq_true]
    intro c hc
    obtain ⟨j, hj⟩ := List.getElem?_of_mem hc
    have hl : j < s.size := (List.getElem?_eq_some_iff.1 hj).1
    rw [bl_get s j hl] at hj
    injection hj with hj
    rw [← hj]; exact h4 j hl
  obtain ⟨r, hr⟩ := ne_nil h0
  have hl := bl_len s
  rw [hr] at hl ha h3 ⊢
  simp only [isName, hl, h2, ha, h3]
  simp [h1]

set_option maxHeartbeats 1000000 in
theorem r_name (s : ByteArray) (w : World) (hs : s.size ≤ 9223372036854775806) :
    Calls Tryd.prog 13 #[.string s] w (NamePost (isName (bl s)) w) := by
  by_cases h0 : s.size = 0
  · have he : s.toList = [] := by rw [toList_bl]; exact List.eq_nil_of_length_eq_zero h0
    have hi : Hid (isName (bl s) = false) := by show _ = _; rw [← toList_bl, he]; rfl
    clear h0
    go_enter Tryd.func13, Tryd.ntmps13
    go_wp2
    go_ret
    exact NamePost.intro hi.out.symm (Below.refl _ _)
  · have he : (s.toList.isEmpty) = false := by rw [toList_bl]; cases hh : bl s with | nil => exact absurd (by rw [← bl_len, hh]; rfl) h0 | cons a l => rfl
    have hpos : 0 < s.size := by omega
    clear h0
    by_cases h24 : 24 < s.size
    · have hi := Lib.hid (isName_long h24)
      go_enter Tryd.func13, Tryd.ntmps13
      go_wp2
      go_ret
      exact NamePost.intro hi.out.symm (Below.refl _ _)
    · have h24' : s.size ≤ 24 := by omega
      clear h24
      cases hc : letterB s[0] with
      | false =>
        have hi := Lib.hid (isName_head hpos hc)
        have HC := Lib.hid hc
        clear hc
        go_enter Tryd.func13, Tryd.ntmps13
        go_wp2_with (go_at_call 24; refine (r_letter _ _).mono ?_; rintro e w' ⟨rfl, rfl⟩; rw [HC.out])
        go_ret
        exact NamePost.intro hi.out.symm (Below.refl _ _)
      | true =>
        have HC := Lib.hid hc
        clear hc
        cases hw : hasB wordsL (bl s) with
        | true =>
          have hi := Lib.hid (isName_word hw)
          have HW := Lib.hid hw
          clear hw
          go_enter Tryd.func13, Tryd.ntmps13
          go_wp2_with (first | (go_at_call 24; refine (r_letter _ _).mono ?_; rintro e w' ⟨rfl, rfl⟩; rw [HC.out]) | (go_at_call 16; refine (r_words _).mono ?_; rintro e w1 ⟨A1, rfl, hrow, hbel, hnew⟩) | (go_at_call 27; refine (r_one _ _ _ _ _ _ hrow (by omega)).mono ?_; rintro e w' ⟨rfl, rfl⟩; rw [HW.out]))
          go_ret
          exact NamePost.intro hi.out.symm hbel
        | false =>
          have HW := Lib.hid hw
          clear hw
          go_enter Tryd.func13, Tryd.ntmps13
          go_wp2_with (first | (go_at_call 24; refine (r_letter _ _).mono ?_; rintro e w' ⟨rfl, rfl⟩; rw [HC.out]) | (go_at_call 16; refine (r_words _).mono ?_; rintro e w1 ⟨A1, rfl, hrow, hbel, hnew⟩) | (go_at_call 27; refine (r_one _ _ _ _ _ _ hrow (by omega)).mono ?_; rintro e w' ⟨rfl, rfl⟩; rw [HW.out]))
          go_loop [3] (fun i => ∃ k : Nat, k ≤ s.size ∧ i = .int .i64 k ∧ Hid (∀ j (h : j < s.size), j < k → wordyB s[j] = true)) (fun i => s.size - (intOf i).toNat)
          case atStart => exact ⟨0, Nat.zero_le _, rfl, fun j _ h => by omega⟩
          case round =>
            obtain ⟨k, hk, rfl, HI⟩ := hrel
            by_cases hlt : k < s.size
            · cases hl : letterB s[k] with
              | true =>
                have HL := Lib.hid hl
                have HN : Hid (∀ j (h : j < s.size), j < k + 1 → wordyB s[j] = true) := by
                  intro j h hj
                  by_cases e : j = k
                  · subst e; simp [wordyB, hl]
                  · exact HI.out j h (by omega)
                clear hl
                go_wp2_with (go_at_call 24; refine (r_letter _ _).mono ?_; rintro e w' ⟨rfl, rfl⟩; rw [HL.out])
                go_round
                case rel => exact ⟨k + 1, by omega, by go_num, HN⟩
                case measure => simp [intOf]; omega
              | false =>
                have HL := Lib.hid hl
                cases hd : digitB s[k] with
                | true =>
                  have HD := Lib.hid hd
                  have HN : Hid (∀ j (h : j < s.size), j < k + 1 → wordyB s[j] = true) := by
                    intro j h hj
                    by_cases e : j = k
                    · subst e; simp [wordyB, hd]
                    · exact HI.out j h (by omega)
                  clear hl hd
                  go_wp2_with (first | (go_at_call 24; refine (r_letter _ _).mono ?_; rintro e w' ⟨rfl, rfl⟩; rw [HL.out]) | (go_at_call 25; refine (r_digit _ _).mono ?_; rintro e w' ⟨rfl, rfl⟩; rw [HD.out]))
                  go_round
                  case rel => exact ⟨k + 1, by omega, by go_num, HN⟩
                  case measure => simp [intOf]; omega
                | false =>
                  have HD := Lib.hid hd
                  have hi := Lib.hid (isName_bad hlt (by simp [wordyB, hl, hd]))
                  clear hl hd
                  go_wp2_with (first | (go_at_call 24; refine (r_letter _ _).mono ?_; rintro e w' ⟨rfl, rfl⟩; rw [HL.out]) | (go_at_call 25; refine (r_digit _ _).mono ?_; rintro e w' ⟨rfl, rfl⟩; rw [HD.out]))
                  go_ret
                  exact NamePost.intro hi.out.symm hbel
            · have hi := Lib.hid (isName_good hpos h24' HC.out HW.out (fun j h => HI.out j h (by omega)))
              go_wp2
              go_ret
              exact NamePost.intro hi.out.symm hbel
end Go.Proofs.YtnchfjhnacidlaaDoor
