/- Decimal digits, plainly: what the lexer takes them for. No program in sight. -/
import Derived.Test.YtjdofndkdkeapaaGreatDoorLexBase
import Derived.Lib.ItoaNum
namespace Go.Proofs.YtjdofndkdkeapaaGreatDoor
open Go.RowKit
set_option linter.unusedSimpArgs false

namespace Dec
theorem decDigits_pos (u : Nat) : Lib.decDigits u ≠ [] := by
  rw [Lib.decDigits]
  split <;> simp
theorem decDigits_head : ∀ (n u : Nat), u ≤ n → 1 < (Lib.decDigits u).length → (Lib.decDigits u)[0]? ≠ some 48
  | n, u, hn, hl => by
    rw [Lib.decDigits] at hl ⊢
    split at hl
    · simp at hl
    · rename_i h
      rw [dif_neg h]
      rw [List.getElem?_append_left (List.length_pos_iff.2 (decDigits_pos _))]
      cases n with
      | zero => omega
      | succ n =>
        by_cases h1 : 1 < (Lib.decDigits (u / 10)).length
        · exact decDigits_head n (u / 10) (by omega) h1
        · have h2 : u / 10 < 10 := by
            apply Decidable.byContradiction
            intro h3
            apply h1
            rw [Lib.decDigits, dif_neg h3]
            have := List.length_pos_iff.2 (decDigits_pos (u / 10 / 10))
            rw [List.length_append]
            simp only [List.length_cons, List.length_nil]
            omega
          rw [Lib.decDigits, dif_pos h2]
          intro e
          simp at e
          have := congrArg UInt8.toNat e
          simp at this
          omega

theorem dec_spec : ∀ (n u : Nat), u ≤ n → (Lib.decDigits u).all digitB = true ∧ numVal (Lib.decDigits u) = u
  | n, u, hn => by
    rw [Lib.decDigits]
    split
    · rename_i h
      have ht : (UInt8.ofNat (48 + u)).toNat = 48 + u := by simp; omega
      refine ⟨?_, ?_⟩
      · simp only [List.all_cons, List.all_nil, Bool.and_true]
        rw [digitB_iff, ht]
        omega
      · simp only [numVal, List.foldl_cons, List.foldl_nil, ht]
        omega
    · rename_i h
      cases n with
      | zero => omega
      | succ n =>
        obtain ⟨h1, h2⟩ := dec_spec n (u / 10) (by omega)
        have ht : (UInt8.ofNat (48 + u % 10)).toNat = 48 + u % 10 := by simp; omega
        refine ⟨?_, ?_⟩
        · rw [List.all_append, h1]
          simp only [List.all_cons, List.all_nil, Bool.and_true, Bool.true_and]
          rw [digitB_iff, ht]
          omega
        · rw [numVal_snoc, h2, ht]
          omega
theorem dec_len : ∀ (k u : Nat), u < 10 ^ (k + 1) → (Lib.decDigits u).length ≤ k + 1
  | 0, u, h => by rw [Lib.decDigits, dif_pos (by simpa using h)]; simp
  | k + 1, u, h => by
    rw [Lib.decDigits]
    split
    · simp
    · have := dec_len k (u / 10) (by rw [Nat.pow_succ] at h; omega)
      rw [List.length_append]
      simp only [List.length_cons, List.length_nil]
      omega

theorem digit_wordy {c : UInt8} (h : digitB c = true) : wordyB c = true := by simp [wordyB, h]
theorem digit_not_letter {c : UInt8} (h : digitB c = true) : letterB c = false := by
  have := digitB_iff.1 h
  simp [letterB]
  omega
theorem digits_take {l : Bytes} (h : l.all digitB = true) : l.takeWhile wordyB = l := by
  induction l with
  | nil => rfl
  | cons c r ih =>
    simp only [List.all_cons, Bool.and_eq_true] at h
    rw [List.takeWhile_cons, digit_wordy h.1, if_pos rfl, ih h.2]
theorem digits_kind {l : Bytes} (h : l.all digitB = true) (h0 : l ≠ []) : kindOf l = if isInt l then some 3 else none := by
  cases l with
  | nil => exact absurd rfl h0
  | cons c r =>
    simp only [List.all_cons, Bool.and_eq_true] at h
    have hl := digit_not_letter h.1
    have hw : wordsL.contains (c :: r) = false := by
      rw [List.contains_eq_mem]
      simp only [decide_eq_false_iff_not]
      intro hm
      have : ∀ u ∈ wordsL, ∀ c, u.head? = some c → letterB c = true := by decide
      have := this _ hm c rfl
      rw [hl] at this
      cases this
    have hn : isName (c :: r) = false := by simp [isName, hl]
    unfold kindOf
    rw [hw, hn]
    simp
theorem dec_isInt (n : Nat) : isInt (Lib.decDigits n) = decide (n ≤ 9223372036854775807) := by
  obtain ⟨h1, h2⟩ := dec_spec n n (Nat.le_refl _)
  by_cases hn : n ≤ 9223372036854775807
  · rw [isInt_good (decDigits_pos n) ?_ h1 (by rw [h2]; exact hn)]
    · simp [hn]
    · by_cases hl : 1 < (Lib.decDigits n).length
      · exact .inr (decDigits_head n n (Nat.le_refl _) hl)
      · have := List.length_pos_iff.2 (decDigits_pos n)
        exact .inl (by omega)
  · rw [isInt_big (by rw [h2]; omega)]
    simp [hn]
end Dec
end Go.Proofs.YtjdofndkdkeapaaGreatDoor
