/- What strconv says of a text of letters and digits: a plain law. -/
import Derived.Test.YtjdofndkdkeapaaGreatDoorLexBase
import Derived.Lib.ParseIntB
import Derived.Lib.ItoaNum
namespace Go.Proofs.YtjdofndkdkeapaaGreatDoor.Lx
open Go.RowKit

def numberB (s : Bytes) : Bool := match Lib.parseIntB 64 s with
  | .ok v => Lib.itoa v == s
  | _ => false

def valFrom (acc : Nat) (l : Bytes) : Nat := l.foldl (fun n c => n * 10 + (c.toNat - 48)) acc
theorem valFrom_zero (l : Bytes) : valFrom 0 l = numVal l := by
  unfold valFrom numVal
  congr 1
  funext n c
  omega
theorem valFrom_ge (l : Bytes) : ∀ acc, acc ≤ valFrom acc l := by
  induction l with
  | nil => intro acc; exact Nat.le_refl _
  | cons c l ih =>
    intro acc
    have := ih (acc * 10 + (c.toNat - 48))
    simp only [valFrom, List.foldl_cons] at this ⊢
    omega
theorem parse_ok {M : Nat} (hM : M ≤ 18446744073709551615) : ∀ (l : Bytes) (acc u : Nat), Lib.parseUintM M acc l = .ok u → l.all digitB = true ∧ u = valFrom acc l
  | [], acc, u, h => by simp [Lib.parseUintM] at h; simp [valFrom, h]
  | c :: l, acc, u, h => by
    unfold Lib.parseUintM at h
    split at h
    · rename_i hd
      split at h
      · cases h
      · split at h
        · cases h
        · obtain ⟨h1, h2⟩ := parse_ok hM l _ u h
          refine ⟨?_, by rw [h2]; rfl⟩
          simp [h1, digitB, hd.1, hd.2]
    · cases h
theorem parse_good {M : Nat} (hM : M ≤ 18446744073709551615) : ∀ (l : Bytes) (acc : Nat), l.all digitB = true → valFrom acc l ≤ M → Lib.parseUintM M acc l = .ok (valFrom acc l)
  | [], acc, _, _ => by simp [Lib.parseUintM, valFrom]
  | c :: l, acc, hd, hv => by
    simp only [List.all_cons, Bool.and_eq_true] at hd
    have h1 := digitB_iff.1 hd.1
    have hg := valFrom_ge l (acc * 10 + (c.toNat - 48))
    have hv' : valFrom (acc * 10 + (c.toNat - 48)) l ≤ M := hv
    unfold Lib.parseUintM
    rw [if_pos h1, if_neg (by omega), if_neg (by omega)]
    exact parse_good hM l _ hd.2 hv'

theorem digit_back {c : UInt8} (h : digitB c = true) : UInt8.ofNat (48 + (c.toNat - 48)) = c := by
  have := digitB_iff.1 h
  rw [show 48 + (c.toNat - 48) = c.toNat from by omega]
  simp

theorem digits_back : ∀ (n : Nat) (l : Bytes), l.length = n → l ≠ [] → l.all digitB = true → (l.length = 1 ∨ l[0]? ≠ some 48) → Lib.decDigits (numVal l) = l
  | 0, l, hn, h0, _, _ => absurd (List.eq_nil_of_length_eq_zero hn) h0
  | n + 1, l, hn, h0, hd, hz => by
    obtain ⟨l', c, rfl⟩ : ∃ l' c, l = l' ++ [c] := ⟨l.dropLast, l.getLast h0, (List.dropLast_concat_getLast h0).symm⟩
    simp only [List.all_append, List.all_cons, List.all_nil, Bool.and_true, Bool.and_eq_true] at hd
    obtain ⟨hd1, hd2⟩ := hd
    have hc := digitB_iff.1 hd2
    rw [numVal_snoc]
    by_cases he : l' = []
    · subst he
      rw [Lib.decDigits, dif_pos (by simp [numVal]; omega)]
      have hb := digit_back hd2
      simpa [numVal] using hb
    · have hz' : (l' ++ [c])[0]? ≠ some 48 := by
        rcases hz with h | h
        · have := List.length_pos_iff.2 he
          rw [List.length_append] at h; simp only [List.length_cons, List.length_nil] at h; omega
        · exact h
      have hh : l'[0]? ≠ some 48 := by
        rwa [List.getElem?_append_left (List.length_pos_iff.2 he)] at hz'
      have ih := digits_back n l' (by simpa using hn) he hd1 (.inr hh)
      have hpos : 1 ≤ numVal l' := by
        cases hl : l' with
        | nil => exact absurd hl he
        | cons a r =>
          rw [hl] at hh hd1
          simp only [List.all_cons, Bool.and_eq_true] at hd1
          have h1 := digitB_iff.1 hd1.1
          have h2 := numVal_grow [a] r
          have h3 : numVal [a] = a.toNat - 48 := by simp [numVal]
          have h4 : a.toNat ≠ 48 := fun e => hh (by simp; exact UInt8.toNat_inj.1 (by rw [e]; rfl))
          simp only [List.singleton_append] at h2
          omega
      rw [Lib.decDigits, dif_neg (by omega)]
      rw [show (10 * numVal l' + (c.toNat - 48)) / 10 = numVal l' from by omega, ih, show (10 * numVal l' + (c.toNat - 48)) % 10 = c.toNat - 48 from by omega, digit_back hd2]

theorem decDigits_pos (u : Nat) : Lib.decDigits u ≠ [] := by
  rw [Lib.decDigits]
  split <;> simp
theorem decDigits_head : ∀ (n u : Nat), u ≤ n → 1 < (Lib.decDigits u).length → (Lib.decDigits u)[0]? ≠ some 48
  | n, u, hn, hl => by
    rw [Lib.decDigits] at hl ⊢
    split at hl
    · simp at hl
    · rename_i h
      rw [dif_neg h]
      rw [List.getElem?_append_left (List.length_pos_iff.2 (decDigits_pos _))]
      cases n with
      | zero => omega
      | succ n =>
        by_cases h1 : 1 < (Lib.decDigits (u / 10)).length
        · exact decDigits_head n (u / 10) (by omega) h1
        · have h2 : u / 10 < 10 := by
            apply Decidable.byContradiction
            intro h3
            apply h1
            rw [Lib.decDigits, dif_neg h3]
            have := List.length_pos_iff.2 (decDigits_pos (u / 10 / 10))
            rw [List.length_append]
            simp only [List.length_cons, List.length_nil]
            omega
          rw [Lib.decDigits, dif_pos h2]
          intro e
          simp at e
          have := congrArg UInt8.toNat e
          simp at this
          omega

theorem wordy_sign {c : UInt8} (h : wordyB c = true) : ¬ (c.toNat = 43 ∨ c.toNat = 45) := by
  simp [wordyB, letterB, digitB] at h
  omega

theorem number_is {s : Bytes} (h : s.all wordyB = true) : numberB s = isInt s := by
  cases s with
  | nil => rfl
  | cons c r =>
    have hc : wordyB c = true := by simp only [List.all_cons, Bool.and_eq_true] at h; exact h.1
    have hs := wordy_sign hc
    have hs2 : ¬ c.toNat = 45 := fun e => hs (.inr e)
    have hpu : Lib.parseUintB 64 (c :: r) = Lib.parseUintM 18446744073709551615 0 (c :: r) := by
      unfold Lib.parseUintB
      rw [if_neg (by simp)]
    have hpi : ∀ u, Lib.parseUintM 18446744073709551615 0 (c :: r) = .ok u → Lib.parseIntB 64 (c :: r) = if 9223372036854775808 ≤ u then .range else .ok (u : Int) := by
      intro u hu
      unfold Lib.parseIntB
      simp only [if_neg hs, hpu, hu]
      simp only [hs2]
      by_cases hb : 9223372036854775808 ≤ u
      · rw [if_pos hb, if_pos ⟨by simp, hb⟩]
      · rw [if_neg hb, if_neg (fun h => hb h.2), if_neg (fun h => by simp at h)]
        simp
    have hpv : ∀ v, Lib.parseIntB 64 (c :: r) = .ok v → ∃ u, Lib.parseUintM 18446744073709551615 0 (c :: r) = .ok u := by
      intro v hv
      unfold Lib.parseIntB at hv
      simp only [if_neg hs, hpu] at hv
      cases hm : Lib.parseUintM 18446744073709551615 0 (c :: r) with
      | ok u => exact ⟨u, rfl⟩
      | _ => rw [hm] at hv; cases hv
    by_cases hg : (c :: r).all digitB = true ∧ numVal (c :: r) ≤ 9223372036854775807
    · obtain ⟨hd, hv⟩ := hg
      have h1 := parse_good (M := 18446744073709551615) (Nat.le_refl _) (c :: r) 0 hd (by rw [valFrom_zero]; omega)
      rw [valFrom_zero] at h1
      have h2 : Lib.parseIntB 64 (c :: r) = .ok (numVal (c :: r) : Int) := by
        rw [hpi _ h1, if_neg (by omega)]
      have h3 : Lib.itoa (numVal (c :: r) : Int) = Lib.decDigits (numVal (c :: r)) := by
        unfold Lib.itoa
        rw [if_neg (by omega)]
        simp
      unfold numberB
      rw [h2]
      simp only [h3]
      by_cases hz : (c :: r).length = 1 ∨ (c :: r)[0]? ≠ some 48
      · rw [digits_back _ _ rfl (by simp) hd hz, isInt_good (by simp) hz hd hv]
        simp
      · have hz1 : 1 < (c :: r).length := by
          have h5 : (c :: r).length ≠ 1 := fun e => hz (.inl e)
          simp only [List.length_cons] at h5 ⊢
          omega
        have hz2 : (c :: r)[0]? = some 48 := Decidable.byContradiction fun e => hz (.inr e)
        rw [isInt_zero hz1 hz2]
        rw [beq_eq_false_iff_ne]
        intro e
        have := decDigits_head _ (numVal (c :: r)) (Nat.le_refl _) (by rw [e]; exact hz1)
        rw [e] at this
        exact this hz2
    · have hi : isInt (c :: r) = false := by
        simp only [isInt]
        cases hd : (c :: r).all digitB
        · simp
        · have : ¬ numVal (c :: r) ≤ 9223372036854775807 := fun hv => hg ⟨hd, hv⟩
          simp [this]
      rw [hi]
      unfold numberB
      cases hv : Lib.parseIntB 64 (c :: r) with
      | ok v =>
        exfalso
        obtain ⟨u, hm⟩ := hpv v hv
        obtain ⟨h1, h2⟩ := parse_ok (Nat.le_refl _) _ _ _ hm
        rw [valFrom_zero] at h2
        have h3 : 9223372036854775808 ≤ u := by
          apply Decidable.byContradiction
          intro h
          exact hg ⟨h1, by omega⟩
        rw [hpi u hm, if_pos h3] at hv
        cases hv
      | _ => rfl
end Go.Proofs.YtjdofndkdkeapaaGreatDoor.Lx
