/- A text behind a text, as the lexer takes them. No program in sight. -/
import Derived.Test.YtjdofndkdkeapaaGreatDoorLexBase
namespace Go.Proofs.YtjdofndkdkeapaaGreatDoor
open Go.RowKit
set_option linter.unusedSimpArgs false

namespace Dec
theorem lexFuel_ends : ∀ (f p : Nat) (r : Bytes) (ts : List Tok), lexFuel f p r = .ok ts → ∃ l, ts = l ++ [⟨5, [], p + r.length⟩]
  | f, p, [], ts, h => by
    cases f <;> (simp only [lexFuel] at h; injection h with h; exact ⟨[], by rw [← h]; rfl⟩)
  | 0, p, c :: r, ts, h => by simp [lexFuel] at h
  | f + 1, p, c :: r, ts, h => by
    have hl := headOf_len c r
    unfold lexFuel at h
    split at h
    · rename_i n hn
      simp only [hn, Head.len] at hl
      obtain ⟨l, e⟩ := lexFuel_ends f _ _ ts h
      refine ⟨l, ?_⟩
      rw [e, List.length_drop]
      simp only [List.length_cons]
      rw [show p + n + (r.length + 1 - n) = p + (r.length + 1) from by omega]
    · rename_i k n hn
      simp only [hn, Head.len] at hl
      cases hr : lexFuel f (p + n) ((c :: r).drop n) with
      | error e => rw [hr] at h; simp [LexRes.push] at h
      | ok ts' =>
        rw [hr] at h
        simp only [LexRes.push] at h
        injection h with h
        obtain ⟨l, e⟩ := lexFuel_ends f _ _ ts' hr
        refine ⟨⟨k, (c :: r).take n, p⟩ :: l, ?_⟩
        rw [← h, e, List.length_drop]
        simp only [List.length_cons]
        rw [show p + n + (r.length + 1 - n) = p + (r.length + 1) from by omega]
        rfl
    · cases h
/-! ### What a byte behind does to a head -/
theorem takeWhile_stop {p : UInt8 → Bool} {x : UInt8} (hx : p x = false) (l m : Bytes) : (l ++ x :: m).takeWhile p = l.takeWhile p := by
  induction l with
  | nil => simp [hx]
  | cons a l ih =>
    simp only [List.cons_append, List.takeWhile_cons]
    rw [ih]
theorem prefix_stop {x : UInt8} : ∀ (u l m : Bytes), x ∉ u → u.isPrefixOf (l ++ x :: m) = u.isPrefixOf l
  | [], l, m, _ => by simp [List.isPrefixOf]
  | a :: u, [], m, h => by
    have : (a == x) = false := by simp at h ⊢; exact fun e => h.1 e.symm
    simp [List.isPrefixOf, this]
  | a :: u, b :: l, m, h => by
    simp only [List.cons_append, List.isPrefixOf]
    rw [prefix_stop u l m (by simp at h; exact h.2)]
theorem find_same {p q : Bytes → Bool} : ∀ (l : List Bytes), (∀ u ∈ l, p u = q u) → l.find? p = l.find? q
  | [], _ => rfl
  | a :: l, h => by
    simp only [List.find?_cons]
    rw [h a (by simp), find_same l (fun u hu => h u (by simp [hu]))]
theorem signs_ten : ∀ u ∈ signsL, (10 : UInt8) ∉ u := by decide
theorem signs_blank : ∀ u ∈ signsL, (32 : UInt8) ∉ u := by decide
theorem signAt_stop {x : UInt8} (hx : ∀ u ∈ signsL, x ∉ u) (l m : Bytes) : signAt (l ++ x :: m) = signAt l :=
  find_same _ fun u hu => prefix_stop u l m (hx u hu)
theorem head_ten (c : UInt8) (r m : Bytes) : headOf (c :: r ++ 10 :: m) = headOf (c :: r) := by
  have h1 := prefix_stop (x := 10) [47, 47] (c :: r) m (by decide)
  have h2 := takeWhile_stop (p := fun c => c.toNat != 10) (x := 10) (by decide) (c :: r) m
  have h3 := takeWhile_stop (p := wordyB) (x := 10) (by decide) (c :: r) m
  have h4 := signAt_stop signs_ten (c :: r) m
  have hl : ∀ y, headOf (c :: r ++ y) = headOf (c :: (r ++ y)) := fun _ => rfl
  rw [hl]
  simp only [List.cons_append] at h1 h2 h3 h4
  unfold headOf
  simp only [cutLine]
  rw [h1, h2, h3, h4]

/-! ### A text behind a text -/
def Tok.shift (d : Nat) (t : Tok) : Tok := ⟨t.kind, t.text, t.pos + d⟩
def shiftRes (d : Nat) : LexRes → LexRes
  | .ok l => .ok (l.map (Tok.shift d))
  | .error e => .error (e.1, e.2 + d)
theorem shift_push (d : Nat) (o : List Tok) (r : LexRes) : shiftRes d (LexRes.push o r) = LexRes.push (o.map (Tok.shift d)) (shiftRes d r) := by
  cases r <;> simp [shiftRes, LexRes.push]
theorem lex_shift (d : Nat) : ∀ (f p : Nat) (r : Bytes), r.length ≤ f → lexAt (p + d) r = shiftRes d (lexAt p r)
  | f, p, [], _ => rfl
  | 0, p, c :: r, h => by simp at h
  | f + 1, p, c :: r, h => by
    have hl := headOf_len c r
    simp only [List.length_cons] at h
    cases hh : headOf (c :: r) with
    | skip n =>
      rw [hh, Head.len] at hl
      rw [lexAt_skip hh, lexAt_skip hh, show p + d + n = (p + n) + d from by omega]
      exact lex_shift d f _ _ (by simp; omega)
    | tok k n =>
      rw [hh, Head.len] at hl
      rw [lexAt_tok hh, lexAt_tok hh, show p + d + n = (p + n) + d from by omega, lex_shift d f _ _ (by simp; omega), shift_push]
      rfl
    | bad e => rw [lexAt_bad hh, lexAt_bad hh]; rfl

theorem blank_ten (m : Bytes) : headOf (10 :: m) = .skip 1 := by simp [headOf, blankB]
def behind (a : LexRes) (b : LexRes) : LexRes :=
  match a with
  | .ok ts => LexRes.push ts.dropLast b
  | .error e => .error e
theorem behind_push (t : Tok) {a : LexRes} (h : ∀ ts, a = .ok ts → ts ≠ []) (b : LexRes) : behind (LexRes.push [t] a) b = LexRes.push [t] (behind a b) := by
  cases a with
  | error e => rfl
  | ok ts =>
    have := h ts rfl
    cases ts with
    | nil => exact absurd rfl this
    | cons x xs =>
      cases b <;> simp [behind, LexRes.push]
theorem lexAt_some {p : Nat} {r : Bytes} {ts : List Tok} (h : lexAt p r = .ok ts) : ts ≠ [] := by
  obtain ⟨l, rfl⟩ := lexFuel_ends _ _ _ _ h
  simp
theorem lex_behind (m : Bytes) : ∀ (f p : Nat) (r : Bytes), r.length ≤ f → lexAt p (r ++ 10 :: m) = behind (lexAt p r) (lexAt (p + r.length + 1) m)
  | f, p, [], _ => by
    rw [List.nil_append, lexAt_skip (blank_ten m), lexAt_nil]
    simp [behind, LexRes.push_nil]
  | 0, p, c :: r, h => by simp at h
  | f + 1, p, c :: r, h => by
    have hl := headOf_len c r
    have ht := head_ten c r m
    simp only [List.length_cons] at h
    have hc : c :: r ++ 10 :: m = c :: (r ++ 10 :: m) := rfl
    rw [hc] at ht ⊢
    cases hh : headOf (c :: r) with
    | skip n =>
      rw [hh, Head.len] at hl
      rw [hh] at ht
      rw [lexAt_skip hh, lexAt_skip ht, ← hc, List.drop_append_of_le_length (by simp; omega), lex_behind m f _ _ (by simp; omega), List.length_drop]
      simp only [List.length_cons]
      rw [show p + n + (r.length + 1 - n) + 1 = p + (r.length + 1) + 1 from by omega]
    | tok k n =>
      rw [hh, Head.len] at hl
      rw [hh] at ht
      rw [lexAt_tok hh, lexAt_tok ht, ← hc, List.drop_append_of_le_length (by simp; omega), lex_behind m f _ _ (by simp; omega), List.length_drop, behind_push _ (fun _ => lexAt_some),
        List.take_append_of_le_length (by simp; omega)]
      simp only [List.length_cons]
      rw [show p + n + (r.length + 1 - n) + 1 = p + (r.length + 1) + 1 from by omega]
    | bad e =>
      rw [hh] at ht
      rw [lexAt_bad hh, lexAt_bad ht]
      rfl
theorem lex_joined (s m : Bytes) : lexOf (s ++ 10 :: m) = behind (lexOf s) (shiftRes (s.length + 1) (lexOf m)) := by
  have := lex_behind m _ 0 s (Nat.le_refl _)
  rw [Nat.zero_add] at this
  unfold lexOf
  rw [this, ← lex_shift _ _ 0 m (Nat.le_refl _)]
  simp

end Dec
end Go.Proofs.YtjdofndkdkeapaaGreatDoor
