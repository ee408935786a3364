/- Plain laws of the lexer: where tokens stand, texts joined by blanks, a text behind a text. No program in sight. -/
import Derived.Test.YtnchfjhnacidlaaDoorLexLaw1
namespace Go.Proofs.YtnchfjhnacidlaaDoor
open Go.RowKit

/-! ### What a byte behind does to a head -/
theorem takeWhile_stop {p : UInt8 → Bool} {x : UInt8} (hx : p x = false) (l m : Bytes) : (l ++ x :: m).takeWhile p = l.takeWhile p := by
  induction l with
  | nil => simp [hx]
  | cons a l ih =>
    simp only [List.cons_append, List.takeWhile_cons]
    rw [ih]
theorem prefix_stop {x : UInt8} : ∀ (u l m : Bytes), x ∉ u → u.isPrefixOf (l ++ x :: m) = u.isPrefixOf l
  | [], l, m, _ => by simp [List.isPrefixOf]
  | a :: u, [], m, h => by
    have : (a == x) = false := by simp at h ⊢; exact fun e => h.1 e.symm
    simp [List.isPrefixOf, this]
  | a :: u, b :: l, m, h => by
    simp only [List.cons_append, List.isPrefixOf]
    rw [prefix_stop u l m (by simp at h; exact h.2)]
theorem find_same {p q : Bytes → Bool} : ∀ (l : List Bytes), (∀ u ∈ l, p u = q u) → l.find? p = l.find? q
  | [], _ => rfl
  | a :: l, h => by
    simp only [List.find?_cons]
    rw [h a (by simp), find_same l (fun u hu => h u (by simp [hu]))]
theorem signs_ten : ∀ u ∈ signsL, (10 : UInt8) ∉ u := by decide
theorem signs_blank : ∀ u ∈ signsL, (32 : UInt8) ∉ u := by decide
theorem signAt_stop {x : UInt8} (hx : ∀ u ∈ signsL, x ∉ u) (l m : Bytes) : signAt (l ++ x :: m) = signAt l :=
  find_same _ fun u hu => prefix_stop u l m (hx u hu)
theorem head_ten (c : UInt8) (r m : Bytes) : headOf (c :: r ++ 10 :: m) = headOf (c :: r) := by
  have h1 := prefix_stop (x := 10) [47, 47] (c :: r) m (by decide)
  have h2 := takeWhile_stop (p := fun c => c.toNat != 10) (x := 10) (by decide) (c :: r) m
  have h3 := takeWhile_stop (p := wordyB) (x := 10) (by decide) (c :: r) m
  have h4 := signAt_stop signs_ten (c :: r) m
  have hl : ∀ y, headOf (c :: r ++ y) = headOf (c :: (r ++ y)) := fun _ => rfl
  rw [hl]
  simp only [List.cons_append] at h1 h2 h3 h4
  unfold headOf
  simp only [cutLine]
  rw [h1, h2, h3, h4]

/-! ### A text behind a text -/
def Tok.shift (d : Nat) (t : Tok) : Tok := ⟨t.kind, t.text, t.pos + d⟩
def shiftRes (d : Nat) : LexRes → LexRes
  | .ok l => .ok (l.map (Tok.shift d))
  | .error e => .error (e.1, e.2 + d)
theorem shift_push (d : Nat) (o : List Tok) (r : LexRes) : shiftRes d (LexRes.push o r) = LexRes.push (o.map (Tok.shift d)) (shiftRes d r) := by
  cases r <;> simp [shiftRes, LexRes.push]
theorem lex_shift (d : Nat) : ∀ (f p : Nat) (r : Bytes), r.length ≤ f → lexAt (p + d) r = shiftRes d (lexAt p r)
  | f, p, [], _ => rfl
  | 0, p, c :: r, h => by simp at h
  | f + 1, p, c :: r, h => by
    have hl := headOf_len c r
    simp only [List.length_cons] at h
    cases hh : headOf (c :: r) with
    | skip n =>
      rw [hh, Head.len] at hl
      rw [lexAt_skip hh, lexAt_skip hh, show p + d + n = (p + n) + d from by omega]
      exact lex_shift d f _ _ (by simp; omega)
    | tok k n =>
      rw [hh, Head.len] at hl
      rw [lexAt_tok hh, lexAt_tok hh, show p + d + n = (p + n) + d from by omega, lex_shift d f _ _ (by simp; omega), shift_push]
      rfl
    | bad e => rw [lexAt_bad hh, lexAt_bad hh]; rfl

theorem blank_ten (m : Bytes) : headOf (10 :: m) = .skip 1 := by simp [headOf, blankB]
def behind (a : LexRes) (b : LexRes) : LexRes :=
  match a with
  | .ok ts => LexRes.push ts.dropLast b
  | .error e => .error e
theorem behind_push (t : Tok) {a : LexRes} (h : ∀ ts, a = .ok ts → ts ≠ []) (b : LexRes) : behind (LexRes.push [t] a) b = LexRes.push [t] (behind a b) := by
  cases a with
  | error e => rfl
  | ok ts =>
    have := h ts rfl
    cases ts with
    | nil => exact absurd rfl this
    | cons x xs =>
      cases b <;> simp [behind, LexRes.push]
theorem lexAt_some {p : Nat} {r : Bytes} {ts : List Tok} (h : lexAt p r = .ok ts) : ts ≠ [] := by
  obtain ⟨l, rfl⟩ := lexFuel_ends _ _ _ _ h
  simp
theorem lex_behind (m : Bytes) : ∀ (f p : Nat) (r : Bytes), r.length ≤ f → lexAt p (r ++ 10 :: m) = behind (lexAt p r) (lexAt (p + r.length + 1) m)
  | f, p, [], _ => by
    rw [List.nil_append, lexAt_skip (blank_ten m), lexAt_nil]
    simp [behind, LexRes.push_nil]
  | 0, p, c :: r, h => by simp at h
  | f + 1, p, c :: r, h => by
    have hl := headOf_len c r
    have ht := head_ten c r m
    simp only [List.length_cons] at h
    have hc : c :: r ++ 10 :: m = c :: (r ++ 10 :: m) := rfl
    rw [hc] at ht ⊢
    cases hh : headOf (c :: r) with
    | skip n =>
      rw [hh, Head.len] at hl
      rw [hh] at ht
      rw [lexAt_skip hh, lexAt_skip ht, ← hc, List.drop_append_of_le_length (by simp; omega), lex_behind m f _ _ (by simp; omega), List.length_drop]
      simp only [List.length_cons]
      rw [show p + n + (r.length + 1 - n) + 1 = p + (r.length + 1) + 1 from by omega]
    | tok k n =>
      rw [hh, Head.len] at hl
      rw [hh] at ht
      rw [lexAt_tok hh, lexAt_tok ht, ← hc, List.drop_append_of_le_length (by simp; omega), lex_behind m f _ _ (by simp; omega), List.length_drop, behind_push _ (fun _ => lexAt_some),
        List.take_append_of_le_length (by simp; omega)]
      simp only [List.length_cons]
      rw [show p + n + (r.length + 1 - n) + 1 = p + (r.length + 1) + 1 from by omega]
    | bad e =>
      rw [hh] at ht
      rw [lexAt_bad hh, lexAt_bad ht]
      rfl
theorem lex_joined (s m : Bytes) : lexOf (s ++ 10 :: m) = behind (lexOf s) (shiftRes (s.length + 1) (lexOf m)) := by
  have := lex_behind m _ 0 s (Nat.le_refl _)
  rw [Nat.zero_add] at this
  unfold lexOf
  rw [this, ← lex_shift _ _ 0 m (Nat.le_refl _)]
  simp

/-! ### Where tokens stand -/
def Stand (s : Bytes) : Nat → List Tok → Prop
  | _, [] => True
  | e, t :: us => e ≤ t.pos ∧ t.text ≠ [] ∧ t.pos + t.text.length ≤ s.length ∧ (s.drop t.pos).take t.text.length = t.text ∧ Stand s (t.pos + t.text.length) us
/-- A token's text, read alone. -/
def Solo (t : Tok) : Prop := ∀ m : Bytes, headOf (t.text ++ m) = .tok t.kind t.text.length ∨ (m ≠ [] ∧ ∀ m', m ≠ 32 :: m')
theorem Stand.weak {s : Bytes} {us : List Tok} {e e' : Nat} (h : Stand s e us) (he : e' ≤ e) : Stand s e' us := by
  cases us with
  | nil => trivial
  | cons t us => exact ⟨Nat.le_trans he h.1, h.2⟩
theorem takeWhile_each {p : UInt8 → Bool} (l : Bytes) : ∀ c ∈ l.takeWhile p, p c = true := by
  induction l with
  | nil => simp
  | cons a l ih =>
    intro c hc
    rw [List.takeWhile_cons] at hc
    split at hc
    · rename_i ha
      rcases List.mem_cons.1 hc with rfl | hc
      · exact ha
      · exact ih c hc
    · simp at hc
theorem takeWhile_id {p : UInt8 → Bool} : ∀ (l : Bytes), (∀ c ∈ l, p c = true) → l.takeWhile p = l
  | [], _ => rfl
  | a :: l, h => by rw [List.takeWhile_cons, h a (by simp), if_pos rfl, takeWhile_id l (fun c hc => h c (by simp [hc]))]
theorem takeWhile_twice {p : UInt8 → Bool} (l : Bytes) : (l.takeWhile p).takeWhile p = l.takeWhile p := takeWhile_id _ (takeWhile_each l)
theorem take_takeWhile {p : UInt8 → Bool} (l : Bytes) : l.take (l.takeWhile p).length = l.takeWhile p :=
  (List.prefix_iff_eq_take.1 (List.takeWhile_prefix p)).symm
theorem sign_alone : ∀ u ∈ signsL, headOf u = .tok 4 u.length := by decide
theorem head_alone (c : UInt8) (r : Bytes) (k n : Nat) (h : headOf (c :: r) = .tok k n) : headOf ((c :: r).take n) = .tok k n ∧ n ≤ (c :: r).length := by
  have hl := headOf_len c r
  rw [h, Head.len] at hl
  refine ⟨?_, by simp; omega⟩
  simp only [headOf] at h
  split at h
  · cases h
  · rename_i hb
    split at h
    · cases h
    · rename_i hs
      split at h
      · rename_i hw
        split at h
        · rename_i k' hk
          injection h with h1 h2
          subst h1 h2
          rw [take_takeWhile]
          have ht : (c :: r).takeWhile wordyB = c :: r.takeWhile wordyB := by rw [List.takeWhile_cons, hw, if_pos rfl]
          have ht2 := takeWhile_twice (p := wordyB) (c :: r)
          rw [ht] at hk ht2 ⊢
          have hs' : ([47, 47] : Bytes).isPrefixOf (c :: r.takeWhile wordyB) = false := by
            cases hh : ([47, 47] : Bytes).isPrefixOf (c :: r.takeWhile wordyB)
            · rfl
            · simp [List.isPrefixOf] at hh
              rw [← hh.1] at hw
              revert hw; decide
          simp only [headOf]
          rw [if_neg hb, hs', if_neg (by simp), if_pos hw, ht2, hk]
        · cases h
      · split at h
        · rename_i u hu
          injection h with h1 h2
          subst h1 h2
          obtain ⟨hm, _, _, hp⟩ := signAt_pos hu
          rw [← List.prefix_iff_eq_take.1 hp]
          exact sign_alone u hm
        · cases h
theorem head_blank_behind (c : UInt8) (r m : Bytes) (k n : Nat) (h : headOf (c :: r) = .tok k n) : headOf (c :: r ++ 32 :: m) = .tok k n := by
  have h1 := prefix_stop (x := 32) [47, 47] (c :: r) m (by decide)
  have h3 := takeWhile_stop (p := wordyB) (x := 32) (by decide) (c :: r) m
  have h4 := signAt_stop signs_blank (c :: r) m
  have hl : ∀ y, headOf (c :: r ++ y) = headOf (c :: (r ++ y)) := fun _ => rfl
  rw [hl]
  simp only [List.cons_append] at h1 h3 h4
  rw [← h]
  unfold headOf at h ⊢
  simp only at h ⊢
  rw [h1, h3, h4]
  split
  · rfl
  · rename_i hb
    split
    · rename_i hs
      rw [if_neg hb, if_pos hs] at h
      cases h
    · rfl
/-- The texts, a blank ahead of each. -/
def spread : List Tok → Bytes
  | [] => []
  | t :: us => 32 :: t.text ++ spread us
def Lone (t : Tok) : Prop := t.text ≠ [] ∧ headOf t.text = .tok t.kind t.text.length
theorem Lone.head {t : Tok} (h : Lone t) (us : List Tok) : headOf (t.text ++ spread us) = .tok t.kind t.text.length := by
  cases us with
  | nil => rw [spread, List.append_nil]; exact h.2
  | cons u us =>
    cases ht : t.text with
    | nil => exact absurd ht h.1
    | cons c r =>
      rw [spread]
      have := h.2
      rw [ht] at this
      exact head_blank_behind c r _ _ _ this

theorem lex_stands (s : Bytes) : ∀ (f p : Nat) (r : Bytes) (ts : List Tok), r.length ≤ f → s.drop p = r → p + r.length = s.length → lexAt p r = .ok ts →
    ∃ us, ts = us ++ [⟨5, [], s.length⟩] ∧ Stand s p us ∧ ∀ t ∈ us, Lone t
  | f, p, [], ts, _, _, hp, h => by
    rw [lexAt_nil] at h
    injection h with h
    simp at hp
    exact ⟨[], by rw [← h, hp]; rfl, trivial, by simp⟩
  | 0, p, c :: r, ts, hf, _, _, _ => by simp at hf
  | f + 1, p, c :: r, ts, hf, hd, hp, h => by
    have hl := headOf_len c r
    simp only [List.length_cons] at hf hp
    cases hh : headOf (c :: r) with
    | skip n =>
      rw [hh, Head.len] at hl
      rw [lexAt_skip hh] at h
      obtain ⟨us, e, hs, ho⟩ := lex_stands s f _ _ ts (by simp; omega) (by rw [← hd, List.drop_drop]) (by simp; omega) h
      exact ⟨us, e, hs.weak (by omega), ho⟩
    | tok k n =>
      have ha := head_alone c r k n hh
      rw [hh, Head.len] at hl
      rw [lexAt_tok hh] at h
      cases hr : lexAt (p + n) ((c :: r).drop n) with
      | error e => rw [hr] at h; simp [LexRes.push] at h
      | ok ts' =>
        rw [hr] at h
        simp only [LexRes.push] at h
        injection h with h
        obtain ⟨us, e, hs, ho⟩ := lex_stands s f _ _ ts' (by simp; omega) (by rw [← hd, List.drop_drop]) (by simp; omega) hr
        have hlen : ((c :: r).take n).length = n := by rw [List.length_take]; omega
        refine ⟨⟨k, (c :: r).take n, p⟩ :: us, by rw [← h, e]; rfl, ⟨Nat.le_refl _, ?_, ?_, ?_, ?_⟩, ?_⟩
        · intro e0; simp only at e0; rw [e0] at hlen; simp at hlen; omega
        · simp only [hlen]; omega
        · simp only [hlen, hd]
        · simp only [hlen]; exact hs
        · intro t ht
          rcases List.mem_cons.1 ht with rfl | ht
          · refine ⟨?_, ?_⟩
            · intro e0; simp only at e0; rw [e0] at hlen; simp at hlen; omega
            · simp only [hlen]; exact ha.1
          · exact ho t ht
    | bad e => rw [lexAt_bad hh] at h; cases h
theorem lexOf_stands {s : Bytes} {ts : List Tok} (h : lexOf s = .ok ts) : ∃ us, ts = us ++ [⟨5, [], s.length⟩] ∧ Stand s 0 us ∧ ∀ t ∈ us, Lone t :=
  lex_stands s _ 0 s ts (Nat.le_refl _) rfl (by simp) h
def Alike (ts ms : List Tok) : Prop := ts.map (fun t => (t.kind, t.text)) = ms.map (fun t => (t.kind, t.text))
theorem blank_head (m : Bytes) : headOf (32 :: m) = .skip 1 := by simp [headOf, blankB]
theorem lex_spread : ∀ (us : List Tok) (p e : Nat), (∀ t ∈ us, Lone t) → ∃ ms, lexAt p (spread us) = .ok ms ∧ Alike (us ++ [⟨5, [], e⟩]) ms
  | [], p, e, _ => ⟨_, lexAt_nil p, rfl⟩
  | t :: us, p, e, h => by
    have ht := h t (by simp)
    have hh := ht.head us
    obtain ⟨ms, hm, ha⟩ := lex_spread us (p + 1 + t.text.length) e (fun u hu => h u (by simp [hu]))
    rw [spread, List.cons_append, lexAt_skip (blank_head _), List.drop_one, List.tail_cons]
    cases hx : t.text with
    | nil => exact absurd hx ht.1
    | cons c r =>
      rw [hx] at hh hm
      refine ⟨⟨t.kind, c :: r, p + 1⟩ :: ms, ?_, ?_⟩
      · rw [List.cons_append] at hh ⊢
        rw [lexAt_tok hh, ← List.cons_append, List.drop_left, List.take_left, hm]
        rfl
      · unfold Alike at ha ⊢
        simp only [List.cons_append, List.map_cons]
        rw [ha, hx]
theorem lexOf_spread {us : List Tok} (e : Nat) (h : ∀ t ∈ us, Lone t) : ∃ ms, lexOf (spread us) = .ok ms ∧ Alike (us ++ [⟨5, [], e⟩]) ms := lex_spread us 0 e h
theorem lex_fault : ∀ (f p : Nat) (r : Bytes) (er q : Nat), r.length ≤ f → lexAt p r = .error (er, q) → (er = 100 ∨ er = 101) ∧ q < p + r.length
  | f, p, [], er, q, _, h => by rw [lexAt_nil] at h; cases h
  | 0, p, c :: r, er, q, hf, _ => by simp at hf
  | f + 1, p, c :: r, er, q, hf, h => by
    have hl := headOf_len c r
    simp only [List.length_cons] at hf
    cases hh : headOf (c :: r) with
    | skip n =>
      rw [hh, Head.len] at hl
      rw [lexAt_skip hh] at h
      obtain ⟨h1, h2⟩ := lex_fault f _ _ er q (by simp; omega) h
      simp only [List.length_drop, List.length_cons] at h2 ⊢
      exact ⟨h1, by omega⟩
    | tok k n =>
      rw [hh, Head.len] at hl
      rw [lexAt_tok hh] at h
      cases hr : lexAt (p + n) ((c :: r).drop n) with
      | ok ts => rw [hr] at h; simp [LexRes.push] at h
      | error e =>
        rw [hr] at h
        simp only [LexRes.push] at h
        injection h with h
        subst h
        obtain ⟨h1, h2⟩ := lex_fault f _ _ er q (by simp; omega) hr
        simp only [List.length_drop, List.length_cons] at h2 ⊢
        exact ⟨h1, by omega⟩
    | bad e =>
      rw [lexAt_bad hh] at h
      injection h with h
      injection h with h1 h2
      subst h1 h2
      refine ⟨?_, by simp⟩
      simp only [headOf] at hh
      split at hh
      · cases hh
      · split at hh
        · cases hh
        · split at hh
          · split at hh
            · cases hh
            · injection hh with hh; exact .inr hh.symm
          · split at hh
            · cases hh
            · injection hh with hh; exact .inl hh.symm
theorem lexOf_fault {s : Bytes} {er p : Nat} (h : lexOf s = .error (er, p)) : (er = 100 ∨ er = 101) ∧ p < s.length := by
  have := lex_fault _ 0 s er p (Nat.le_refl _) h
  simpa using this
end Go.Proofs.YtnchfjhnacidlaaDoor
