/- The printer of chapter 8 as a plain function on trees, and that the lexer takes what it prints. No program in sight. -/
import Derived.Test.YtjdofndkdkeapaaGreatDoorTree
import Derived.Test.YtjdofndkdkeapaaGreatDoorDec
namespace Go.Proofs.YtjdofndkdkeapaaGreatDoor
open Go.RowKit
set_option linter.unusedSimpArgs false

/-! ### The text of a tree -/
def levelOp (s : Bytes) : Nat := if s = [124, 124] then 1 else if s = [38, 38] then 2 else if s = [43] ∨ s = [45] then 4 else if s = [42] ∨ s = [47] ∨ s = [37] then 5 else 3
def levelT : Tree → Nat
  | .node k s _ _ => if k = 23 then 6 else if k = 24 then levelOp s else 7
/-- An operand's text, in brackets if its level is below one. -/
def opd (least : Nat) (t : Tree) (p : Bytes) : Bytes := if least ≤ levelT t then p else 40 :: p ++ [41]
def fileJ : List Bytes → Bytes
  | [] => []
  | p :: ps => p ++ 10 :: (match ps with | [] => [] | _ :: _ => 10 :: fileJ ps)
def commaJ : List Bytes → Bytes
  | [] => []
  | p :: ps => p ++ (match ps with | [] => [] | _ :: _ => 44 :: 32 :: commaJ ps)
def pad (d : Nat) : Bytes := 10 :: List.replicate (2 * d) 32
def blockJ (d : Nat) : List Bytes → Bytes
  | [] => []
  | p :: ps => pad d ++ p ++ blockJ d ps
def spellK (d k : Nat) (s : Bytes) (x : Int) (ks : List Tree) (ps : List Bytes) : Bytes :=
  let p := fun i => ps.getD i []
  let t := fun i => ks.getD i default
  match k with
  | 1 => fileJ ps
  | 2 => [102, 117, 110, 99, 32] ++ s ++ 40 :: p 0 ++ 41 :: 32 :: p 1
  | 3 => commaJ ps
  | 4 => s
  | 5 => 123 :: blockJ (d + 1) ps ++ pad d ++ [125]
  | 6 => [118, 97, 114, 32] ++ s ++ [32, 61, 32] ++ p 0 ++ [59]
  | 7 => p 0 ++ [32, 61, 32] ++ p 1 ++ [59]
  | 8 => [105, 102, 32] ++ p 0 ++ 32 :: p 1 ++ (if (t 2).kids = [] then [] else [32, 101, 108, 115, 101, 32] ++ p 2)
  | 9 => [119, 104, 105, 108, 101, 32] ++ p 0 ++ 32 :: p 1
  | 10 => [114, 101, 116, 117, 114, 110, 32] ++ p 0 ++ [59]
  | 11 => [112, 114, 105, 110, 116, 32] ++ p 0 ++ [59]
  | 12 => p 0 ++ [59]
  | 20 => Lib.itoa x
  | 21 => if x = 1 then [116, 114, 117, 101] else [102, 97, 108, 115, 101]
  | 22 => s
  | 23 => s ++ opd 6 (t 0) (p 0)
  | 24 => opd (levelOp s) (t 0) (p 0) ++ 32 :: s ++ 32 :: opd (levelOp s + 1) (t 1) (p 1)
  | 25 => s ++ 40 :: commaJ ps ++ [41]
  | 26 => opd 7 (t 0) (p 0) ++ 91 :: p 1 ++ [93]
  | 27 => 91 :: p 0 ++ [59, 32] ++ p 1 ++ [93]
  | 28 => [108, 101, 110, 40] ++ p 0 ++ [41]
  | 29 => [114, 101, 97, 100, 40, 41]
  | _ => []
mutual
def printT : Nat → Tree → Bytes
  | d, .node k s x ks => spellK d k s x ks (printL (if k = 5 then d + 1 else d) ks)
def printL : Nat → List Tree → List Bytes
  | _, [] => []
  | d, t :: ts => printT d t :: printL d ts
end
theorem printL_len : ∀ (d : Nat) (ts : List Tree), (printL d ts).length = ts.length
  | _, [] => rfl
  | d, t :: ts => by simp [printL, printL_len d ts]
theorem printL_get : ∀ (d : Nat) (ts : List Tree) (i : Nat) (t : Tree), ts[i]? = some t → (printL d ts)[i]? = some (printT d t)
  | _, [], _, _, h => by simp at h
  | d, u :: ts, 0, t, h => by simp at h; subst h; rfl
  | d, u :: ts, i + 1, t, h => by simp only [List.getElem?_cons_succ] at h; simp only [printL, List.getElem?_cons_succ]; exact printL_get d ts i t h

/-! ### What the lexer takes -/
def Lexes (r : Bytes) : Prop := ∀ p, ∃ ts, lexAt p r = .ok ts
/-- What ends a word. -/
def Ends (r : Bytes) : Prop := ∀ c r', r = c :: r' → wordyB c = false
theorem Ends.nil : Ends [] := fun _ _ h => by cases h
theorem Ends.cons {c : UInt8} {r : Bytes} (h : wordyB c = false) : Ends (c :: r) := fun c' r' e => by injection e with e1 e2; rw [← e1]; exact h
theorem Lexes.nil : Lexes [] := fun p => ⟨_, lexAt_nil p⟩
theorem Lexes.blank {c : UInt8} {r : Bytes} (hc : blankB c = true) (h : Lexes r) : Lexes (c :: r) := fun p => by
  obtain ⟨ts, e⟩ := h (p + 1)
  refine ⟨ts, ?_⟩
  rw [lexAt_skip (n := 1) (by simp [headOf, hc])]
  exact e
theorem slash_not {c : UInt8} {r : Bytes} (h : c ≠ 47) : ([47, 47] : Bytes).isPrefixOf (c :: r) = false := by
  simp [List.isPrefixOf, Ne.symm h]
theorem push_ok {out ts : List Tok} {r : LexRes} (h : r = .ok ts) : LexRes.push out r = .ok (out ++ ts) := by rw [h]; rfl
theorem Lexes.sign {g r : Bytes} {c : UInt8} {g' : Bytes} (hg : g = c :: g') (hb : blankB c = false) (hs : ([47, 47] : Bytes).isPrefixOf (g ++ r) = false) (hw : wordyB c = false) (hsg : signAt (g ++ r) = some g) (h : Lexes r) : Lexes (g ++ r) := fun p => by
  obtain ⟨ts, e⟩ := h (p + g.length)
  subst hg
  rw [List.cons_append] at hs hsg
  have key := lexAt_tok (p := p) (k := 4) (n := (c :: g').length) (c := c) (r := g' ++ r) (by simp only [headOf, hb, hs, hw, hsg]; simp)
  rw [show (c :: (g' ++ r)).drop (c :: g').length = r from by rw [← List.cons_append, List.drop_left], e] at key
  exact ⟨_, key⟩
theorem takeWhile_word {w r : Bytes} (hw : w.all wordyB = true) (hr : Ends r) : (w ++ r).takeWhile wordyB = w := by
  induction w with
  | nil =>
    cases r with
    | nil => rfl
    | cons c r => simp [hr c r rfl]
  | cons c w ih =>
    simp only [List.all_cons, Bool.and_eq_true] at hw
    simp [hw.1, ih hw.2]
theorem Lexes.word {w r : Bytes} {k : Nat} (h0 : w ≠ []) (hw : w.all wordyB = true) (hk : kindOf w = some k) (hr : Ends r) (h : Lexes r) : Lexes (w ++ r) := fun p => by
  obtain ⟨ts, e⟩ := h (p + w.length)
  have ht := takeWhile_word hw hr
  cases w with
  | nil => exact absurd rfl h0
  | cons c w =>
    have hc : wordyB c = true := by simp only [List.all_cons, Bool.and_eq_true] at hw; exact hw.1
    have hb := wordy_not_blank hc
    have h47 : c ≠ 47 := by rintro rfl; revert hc; decide
    rw [List.cons_append] at ht
    have key := lexAt_tok (p := p) (k := k) (n := (c :: w).length) (c := c) (r := w ++ r) (by simp only [headOf, hb, slash_not h47, hc, ht, hk]; simp)
    rw [show (c :: (w ++ r)).drop (c :: w).length = r from by rw [← List.cons_append, List.drop_left], e] at key
    exact ⟨_, key⟩
/-! Single signs. -/
def plainB (c : UInt8) : Bool := c == 40 || c == 41 || c == 123 || c == 125 || c == 91 || c == 93 || c == 44 || c == 59
theorem plain_facts {c : UInt8} (h : plainB c = true) : c = 40 ∨ c = 41 ∨ c = 123 ∨ c = 125 ∨ c = 91 ∨ c = 93 ∨ c = 44 ∨ c = 59 := by
  simpa [plainB, or_assoc] using h
theorem Lexes.plain {c : UInt8} {r : Bytes} (hc : plainB c = true) (h : Lexes r) : Lexes (c :: r) := by
  have := Lexes.sign (g := [c]) (r := r) (c := c) (g' := []) rfl
  rcases plain_facts hc with rfl | rfl | rfl | rfl | rfl | rfl | rfl | rfl <;>
    exact this (by decide) (slash_not (by decide)) (by decide) (by simp [signAt, signsL, List.isPrefixOf]) h
theorem Ends.plain {c : UInt8} {r : Bytes} (hc : plainB c = true) : Ends (c :: r) := by
  refine Ends.cons ?_
  rcases plain_facts hc with rfl | rfl | rfl | rfl | rfl | rfl | rfl | rfl <;> decide
theorem Ends.blank {c : UInt8} {r : Bytes} (hc : c = 32 ∨ c = 10) : Ends (c :: r) := by
  refine Ends.cons ?_
  rcases hc with rfl | rfl <;> decide
theorem Lexes.sp {r : Bytes} (h : Lexes r) : Lexes (32 :: r) := Lexes.blank (by decide) h
theorem Lexes.nl {r : Bytes} (h : Lexes r) : Lexes (10 :: r) := Lexes.blank (by decide) h
theorem Lexes.sps {r : Bytes} (h : Lexes r) : ∀ n, Lexes (List.replicate n 32 ++ r)
  | 0 => h
  | n + 1 => by rw [List.replicate_succ]; exact Lexes.sp (Lexes.sps h n)
theorem Lexes.pad {r : Bytes} (d : Nat) (h : Lexes r) : Lexes (pad d ++ r) := Lexes.nl (Lexes.sps h _)
theorem Ends.pad {r : Bytes} (d : Nat) : Ends (pad d ++ r) := Ends.blank (.inr rfl)
theorem Lexes.eq {r : Bytes} (h : Lexes r) : Lexes (32 :: 61 :: 32 :: r) :=
  Lexes.sp (Lexes.sign (g := [61]) (r := 32 :: r) rfl (by decide) (slash_not (by decide)) (by decide) (by simp [signAt, signsL, List.isPrefixOf]) (Lexes.sp h))
theorem Lexes.op {s r : Bytes} (hs : s ∈ binaryL) (h : Lexes r) : Lexes (32 :: (s ++ 32 :: r)) := by
  have hh := Lexes.sp h
  refine Lexes.sp ?_
  simp only [binaryL, List.mem_cons, List.not_mem_nil, or_false] at hs
  rcases hs with rfl | rfl | rfl | rfl | rfl | rfl | rfl | rfl | rfl | rfl | rfl | rfl | rfl <;>
    exact Lexes.sign rfl (by decide) (by simp [List.isPrefixOf]) (by decide) (by simp [signAt, signsL, List.isPrefixOf]) hh
/-- A text that no sign ahead runs into. -/
def Apart (r : Bytes) : Prop := ∀ c r', r = c :: r' → c ≠ 61
theorem Lexes.minus {r : Bytes} (h : Lexes r) : Lexes (45 :: r) :=
  Lexes.sign (g := [45]) (r := r) rfl (by decide) (slash_not (by decide)) (by decide) (by simp [signAt, signsL, List.isPrefixOf]) h
theorem Lexes.bang {r : Bytes} (h : Lexes r) (ha : Apart r) : Lexes (33 :: r) := by
  refine Lexes.sign (g := [33]) (r := r) rfl (by decide) (slash_not (by decide)) (by decide) ?_ h
  cases r with
  | nil => simp [signAt, signsL, List.isPrefixOf]
  | cons c r => simp [signAt, signsL, List.isPrefixOf, Ne.symm (ha c r rfl)]
/-! Words and names. -/
theorem word_kw {w : Bytes} (h : w ∈ wordsL) : w ≠ [] ∧ w.all wordyB = true ∧ kindOf w = some 2 := by
  refine ⟨?_, ?_, ?_⟩
  · have : ∀ u ∈ wordsL, u ≠ [] := by decide
    exact this w h
  · have : ∀ u ∈ wordsL, u.all wordyB = true := by decide
    exact this w h
  · unfold kindOf; rw [if_pos (by simpa using h)]
theorem Lexes.kw {w r : Bytes} (h : w ∈ wordsL) (hr : Ends r) (hl : Lexes r) : Lexes (w ++ r) := by
  obtain ⟨h1, h2, h3⟩ := word_kw h
  exact Lexes.word h1 h2 h3 hr hl
theorem name_facts {s : Bytes} (h : isName s = true) : s ≠ [] ∧ s.all wordyB = true ∧ ∃ k, kindOf s = some k := by
  refine ⟨?_, ?_, ?_⟩
  · rintro rfl; simp [isName] at h
  · cases s with
    | nil => simp [isName] at h
    | cons c r => simp only [isName, Bool.and_eq_true] at h; exact h.2
  · unfold kindOf
    split
    · exact ⟨_, rfl⟩
    · exact ⟨_, rfl⟩
theorem Lexes.name {s r : Bytes} (h : isName s = true) (hr : Ends r) (hl : Lexes r) : Lexes (s ++ r) := by
  obtain ⟨h1, h2, k, h3⟩ := name_facts h
  exact Lexes.word h1 h2 h3 hr hl
theorem Lexes.num {x : Int} {r : Bytes} (h0 : 0 ≤ x) (h1 : x ≤ 9223372036854775807) (hr : Ends r) (hl : Lexes r) : Lexes (Lib.itoa x ++ r) := by
  unfold Lib.itoa
  rw [if_neg (by omega)]
  obtain ⟨d1, _⟩ := Dec.dec_spec x.toNat x.toNat (Nat.le_refl _)
  have hi := Dec.dec_isInt x.toNat
  rw [decide_eq_true (by omega)] at hi
  have hk := Dec.digits_kind d1 (Dec.decDigits_pos _)
  rw [hi] at hk
  refine Lexes.word (Dec.decDigits_pos _) ?_ hk hr hl
  rw [List.all_eq_true] at d1 ⊢
  exact fun c hc => Dec.digit_wordy (d1 c hc)
end Go.Proofs.YtjdofndkdkeapaaGreatDoor
