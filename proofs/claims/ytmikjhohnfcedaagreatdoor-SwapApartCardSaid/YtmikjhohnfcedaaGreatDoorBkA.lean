/- Plain facts on bytes, and the lexer as a plain function on lists of bytes. No program in sight.
   Trees and edits as plain data, and what the program's packages tree, edit, place, swap compute of them. No program in sight.
   Small words on memory: rows that the call owns, over later worlds. No program in sight.
   Trees in memory: a row of nodes that reads as a list of trees. No program in sight.
   Maps keyed by small numbers, of whatever elements: what a block holds, entry by entry. No program in sight.
   Rows of strings in memory; what names are. -/
import Derived.Lib.Strings
import Derived.Lib.IndexBytes
import Derived.Below
import Derived.Lib.Hide
import Derived.WalkKit
import Derived.WalkSpells
import Derived.Deep.AppendLies
import Derived.Maps.OwnSet
import Derived.Test.YtmikjhohnfcedaaGreatDoorRows
import Derived.WalkLawsBesides
namespace Go.Proofs.YtmikjhohnfcedaaGreatDoor
set_option linter.unusedSimpArgs false
set_option linter.unusedVariables false
open Go.RowKit

abbrev Bytes := List UInt8
/-- A string's bytes, and back. -/
abbrev bl (s : ByteArray) : Bytes := s.data.toList
abbrev sb (l : Bytes) : ByteArray := ⟨l.toArray⟩
theorem bl_mk (l : Bytes) : bl (sb l) = l := rfl
theorem mk_bl (s : ByteArray) : sb (bl s) = s := rfl
theorem bl_len (s : ByteArray) : (bl s).length = s.size := rfl
theorem mk_size (l : Bytes) : (sb l).size = l.length := rfl
theorem bl_inj {a b : ByteArray} (h : bl a = bl b) : a = b := by rw [← mk_bl a, ← mk_bl b, h]
theorem bl_get (s : ByteArray) (i : Nat) (h : i < s.size) : (bl s)[i]? = some s[i] := Lib.data_getElem? s i h
theorem toList_bl (s : ByteArray) : s.toList = bl s := ByteArray.toList_eq s
theorem extract_mk (s : ByteArray) (a b : Nat) : s.extract a b = sb (((bl s).drop a).take (b - a)) := Lib.extract_eq s a b

theorem ret_bool {a b : Bool} (h : a = true ↔ b = true) : Ending.returned (.bool a) = .returned (.bool b) := by
  rw [Bool.eq_iff_iff.2 h]
theorem ret_int {k : IntKind} {a b : Int} (h : a = b) : Ending.returned (.int k a) = .returned (.int k b) := by rw [h]
theorem prefix_take (p l : Bytes) : p.isPrefixOf l = (l.take p.length == p) := by
  rw [Bool.eq_iff_iff]
  simp [List.isPrefixOf_iff_prefix, List.prefix_iff_eq_take]
  constructor <;> (intro h; exact h.symm)

def blankB (c : UInt8) : Bool := c.toNat == 32 || c.toNat == 9 || c.toNat == 10 || c.toNat == 13
def letterB (c : UInt8) : Bool := (97 ≤ c.toNat && c.toNat ≤ 122) || (65 ≤ c.toNat && c.toNat ≤ 90) || c.toNat == 95
def digitB (c : UInt8) : Bool := 48 ≤ c.toNat && c.toNat ≤ 57
def wordyB (c : UInt8) : Bool := letterB c || digitB c

def wordsL : List Bytes := [[102, 117, 110, 99], [118, 97, 114], [105, 102], [101, 108, 115, 101], [119, 104, 105, 108, 101], [114, 101, 116, 117, 114, 110], [112, 114, 105, 110, 116], [116, 114, 117, 101], [102, 97, 108, 115, 101], [108, 101, 110], [114, 101, 97, 100]]
def signsL : List Bytes := [[61, 61], [33, 61], [60, 61], [62, 61], [38, 38], [124, 124], [40], [41], [123], [125], [91], [93], [44], [59], [61], [60], [62], [43], [45], [42], [47], [37], [33]]

def isName (s : Bytes) : Bool :=
  match s with
  | [] => false
  | c :: _ => decide (s.length ≤ 24) && letterB c && !wordsL.contains s && s.all wordyB

def numVal (s : Bytes) : Nat := s.foldl (fun n c => 10 * n + (c.toNat - 48)) 0
def isInt (s : Bytes) : Bool :=
  match s with
  | [] => false
  | c :: r => !(!r.isEmpty && c.toNat == 48) && s.all digitB && decide (numVal s ≤ 9223372036854775807)

structure Tok where
  kind : Nat
  text : Bytes
  pos : Nat
  deriving DecidableEq, Repr

/-- What stands at a text's head. -/
inductive Head where
  | skip (n : Nat)
  | tok (k n : Nat)
  | bad (e : Nat)
  deriving DecidableEq, Repr

def kindOf (t : Bytes) : Option Nat := if wordsL.contains t then some 2 else if isName t then some 1 else if isInt t then some 3 else none
def cutLine (r : Bytes) : Bytes := r.takeWhile (fun c => c.toNat != 10)
def signAt (r : Bytes) : Option Bytes := signsL.find? (fun s => s.isPrefixOf r)

def headOf : Bytes → Head
  | [] => .skip 0
  | c :: r =>
    if blankB c then .skip 1
    else if ([47, 47] : Bytes).isPrefixOf (c :: r) then .skip (cutLine (c :: r)).length
    else if wordyB c then
      match kindOf ((c :: r).takeWhile wordyB) with
      | some k => .tok k ((c :: r).takeWhile wordyB).length
      | none => .bad 101
    else match signAt (c :: r) with
      | some s => .tok 4 s.length
      | none => .bad 100

abbrev LexRes := Except (Nat × Nat) (List Tok)
def LexRes.push (out : List Tok) : LexRes → LexRes
  | .ok l => .ok (out ++ l)
  | .error e => .error e

def lexFuel : Nat → Nat → Bytes → LexRes
  | _, p, [] => .ok [⟨5, [], p⟩]
  | 0, p, _ :: _ => .error (0, p)
  | f + 1, p, c :: r =>
    match headOf (c :: r) with
    | .skip n => lexFuel f (p + n) ((c :: r).drop n)
    | .tok k n => LexRes.push [⟨k, (c :: r).take n, p⟩] (lexFuel f (p + n) ((c :: r).drop n))
    | .bad e => .error (e, p)
def lexAt (p : Nat) (r : Bytes) : LexRes := lexFuel r.length p r
def lexOf (s : Bytes) : LexRes := lexAt 0 s

theorem LexRes.push_push (a b : List Tok) (r : LexRes) : LexRes.push a (LexRes.push b r) = LexRes.push (a ++ b) r := by
  cases r <;> simp [LexRes.push]
theorem LexRes.push_nil (r : LexRes) : LexRes.push [] r = r := by cases r <;> simp [LexRes.push]

theorem signAt_pos {r s : Bytes} (h : signAt r = some s) : s ∈ signsL ∧ 0 < s.length ∧ s.length ≤ 2 ∧ s <+: r := by
  have h1 := List.mem_of_find?_eq_some h
  have h2 := List.find?_some h
  refine ⟨h1, ?_, ?_, List.isPrefixOf_iff_prefix.1 h2⟩
  · have : ∀ s ∈ signsL, 0 < s.length := by decide
    exact this s h1
  · have : ∀ s ∈ signsL, s.length ≤ 2 := by decide
    exact this s h1

/-- What a head takes is at least one byte, and no more than there is. -/
def Head.len : Head → Nat
  | .skip n => n
  | .tok _ n => n
  | .bad _ => 1
theorem takeWhile_le (p : UInt8 → Bool) (r : Bytes) : (r.takeWhile p).length ≤ r.length := by
  exact List.IsPrefix.length_le (List.takeWhile_prefix p)
theorem headOf_len (c : UInt8) (r : Bytes) : 0 < (headOf (c :: r)).len ∧ (headOf (c :: r)).len ≤ r.length + 1 := by
  simp only [headOf]
  split
  · simp [Head.len]
  · split
    · rename_i h1 h2
      have hc : c = 47 := by simp [List.isPrefixOf] at h2; exact h2.1.symm
      subst hc
      constructor
      · simp [Head.len, cutLine]
      · exact takeWhile_le _ (47 :: r)
    · split
      · rename_i hw
        split
        · refine ⟨?_, takeWhile_le _ (c :: r)⟩
          simp [Head.len, hw]
        · simp [Head.len]
      · split
        · rename_i s hs
          obtain ⟨_, h1, _, h2⟩ := signAt_pos hs
          exact ⟨h1, h2.length_le⟩
        · simp [Head.len]

theorem lexFuel_more : ∀ (f g p : Nat) (r : Bytes), r.length ≤ f → r.length ≤ g → lexFuel f p r = lexFuel g p r := by
  intro f
  induction f with
  | zero =>
    intro g p r hf hg
    have : r = [] := List.eq_nil_of_length_eq_zero (by omega)
    subst this
    cases g <;> rfl
  | succ f ih =>
    intro g p r hf hg
    match r with
    | [] => cases g <;> rfl
    | c :: r =>
      cases g with
      | zero => simp at hg
      | succ g =>
        have hl := headOf_len c r
        simp only [List.length_cons] at hf hg
        unfold lexFuel
        split
        · rename_i n hn
          simp only [hn, Head.len] at hl
          exact ih g _ _ (by simp; omega) (by simp; omega)
        · rename_i k n hn
          simp only [hn, Head.len] at hl
          rw [ih g _ _ (by simp; omega) (by simp; omega)]
        · rfl

theorem lexAt_nil (p : Nat) : lexAt p [] = .ok [⟨5, [], p⟩] := rfl
theorem lexAt_cons (p : Nat) (c : UInt8) (r : Bytes) : lexAt p (c :: r) =
    match headOf (c :: r) with
    | .skip n => lexAt (p + n) ((c :: r).drop n)
    | .tok k n => LexRes.push [⟨k, (c :: r).take n, p⟩] (lexAt (p + n) ((c :: r).drop n))
    | .bad e => .error (e, p) := by
  have hl := headOf_len c r
  unfold lexAt
  simp only [List.length_cons]
  rw [lexFuel]
  split
  · rename_i n hn
    simp only [hn, Head.len] at hl
    exact lexFuel_more _ _ _ _ (by simp; omega) (by simp)
  · rename_i k n hn
    simp only [hn, Head.len] at hl
    rw [lexFuel_more r.length _ _ _ (by simp; omega) (Nat.le_refl _)]
  · rfl

theorem lexAt_skip {p n : Nat} {c : UInt8} {r : Bytes} (h : headOf (c :: r) = .skip n) : lexAt p (c :: r) = lexAt (p + n) ((c :: r).drop n) := by
  rw [lexAt_cons, h]
theorem lexAt_tok {p k n : Nat} {c : UInt8} {r : Bytes} (h : headOf (c :: r) = .tok k n) : lexAt p (c :: r) = LexRes.push [⟨k, (c :: r).take n, p⟩] (lexAt (p + n) ((c :: r).drop n)) := by
  rw [lexAt_cons, h]
theorem lexAt_bad {p e : Nat} {c : UInt8} {r : Bytes} (h : headOf (c :: r) = .bad e) : lexAt p (c :: r) = .error (e, p) := by
  rw [lexAt_cons, h]

/-! Numbers and names, as the loops go through them. -/
theorem take_snoc (s : ByteArray) (k : Nat) (h : k < s.size) : (bl s).take (k + 1) = (bl s).take k ++ [s[k]] := by
  rw [List.take_succ_eq_append_getElem (by simpa using h)]; rfl
theorem drop_cons (s : ByteArray) (k : Nat) (h : k < s.size) : (bl s).drop k = s[k] :: (bl s).drop (k + 1) := by
  rw [List.drop_eq_getElem_cons (by simpa using h)]; rfl
theorem numVal_snoc (l : Bytes) (c : UInt8) : numVal (l ++ [c]) = 10 * numVal l + (c.toNat - 48) := by
  simp [numVal, List.foldl_append]
theorem numVal_grow (l r : Bytes) : numVal l ≤ numVal (l ++ r) := by
  induction r generalizing l with
  | nil => simp
  | cons c r ih =>
    have h1 := ih (l ++ [c])
    rw [List.append_assoc] at h1
    have h2 := numVal_snoc l c
    simp only [List.singleton_append] at h1
    omega
theorem numVal_take (s : Bytes) (k : Nat) : numVal (s.take k) ≤ numVal s := by
  have := numVal_grow (s.take k) (s.drop k)
  rwa [List.take_append_drop] at this
theorem digitB_iff {c : UInt8} : digitB c = true ↔ 48 ≤ c.toNat ∧ c.toNat ≤ 57 := by
  simp [digitB]
theorem isInt_nil : isInt [] = false := rfl
theorem isInt_zero {s : Bytes} (h1 : 1 < s.length) (h2 : s[0]? = some 48) : isInt s = false := by
  match s, h1 with
  | c :: d :: r, _ =>
    simp at h2
    subst h2
    simp [isInt]
theorem isInt_bad {s : Bytes} {k : Nat} {c : UInt8} (h : s[k]? = some c) (hc : digitB c = false) : isInt s = false := by
  have hm := List.mem_of_getElem? h
  match s with
  | [] => rfl
  | d :: r =>
    have : (d :: r).all digitB = false := by
      rw [List.all_eq_false]
      exact ⟨c, hm, by simp [hc]⟩
    simp only [isInt, this]
    simp
theorem isInt_big {s : Bytes} (h : 9223372036854775807 < numVal s) : isInt s = false := by
  match s with
  | [] => rfl
  | d :: r => simp only [isInt]; simp [Nat.not_le.2 h]
theorem isInt_good {s : Bytes} (h0 : s ≠ []) (h1 : s.length = 1 ∨ s[0]? ≠ some 48) (h2 : s.all digitB = true) (h3 : numVal s ≤ 9223372036854775807) : isInt s = true := by
  match s with
  | [] => exact absurd rfl h0
  | d :: r =>
    simp only [isInt, h2]
    simp [h3]
    rcases h1 with h1 | h1
    · left; simpa using h1
    · right
      simp at h1
      intro e
      exact h1 (UInt8.toNat_inj.1 (by rw [e]; rfl))

/-! Scans: as many bytes as are so. -/
def Scan (p : UInt8 → Bool) (s : ByteArray) (k m : Nat) : Prop := k ≤ m ∧ m ≤ s.size ∧ ∀ i (h : i < s.size), k ≤ i → i < m → p s[i] = true
theorem Scan.start {p : UInt8 → Bool} {s : ByteArray} {k : Nat} (hk : k ≤ s.size) : Scan p s k k := ⟨Nat.le_refl _, hk, fun i _ h1 h2 => by omega⟩
theorem Scan.step {p : UInt8 → Bool} {s : ByteArray} {k m : Nat} (h : Scan p s k m) (hm : m < s.size) (hp : p s[m] = true) : Scan p s k (m + 1) := by
  obtain ⟨h1, h2, h3⟩ := h
  refine ⟨by omega, by omega, fun i hi a b => ?_⟩
  by_cases e : i = m
  · subst e; exact hp
  · exact h3 i hi a (by omega)
theorem takeWhile_len {p : UInt8 → Bool} : ∀ (l : Bytes) (n : Nat), n ≤ l.length → (∀ i c, i < n → l[i]? = some c → p c = true) → (∀ c, l[n]? = some c → p c = false) → (l.takeWhile p).length = n
  | [], n, h, _, _ => by simp at h; simp [h]
  | c :: l, 0, _, _, h => by have := h c (by simp); simp [this]
  | c :: l, n + 1, hn, h1, h2 => by
    have hc := h1 0 c (by omega) (by simp)
    simp only [List.takeWhile_cons, hc, if_true, List.length_cons]
    rw [takeWhile_len l n (by simpa using hn) (fun i d hi hd => h1 (i + 1) d (by omega) (by simpa using hd)) (fun d hd => h2 d (by simpa using hd))]
theorem Scan.done {p : UInt8 → Bool} {s : ByteArray} {k m : Nat} (h : Scan p s k m) (he : ∀ (hm : m < s.size), p s[m] = false) : (((bl s).drop k).takeWhile p).length = m - k := by
  obtain ⟨h1, h2, h3⟩ := h
  refine takeWhile_len _ _ (by rw [List.length_drop, bl_len]; omega) (fun i c hi hc => ?_) (fun c hc => ?_)
  · rw [List.getElem?_drop, bl_get s _ (by omega)] at hc
    injection hc with hc
    rw [← hc]; exact h3 _ _ (by omega) (by omega)
  · rw [List.getElem?_drop] at hc
    have hlt : k + (m - k) < s.size := by rw [← bl_len]; exact (List.getElem?_eq_some_iff.1 hc).1
    rw [bl_get s _ hlt] at hc
    injection hc with hc
    rw [← hc]
    have e : k + (m - k) = m := by omega
    have := he (by omega)
    simpa [e] using this

/-! The head, by the tests in their order. -/
theorem head_blank {s : ByteArray} {k : Nat} (h : k < s.size) (hb : blankB s[k] = true) (p : Nat) : lexAt p ((bl s).drop k) = lexAt (p + 1) ((bl s).drop (k + 1)) := by
  rw [drop_cons s k h]
  rw [lexAt_skip (n := 1) (by simp [headOf, hb])]
  simp
theorem slash_not_blank {s : ByteArray} {k : Nat} (h : k < s.size) (hc : ([47, 47] : Bytes).isPrefixOf ((bl s).drop k) = true) : blankB s[k] = false := by
  rw [drop_cons s k h] at hc
  simp [List.isPrefixOf] at hc
  rw [← hc.1]; rfl
theorem head_comment {s : ByteArray} {k m : Nat} (h : k < s.size) (hc : ([47, 47] : Bytes).isPrefixOf ((bl s).drop k) = true)
    (hs : Scan (fun c => c.toNat != 10) s k m) (he : ∀ (hm : m < s.size), (s[m].toNat != 10) = false) (p : Nat) : lexAt p ((bl s).drop k) = lexAt (p + (m - k)) ((bl s).drop m) := by
  have hl := hs.done he
  have hb := slash_not_blank h hc
  have h1 := hs.1
  have hd : (bl s).drop m = ((bl s).drop k).drop (m - k) := by rw [List.drop_drop]; congr 1; omega
  rw [hd]
  rw [drop_cons s k h] at hc hl ⊢
  rw [lexAt_skip (n := m - k)]
  simp [headOf, hb, hc, cutLine, hl]
theorem wordy_not_blank {c : UInt8} (h : wordyB c = true) : blankB c = false := by
  cases hb : blankB c
  · rfl
  · simp [wordyB, letterB, digitB] at h
    simp [blankB] at hb
    omega
theorem wordy_not_slash {s : ByteArray} {k : Nat} (h : k < s.size) (hw : wordyB s[k] = true) : ([47, 47] : Bytes).isPrefixOf ((bl s).drop k) = false := by
  rw [drop_cons s k h]
  cases hc : ([47, 47] : Bytes).isPrefixOf (s[k] :: (bl s).drop (k + 1))
  · rfl
  · simp [List.isPrefixOf] at hc
    rw [← hc.1] at hw
    revert hw; decide
theorem Scan.take {p : UInt8 → Bool} {s : ByteArray} {k m : Nat} (hs : Scan p s k m) (he : ∀ (hm : m < s.size), p s[m] = false) : ((bl s).drop k).takeWhile p = ((bl s).drop k).take (m - k) := by
  have h1 := hs.done he
  have h2 := List.takeWhile_prefix p (l := (bl s).drop k)
  rw [List.prefix_iff_eq_take] at h2
  rw [h2, h1]
theorem head_word {s : ByteArray} {k m : Nat} (h : k < s.size) (hw : wordyB s[k] = true)
    (hs : Scan wordyB s k m) (he : ∀ (hm : m < s.size), wordyB s[m] = false) (p : Nat) :
    lexAt p ((bl s).drop k) = match kindOf (((bl s).drop k).take (m - k)) with
      | some kd => LexRes.push [⟨kd, ((bl s).drop k).take (m - k), p⟩] (lexAt (p + (m - k)) ((bl s).drop m))
      | none => .error (101, p) := by
  have hl := hs.done he
  have ht := hs.take he
  have hb := wordy_not_blank hw
  have hc := wordy_not_slash h hw
  have h1 := hs.1
  have hd : (bl s).drop m = ((bl s).drop k).drop (m - k) := by rw [List.drop_drop]; congr 1; omega
  rw [hd]
  rw [drop_cons s k h] at hl hc ht ⊢
  rw [lexAt_cons]
  simp only [headOf, hb, hc, hw]
  rw [hl, ht]
  cases hk : kindOf (((s[k] :: (bl s).drop (k + 1))).take (m - k)) <;> simp
theorem head_sign {s : ByteArray} {k : Nat} (h : k < s.size) (hb : blankB s[k] = false) (hc : ([47, 47] : Bytes).isPrefixOf ((bl s).drop k) = false) (hw : wordyB s[k] = false) (p : Nat) :
    lexAt p ((bl s).drop k) = match signAt ((bl s).drop k) with
      | some t => LexRes.push [⟨4, t, p⟩] (lexAt (p + t.length) ((bl s).drop (k + t.length)))
      | none => .error (100, p) := by
  cases hs : signAt ((bl s).drop k) with
  | none =>
    rw [drop_cons s k h] at hc hs ⊢
    rw [lexAt_bad]
    simp [headOf, hb, hc, hw, hs]
  | some t =>
    have h1 := (signAt_pos hs).2.2.2
    have hd : (bl s).drop (k + t.length) = ((bl s).drop k).drop t.length := by rw [List.drop_drop]
    have ht : ((bl s).drop k).take t.length = t := (List.prefix_iff_eq_take.1 h1).symm
    simp only
    rw [hd]
    rw [drop_cons s k h] at hc hs ht ⊢
    rw [lexAt_tok (k := 4) (n := t.length), ht]
    simp [headOf, hb, hc, hw, hs]
/-! The tokens as cells. -/
def tokV (t : Tok) : List Value := [.int .u8 t.kind, .string (sb t.text), .int .i64 t.pos]
def tokCells (ts : List Tok) : List Value := ts.flatMap tokV
theorem tokCells_snoc (ts : List Tok) (t : Tok) : tokCells (ts ++ [t]) = tokCells ts ++ tokV t := by simp [tokCells]
theorem tokCells_len (ts : List Tok) : (tokCells ts).length = ts.length * 3 := by
  induction ts with
  | nil => rfl
  | cons t ts ih => simp only [tokCells, List.flatMap_cons, List.length_append, List.length_cons] at ih ⊢; rw [ih]; simp [tokV]; omega
/-! The first that fits. -/
theorem find_first {p : Bytes → Bool} : ∀ (l : List Bytes) (j : Nat) (u : Bytes), (∀ i v, i < j → l[i]? = some v → p v = false) → l[j]? = some u → p u = true → l.find? p = some u
  | [], j, u, _, h, _ => by simp at h
  | a :: l, 0, u, _, h, hp => by
    simp at h
    subst h
    simp [hp]
  | a :: l, j + 1, u, h0, h, hp => by
    have ha := h0 0 a (by omega) (by simp)
    rw [List.find?_cons, ha]
    exact find_first l j u (fun i v hi hv => h0 (i + 1) v (by omega) (by simpa using hv)) (by simpa using h) hp
theorem find_none {p : Bytes → Bool} {l : List Bytes} {n : Nat} (hn : l.length ≤ n) (h : ∀ i v, i < n → l[i]? = some v → p v = false) : l.find? p = none := by
  rw [List.find?_eq_none]
  intro x hx
  obtain ⟨i, hi⟩ := List.getElem?_of_mem hx
  have : i < l.length := (List.getElem?_eq_some_iff.1 hi).1
  rw [h i x (by omega) hi]
  simp
def NoSign (r : Bytes) (j : Nat) : Prop := ∀ i v, i < j → signsL[i]? = some v → v.isPrefixOf r = false
theorem NoSign.step {r : Bytes} {j : Nat} {u : Bytes} (h : NoSign r j) (hu : signsL[j]? = some u) (hp : u.isPrefixOf r = false) : NoSign r (j + 1) := by
  intro i v hi hv
  by_cases e : i = j
  · subst e
    rw [hu] at hv
    injection hv with hv
    rw [← hv]; exact hp
  · exact h i v (by omega) hv
theorem NoSign.found {r : Bytes} {j : Nat} {u : Bytes} (h : NoSign r j) (hu : signsL[j]? = some u) (hp : u.isPrefixOf r = true) : signAt r = some u :=
  find_first signsL j u h hu hp
theorem NoSign.all {r : Bytes} {j : Nat} (h : NoSign r j) (hj : 23 ≤ j) : signAt r = none := find_none (n := j) (by exact hj) h
theorem signs_short : ∀ u ∈ signsL, u.length ≤ 2 := by decide
end Go.Proofs.YtmikjhohnfcedaaGreatDoor

namespace Go.Proofs.YtmikjhohnfcedaaGreatDoor
set_option linter.unusedSimpArgs false
set_option linter.unusedVariables false

inductive Tree where
  | node (k : Nat) (s : Bytes) (x : Int) (ks : List Tree)
  deriving Repr, Inhabited

def Tree.kind : Tree → Nat | .node k _ _ _ => k
def Tree.text : Tree → Bytes | .node _ s _ _ => s
def Tree.num : Tree → Int | .node _ _ x _ => x
def Tree.kids : Tree → List Tree | .node _ _ _ ks => ks

mutual
def Tree.sz : Tree → Nat
  | .node _ _ _ ks => 1 + szL ks
def szL : List Tree → Nat
  | [] => 0
  | t :: ts => t.sz + szL ts
end

mutual
def Tree.same : Tree → Tree → Bool
  | .node k s x ks, .node k' s' x' ks' => k == k' && s == s' && x == x' && sameL ks ks'
def sameL : List Tree → List Tree → Bool
  | [], [] => true
  | t :: ts, u :: us => t.same u && sameL ts us
  | _, _ => false
end

mutual
theorem same_iff : ∀ t u : Tree, t.same u = true ↔ t = u
  | .node k s x ks, .node k' s' x' ks' => by
    simp only [Tree.same, Bool.and_eq_true, beq_iff_eq, Tree.node.injEq]
    rw [sameL_iff ks ks']
    exact ⟨fun ⟨⟨⟨a, b⟩, c⟩, d⟩ => ⟨a, b, c, d⟩, fun ⟨a, b, c, d⟩ => ⟨⟨⟨a, b⟩, c⟩, d⟩⟩
theorem sameL_iff : ∀ ts us : List Tree, sameL ts us = true ↔ ts = us
  | [], [] => by simp [sameL]
  | [], _ :: _ => by simp [sameL]
  | _ :: _, [] => by simp [sameL]
  | t :: ts, u :: us => by
    simp only [sameL, Bool.and_eq_true, List.cons.injEq]
    rw [same_iff t u, sameL_iff ts us]
end

/-! ### Layer 6 -/
def rowsOf : Nat → Option (List Nat × Bool)
  | 1 => some ([2], true)
  | 2 => some ([3, 5], false)
  | 3 => some ([4], true)
  | 4 => some ([], false)
  | 5 => some ([201], true)
  | 6 => some ([200], false)
  | 7 => some ([202, 200], false)
  | 8 => some ([200, 5, 5], false)
  | 9 => some ([200, 5], false)
  | 10 => some ([200], false)
  | 11 => some ([200], false)
  | 12 => some ([25], false)
  | 20 => some ([], false)
  | 21 => some ([], false)
  | 22 => some ([], false)
  | 23 => some ([200], false)
  | 24 => some ([200, 200], false)
  | 25 => some ([200], true)
  | 26 => some ([200, 200], false)
  | 27 => some ([200, 200], false)
  | 28 => some ([200], false)
  | 29 => some ([], false)
  | _ => none

def isB (k of : Nat) : Bool :=
  if of = 200 then decide (20 ≤ k) && decide (k ≤ 29)
  else if of = 201 then (decide (6 ≤ k) && decide (k ≤ 12)) || k == 5
  else if of = 202 then k == 22 || k == 26
  else k == of

def fitsB (parent kid at_ : Nat) : Bool :=
  match rowsOf parent with
  | none => false
  | some (l, true) => isB kid (l.headD 0)
  | some (l, false) => match l[at_]? with | some o => isB kid o | none => false

def namedB (k : Nat) : Bool := k == 2 || k == 4 || k == 6 || k == 22 || k == 25

def unaryL : List Bytes := [[45], [33]]
def binaryL : List Bytes := [[124, 124], [38, 38], [61, 61], [33, 61], [60], [60, 61], [62], [62, 61], [43], [45], [42], [47], [37]]
def saysB (k : Nat) (s : Bytes) (x : Int) : Bool :=
  if k = 20 then s == [] && decide (0 ≤ x)
  else if k = 21 then s == [] && (x == 0 || x == 1)
  else if x != 0 then false
  else if namedB k then isName s
  else if k = 23 then unaryL.contains s
  else if k = 24 then binaryL.contains s
  else s == []

mutual
def rightT : Nat → Tree → Bool
  | deep, .node k s x ks =>
    match rowsOf k with
    | none => false
    | some (l, all) =>
      decide (deep ≤ 40) && saysB k s x && (all || ks.length == l.length) && rightL k 0 (deep + 1) ks &&
        (k != 7 || match ks with | .node 22 _ _ _ :: _ => true | .node _ _ _ (.node 22 _ _ _ :: _) :: _ => true | _ => false)
def rightL : Nat → Nat → Nat → List Tree → Bool
  | _, _, _, [] => true
  | k, i, deep, t :: ts => fitsB k t.kind i && rightT deep t && rightL k (i + 1) deep ts
end
def treeRight (t : Tree) : Bool := rightT 1 t

mutual
def Tree.names : Tree → List Bytes
  | .node k s _ ks => (if namedB k then [s] else []) ++ namesL ks
def namesL : List Tree → List Bytes
  | [] => []
  | t :: ts => t.names ++ namesL ts
end
mutual
def Tree.binds : Tree → List Bytes
  | .node k s _ ks => (if k == 2 || k == 4 || k == 6 then [s] else []) ++ bindsL ks
def bindsL : List Tree → List Bytes
  | [] => []
  | t :: ts => t.binds ++ bindsL ts
end
mutual
def Tree.calls : Tree → Bool
  | .node k _ _ ks => k == 25 || callsL ks
def callsL : List Tree → Bool
  | [] => false
  | t :: ts => t.calls || callsL ts
end

/-! ### Layer 13 -/
def underB (a b : List Int) : Bool := b.isPrefixOf a
/-- A path's number at a place, turned by a function, if there is one. -/
def stepAt (p : List Int) (at_ : Nat) (f : Int → Int) : List Int :=
  match p[at_]? with
  | some k => p.set at_ (f k)
  | none => p
def upF (at_ k : Int) : Int := if at_ ≤ k then k + 1 else k
def downF (at_ k : Int) : Int := if at_ < k then k - 1 else k
def pastL (p list : List Int) (f : Int → Int) : List Int := if underB p list then stepAt p list.length f else p
def insertedL (p list : List Int) (at_ : Int) : List Int := pastL p list (upF at_)
def goneB (p list : List Int) (at_ : Int) : Bool := decide (list.length < p.length) && underB p list && p[list.length]? == some at_
def deletedL (p list : List Int) (at_ : Int) : Option (List Int) := if goneB p list at_ then none else some (pastL p list (downF at_))
def movedL (p list : List Int) (from_ to_ : Int) : List Int := pastL p list (fun k => if k = from_ then to_ else upF to_ (downF from_ k))

/-! ### Layer 14 -/
structure Edt where
  kind : Nat
  path : List Int
  at_ : Int
  far : Int
  frm : Bytes
  to_ : Bytes
  olds : List Tree
  news : List Tree
  deriving Repr, Inhabited
def Edt.zero : Edt := ⟨0, [], 0, 0, [], [], [], []⟩

def Edt.same (a b : Edt) : Bool := a.kind == b.kind && a.path == b.path && a.at_ == b.at_ && a.far == b.far && a.frm == b.frm && a.to_ == b.to_ && sameL a.olds b.olds && sameL a.news b.news
theorem Edt.same_iff (a b : Edt) : a.same b = true ↔ a = b := by
  obtain ⟨a1, a2, a3, a4, a5, a6, a7, a8⟩ := a
  obtain ⟨b1, b2, b3, b4, b5, b6, b7, b8⟩ := b
  simp only [Edt.same, Bool.and_eq_true, beq_iff_eq, sameL_iff, Edt.mk.injEq]
  exact ⟨fun ⟨⟨⟨⟨⟨⟨⟨a, b⟩, c⟩, d⟩, e⟩, f⟩, g⟩, h⟩ => ⟨a, b, c, d, e, f, g, h⟩, fun ⟨a, b, c, d, e, f, g, h⟩ => ⟨⟨⟨⟨⟨⟨⟨a, b⟩, c⟩, d⟩, e⟩, f⟩, g⟩, h⟩⟩

def numberB (n : Int) : Bool := decide (0 ≤ n) && decide (n ≤ 1073741824)
def partB : List Tree → Bool
  | [t] => treeRight t
  | _ => false
def loneB (k : Nat) : Bool := k == 2 || k == 3 || k == 5
def oldsB (k : Nat) : Bool := k == 3 || k == 4 || k == 5
def newsB (k : Nat) : Bool := k == 2 || k == 4
def editRight (e : Edt) : Bool :=
  if !e.path.all numberB || !numberB e.at_ || !numberB e.far then false
  else if (!loneB e.kind && (e.at_ != 0 || e.path.isEmpty)) || ((e.at_ != e.far) != (e.kind == 5) && e.kind != 2 && e.kind != 3) || (e.far != 0 && e.kind != 5) then false
  else if (e.kind == 1) != (isName e.frm && isName e.to_ && e.frm != e.to_) || (e.kind != 1 && !(e.frm ++ e.to_).isEmpty) then false
  else if oldsB e.kind != partB e.olds || newsB e.kind != partB e.news || (!oldsB e.kind && !e.olds.isEmpty) || (!newsB e.kind && !e.news.isEmpty) then false
  else e.kind == 1 || loneB e.kind || (e.kind == 4 && !sameL e.olds e.news)

def invertE (e : Edt) : Edt :=
  if !editRight e then Edt.zero
  else if e.kind = 5 then ⟨5, e.path, e.far, e.at_, e.to_, e.frm, e.olds, e.news⟩
  else ⟨if e.kind = 2 then 3 else if e.kind = 3 then 2 else e.kind, e.path, e.at_, e.far, e.to_, e.frm, e.news, e.olds⟩

/-! ### Layer 16 -/
def Edt.parts (e : Edt) : List Tree := e.olds ++ e.news
def Edt.names (e : Edt) : List Bytes := if e.kind = 1 then [e.frm, e.to_] else namesL e.parts
def Edt.binds (e : Edt) : List Bytes := if e.kind = 1 then [e.frm, e.to_] else bindsL e.parts
def Edt.params (e : Edt) : Bool := if e.kind = 1 then false else e.parts.any fun t => t.kind == 4 || t.kind == 3
def Edt.calls (e : Edt) : Bool := if e.kind = 1 then false else callsL e.parts
def amongB (names others : List Bytes) : Bool := others.any fun s => names.contains s
def mixesB (p q : Edt) : Bool :=
  if p.kind = 1 ∧ q.kind = 1 then p.path == q.path || amongB [q.frm, q.to_] [p.to_] || q.to_ == p.frm
  else if amongB q.names p.binds || amongB p.names q.binds then true
  else p.kind != 1 && q.kind != 1 && (p.params && q.calls || q.params && p.calls)
def pastE (e : Edt) (p : List Int) : Option (List Int) :=
  if e.kind = 2 then some (insertedL p e.path e.at_)
  else if e.kind = 3 then deletedL p e.path e.at_
  else if e.kind = 4 then (if underB p e.path then none else some p)
  else if e.kind = 5 then (if underB p (e.path ++ [e.at_]) then none else some (movedL p e.path e.at_ e.far))
  else some p
def besideB (p q : Edt) : Option (Int × Int) :=
  if p.kind = 5 ∨ q.kind = 5 then none
  else
    let least := if q.kind = 3 then p.at_ - 1 else p.at_
    let most := if p.kind = 2 then p.at_ + 1 else p.at_
    if least ≤ q.at_ ∧ q.at_ ≤ most then none
    else if q.at_ < p.at_ then some (q.at_, p.at_ + (if q.kind = 2 then 1 else -1))
    else some (q.at_ - (if p.kind = 2 then 1 else -1), p.at_)
/-- The two edits the other way round, before they are looked at again. -/
def swapped (p q : Edt) : Option (Edt × Edt) :=
  if loneB p.kind && loneB q.kind && p.path == q.path then
    match besideB p q with
    | some (j, i) => some ({ q with at_ := j }, { p with at_ := i })
    | none => none
  else
    match pastE (invertE p) q.path with
    | none => none
    | some x =>
      match pastE { q with path := x } p.path with
      | none => none
      | some y => some ({ q with path := x }, { p with path := y })
def commuteE (p q : Edt) : Except Nat (Edt × Edt) :=
  if !editRight p || !editRight q then .error 4
  else if mixesB p q then .error 130
  else match swapped p q with
    | none => .error 130
    | some (a, b) => if editRight a && editRight b then .ok (a, b) else .error 130
end Go.Proofs.YtmikjhohnfcedaaGreatDoor

namespace Go.Proofs.YtmikjhohnfcedaaGreatDoor
set_option linter.unusedSimpArgs false
set_option linter.unusedVariables false
open Go.RowKit

theorem own_mono {w : World} {base base' : Nat} {e : TypeId} {size : Nat} {v : Value} {n : Nat} {xs : List Value} (h : w.ownsRow base e size v n xs) (hb : base' ≤ base) : w.ownsRow base' e size v n xs := by
  obtain ⟨h1, h2⟩ := h
  refine ⟨h1, h2.imp id ?_⟩
  rintro ⟨g, cap, cur, hv, hg, r⟩
  exact ⟨g, cap, cur, hv, Nat.le_trans hb hg, r⟩
/-- What a row holds stands in every world in which the old blocks stand. -/
theorem own_below {w w' : World} {B base : Nat} {e : TypeId} {size : Nat} {v : Value} {n : Nat} {xs : List Value} (h : w.ownsRow base e size v n xs) (hb : Below B w w') (hB : w.heap.size ≤ B) : w'.ownsRow base e size v n xs := by
  obtain ⟨h1, h2⟩ := h
  refine ⟨h1, h2.imp id ?_⟩
  rintro ⟨g, cap, cur, hv, hg, hh, r⟩
  refine ⟨g, cap, cur, hv, hg, ?_, r⟩
  have hlt : g < w.heap.size := by
    rcases Nat.lt_or_ge g w.heap.size with hlt | hge
    · exact hlt
    · rw [Array.getElem?_eq_none hge] at hh; cases hh
  rw [hb.block g (by omega)]
  exact hh
theorem own_set {w : World} {base : Nat} {e : TypeId} {size : Nat} {v : Value} {n : Nat} {xs : List Value} (h : w.ownsRow base e size v n xs) {a : Addr} (ha : v.ownBlock ≠ some a.block) (u : Value) : (w.setCell a u).ownsRow base e size v n xs := by
  obtain ⟨h1, h2⟩ := h
  refine ⟨h1, h2.imp id ?_⟩
  rintro ⟨g, cap, cur, rfl, hg, hh, r⟩
  refine ⟨g, cap, cur, rfl, hg, ?_, r⟩
  rw [Below.heap_setCell _ _ _ _ (fun e => ha (by simp [Value.ownBlock, e]))]
  exact hh
theorem below_grown {B : Nat} {w w' : World} {v : Value} {base : Nat} {e : TypeId} {size : Nat} {n : Nat} {xs : List Value} (h : w.ownsRow base e size v n xs) (hg : w.grownBy w' v.ownBlock) (hB : B ≤ base) (hs : B ≤ w.heap.size) : Below B w w' :=
  (Below.refl _ _).grown hg hs (fun k hk => Nat.le_trans hB (h.lt k hk).1)
theorem own_form {w : World} {base : Nat} {e : TypeId} {size : Nat} {v : Value} {n : Nat} {xs : List Value} (h : w.ownsRow base e size v n xs) :
    ∃ A c, v = .slice A n c ∧ n ≤ c ∧ c ≤ maxLen := by
  rcases h.2 with ⟨h1, h2⟩ | ⟨g, cap, cur, hv, _, _, h3, h4, _⟩
  · exact ⟨none, 0, by rw [h1, h2], by omega, by unfold maxLen; omega⟩
  · exact ⟨some ⟨g, 0, none⟩, cap, hv, h3, h4⟩
theorem add_mid (b o j : Nat) : (⟨b, o, none⟩ : Addr).add j = ⟨b, o + j, none⟩ := by unfold Addr.add; split <;> simp_all
theorem own_cells {w : World} {base : Nat} {e : TypeId} {size : Nat} {g n c : Nat} {xs : List Value} (h : w.ownsRow base e size (.slice (some ⟨g, 0, none⟩) n c) n xs) : ∀ j u, xs[j]? = some u → w.cell? ⟨g, j, none⟩ = some u := by
  intro j u hu
  have := h.cells (g := g) rfl j u hu
  rw [add_mid] at this
  simpa using this
theorem heap_alloc_at {w : World} {o : Obj} {n : Nat} (h : w.heap.size = n) : (w.alloc o).heap[n]? = some o := by subst h; exact heap_alloc_new w o
/-- A block of three cells that is known whole. -/
structure Box3 (w : World) (b : Nat) (x y z : Value) : Prop where
  c0 : w.cell? ⟨b, 0, none⟩ = some x
  c1 : w.cell? ⟨b, 1, none⟩ = some y
  c2 : w.cell? ⟨b, 2, none⟩ = some z
  f0 : w.frozen? ⟨b, 0, none⟩ = false
  f1 : w.frozen? ⟨b, 1, none⟩ = false
  f2 : w.frozen? ⟨b, 2, none⟩ = false
theorem box3 {w : World} {b : Nat} {x y z : Value} {T : TypeId} (h : w.heap[b]? = some (.cells #[x, y, z] T (0, 0))) : Box3 w b x y z := by
  have hc := fun j => cell_of_row w b j _ T (0, 0) h
  refine ⟨by rw [hc]; rfl, by rw [hc]; rfl, by rw [hc]; rfl, ?_, ?_, ?_⟩ <;> simp [World.frozen?, h]
/-- A function with a body, called by its number. -/
theorem run_enter {P : Program} {f : FuncId} {fn : Func} (hf : P.funcs[f]? = some fn) (hn : (fn.name == "runtime.NumGoroutine") = false) (hb : fn.body.isNone = false) (args : Array Value) (w : World) :
    (callFunc f args).run P w = .ok (.enter f args) w := by
  have hn' : ¬ fn.name = "runtime.NumGoroutine" := by simpa using hn
  have hb' : ¬ fn.body = none := by intro e; rw [e] at hb; simp at hb
  simp [callFunc, hf, hn', hb']
end Go.Proofs.YtmikjhohnfcedaaGreatDoor

namespace Go.Proofs.YtmikjhohnfcedaaGreatDoor
set_option linter.unusedSimpArgs false
set_option linter.unusedVariables false
open Go.RowKit

/-- A number that fits 64 bits. -/
def fitsI (x : Int) : Prop := -9223372036854775808 ≤ x ∧ x ≤ 9223372036854775807

mutual
/-- Four cells at an address read as a tree. -/
def TreeAt (w : World) : Tree → Nat → Nat → Prop
  | .node k s x ks, b, o => w.cell? ⟨b, o, none⟩ = some (.int .u8 k) ∧ w.cell? ⟨b, o + 1, none⟩ = some (.string (sb s)) ∧ w.cell? ⟨b, o + 2, none⟩ = some (.int .i64 x) ∧ k ≤ 255 ∧ s.length ≤ maxLen ∧ fitsI x ∧
      ∃ A c, w.cell? ⟨b, o + 3, none⟩ = some (.slice A ks.length c) ∧ ks.length ≤ c ∧ c ≤ maxLen ∧ (ks = [] ∨ ∃ b' o', A = some ⟨b', o', none⟩ ∧ RowAt w ks b' o')
def RowAt (w : World) : List Tree → Nat → Nat → Prop
  | [], _, _ => True
  | t :: ts, b, o => TreeAt w t b o ∧ RowAt w ts b (o + 4)
end
/-- A slice value that reads as a list of trees. -/
def KidsAt (w : World) (ks : List Tree) (A : Option Addr) (n c : Nat) : Prop := n = ks.length ∧ n ≤ c ∧ c ≤ maxLen ∧ (ks = [] ∨ ∃ b o, A = some ⟨b, o, none⟩ ∧ RowAt w ks b o)
/-- The fields of a node value, read as a tree. -/
def NodeIs (w : World) (t : Tree) (k : Nat) (s : ByteArray) (x : Int) (A : Option Addr) (n c : Nat) : Prop :=
  ∃ ks, t = .node k (bl s) x ks ∧ k ≤ 255 ∧ s.size ≤ maxLen ∧ fitsI x ∧ KidsAt w ks A n c

theorem RowAt.get {w : World} : ∀ {ts : List Tree} {b o : Nat}, RowAt w ts b o → ∀ {i : Nat} {t : Tree}, ts[i]? = some t → TreeAt w t b (o + i * 4)
  | t :: ts, b, o, h, 0, u, hu => by
    simp only [List.getElem?_cons_zero, Option.some.injEq] at hu
    subst hu
    simp only [RowAt] at h
    simpa using h.1
  | t :: ts, b, o, h, i + 1, u, hu => by
    simp only [List.getElem?_cons_succ] at hu
    simp only [RowAt] at h
    have := RowAt.get h.2 hu
    rwa [show o + (i + 1) * 4 = o + 4 + i * 4 from by omega]
theorem RowAt.mk {w : World} : ∀ {ts : List Tree} {b o : Nat}, (∀ i t, ts[i]? = some t → TreeAt w t b (o + i * 4)) → RowAt w ts b o
  | [], _, _, _ => by simp [RowAt]
  | t :: ts, b, o, h => by
    simp only [RowAt]
    refine ⟨by simpa using h 0 t rfl, RowAt.mk fun i u hu => ?_⟩
    have := h (i + 1) u (by simpa using hu)
    rwa [show o + 4 + i * 4 = o + (i + 1) * 4 from by omega]

/-- What a place of a row of trees holds. -/
theorem TreeAt.cells {w : World} {t : Tree} {b o : Nat} (h : TreeAt w t b o) : ∃ A c, w.cell? ⟨b, o, none⟩ = some (.int .u8 t.kind) ∧ w.cell? ⟨b, o + 1, none⟩ = some (.string (sb t.text)) ∧ w.cell? ⟨b, o + 2, none⟩ = some (.int .i64 t.num) ∧ w.cell? ⟨b, o + 3, none⟩ = some (.slice A t.kids.length c) ∧
    NodeIs w t t.kind (sb t.text) t.num A t.kids.length c := by
  obtain ⟨k, s, x, ks⟩ := t
  simp only [TreeAt] at h
  obtain ⟨h0, h1, h2, g0, g1, g2, A, c, h3, g3, g4, g5⟩ := h
  exact ⟨A, c, h0, h1, h2, h3, ks, rfl, g0, g1, g2, rfl, g3, g4, g5⟩
theorem KidsAt.get {w : World} {ks : List Tree} {A : Option Addr} {n c : Nat} (h : KidsAt w ks A n c) {i : Nat} (hi : i < n) : ∃ b o t, A = some ⟨b, o, none⟩ ∧ ks[i]? = some t ∧ TreeAt w t b (o + i * 4) := by
  obtain ⟨hn, _, _, h⟩ := h
  rcases h with rfl | ⟨b, o, e, hr⟩
  · simp at hn; omega
  · have : ks[i]? = some (ks[i]'(by omega)) := List.getElem?_eq_getElem (by omega)
    exact ⟨b, o, _, e, this, hr.get this⟩

theorem cell_lt {w : World} {a : Addr} {v : Value} (h : w.cell? a = some v) : a.block < w.heap.size := by
  rcases Nat.lt_or_ge a.block w.heap.size with hl | hg
  · exact hl
  · simp [World.cell?, Array.getElem?_eq_none hg] at h
theorem cell_below {w w' : World} (hb : Below w.heap.size w w') {a : Addr} {v : Value} (h : w.cell? a = some v) : w'.cell? a = some v := by
  rw [hb.cell (cell_lt h)]; exact h

/-! A tree that stands in a world stands in every world in which the old cells stand. -/
mutual
theorem TreeAt.keep {w w' : World} (hb : ∀ a v, w.cell? a = some v → w'.cell? a = some v) : ∀ {t : Tree} {b o : Nat}, TreeAt w t b o → TreeAt w' t b o
  | .node k s x ks, b, o, h => by
    simp only [TreeAt] at h ⊢
    obtain ⟨h0, h1, h2, g0, g1, g2, A, c, h3, g3, g4, g5⟩ := h
    refine ⟨hb _ _ h0, hb _ _ h1, hb _ _ h2, g0, g1, g2, A, c, hb _ _ h3, g3, g4, ?_⟩
    rcases g5 with e | ⟨b', o', e, hr⟩
    · exact .inl e
    · exact .inr ⟨b', o', e, RowAt.keep hb hr⟩
theorem RowAt.keep {w w' : World} (hb : ∀ a v, w.cell? a = some v → w'.cell? a = some v) : ∀ {ts : List Tree} {b o : Nat}, RowAt w ts b o → RowAt w' ts b o
  | [], _, _, _ => by simp [RowAt]
  | t :: ts, b, o, h => by
    simp only [RowAt] at h ⊢
    exact ⟨TreeAt.keep hb h.1, RowAt.keep hb h.2⟩
end
theorem KidsAt.keep {w w' : World} (hb : ∀ a v, w.cell? a = some v → w'.cell? a = some v) {ks : List Tree} {A : Option Addr} {n c : Nat} (h : KidsAt w ks A n c) : KidsAt w' ks A n c := by
  obtain ⟨h1, h2, h3, h4⟩ := h
  refine ⟨h1, h2, h3, ?_⟩
  rcases h4 with e | ⟨b, o, e, hr⟩
  · exact .inl e
  · exact .inr ⟨b, o, e, hr.keep hb⟩
theorem KidsAt.below {w w' : World} (hb : Below w.heap.size w w') {ks : List Tree} {A : Option Addr} {n c : Nat} (h : KidsAt w ks A n c) : KidsAt w' ks A n c := h.keep fun _ _ => cell_below hb
theorem TreeAt.below {w w' : World} (hb : Below w.heap.size w w') {t : Tree} {b o : Nat} (h : TreeAt w t b o) : TreeAt w' t b o := h.keep fun _ _ => cell_below hb
theorem NodeIs.keep {w w' : World} (hb : ∀ a v, w.cell? a = some v → w'.cell? a = some v) {t : Tree} {k : Nat} {s : ByteArray} {x : Int} {A : Option Addr} {n c : Nat} (h : NodeIs w t k s x A n c) : NodeIs w' t k s x A n c := by
  obtain ⟨ks, e, h1, h2, h3, h4⟩ := h
  exact ⟨ks, e, h1, h2, h3, h4.keep hb⟩
theorem NodeIs.below {w w' : World} (hb : Below w.heap.size w w') {t : Tree} {k : Nat} {s : ByteArray} {x : Int} {A : Option Addr} {n c : Nat} (h : NodeIs w t k s x A n c) : NodeIs w' t k s x A n c := h.keep fun _ _ => cell_below hb
theorem KidsAt.nil (w : World) (A : Option Addr) {c : Nat} (h : c ≤ maxLen) : KidsAt w [] A 0 c := ⟨rfl, Nat.zero_le _, h, .inl rfl⟩
/-! All texts of a tree are at most so long. -/
mutual
def Tree.short (L : Nat) : Tree → Prop
  | .node _ s _ ks => s.length ≤ L ∧ shortL L ks
def shortL (L : Nat) : List Tree → Prop
  | [] => True
  | t :: ts => t.short L ∧ shortL L ts
end
theorem shortL.get {L : Nat} : ∀ {ts : List Tree}, shortL L ts → ∀ {i : Nat} {t : Tree}, ts[i]? = some t → t.short L
  | t :: ts, h, 0, u, hu => by
    simp only [List.getElem?_cons_zero, Option.some.injEq] at hu
    subst hu
    simp only [shortL] at h
    exact h.1
  | t :: ts, h, i + 1, u, hu => by
    simp only [List.getElem?_cons_succ] at hu
    simp only [shortL] at h
    exact shortL.get h.2 hu
end Go.Proofs.YtmikjhohnfcedaaGreatDoor

namespace Go.Proofs.YtmikjhohnfcedaaGreatDoor
set_option linter.unusedSimpArgs false
set_option linter.unusedVariables false
open Go.RowKit Go.MapKept Go.ChangeMaps

/-- Block b is a map whose entries have, in order, these keys and values. -/
def MapIs (w : World) (b : Nat) (l : List (Nat × Value)) : Prop :=
  ∃ es clock, w.heap[b]? = some (.map es clock) ∧ es.toList.map (fun e => (e.key, e.val)) = l.map (fun p => (Value.int .u8 p.1, p.2))

theorem MapIs.lt {w : World} {b : Nat} {l : List (Nat × Value)} (h : MapIs w b l) : b < w.heap.size := by
  obtain ⟨es, clock, hb, _⟩ := h
  exact (Array.getElem?_eq_some_iff.1 hb).1
theorem MapIs.made (w : World) : MapIs (w.alloc (.map #[] 0)) w.heap.size [] := ⟨#[], 0, heap_alloc_new w _, rfl⟩
theorem MapIs.kept {w w' : World} {b : Nat} {l : List (Nat × Value)} {row : Option Nat} (h : MapIs w b l) (hg : w.grownBy w' row) (hne : some b ≠ row) : MapIs w' b l := by
  have hlt := h.lt
  obtain ⟨es, clock, hb, e⟩ := h
  exact ⟨es, clock, (hg.block b hlt hne).trans hb, e⟩
theorem MapIs.below {w w' : World} {b : Nat} {l : List (Nat × Value)} (h : MapIs w b l) (hb : Below w.heap.size w w') : MapIs w' b l := by
  have hlt := h.lt
  obtain ⟨es, clock, hh, e⟩ := h
  exact ⟨es, clock, (hb.block b hlt).trans hh, e⟩

theorem isKey_u8 (n : Int) : IsKey (.int .u8) (.int .u8 n) := by simp [IsKey]

theorem mapIs_keys {l : List (Nat × Value)} {es : Array MapEntry} (h : es.toList.map (fun e => (e.key, e.val)) = l.map (fun p => (Value.int .u8 p.1, p.2))) : ∀ x ∈ es.toList, IsKey (.int .u8) x.key := by
  intro x hx
  have : (x.key, x.val) ∈ es.toList.map (fun e => (e.key, e.val)) := List.mem_map.2 ⟨x, hx, rfl⟩
  rw [h] at this
  obtain ⟨p, _, e⟩ := List.mem_map.1 this
  injection e with e1 e2
  rw [← e1]; exact isKey_u8 _

theorem MapIs.insert {P : Program} {t kt e : TypeId} (ht : P.underlying t = some (.map kt e)) (hk : P.underlying kt = some (.int .u8)) {w : World} {b : Nat} {l : List (Nat × Value)} (h : MapIs w b l) {k : Nat} (v : Value) (hn : (l.all fun p => p.1 != k) = true) :
    ∃ w', (Instr.mapUpdate t (.map (some b)) (.int .u8 k) v).run P w = .ok () w' ∧ MapIs w' b (l ++ [(k, v)]) ∧ w.grownBy w' (some b) := by
  obtain ⟨es, clock, hb, he⟩ := h
  have hks := mapIs_keys he
  rcases findNow_spec (isKey_u8 (k : Int)) es.toList 0 hks with ⟨h1, _⟩ | ⟨j, e0, _, h2, h3⟩
  · refine ⟨setBlock w b (.map (es.push { key := .int .u8 k, val := v, born := clock }) (clock + 1)), ?_, ⟨_, _, heap_setBlock_same hb _, ?_⟩, ⟨rfl, rfl, rfl, by simp [setBlock], fun i _ hi => heap_setBlock_other hb _ (fun e => hi (by rw [e]))⟩⟩
    · simp [Instr.mapUpdate, run_underlying ht, MapKept.run_getObj_map hb, run_checkKey hk (isKey_u8 _), run_findKey hk h1, MapKept.run_setObj_map _ hb, Result.andThen, setBlock]
    · simp [he]
  · exfalso
    have hm : (e0.key, e0.val) ∈ es.toList.map (fun e => (e.key, e.val)) := List.mem_map.2 ⟨e0, List.mem_of_getElem? h2, rfl⟩
    rw [he] at hm
    obtain ⟨p, hp, e⟩ := List.mem_map.1 hm
    injection e with e1 _
    rw [h3] at e1
    injection e1 with _ e1
    have := List.all_eq_true.1 hn p hp
    simp at this
    omega

theorem wpList_insert_u8 {P : Program} (w : World) {ops : Array Oper} {rest : List Oper} {o : Oper} {a : Act} {Q : Exit → Act → World → Prop}
    (hg : o.guard = none) (m x v : Operand) (t : TypeId) (hop : o.op = Op.insert t m x v) (kt e : TypeId) (ht : P.underlying t = some (.map kt e)) (hk : P.underlying kt = some (.int .u8)) (b : Nat) (l : List (Nat × Value))
    (hm : a.eval m = .map (some b)) (h : MapIs w b l) (k : Nat) (val : Value) (hx : a.eval x = .int .u8 k) (hv : a.eval v = val) (hn : (l.all fun p => p.1 != k) = true)
    (hK : ∀ w', MapIs w' b (l ++ [(k, val)]) → w.grownBy w' (some b) → wpList P ops Q rest (a.put o.dst undef) w') :
    wpList P ops Q (o :: rest) a w := by
  refine wpList_plain hg fun K' hK' => ?_
  obtain ⟨w', hrun, r1, r2⟩ := h.insert ht hk val hn
  unfold Oper.wp
  simp [execOp, hop, hm, hx, hv, hrun, Result.andThen]
  exact hK' _ _ (hK w' r1 r2)

theorem findNow_list : ∀ (es : List MapEntry) (l : List (Nat × Value)) (k i : Nat), es.map (fun e => (e.key, e.val)) = l.map (fun p => (Value.int .u8 p.1, p.2)) →
    ∃ r, Instr.findNow (.int .u8) (.int .u8 (k : Int)) es i = some r ∧ r.map (·.2) = l.lookup k
  | [], [], _, _, _ => ⟨none, rfl, rfl⟩
  | [], _ :: _, _, _, h => by simp at h
  | _ :: _, [], _, _, h => by simp at h
  | e :: es, p :: l, k, i, h => by
    simp only [List.map_cons, List.cons.injEq, Prod.mk.injEq] at h
    obtain ⟨⟨h1, h2⟩, h3⟩ := h
    obtain ⟨q, v⟩ := p
    simp only at h1 h2
    by_cases hk : k = q
    · subst hk
      refine ⟨some (i, e.val), ?_, ?_⟩
      · simp [Instr.findNow, Instr.sameNow, h1]
      · simp [List.lookup, h2]
    · obtain ⟨r, hr, hr2⟩ := findNow_list es l k (i + 1) h3
      refine ⟨r, ?_, ?_⟩
      · have : ((k : Int) == q) = false := by simp; omega
        simp [Instr.findNow, Instr.sameNow, h1, this, hr]
      · have : (k == q) = false := by simp [hk]
        simp [List.lookup, this, hr2]

theorem MapIs.look {P : Program} {t kt e : TypeId} (ht : P.underlying t = some (.map kt e)) (hk : P.underlying kt = some (.int .u8)) {w : World} {b : Nat} {l : List (Nat × Value)} (h : MapIs w b l) (k : Nat) {z : Value} (hz : (zeroValue e).run P w = .ok z w) (ok : Bool) :
    (Instr.lookup t (.map (some b)) (.int .u8 k) ok).run P w = .ok (if ok then .tuple #[(l.lookup k).getD z, .bool (l.lookup k).isSome] else (l.lookup k).getD z) w := by
  obtain ⟨es, clock, hb, he⟩ := h
  obtain ⟨r, h1, h2⟩ := findNow_list es.toList l k 0 he
  cases r with
  | none =>
    rw [← h2]
    simp [Instr.lookup, run_underlying ht, MapKept.run_getObj_map hb, run_checkKey hk (isKey_u8 _), run_findKey hk h1, hz, Result.andThen]
  | some y =>
    rw [← h2]
    simp [Instr.lookup, run_underlying ht, MapKept.run_getObj_map hb, run_checkKey hk (isKey_u8 _), run_findKey hk h1, Result.andThen]

theorem wpList_lookup_u8 {P : Program} (w : World) {ops : Array Oper} {rest : List Oper} {o : Oper} {a : Act} {Q : Exit → Act → World → Prop}
    (hg : o.guard = none) (m x : Operand) (t : TypeId) (hop : o.op = Op.lookup t m x true) (kt e : TypeId) (ht : P.underlying t = some (.map kt e)) (hk : P.underlying kt = some (.int .u8)) (b : Nat) (l : List (Nat × Value)) {z : Value} (hz : ∀ w, (zeroValue e).run P w = .ok z w)
    (hm : a.eval m = .map (some b)) (h : MapIs w b l) (k : Nat) (hx : a.eval x = .int .u8 k) (v : Value) (ok : Bool) (hv : (l.lookup k).getD z = v) (hok : (l.lookup k).isSome = ok)
    (hK : wpList P ops Q rest (a.put o.dst (.tuple #[v, .bool ok])) w) :
    wpList P ops Q (o :: rest) a w := by
  refine wpList_plain hg fun K' hK' => ?_
  have hrun := h.look ht hk k (hz w) true
  rw [hv, hok] at hrun
  unfold Oper.wp
  simp [execOp, hop, hm, hx, hrun, Result.andThen]
  exact hK' _ _ hK
theorem wpList_lookup1_u8 {P : Program} (w : World) {ops : Array Oper} {rest : List Oper} {o : Oper} {a : Act} {Q : Exit → Act → World → Prop}
    (hg : o.guard = none) (m x : Operand) (t : TypeId) (hop : o.op = Op.lookup t m x false) (kt e : TypeId) (ht : P.underlying t = some (.map kt e)) (hk : P.underlying kt = some (.int .u8)) (b : Nat) (l : List (Nat × Value)) {z : Value} (hz : ∀ w, (zeroValue e).run P w = .ok z w)
    (hm : a.eval m = .map (some b)) (h : MapIs w b l) (k : Nat) (hx : a.eval x = .int .u8 k) (v : Value) (hv : (l.lookup k).getD z = v)
    (hK : wpList P ops Q rest (a.put o.dst v) w) :
    wpList P ops Q (o :: rest) a w := by
  refine wpList_plain hg fun K' hK' => ?_
  have hrun := h.look ht hk k (hz w) false
  simp only [Bool.false_eq_true, if_false, hv] at hrun
  unfold Oper.wp
  simp [execOp, hop, hm, hx, hrun, Result.andThen]
  exact hK' _ _ hK
end Go.Proofs.YtmikjhohnfcedaaGreatDoor

namespace Go.Proofs.YtmikjhohnfcedaaGreatDoor
set_option linter.unusedSimpArgs false
set_option linter.unusedVariables false
open Go.RowKit

/-- A slice of strings, as a list. -/
def StrRow (w : World) (A : Option Addr) (n : Nat) (ss : List Bytes) : Prop :=
  ss.length = n ∧ (0 < n → ∃ ad, A = some ad ∧ ad.block < w.heap.size ∧ ∀ j u, ss[j]? = some u → w.cell? (ad.add j) = some (.string (sb u)))

theorem StrRow.at_ {w : World} {A : Option Addr} {n : Nat} {ss : List Bytes} (h : StrRow w A n ss) {k : Nat} (hk : k < n) :
    ∃ ad u, A = some ad ∧ ad.block < w.heap.size ∧ ss[k]? = some u ∧ w.cell? (ad.add k) = some (.string (sb u)) := by
  obtain ⟨hl, h⟩ := h
  obtain ⟨ad, e, hb, hc⟩ := h (by omega)
  exact ⟨ad, ss[k]'(by omega), e, hb, List.getElem?_eq_getElem (by omega), hc k _ (List.getElem?_eq_getElem (by omega))⟩

def hasB (l : List Bytes) (x : Bytes) : Bool := l.contains x
theorem hasB_mem {l : List Bytes} {x : Bytes} {k : Nat} (h : l[k]? = some x) : hasB l x = true := by
  unfold hasB; simp; exact List.mem_of_getElem? h
theorem block_add (a : Addr) (n : Nat) : (a.add n).block = a.block := by unfold Addr.add; split <;> rfl
theorem StrRow.set_ {w : World} {A : Option Addr} {n : Nat} {ss : List Bytes} (h : StrRow w A n ss) {p : Addr} (hp : ∀ ad, A = some ad → ad.block ≠ p.block) (u : Value) : StrRow (w.setCell p u) A n ss := by
  refine ⟨h.1, fun hn => ?_⟩
  obtain ⟨ad, e, hb, hc⟩ := h.2 hn
  refine ⟨ad, e, by simpa using hb, fun j v hv => ?_⟩
  rw [World.cell?_setCell_other w p _ u (fun e' => hp ad e (by rw [← block_add ad j, e']))]
  exact hc j v hv
theorem contains_step {ss : List Bytes} {x u : Bytes} {k : Nat} (hu : ss[k]? = some u) : hasB (ss.take (k + 1)) x = (hasB (ss.take k) x || u == x) := by
  have hk : k < ss.length := (List.getElem?_eq_some_iff.1 hu).1
  have : ss.take (k + 1) = ss.take k ++ [u] := by
    rw [List.take_succ_eq_append_getElem hk]
    rw [List.getElem?_eq_getElem hk] at hu
    injection hu with hu
    rw [hu]
  rw [this]
  unfold hasB
  rw [Bool.eq_iff_iff]
  simp only [List.contains_iff_mem, List.mem_append, List.mem_singleton, Bool.or_eq_true, beq_iff_eq]
  exact ⟨fun h => h.imp id Eq.symm, fun h => h.imp id Eq.symm⟩

/-- A row that the call laid: a block of its own at the heap's old end. -/
theorem StrRow.new {w : World} {T : TypeId} {n : Nat} (ss : List Bytes) (hn : ss.length = n) :
    StrRow (w.alloc (.cells (ss.map fun u => Value.string (sb u)).toArray T)) (some ⟨w.heap.size, 0, none⟩) n ss := by
  refine ⟨hn, fun _ => ⟨_, rfl, by simp, fun j u hu => ?_⟩⟩
  have hj : (Addr.add ⟨w.heap.size, 0, none⟩ j) = ⟨w.heap.size, j, none⟩ := by unfold Addr.add; split <;> simp_all
  rw [hj, World.cell?_alloc_new]
  simp [hu]

/-- What a call leaves that hands back a new slice of strings: where it lies is a letter. -/
def RowPost (n : Nat) (ss : List Bytes) (w : World) (e : Ending) (w' : World) : Prop := ∃ A, e = .returned (.slice A n n) ∧ StrRow w' A n ss ∧ Below w.heap.size w w' ∧ (∀ ad, A = some ad → w.heap.size ≤ ad.block) ∧ ∃ g, A = some ⟨g, 0, none⟩

def NamePost (b : Bool) (w : World) (e : Ending) (w' : World) : Prop := e = .returned (.bool b) ∧ Below w.heap.size w w'
theorem NamePost.intro {b b' : Bool} {w w' : World} (h : b' = b) (hb : Below w.heap.size w w') : NamePost b w (.returned (.bool b')) w' := ⟨by rw [h], hb⟩

theorem ne_nil {s : ByteArray} (h : 0 < s.size) : ∃ r, bl s = s[0] :: r := ⟨(bl s).drop 1, by have := drop_cons s 0 h; simpa using this⟩
theorem isName_long {s : ByteArray} (h : 24 < s.size) : isName (bl s) = false := by
  obtain ⟨r, hr⟩ := ne_nil (s := s) (by omega)
  have hl := bl_len s
  rw [hr] at hl ⊢
  simp only [isName]
  rw [hl]
  simp [Nat.not_le.2 h]
theorem isName_head {s : ByteArray} (h : 0 < s.size) (hc : letterB s[0] = false) : isName (bl s) = false := by
  obtain ⟨r, hr⟩ := ne_nil (s := s) (by omega)
  rw [hr]
  simp [isName, hc]
theorem isName_word {s : ByteArray} (hw : hasB wordsL (bl s) = true) : isName (bl s) = false := by
  unfold hasB at hw
  cases hr : bl s with
  | nil => rfl
  | cons a l =>
    rw [hr] at hw
    simp only [isName, hw]
    simp
theorem isName_bad {s : ByteArray} {k : Nat} (h : k < s.size) (hc : wordyB s[k] = false) : isName (bl s) = false := by
  have hm := List.mem_of_getElem? (bl_get s k h)
  cases hr : bl s with
  | nil => rfl
  | cons a l =>
    rw [hr] at hm
    have : (a :: l).all wordyB = false := by
      rw [List.all_eq_false]
      exact ⟨_, hm, by simp [hc]⟩
    simp only [isName, this]
    simp
theorem isName_good {s : ByteArray} (h0 : 0 < s.size) (h1 : s.size ≤ 24) (h2 : letterB s[0] = true) (h3 : hasB wordsL (bl s) = false)
    (h4 : ∀ j (h : j < s.size), wordyB s[j] = true) : isName (bl s) = true := by
  unfold hasB at h3
  have ha : (bl s).all wordyB = true := by
    rw [List.all_eq_true]
    intro c hc
    obtain ⟨j, hj⟩ := List.getElem?_of_mem hc
    have hl : j < s.size := (List.getElem?_eq_some_iff.1 hj).1
    rw [bl_get s j hl] at hj
    injection hj with hj
    rw [← hj]; exact h4 j hl
  obtain ⟨r, hr⟩ := ne_nil h0
  have hl := bl_len s
  rw [hr] at hl ha h3 ⊢
  simp only [isName, hl, h2, ha, h3]
  simp [h1]

end Go.Proofs.YtmikjhohnfcedaaGreatDoor
