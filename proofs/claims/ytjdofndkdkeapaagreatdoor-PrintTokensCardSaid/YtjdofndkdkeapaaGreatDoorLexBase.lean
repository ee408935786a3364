/- Plain facts on bytes, and the lexer as a plain function on lists of bytes. No program in sight. -/
import Derived.Lib.Strings
import Derived.Lib.IndexBytes
import Derived.Below
import Derived.Lib.Hide
namespace Go.Proofs.YtjdofndkdkeapaaGreatDoor
open Go.RowKit

abbrev Bytes := List UInt8
/-- A string's bytes, and back. -/
abbrev bl (s : ByteArray) : Bytes := s.data.toList
abbrev sb (l : Bytes) : ByteArray := ⟨l.toArray⟩
theorem bl_mk (l : Bytes) : bl (sb l) = l := rfl
theorem mk_bl (s : ByteArray) : sb (bl s) = s := rfl
theorem bl_len (s : ByteArray) : (bl s).length = s.size := rfl
theorem mk_size (l : Bytes) : (sb l).size = l.length := rfl
theorem bl_inj {a b : ByteArray} (h : bl a = bl b) : a = b := by rw [← mk_bl a, ← mk_bl b, h]
theorem bl_get (s : ByteArray) (i : Nat) (h : i < s.size) : (bl s)[i]? = some s[i] := Lib.data_getElem? s i h
theorem toList_bl (s : ByteArray) : s.toList = bl s := ByteArray.toList_eq s
theorem extract_mk (s : ByteArray) (a b : Nat) : s.extract a b = sb (((bl s).drop a).take (b - a)) := Lib.extract_eq s a b

theorem ret_bool {a b : Bool} (h : a = true ↔ b = true) : Ending.returned (.bool a) = .returned (.bool b) := by
  rw [Bool.eq_iff_iff.2 h]
theorem ret_int {k : IntKind} {a b : Int} (h : a = b) : Ending.returned (.int k a) = .returned (.int k b) := by rw [h]
theorem prefix_take (p l : Bytes) : p.isPrefixOf l = (l.take p.length == p) := by
  rw [Bool.eq_iff_iff]
  simp [List.isPrefixOf_iff_prefix, List.prefix_iff_eq_take]
  constructor <;> (intro h; exact h.symm)

def blankB (c : UInt8) : Bool := c.toNat == 32 || c.toNat == 9 || c.toNat == 10 || c.toNat == 13
def letterB (c : UInt8) : Bool := (97 ≤ c.toNat && c.toNat ≤ 122) || (65 ≤ c.toNat && c.toNat ≤ 90) || c.toNat == 95
def digitB (c : UInt8) : Bool := 48 ≤ c.toNat && c.toNat ≤ 57
def wordyB (c : UInt8) : Bool := letterB c || digitB c

def wordsL : List Bytes := [[102, 117, 110, 99], [118, 97, 114], [105, 102], [101, 108, 115, 101], [119, 104, 105, 108, 101], [114, 101, 116, 117, 114, 110], [112, 114, 105, 110, 116], [116, 114, 117, 101], [102, 97, 108, 115, 101], [108, 101, 110], [114, 101, 97, 100]]
def signsL : List Bytes := [[61, 61], [33, 61], [60, 61], [62, 61], [38, 38], [124, 124], [40], [41], [123], [125], [91], [93], [44], [59], [61], [60], [62], [43], [45], [42], [47], [37], [33]]

def isName (s : Bytes) : Bool :=
  match s with
  | [] => false
  | c :: _ => decide (s.length ≤ 24) && letterB c && !wordsL.contains s && s.all wordyB

def numVal (s : Bytes) : Nat := s.foldl (fun n c => 10 * n + (c.toNat - 48)) 0
def isInt (s : Bytes) : Bool :=
  match s with
  | [] => false
  | c :: r => !(!r.isEmpty && c.toNat == 48) && s.all digitB && decide (numVal s ≤ 9223372036854775807)

structure Tok where
  kind : Nat
  text : Bytes
  pos : Nat
  deriving DecidableEq, Repr

/-- What stands at a text's head. -/
inductive Head where
  | skip (n : Nat)
  | tok (k n : Nat)
  | bad (e : Nat)
  deriving DecidableEq, Repr

def kindOf (t : Bytes) : Option Nat := if wordsL.contains t then some 2 else if isName t then some 1 else if isInt t then some 3 else none
def cutLine (r : Bytes) : Bytes := r.takeWhile (fun c => c.toNat != 10)
def signAt (r : Bytes) : Option Bytes := signsL.find? (fun s => s.isPrefixOf r)

def headOf : Bytes → Head
  | [] => .skip 0
  | c :: r =>
    if blankB c then .skip 1
    else if ([47, 47] : Bytes).isPrefixOf (c :: r) then .skip (cutLine (c :: r)).length
    else if wordyB c then
      match kindOf ((c :: r).takeWhile wordyB) with
      | some k => .tok k ((c :: r).takeWhile wordyB).length
      | none => .bad 101
    else match signAt (c :: r) with
      | some s => .tok 4 s.length
      | none => .bad 100

abbrev LexRes := Except (Nat × Nat) (List Tok)
def LexRes.push (out : List Tok) : LexRes → LexRes
  | .ok l => .ok (out ++ l)
  | .error e => .error e

def lexFuel : Nat → Nat → Bytes → LexRes
  | _, p, [] => .ok [⟨5, [], p⟩]
  | 0, p, _ :: _ => .error (0, p)
  | f + 1, p, c :: r =>
    match headOf (c :: r) with
    | .skip n => lexFuel f (p + n) ((c :: r).drop n)
    | .tok k n => LexRes.push [⟨k, (c :: r).take n, p⟩] (lexFuel f (p + n) ((c :: r).drop n))
    | .bad e => .error (e, p)
def lexAt (p : Nat) (r : Bytes) : LexRes := lexFuel r.length p r
def lexOf (s : Bytes) : LexRes := lexAt 0 s

theorem LexRes.push_push (a b : List Tok) (r : LexRes) : LexRes.push a (LexRes.push b r) = LexRes.push (a ++ b) r := by
  cases r <;> simp [LexRes.push]
theorem LexRes.push_nil (r : LexRes) : LexRes.push [] r = r := by cases r <;> simp [LexRes.push]

theorem signAt_pos {r s : Bytes} (h : signAt r = some s) : s ∈ signsL ∧ 0 < s.length ∧ s.length ≤ 2 ∧ s <+: r := by
  have h1 := List.mem_of_find?_eq_some h
  have h2 := List.find?_some h
  refine ⟨h1, ?_, ?_, List.isPrefixOf_iff_prefix.1 h2⟩
  · have : ∀ s ∈ signsL, 0 < s.length := by decide
    exact this s h1
  · have : ∀ s ∈ signsL, s.length ≤ 2 := by decide
    exact this s h1

/-- What a head takes is at least one byte, and no more than there is. -/
def Head.len : Head → Nat
  | .skip n => n
  | .tok _ n => n
  | .bad _ => 1
theorem takeWhile_le (p : UInt8 → Bool) (r : Bytes) : (r.takeWhile p).length ≤ r.length := by
  exact List.IsPrefix.length_le (List.takeWhile_prefix p)
theorem headOf_len (c : UInt8) (r : Bytes) : 0 < (headOf (c :: r)).len ∧ (headOf (c :: r)).len ≤ r.length + 1 := by
  simp only [headOf]
  split
  · simp [Head.len]
  · split
    · rename_i h1 h2
      have hc : c = 47 := by simp [List.isPrefixOf] at h2; exact h2.1.symm
      subst hc
      constructor
      · simp [Head.len, cutLine]
      · exact takeWhile_le _ (47 :: r)
    · split
      · rename_i hw
        split
        · refine ⟨?_, takeWhile_le _ (c :: r)⟩
          simp [Head.len, hw]
        · simp [Head.len]
      · split
        · rename_i s hs
          obtain ⟨_, h1, _, h2⟩ := signAt_pos hs
          exact ⟨h1, h2.length_le⟩
        · simp [Head.len]

theorem lexFuel_more : ∀ (f g p : Nat) (r : Bytes), r.length ≤ f → r.length ≤ g → lexFuel f p r = lexFuel g p r := by
  intro f
  induction f with
  | zero =>
    intro g p r hf hg
    have : r = [] := List.eq_nil_of_length_eq_zero (by omega)
    subst this
    cases g <;> rfl
  | succ f ih =>
    intro g p r hf hg
    match r with
    | [] => cases g <;> rfl
    | c :: r =>
      cases g with
      | zero => simp at hg
      | succ g =>
        have hl := headOf_len c r
        simp only [List.length_cons] at hf hg
        unfold lexFuel
        split
        · rename_i n hn
          simp only [hn, Head.len] at hl
          exact ih g _ _ (by simp; omega) (by simp; omega)
        · rename_i k n hn
          simp only [hn, Head.len] at hl
          rw [ih g _ _ (by simp; omega) (by simp; omega)]
        · rfl

theorem lexAt_nil (p : Nat) : lexAt p [] = .ok [⟨5, [], p⟩] := rfl
theorem lexAt_cons (p : Nat) (c : UInt8) (r : Bytes) : lexAt p (c :: r) =
    match headOf (c :: r) with
    | .skip n => lexAt (p + n) ((c :: r).drop n)
    | .tok k n => LexRes.push [⟨k, (c :: r).take n, p⟩] (lexAt (p + n) ((c :: r).drop n))
    | .bad e => .error (e, p) := by
  have hl := headOf_len c r
  unfold lexAt
  simp only [List.length_cons]
  rw [lexFuel]
  split
  · rename_i n hn
    simp only [hn, Head.len] at hl
    exact lexFuel_more _ _ _ _ (by simp; omega) (by simp)
  · rename_i k n hn
    simp only [hn, Head.len] at hl
    rw [lexFuel_more r.length _ _ _ (by simp; omega) (Nat.le_refl _)]
  · rfl

theorem lexAt_skip {p n : Nat} {c : UInt8} {r : Bytes} (h : headOf (c :: r) = .skip n) : lexAt p (c :: r) = lexAt (p + n) ((c :: r).drop n) := by
  rw [lexAt_cons, h]
theorem lexAt_tok {p k n : Nat} {c : UInt8} {r : Bytes} (h : headOf (c :: r) = .tok k n) : lexAt p (c :: r) = LexRes.push [⟨k, (c :: r).take n, p⟩] (lexAt (p + n) ((c :: r).drop n)) := by
  rw [lexAt_cons, h]
theorem lexAt_bad {p e : Nat} {c : UInt8} {r : Bytes} (h : headOf (c :: r) = .bad e) : lexAt p (c :: r) = .error (e, p) := by
  rw [lexAt_cons, h]

/-! Numbers and names, as the loops go through them. -/
theorem take_snoc (s : ByteArray) (k : Nat) (h : k < s.size) : (bl s).take (k + 1) = (bl s).take k ++ [s[k]] := by
  rw [List.take_succ_eq_append_getElem (by simpa using h)]; rfl
theorem drop_cons (s : ByteArray) (k : Nat) (h : k < s.size) : (bl s).drop k = s[k] :: (bl s).drop (k + 1) := by
  rw [List.drop_eq_getElem_cons (by simpa using h)]; rfl
theorem numVal_snoc (l : Bytes) (c : UInt8) : numVal (l ++ [c]) = 10 * numVal l + (c.toNat - 48) := by
  simp [numVal, List.foldl_append]
theorem numVal_grow (l r : Bytes) : numVal l ≤ numVal (l ++ r) := by
  induction r generalizing l with
  | nil => simp
  | cons c r ih =>
    have h1 := ih (l ++ [c])
    rw [List.append_assoc] at h1
    have h2 := numVal_snoc l c
    simp only [List.singleton_append] at h1
    omega
theorem numVal_take (s : Bytes) (k : Nat) : numVal (s.take k) ≤ numVal s := by
  have := numVal_grow (s.take k) (s.drop k)
  rwa [List.take_append_drop] at this
theorem digitB_iff {c : UInt8} : digitB c = true ↔ 48 ≤ c.toNat ∧ c.toNat ≤ 57 := by
  simp [digitB]
theorem isInt_nil : isInt [] = false := rfl
theorem isInt_zero {s : Bytes} (h1 : 1 < s.length) (h2 : s[0]? = some 48) : isInt s = false := by
  match s, h1 with
  | c :: d :: r, _ =>
    simp at h2
    subst h2
    simp [isInt]
theorem isInt_bad {s : Bytes} {k : Nat} {c : UInt8} (h : s[k]? = some c) (hc : digitB c = false) : isInt s = false := by
  have hm := List.mem_of_getElem? h
  match s with
  | [] => rfl
  | d :: r =>
    have : (d :: r).all digitB = false := by
      rw [List.all_eq_false]
      exact ⟨c, hm, by simp [hc]⟩
    simp only [isInt, this]
    simp
theorem isInt_big {s : Bytes} (h : 9223372036854775807 < numVal s) : isInt s = false := by
  match s with
  | [] => rfl
  | d :: r => simp only [isInt]; simp [Nat.not_le.2 h]
theorem isInt_good {s : Bytes} (h0 : s ≠ []) (h1 : s.length = 1 ∨ s[0]? ≠ some 48) (h2 : s.all digitB = true) (h3 : numVal s ≤ 9223372036854775807) : isInt s = true := by
  match s with
  | [] => exact absurd rfl h0
  | d :: r =>
    simp only [isInt, h2]
    simp [h3]
    rcases h1 with h1 | h1
    · left; simpa using h1
    · right
      simp at h1
      intro e
      exact h1 (UInt8.toNat_inj.1 (by rw [e]; rfl))

/-! Scans: as many bytes as are so. -/
def Scan (p : UInt8 → Bool) (s : ByteArray) (k m : Nat) : Prop := k ≤ m ∧ m ≤ s.size ∧ ∀ i (h : i < s.size), k ≤ i → i < m → p s[i] = true
theorem Scan.start {p : UInt8 → Bool} {s : ByteArray} {k : Nat} (hk : k ≤ s.size) : Scan p s k k := ⟨Nat.le_refl _, hk, fun i _ h1 h2 => by omega⟩
theorem Scan.step {p : UInt8 → Bool} {s : ByteArray} {k m : Nat} (h : Scan p s k m) (hm : m < s.size) (hp : p s[m] = true) : Scan p s k (m + 1) := by
  obtain ⟨h1, h2, h3⟩ := h
  refine ⟨by omega, by omega, fun i hi a b => ?_⟩
  by_cases e : i = m
  · subst e; exact hp
  · exact h3 i hi a (by omega)
theorem takeWhile_len {p : UInt8 → Bool} : ∀ (l : Bytes) (n : Nat), n ≤ l.length → (∀ i c, i < n → l[i]? = some c → p c = true) → (∀ c, l[n]? = some c → p c = false) → (l.takeWhile p).length = n
  | [], n, h, _, _ => by simp at h; simp [h]
  | c :: l, 0, _, _, h => by have := h c (by simp); simp [this]
  | c :: l, n + 1, hn, h1, h2 => by
    have hc := h1 0 c (by omega) (by simp)
    simp only [List.takeWhile_cons, hc, if_true, List.length_cons]
    rw [takeWhile_len l n (by simpa using hn) (fun i d hi hd => h1 (i + 1) d (by omega) (by simpa using hd)) (fun d hd => h2 d (by simpa using hd))]
theorem Scan.done {p : UInt8 → Bool} {s : ByteArray} {k m : Nat} (h : Scan p s k m) (he : ∀ (hm : m < s.size), p s[m] = false) : (((bl s).drop k).takeWhile p).length = m - k := by
  obtain ⟨h1, h2, h3⟩ := h
  refine takeWhile_len _ _ (by rw [List.length_drop, bl_len]; omega) (fun i c hi hc => ?_) (fun c hc => ?_)
  · rw [List.getElem?_drop, bl_get s _ (by omega)] at hc
    injection hc with hc
    rw [← hc]; exact h3 _ _ (by omega) (by omega)
  · rw [List.getElem?_drop] at hc
    have hlt : k + (m - k) < s.size := by rw [← bl_len]; exact (List.getElem?_eq_some_iff.1 hc).1
    rw [bl_get s _ hlt] at hc
    injection hc with hc
    rw [← hc]
    have e : k + (m - k) = m := by omega
    have := he (by omega)
    simpa [e] using this

/-! The head, by the tests in their order. -/
theorem head_blank {s : ByteArray} {k : Nat} (h : k < s.size) (hb : blankB s[k] = true) (p : Nat) : lexAt p ((bl s).drop k) = lexAt (p + 1) ((bl s).drop (k + 1)) := by
  rw [drop_cons s k h]
  rw [lexAt_skip (n := 1) (by simp [headOf, hb])]
  simp
theorem slash_not_blank {s : ByteArray} {k : Nat} (h : k < s.size) (hc : ([47, 47] : Bytes).isPrefixOf ((bl s).drop k) = true) : blankB s[k] = false := by
  rw [drop_cons s k h] at hc
  simp [List.isPrefixOf] at hc
  rw [← hc.1]; rfl
theorem head_comment {s : ByteArray} {k m : Nat} (h : k < s.size) (hc : ([47, 47] : Bytes).isPrefixOf ((bl s).drop k) = true)
    (hs : Scan (fun c => c.toNat != 10) s k m) (he : ∀ (hm : m < s.size), (s[m].toNat != 10) = false) (p : Nat) : lexAt p ((bl s).drop k) = lexAt (p + (m - k)) ((bl s).drop m) := by
  have hl := hs.done he
  have hb := slash_not_blank h hc
  have h1 := hs.1
  have hd : (bl s).drop m = ((bl s).drop k).drop (m - k) := by rw [List.drop_drop]; congr 1; omega
  rw [hd]
  rw [drop_cons s k h] at hc hl ⊢
  rw [lexAt_skip (n := m - k)]
  simp [headOf, hb, hc, cutLine, hl]
theorem wordy_not_blank {c : UInt8} (h : wordyB c = true) : blankB c = false := by
  cases hb : blankB c
  · rfl
  · simp [wordyB, letterB, digitB] at h
    simp [blankB] at hb
    omega
theorem wordy_not_slash {s : ByteArray} {k : Nat} (h : k < s.size) (hw : wordyB s[k] = true) : ([47, 47] : Bytes).isPrefixOf ((bl s).drop k) = false := by
  rw [drop_cons s k h]
  cases hc : ([47, 47] : Bytes).isPrefixOf (s[k] :: (bl s).drop (k + 1))
  · rfl
  · simp [List.isPrefixOf] at hc
    rw [← hc.1] at hw
    revert hw; decide
theorem Scan.take {p : UInt8 → Bool} {s : ByteArray} {k m : Nat} (hs : Scan p s k m) (he : ∀ (hm : m < s.size), p s[m] = false) : ((bl s).drop k).takeWhile p = ((bl s).drop k).take (m - k) := by
  have h1 := hs.done he
  have h2 := List.takeWhile_prefix p (l := (bl s).drop k)
  rw [List.prefix_iff_eq_take] at h2
  rw [h2, h1]
theorem head_word {s : ByteArray} {k m : Nat} (h : k < s.size) (hw : wordyB s[k] = true)
    (hs : Scan wordyB s k m) (he : ∀ (hm : m < s.size), wordyB s[m] = false) (p : Nat) :
    lexAt p ((bl s).drop k) = match kindOf (((bl s).drop k).take (m - k)) with
      | some kd => LexRes.push [⟨kd, ((bl s).drop k).take (m - k), p⟩] (lexAt (p + (m - k)) ((bl s).drop m))
      | none => .error (101, p) := by
  have hl := hs.done he
  have ht := hs.take he
  have hb := wordy_not_blank hw
  have hc := wordy_not_slash h hw
  have h1 := hs.1
  have hd : (bl s).drop m = ((bl s).drop k).drop (m - k) := by rw [List.drop_drop]; congr 1; omega
  rw [hd]
  rw [drop_cons s k h] at hl hc ht ⊢
  rw [lexAt_cons]
  simp only [headOf, hb, hc, hw]
  rw [hl, ht]
  cases hk : kindOf (((s[k] :: (bl s).drop (k + 1))).take (m - k)) <;> simp
theorem head_sign {s : ByteArray} {k : Nat} (h : k < s.size) (hb : blankB s[k] = false) (hc : ([47, 47] : Bytes).isPrefixOf ((bl s).drop k) = false) (hw : wordyB s[k] = false) (p : Nat) :
    lexAt p ((bl s).drop k) = match signAt ((bl s).drop k) with
      | some t => LexRes.push [⟨4, t, p⟩] (lexAt (p + t.length) ((bl s).drop (k + t.length)))
      | none => .error (100, p) := by
  cases hs : signAt ((bl s).drop k) with
  | none =>
    rw [drop_cons s k h] at hc hs ⊢
    rw [lexAt_bad]
    simp [headOf, hb, hc, hw, hs]
  | some t =>
    have h1 := (signAt_pos hs).2.2.2
    have hd : (bl s).drop (k + t.length) = ((bl s).drop k).drop t.length := by rw [List.drop_drop]
    have ht : ((bl s).drop k).take t.length = t := (List.prefix_iff_eq_take.1 h1).symm
    simp only
    rw [hd]
    rw [drop_cons s k h] at hc hs ht ⊢
    rw [lexAt_tok (k := 4) (n := t.length), ht]
    simp [headOf, hb, hc, hw, hs]
/-! The tokens as cells. -/
def tokV (t : Tok) : List Value := [.int .u8 t.kind, .string (sb t.text), .int .i64 t.pos]
def tokCells (ts : List Tok) : List Value := ts.flatMap tokV
theorem tokCells_snoc (ts : List Tok) (t : Tok) : tokCells (ts ++ [t]) = tokCells ts ++ tokV t := by simp [tokCells]
theorem tokCells_len (ts : List Tok) : (tokCells ts).length = ts.length * 3 := by
  induction ts with
  | nil => rfl
  | cons t ts ih => simp only [tokCells, List.flatMap_cons, List.length_append, List.length_cons] at ih ⊢; rw [ih]; simp [tokV]; omega
/-! The first that fits. -/
theorem find_first {p : Bytes → Bool} : ∀ (l : List Bytes) (j : Nat) (u : Bytes), (∀ i v, i < j → l[i]? = some v → p v = false) → l[j]? = some u → p u = true → l.find? p = some u
  | [], j, u, _, h, _ => by simp at h
  | a :: l, 0, u, _, h, hp => by
    simp at h
    subst h
    simp [hp]
  | a :: l, j + 1, u, h0, h, hp => by
    have ha := h0 0 a (by omega) (by simp)
    rw [List.find?_cons, ha]
    exact find_first l j u (fun i v hi hv => h0 (i + 1) v (by omega) (by simpa using hv)) (by simpa using h) hp
theorem find_none {p : Bytes → Bool} {l : List Bytes} {n : Nat} (hn : l.length ≤ n) (h : ∀ i v, i < n → l[i]? = some v → p v = false) : l.find? p = none := by
  rw [List.find?_eq_none]
  intro x hx
  obtain ⟨i, hi⟩ := List.getElem?_of_mem hx
  have : i < l.length := (List.getElem?_eq_some_iff.1 hi).1
  rw [h i x (by omega) hi]
  simp
def NoSign (r : Bytes) (j : Nat) : Prop := ∀ i v, i < j → signsL[i]? = some v → v.isPrefixOf r = false
theorem NoSign.step {r : Bytes} {j : Nat} {u : Bytes} (h : NoSign r j) (hu : signsL[j]? = some u) (hp : u.isPrefixOf r = false) : NoSign r (j + 1) := by
  intro i v hi hv
  by_cases e : i = j
  · subst e
    rw [hu] at hv
    injection hv with hv
    rw [← hv]; exact hp
  · exact h i v (by omega) hv
theorem NoSign.found {r : Bytes} {j : Nat} {u : Bytes} (h : NoSign r j) (hu : signsL[j]? = some u) (hp : u.isPrefixOf r = true) : signAt r = some u :=
  find_first signsL j u h hu hp
theorem NoSign.all {r : Bytes} {j : Nat} (h : NoSign r j) (hj : 23 ≤ j) : signAt r = none := find_none (n := j) (by exact hj) h
theorem signs_short : ∀ u ∈ signsL, u.length ≤ 2 := by decide
end Go.Proofs.YtjdofndkdkeapaaGreatDoor
