/- What the walks over the lexer use beside the program (printed by gen_lexrefs.py). -/
import Derived.Test.YtjdofndkdkeapaaGreatDoorLexBase
import Derived.Test.YtjdofndkdkeapaaGreatDoorRows
import Derived.WalkKit
import Derived.WalkSpells
import Derived.WalkLawsBesides
import Derived.Test.YtjdofndkdkeapaaGreatDoorMem
import Derived.Deep.AppendLies
import Derived.Deep.RegionHeld3
import Derived.Deep.DeepMust
import Derived.Deep.DeepCutAuto
import Derived.Deep.CutBlock
import Derived.Deep.LoopGhost
namespace Go.Proofs.YtjdofndkdkeapaaGreatDoor.Lx
open Go.RowKit
/-- A slice of strings, as a list. -/
def StrRow (w : World) (A : Option Addr) (n : Nat) (ss : List Bytes) : Prop :=
  ss.length = n ∧ (0 < n → ∃ ad, A = some ad ∧ ad.block < w.heap.size ∧ ∀ j u, ss[j]? = some u → w.cell? (ad.add j) = some (.string (sb u)))

theorem StrRow.at_ {w : World} {A : Option Addr} {n : Nat} {ss : List Bytes} (h : StrRow w A n ss) {k : Nat} (hk : k < n) :
    ∃ ad u, A = some ad ∧ ad.block < w.heap.size ∧ ss[k]? = some u ∧ w.cell? (ad.add k) = some (.string (sb u)) := by
  obtain ⟨hl, h⟩ := h
  obtain ⟨ad, e, hb, hc⟩ := h (by omega)
  exact ⟨ad, ss[k]'(by omega), e, hb, List.getElem?_eq_getElem (by omega), hc k _ (List.getElem?_eq_getElem (by omega))⟩

def hasB (l : List Bytes) (x : Bytes) : Bool := l.contains x
theorem hasB_mem {l : List Bytes} {x : Bytes} {k : Nat} (h : l[k]? = some x) : hasB l x = true := by
  unfold hasB; simp; exact List.mem_of_getElem? h
theorem block_add (a : Addr) (n : Nat) : (a.add n).block = a.block := by unfold Addr.add; split <;> rfl
theorem StrRow.set_ {w : World} {A : Option Addr} {n : Nat} {ss : List Bytes} (h : StrRow w A n ss) {p : Addr} (hp : ∀ ad, A = some ad → ad.block ≠ p.block) (u : Value) : StrRow (w.setCell p u) A n ss := by
  refine ⟨h.1, fun hn => ?_⟩
  obtain ⟨ad, e, hb, hc⟩ := h.2 hn
  refine ⟨ad, e, by simpa using hb, fun j v hv => ?_⟩
  rw [World.cell?_setCell_other w p _ u (fun e' => hp ad e (by rw [← block_add ad j, e']))]
  exact hc j v hv
theorem contains_step {ss : List Bytes} {x u : Bytes} {k : Nat} (hu : ss[k]? = some u) : hasB (ss.take (k + 1)) x = (hasB (ss.take k) x || u == x) := by
  have hk : k < ss.length := (List.getElem?_eq_some_iff.1 hu).1
  have : ss.take (k + 1) = ss.take k ++ [u] := by
    rw [List.take_succ_eq_append_getElem hk]
    rw [List.getElem?_eq_getElem hk] at hu
    injection hu with hu
    rw [hu]
  rw [this]
  unfold hasB
  rw [Bool.eq_iff_iff]
  simp only [List.contains_iff_mem, List.mem_append, List.mem_singleton, Bool.or_eq_true, beq_iff_eq]
  exact ⟨fun h => h.imp id Eq.symm, fun h => h.imp id Eq.symm⟩

/-- A row that the call laid: a block of its own at the heap's old end. -/
theorem StrRow.new {w : World} {T : TypeId} {n : Nat} (ss : List Bytes) (hn : ss.length = n) :
    StrRow (w.alloc (.cells (ss.map fun u => Value.string (sb u)).toArray T)) (some ⟨w.heap.size, 0, none⟩) n ss := by
  refine ⟨hn, fun _ => ⟨_, rfl, by simp, fun j u hu => ?_⟩⟩
  have hj : (Addr.add ⟨w.heap.size, 0, none⟩ j) = ⟨w.heap.size, j, none⟩ := by unfold Addr.add; split <;> simp_all
  rw [hj, World.cell?_alloc_new]
  simp [hu]

/-- What a call leaves that hands back a new slice of strings: where it lies is a letter. -/
def RowPost (n : Nat) (ss : List Bytes) (w : World) (e : Ending) (w' : World) : Prop := ∃ A, e = .returned (.slice A n n) ∧ StrRow w' A n ss ∧ Below w.heap.size w w' ∧ (∀ ad, A = some ad → w.heap.size ≤ ad.block) ∧ ∃ g, A = some ⟨g, 0, none⟩

def NumPost (b : Bool) (w : World) (e : Ending) (w' : World) : Prop := w = w' ∧ ∃ x : Int, e = .returned (.tuple #[.int .i64 x, .bool b])

def NumInv (s : ByteArray) (k : Nat) (n : Nat) : Prop := n = numVal ((bl s).take k) ∧ n ≤ 9223372036854775807 ∧ ∀ j c, j < k → (bl s)[j]? = some c → digitB c = true

theorem numInv_step {s : ByteArray} {k n : Nat} (h : NumInv s k n) (hk : k < s.size) (hd : digitB s[k] = true) (hb : 10 * n + (s[k].toNat - 48) ≤ 9223372036854775807) :
    NumInv s (k + 1) (10 * n + (s[k].toNat - 48)) := by
  obtain ⟨h1, h2, h3⟩ := h
  refine ⟨by rw [take_snoc s k hk, numVal_snoc, ← h1], hb, fun j c hj hc => ?_⟩
  by_cases e : j = k
  · subst e
    rw [bl_get s j hk] at hc
    injection hc with hc
    rw [← hc]; exact hd
  · exact h3 j c (by omega) hc

theorem numInv_big {s : ByteArray} {k n : Nat} (h : NumInv s k n) (hk : k < s.size) (hb : 9223372036854775807 < 10 * n + (s[k].toNat - 48)) : isInt (bl s) = false := by
  apply isInt_big
  have := numVal_take (bl s) (k + 1)
  rw [take_snoc s k hk, numVal_snoc, ← h.1] at this
  omega

theorem numInv_done {s : ByteArray} {n : Nat} (h : NumInv s s.size n) (h0 : 0 < s.size) (h1 : s.size = 1 ∨ (bl s)[0]? ≠ some 48) : isInt (bl s) = true := by
  obtain ⟨h1', h2, h3⟩ := h
  apply isInt_good
  · intro e; have := bl_len s; rw [e] at this; simp at this; omega
  · rcases h1 with h | h
    · left; rw [bl_len]; exact h
    · right; exact h
  · rw [List.all_eq_true]
    intro c hc
    obtain ⟨j, hj⟩ := List.getElem?_of_mem hc
    have : j < (bl s).length := (List.getElem?_eq_some_iff.1 hj).1
    exact h3 j c (by rw [← bl_len s]; exact this) hj
  · rw [List.take_of_length_le (by rw [bl_len]; exact Nat.le_refl _)] at h1'
    omega

theorem NumPost.intro {b b' : Bool} {w : World} (x : Int) (h : b' = b) : NumPost b w (.returned (.tuple #[.int .i64 x, .bool b'])) w := ⟨rfl, x, by rw [h]⟩

def NamePost (b : Bool) (w : World) (e : Ending) (w' : World) : Prop := e = .returned (.bool b) ∧ Below w.heap.size w w'
theorem NamePost.intro {b b' : Bool} {w w' : World} (h : b' = b) (hb : Below w.heap.size w w') : NamePost b w (.returned (.bool b')) w' := ⟨by rw [h], hb⟩

theorem ne_nil {s : ByteArray} (h : 0 < s.size) : ∃ r, bl s = s[0] :: r := ⟨(bl s).drop 1, by have := drop_cons s 0 h; simpa using this⟩
theorem isName_long {s : ByteArray} (h : 24 < s.size) : isName (bl s) = false := by
  obtain ⟨r, hr⟩ := ne_nil (s := s) (by omega)
  have hl := bl_len s
  rw [hr] at hl ⊢
  simp only [isName]
  rw [hl]
  simp [Nat.not_le.2 h]
theorem isName_head {s : ByteArray} (h : 0 < s.size) (hc : letterB s[0] = false) : isName (bl s) = false := by
  obtain ⟨r, hr⟩ := ne_nil (s := s) (by omega)
  rw [hr]
  simp [isName, hc]
theorem isName_word {s : ByteArray} (hw : hasB wordsL (bl s) = true) : isName (bl s) = false := by
  unfold hasB at hw
  cases hr : bl s with
  | nil => rfl
  | cons a l =>
    rw [hr] at hw
    simp only [isName, hw]
    simp
theorem isName_bad {s : ByteArray} {k : Nat} (h : k < s.size) (hc : wordyB s[k] = false) : isName (bl s) = false := by
  have hm := List.mem_of_getElem? (bl_get s k h)
  cases hr : bl s with
  | nil => rfl
  | cons a l =>
    rw [hr] at hm
    have : (a :: l).all wordyB = false := by
      rw [List.all_eq_false]
      exact ⟨_, hm, by simp [hc]⟩
    simp only [isName, this]
    simp
theorem isName_good {s : ByteArray} (h0 : 0 < s.size) (h1 : s.size ≤ 24) (h2 : letterB s[0] = true) (h3 : hasB wordsL (bl s) = false)
    (h4 : ∀ j (h : j < s.size), wordyB s[j] = true) : isName (bl s) = true := by
  unfold hasB at h3
  have ha : (bl s).all wordyB = true := by
    rw [List.all_eq_true]
    intro c hc
    obtain ⟨j, hj⟩ := List.getElem?_of_mem hc
    have hl : j < s.size := (List.getElem?_eq_some_iff.1 hj).1
    rw [bl_get s j hl] at hj
    injection hj with hj
    rw [← hj]; exact h4 j hl
  obtain ⟨r, hr⟩ := ne_nil h0
  have hl := bl_len s
  rw [hr] at hl ha h3 ⊢
  simp only [isName, hl, h2, ha, h3]
  simp [h1]

def LexPost (w : World) (r : LexRes) (e : Ending) (w' : World) : Prop :=
  Below w.heap.size w w' ∧ match r with
    | .ok ts => ∃ v, e = .returned (.tuple #[v, .agg #[.int .i64 0, .int .i64 0]]) ∧ w'.ownsRow w.heap.size 82 3 v ts.length (tokCells ts)
    | .error (er, p) => e = .returned (.tuple #[.slice none 0 0, .agg #[.int .i64 er, .int .i64 p]])

/-- The world in which the fault's block has been laid. -/
abbrev laidF (w : World) : World := w.alloc (.cells #[.int .i64 0, .int .i64 0] 33)
theorem Tryz.infoTok : (Tryz.prog.info? 82).map (fun i => (i.zero, i.size, i.bytes)) = some (some (.agg #[.int .u8 0, .string ByteArray.empty, .int .i64 0]), 3, 32) := by kernel_rfl

theorem tokV_one (t : Tok) : ∀ u ∈ tokV t, u.oneCell' = true := by
  intro u hu
  simp [tokV] at hu
  rcases hu with rfl | rfl | rfl <;> rfl

/-- append(out, t): the row has one token more. -/
theorem wp_tok_append {ops : Array Oper} {rest : List Oper} {o : Oper} {a : Act} {Q : Exit → Act → World → Prop} (w : World) (hgd : o.guard = none) (s x : Operand)
    (ho : o.op = .call { callee := .builtin .append, args := #[s, x], argTypes := #[31, 31] })
    (base : Nat) (v : Value) (ts : List Tok) (hs : a.eval s = v) (hown : w.ownsRow base 82 3 v ts.length (tokCells ts))
    (Bk c : Nat) (t : Tok) (hx : a.eval x = .slice (some ⟨Bk, 0, none⟩) 1 c) (hblk : w.heap[Bk]? = some (.cells (tokV t).toArray 82 (0, 0)))
    (hfew : ts.length ≤ 2147483648) (hbase : base ≤ w.heap.size)
    (h : ∀ v' w', w'.ownsRow base 82 3 v' (ts ++ [t]).length (tokCells (ts ++ [t])) → w.grownBy w' v.ownBlock → wpList Tryz.prog ops Q rest (a.put o.dst v') w') : wpList Tryz.prog ops Q (o :: rest) a w := by
  obtain ⟨i0, hi, hz0, hz1, hz2⟩ := info_parts Tryz.infoTok
  refine wpList_append_lies w hgd s x _ ho base 82 i0 _ 3 32 Tryz.underlying31 hi hz0 hz1 hz2 rfl (by omega) v ts.length (tokCells ts) hs hown ⟨Bk, 0, none⟩ 1 c (tokV t) hx rfl
    (fun j u hu => World.news_of_block hblk j u (by simpa using hu)) (tokV_one t) (by omega) (by unfold maxLen; omega) (by omega) hbase _ rfl ?_
  intro g cap w' hown' hgr hat hlt
  refine h _ w' ?_ hgr
  rw [tokCells_snoc, List.length_append]
  exact hown'

/-- The fault's own block, in every later world. -/
structure FaultIn (F : Nat) (w' : World) : Prop where
  c0 : w'.cell? ⟨F, 0, none⟩ = some (.int .i64 0)
  c1 : w'.cell? ⟨F, 1, none⟩ = some (.int .i64 0)
  f0 : w'.frozen? ⟨F, 0, none⟩ = false
  f1 : w'.frozen? ⟨F, 1, none⟩ = false
theorem faultIn {w w' : World} (hb : Below (w.heap.size + 1) (laidF w) w') : FaultIn w.heap.size w' := by
  refine ⟨?_, ?_, ?_, ?_⟩
  · rw [hb.cell (p := ⟨w.heap.size, 0, none⟩) (by simp)]; simp
  · rw [hb.cell (p := ⟨w.heap.size, 1, none⟩) (by simp)]; simp
  · rw [hb.frozen (p := ⟨w.heap.size, 0, none⟩) (by simp)]; simp
  · rw [hb.frozen (p := ⟨w.heap.size, 1, none⟩) (by simp)]; simp

theorem comment_far {s : ByteArray} {k m : Nat} (hk : k < s.size) (hkm : k ≤ m) (hm : m ≤ s.size) (hc : (bl ⟨#[47, 47]⟩).isPrefixOf ((bl s).drop k) = true) (he : ∀ h : m < s.size, s[m].toNat = 10) : k < m := by
  rcases Nat.lt_or_ge k m with h | h
  · exact h
  · obtain rfl : k = m := by omega
    have h1 := he hk
    rw [drop_cons s k hk] at hc
    have h2 : (47 : UInt8) = s[k] := by
      have : ([47, 47] : Bytes).isPrefixOf (s[k] :: (bl s).drop (k + 1)) = true := hc
      simp [List.isPrefixOf] at this
      exact this.1
    rw [← h2] at h1
    exact absurd h1 (by decide)
theorem laidF_below (w : World) : Below w.heap.size w (laidF w) := (Below.refl _ _).alloc (Nat.le_refl _) _
theorem below_fault {w w2 : World} (h : Below w.heap.size w w2) (x0 x1 : Value) : Below w.heap.size w ((w2.setCell ⟨w.heap.size, 0, none⟩ x0).setCell ⟨w.heap.size, 1, none⟩ x1) :=
  (h.setCell (p := ⟨w.heap.size, 0, none⟩) (Nat.le_refl _) _).setCell (p := ⟨w.heap.size, 1, none⟩) (Nat.le_refl _) _
/-- The signs' loop: what is known at its head. -/
structure SignInv (s : ByteArray) (wr wx : World) (k : Nat) (A : Option Addr) (j kd : Nat) (tx : Bytes) : Prop where
  below : Below wr.heap.size wr wx
  row : StrRow wx A 23 signsL
  box : wx.heap[wr.heap.size]? = some (.cells #[.int .u8 kd, .string (sb tx), .int .i64 k] 82 (0, 0))
  far : ∀ ad, A = some ad → ad.block ≠ wr.heap.size
theorem SignInv.size {s : ByteArray} {wr wx : World} {k : Nat} {A : Option Addr} {j kd : Nat} {tx : Bytes} (h : SignInv s wr wx k A j kd tx) : wr.heap.size + 1 ≤ wx.heap.size := by
  have := h.box
  rcases Nat.lt_or_ge wr.heap.size wx.heap.size with h | h
  · exact h
  · rw [Array.getElem?_eq_none h] at this; cases this
theorem SignInv.move {s : ByteArray} {wr wx : World} {k : Nat} {A : Option Addr} {j kd j' : Nat} {tx : Bytes} (h : SignInv s wr wx k A j kd tx) : SignInv s wr wx k A j' kd tx := ⟨h.below, h.row, h.box, h.far⟩
theorem SignInv.found {s : ByteArray} {wr wx : World} {k : Nat} {A : Option Addr} {j : Nat} {tx u : Bytes} (h : SignInv s wr wx k A j 0 tx) :
    SignInv s wr ((wx.setCell ⟨wr.heap.size, 1, none⟩ (.string (sb u))).setCell ⟨wr.heap.size, 0, none⟩ (.int .u8 4)) k A (j + 1) 4 u := by
  refine ⟨(h.below.setCell (p := ⟨wr.heap.size, 1, none⟩) (Nat.le_refl _) _).setCell (p := ⟨wr.heap.size, 0, none⟩) (Nat.le_refl _) _, ?_, ?_, h.far⟩
  · exact (h.row.set_ (fun ad e => h.far ad e) _).set_ (fun ad e => h.far ad e) _
  · simp [World.setCell, Array.getElem?_modify, h.box]

end Go.Proofs.YtjdofndkdkeapaaGreatDoor.Lx
