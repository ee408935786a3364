/- Rows of strings in memory; what names are. -/
import Derived.Test.YtjdofndkdkeapaaGreatDoorLexBase
import Derived.Test.YtjdofndkdkeapaaGreatDoorMem
import Derived.Test.YtjdofndkdkeapaaGreatDoorRows
import Derived.WalkKit
import Derived.WalkSpells
import Derived.WalkLawsBesides
namespace Go.Proofs.YtjdofndkdkeapaaGreatDoor
open Go.RowKit

/-- A slice of strings, as a list. -/
def StrRow (w : World) (A : Option Addr) (n : Nat) (ss : List Bytes) : Prop :=
  ss.length = n ∧ (0 < n → ∃ ad, A = some ad ∧ ad.block < w.heap.size ∧ ∀ j u, ss[j]? = some u → w.cell? (ad.add j) = some (.string (sb u)))

theorem StrRow.at_ {w : World} {A : Option Addr} {n : Nat} {ss : List Bytes} (h : StrRow w A n ss) {k : Nat} (hk : k < n) :
    ∃ ad u, A = some ad ∧ ad.block < w.heap.size ∧ ss[k]? = some u ∧ w.cell? (ad.add k) = some (.string (sb u)) := by
  obtain ⟨hl, h⟩ := h
  obtain ⟨ad, e, hb, hc⟩ := h (by omega)
  exact ⟨ad, ss[k]'(by omega), e, hb, List.getElem?_eq_getElem (by omega), hc k _ (List.getElem?_eq_getElem (by omega))⟩

def hasB (l : List Bytes) (x : Bytes) : Bool := l.contains x
theorem hasB_mem {l : List Bytes} {x : Bytes} {k : Nat} (h : l[k]? = some x) : hasB l x = true := by
  unfold hasB; simp; exact List.mem_of_getElem? h
theorem block_add (a : Addr) (n : Nat) : (a.add n).block = a.block := by unfold Addr.add; split <;> rfl
theorem StrRow.set_ {w : World} {A : Option Addr} {n : Nat} {ss : List Bytes} (h : StrRow w A n ss) {p : Addr} (hp : ∀ ad, A = some ad → ad.block ≠ p.block) (u : Value) : StrRow (w.setCell p u) A n ss := by
  refine ⟨h.1, fun hn => ?_⟩
  obtain ⟨ad, e, hb, hc⟩ := h.2 hn
  refine ⟨ad, e, by simpa using hb, fun j v hv => ?_⟩
  rw [World.cell?_setCell_other w p _ u (fun e' => hp ad e (by rw [← block_add ad j, e']))]
  exact hc j v hv
theorem contains_step {ss : List Bytes} {x u : Bytes} {k : Nat} (hu : ss[k]? = some u) : hasB (ss.take (k + 1)) x = (hasB (ss.take k) x || u == x) := by
  have hk : k < ss.length := (List.getElem?_eq_some_iff.1 hu).1
  have : ss.take (k + 1) = ss.take k ++ [u] := by
    rw [List.take_succ_eq_append_getElem hk]
    rw [List.getElem?_eq_getElem hk] at hu
    injection hu with hu
    rw [hu]
  rw [this]
  unfold hasB
  rw [Bool.eq_iff_iff]
  simp only [List.contains_iff_mem, List.mem_append, List.mem_singleton, Bool.or_eq_true, beq_iff_eq]
  exact ⟨fun h => h.imp id Eq.symm, fun h => h.imp id Eq.symm⟩

/-- A row that the call laid: a block of its own at the heap's old end. -/
theorem StrRow.new {w : World} {T : TypeId} {n : Nat} (ss : List Bytes) (hn : ss.length = n) :
    StrRow (w.alloc (.cells (ss.map fun u => Value.string (sb u)).toArray T)) (some ⟨w.heap.size, 0, none⟩) n ss := by
  refine ⟨hn, fun _ => ⟨_, rfl, by simp, fun j u hu => ?_⟩⟩
  have hj : (Addr.add ⟨w.heap.size, 0, none⟩ j) = ⟨w.heap.size, j, none⟩ := by unfold Addr.add; split <;> simp_all
  rw [hj, World.cell?_alloc_new]
  simp [hu]

/-- What a call leaves that hands back a new slice of strings: where it lies is a letter. -/
def RowPost (n : Nat) (ss : List Bytes) (w : World) (e : Ending) (w' : World) : Prop := ∃ A, e = .returned (.slice A n n) ∧ StrRow w' A n ss ∧ Below w.heap.size w w' ∧ (∀ ad, A = some ad → w.heap.size ≤ ad.block) ∧ ∃ g, A = some ⟨g, 0, none⟩

def NamePost (b : Bool) (w : World) (e : Ending) (w' : World) : Prop := e = .returned (.bool b) ∧ Below w.heap.size w w'
theorem NamePost.intro {b b' : Bool} {w w' : World} (h : b' = b) (hb : Below w.heap.size w w') : NamePost b w (.returned (.bool b')) w' := ⟨by rw [h], hb⟩

theorem ne_nil {s : ByteArray} (h : 0 < s.size) : ∃ r, bl s = s[0] :: r := ⟨(bl s).drop 1, by have := drop_cons s 0 h; simpa using this⟩
theorem isName_long {s : ByteArray} (h : 24 < s.size) : isName (bl s) = false := by
  obtain ⟨r, hr⟩ := ne_nil (s := s) (by omega)
  have hl := bl_len s
  rw [hr] at hl ⊢
  simp only [isName]
  rw [hl]
  simp [Nat.not_le.2 h]
theorem isName_head {s : ByteArray} (h : 0 < s.size) (hc : letterB s[0] = false) : isName (bl s) = false := by
  obtain ⟨r, hr⟩ := ne_nil (s := s) (by omega)
  rw [hr]
  simp [isName, hc]
theorem isName_word {s : ByteArray} (hw : hasB wordsL (bl s) = true) : isName (bl s) = false := by
  unfold hasB at hw
  cases hr : bl s with
  | nil => rfl
  | cons a l =>
    rw [hr] at hw
    simp only [isName, hw]
    simp
theorem isName_bad {s : ByteArray} {k : Nat} (h : k < s.size) (hc : wordyB s[k] = false) : isName (bl s) = false := by
  have hm := List.mem_of_getElem? (bl_get s k h)
  cases hr : bl s with
  | nil => rfl
  | cons a l =>
    rw [hr] at hm
    have : (a :: l).all wordyB = false := by
      rw [List.all_eq_false]
      exact ⟨_, hm, by simp [hc]⟩
    simp only [isName, this]
    simp
theorem isName_good {s : ByteArray} (h0 : 0 < s.size) (h1 : s.size ≤ 24) (h2 : letterB s[0] = true) (h3 : hasB wordsL (bl s) = false)
    (h4 : ∀ j (h : j < s.size), wordyB s[j] = true) : isName (bl s) = true := by
  unfold hasB at h3
  have ha : (bl s).all wordyB = true := by
    rw [List.all_eq_true]
    intro c hc
    obtain ⟨j, hj⟩ := List.getElem?_of_mem hc
    have hl : j < s.size := (List.getElem?_eq_some_iff.1 hj).1
    rw [bl_get s j hl] at hj
    injection hj with hj
    rw [← hj]; exact h4 j hl
  obtain ⟨r, hr⟩ := ne_nil h0
  have hl := bl_len s
  rw [hr] at hl ha h3 ⊢
  simp only [isName, hl, h2, ha, h3]
  simp [h1]

end Go.Proofs.YtjdofndkdkeapaaGreatDoor
