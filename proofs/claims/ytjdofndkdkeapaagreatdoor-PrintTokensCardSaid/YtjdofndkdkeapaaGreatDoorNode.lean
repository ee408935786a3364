/- Trees in memory: a row of nodes that reads as a list of trees. No program in sight. -/
import Derived.Test.YtjdofndkdkeapaaGreatDoorTree
import Derived.Test.YtjdofndkdkeapaaGreatDoorMem
namespace Go.Proofs.YtjdofndkdkeapaaGreatDoor
open Go.RowKit

/-- A number that fits 64 bits. -/
def fitsI (x : Int) : Prop := -9223372036854775808 ≤ x ∧ x ≤ 9223372036854775807

mutual
/-- Four cells at an address read as a tree. -/
def TreeAt (w : World) : Tree → Nat → Nat → Prop
  | .node k s x ks, b, o => w.cell? ⟨b, o, none⟩ = some (.int .u8 k) ∧ w.cell? ⟨b, o + 1, none⟩ = some (.string (sb s)) ∧ w.cell? ⟨b, o + 2, none⟩ = some (.int .i64 x) ∧ k ≤ 255 ∧ s.length ≤ maxLen ∧ fitsI x ∧
      ∃ A c, w.cell? ⟨b, o + 3, none⟩ = some (.slice A ks.length c) ∧ ks.length ≤ c ∧ c ≤ maxLen ∧ (ks = [] ∨ ∃ b' o', A = some ⟨b', o', none⟩ ∧ RowAt w ks b' o')
def RowAt (w : World) : List Tree → Nat → Nat → Prop
  | [], _, _ => True
  | t :: ts, b, o => TreeAt w t b o ∧ RowAt w ts b (o + 4)
end
/-- A slice value that reads as a list of trees. -/
def KidsAt (w : World) (ks : List Tree) (A : Option Addr) (n c : Nat) : Prop := n = ks.length ∧ n ≤ c ∧ c ≤ maxLen ∧ (ks = [] ∨ ∃ b o, A = some ⟨b, o, none⟩ ∧ RowAt w ks b o)
/-- The fields of a node value, read as a tree. -/
def NodeIs (w : World) (t : Tree) (k : Nat) (s : ByteArray) (x : Int) (A : Option Addr) (n c : Nat) : Prop :=
  ∃ ks, t = .node k (bl s) x ks ∧ k ≤ 255 ∧ s.size ≤ maxLen ∧ fitsI x ∧ KidsAt w ks A n c

theorem RowAt.get {w : World} : ∀ {ts : List Tree} {b o : Nat}, RowAt w ts b o → ∀ {i : Nat} {t : Tree}, ts[i]? = some t → TreeAt w t b (o + i * 4)
  | t :: ts, b, o, h, 0, u, hu => by
    simp only [List.getElem?_cons_zero, Option.some.injEq] at hu
    subst hu
    simp only [RowAt] at h
    simpa using h.1
  | t :: ts, b, o, h, i + 1, u, hu => by
    simp only [List.getElem?_cons_succ] at hu
    simp only [RowAt] at h
    have := RowAt.get h.2 hu
    rwa [show o + (i + 1) * 4 = o + 4 + i * 4 from by omega]
theorem RowAt.mk {w : World} : ∀ {ts : List Tree} {b o : Nat}, (∀ i t, ts[i]? = some t → TreeAt w t b (o + i * 4)) → RowAt w ts b o
  | [], _, _, _ => by simp [RowAt]
  | t :: ts, b, o, h => by
    simp only [RowAt]
    refine ⟨by simpa using h 0 t rfl, RowAt.mk fun i u hu => ?_⟩
    have := h (i + 1) u (by simpa using hu)
    rwa [show o + 4 + i * 4 = o + (i + 1) * 4 from by omega]

/-- What a place of a row of trees holds. -/
theorem TreeAt.cells {w : World} {t : Tree} {b o : Nat} (h : TreeAt w t b o) : ∃ A c, w.cell? ⟨b, o, none⟩ = some (.int .u8 t.kind) ∧ w.cell? ⟨b, o + 1, none⟩ = some (.string (sb t.text)) ∧ w.cell? ⟨b, o + 2, none⟩ = some (.int .i64 t.num) ∧ w.cell? ⟨b, o + 3, none⟩ = some (.slice A t.kids.length c) ∧
    NodeIs w t t.kind (sb t.text) t.num A t.kids.length c := by
  obtain ⟨k, s, x, ks⟩ := t
  simp only [TreeAt] at h
  obtain ⟨h0, h1, h2, g0, g1, g2, A, c, h3, g3, g4, g5⟩ := h
  exact ⟨A, c, h0, h1, h2, h3, ks, rfl, g0, g1, g2, rfl, g3, g4, g5⟩
theorem KidsAt.get {w : World} {ks : List Tree} {A : Option Addr} {n c : Nat} (h : KidsAt w ks A n c) {i : Nat} (hi : i < n) : ∃ b o t, A = some ⟨b, o, none⟩ ∧ ks[i]? = some t ∧ TreeAt w t b (o + i * 4) := by
  obtain ⟨hn, _, _, h⟩ := h
  rcases h with rfl | ⟨b, o, e, hr⟩
  · simp at hn; omega
  · have : ks[i]? = some (ks[i]'(by omega)) := List.getElem?_eq_getElem (by omega)
    exact ⟨b, o, _, e, this, hr.get this⟩

theorem cell_lt {w : World} {a : Addr} {v : Value} (h : w.cell? a = some v) : a.block < w.heap.size := by
  rcases Nat.lt_or_ge a.block w.heap.size with hl | hg
  · exact hl
  · simp [World.cell?, Array.getElem?_eq_none hg] at h
theorem cell_below {w w' : World} (hb : Below w.heap.size w w') {a : Addr} {v : Value} (h : w.cell? a = some v) : w'.cell? a = some v := by
  rw [hb.cell (cell_lt h)]; exact h

/-! A tree that stands in a world stands in every world in which the old cells stand. -/
mutual
theorem TreeAt.keep {w w' : World} (hb : ∀ a v, w.cell? a = some v → w'.cell? a = some v) : ∀ {t : Tree} {b o : Nat}, TreeAt w t b o → TreeAt w' t b o
  | .node k s x ks, b, o, h => by
    simp only [TreeAt] at h ⊢
    obtain ⟨h0, h1, h2, g0, g1, g2, A, c, h3, g3, g4, g5⟩ := h
    refine ⟨hb _ _ h0, hb _ _ h1, hb _ _ h2, g0, g1, g2, A, c, hb _ _ h3, g3, g4, ?_⟩
    rcases g5 with e | ⟨b', o', e, hr⟩
    · exact .inl e
    · exact .inr ⟨b', o', e, RowAt.keep hb hr⟩
theorem RowAt.keep {w w' : World} (hb : ∀ a v, w.cell? a = some v → w'.cell? a = some v) : ∀ {ts : List Tree} {b o : Nat}, RowAt w ts b o → RowAt w' ts b o
  | [], _, _, _ => by simp [RowAt]
  | t :: ts, b, o, h => by
    simp only [RowAt] at h ⊢
    exact ⟨TreeAt.keep hb h.1, RowAt.keep hb h.2⟩
end
theorem KidsAt.keep {w w' : World} (hb : ∀ a v, w.cell? a = some v → w'.cell? a = some v) {ks : List Tree} {A : Option Addr} {n c : Nat} (h : KidsAt w ks A n c) : KidsAt w' ks A n c := by
  obtain ⟨h1, h2, h3, h4⟩ := h
  refine ⟨h1, h2, h3, ?_⟩
  rcases h4 with e | ⟨b, o, e, hr⟩
  · exact .inl e
  · exact .inr ⟨b, o, e, hr.keep hb⟩
theorem KidsAt.below {w w' : World} (hb : Below w.heap.size w w') {ks : List Tree} {A : Option Addr} {n c : Nat} (h : KidsAt w ks A n c) : KidsAt w' ks A n c := h.keep fun _ _ => cell_below hb
theorem TreeAt.below {w w' : World} (hb : Below w.heap.size w w') {t : Tree} {b o : Nat} (h : TreeAt w t b o) : TreeAt w' t b o := h.keep fun _ _ => cell_below hb
theorem NodeIs.keep {w w' : World} (hb : ∀ a v, w.cell? a = some v → w'.cell? a = some v) {t : Tree} {k : Nat} {s : ByteArray} {x : Int} {A : Option Addr} {n c : Nat} (h : NodeIs w t k s x A n c) : NodeIs w' t k s x A n c := by
  obtain ⟨ks, e, h1, h2, h3, h4⟩ := h
  exact ⟨ks, e, h1, h2, h3, h4.keep hb⟩
theorem NodeIs.below {w w' : World} (hb : Below w.heap.size w w') {t : Tree} {k : Nat} {s : ByteArray} {x : Int} {A : Option Addr} {n c : Nat} (h : NodeIs w t k s x A n c) : NodeIs w' t k s x A n c := h.keep fun _ _ => cell_below hb
theorem KidsAt.nil (w : World) (A : Option Addr) {c : Nat} (h : c ≤ maxLen) : KidsAt w [] A 0 c := ⟨rfl, Nat.zero_le _, h, .inl rfl⟩
/-! All texts of a tree are at most so long. -/
mutual
def Tree.short (L : Nat) : Tree → Prop
  | .node _ s _ ks => s.length ≤ L ∧ shortL L ks
def shortL (L : Nat) : List Tree → Prop
  | [] => True
  | t :: ts => t.short L ∧ shortL L ts
end
theorem shortL.get {L : Nat} : ∀ {ts : List Tree}, shortL L ts → ∀ {i : Nat} {t : Tree}, ts[i]? = some t → t.short L
  | t :: ts, h, 0, u, hu => by
    simp only [List.getElem?_cons_zero, Option.some.injEq] at hu
    subst hu
    simp only [shortL] at h
    exact h.1
  | t :: ts, h, i + 1, u, hu => by
    simp only [List.getElem?_cons_succ] at hu
    simp only [shortL] at h
    exact shortL.get h.2 hu
end Go.Proofs.YtjdofndkdkeapaaGreatDoor
