/- Memory of the printer: what a call leaves alone. Any program. -/
import Derived.Test.YtjdofndkdkeapaaGreatDoorMem
import Derived.Deep.Draws
namespace Go.Proofs.YtjdofndkdkeapaaGreatDoor
open Go.RowKit
set_option linter.unusedSimpArgs false

/-- A block of cells of one of these types. -/
def SoftAt (ts : List TypeId) (w : World) (k : Nat) : Prop := ∃ cs T fr, w.heap[k]? = some (.cells cs T fr) ∧ T ∈ ts
/-- What lies below B stands; so does every block but b that is of none of these types. -/
structure Fr (ts : List TypeId) (B b : Nat) (w w' : World) : Prop where
  below : Below B w w'
  keep : ∀ k, k < w.heap.size → k ≠ b → ¬ SoftAt ts w k → w'.heap[k]? = w.heap[k]?
theorem Fr.refl (ts : List TypeId) (B b : Nat) (w : World) : Fr ts B b w w := ⟨Below.refl _ _, fun _ _ _ _ => rfl⟩
theorem Fr.trans {ts : List TypeId} {B b : Nat} {w w' w'' : World} (h : Fr ts B b w w') (h' : Fr ts B b w' w'') : Fr ts B b w w'' := by
  refine ⟨h.below.trans h'.below, fun k hk hb hs => ?_⟩
  have e := h.keep k hk hb hs
  rw [h'.keep k (Nat.lt_of_lt_of_le hk h.below.size) hb (fun ⟨cs, T, fr, h1, h2⟩ => hs ⟨cs, T, fr, e ▸ h1, h2⟩), e]
theorem Fr.alloc {ts : List TypeId} {B b : Nat} {w w' : World} (h : Fr ts B b w w') (hB : B ≤ w.heap.size) (o : Obj) : Fr ts B b w (w'.alloc o) :=
  ⟨h.below.alloc (Nat.le_trans hB h.below.size) o, fun k hk hb hs => (heap_alloc_old _ _ (Nat.lt_of_lt_of_le hk h.below.size)).trans (h.keep k hk hb hs)⟩
theorem Fr.drewN {ts : List TypeId} {B b : Nat} {w w' : World} (h : Fr ts B b w w') (n : Nat) : Fr ts B b w (w'.drewN n) :=
  ⟨⟨h.below.os, h.below.tape, h.below.output, h.below.size, h.below.block⟩, fun k hk hb hs => h.keep k hk hb hs⟩
theorem Fr.drew {ts : List TypeId} {B b : Nat} {w w' : World} (h : Fr ts B b w w') : Fr ts B b w w'.drew :=
  ⟨⟨h.below.os, h.below.tape, h.below.output, h.below.size, h.below.block⟩, fun k hk hb hs => h.keep k hk hb hs⟩
theorem Fr.setBox {ts : List TypeId} {B b : Nat} {w w' : World} (h : Fr ts B b w w') (hB : B ≤ b) (j : Nat) (u : Value) : Fr ts B b w (w'.setCell ⟨b, j, none⟩ u) :=
  ⟨h.below.setCell hB _, fun k hk hb hs => (Below.heap_setCell _ _ _ _ (by exact hb)).trans (h.keep k hk hb hs)⟩
theorem Fr.setSoft {ts : List TypeId} {B b g : Nat} {w w' : World} (h : Fr ts B b w w') (hB : B ≤ g) (_hg : SoftAt ts w' g) (hgw : ∀ k, k < w.heap.size → k ≠ b → ¬ SoftAt ts w k → k ≠ g) (j : Nat) (u : Value) : Fr ts B b w (w'.setCell ⟨g, j, none⟩ u) :=
  ⟨h.below.setCell hB _, fun k hk hb hs => (Below.heap_setCell _ _ _ _ (by exact hgw k hk hb hs)).trans (h.keep k hk hb hs)⟩
theorem Fr.not_soft {ts : List TypeId} {B b g : Nat} {w w' : World} (h : Fr ts B b w w') (hg : SoftAt ts w' g) : ∀ k, k < w.heap.size → k ≠ b → ¬ SoftAt ts w k → k ≠ g := by
  rintro k hk hb hs rfl
  obtain ⟨cs, T, fr, h1, h2⟩ := hg
  exact hs ⟨cs, T, fr, (h.keep k hk hb hs) ▸ h1, h2⟩
theorem Fr.grown {ts : List TypeId} {B b : Nat} {w w1 w2 : World} {e : TypeId} {size n : Nat} {v : Value} {xs : List Value} (h : Fr ts B b w w1) (hB : B ≤ w.heap.size) (ho : w1.ownsRow B e size v n xs) (he : e ∈ ts) (hg : w1.grownBy w2 v.ownBlock) : Fr ts B b w w2 := by
  have hb1 : Below B w1 w2 := below_grown ho hg (Nat.le_refl _) (Nat.le_trans hB h.below.size)
  refine ⟨h.below.trans hb1, fun k hk hb hs => ?_⟩
  rw [← h.keep k hk hb hs]
  refine hg.block k (Nat.lt_of_lt_of_le hk h.below.size) ?_
  intro hv
  rcases ho.2 with ⟨e, _⟩ | ⟨g, cap, cur, e, _, hh, _⟩
  · rw [e] at hv; cases hv
  · rw [e] at hv
    simp only [Value.ownBlock, Option.some.injEq] at hv
    exact h.not_soft ⟨cur, _, _, hh, he⟩ k hk hb hs hv
end Go.Proofs.YtjdofndkdkeapaaGreatDoor
