/- The printer in memory, and the walks over the strings.Builder within it. -/
import Derived.Test.YtjdofndkdkeapaaGreatDoorProg
import Derived.Test.YtjdofndkdkeapaaGreatDoorPrt
import Derived.Test.YtjdofndkdkeapaaGreatDoorMapU
import Derived.Test.YtjdofndkdkeapaaGreatDoorSpell
import Derived.Lib.Builder
import Derived.Lib.AppendStr
import Derived.Lib.UnsafeStr
import Derived.Lib.Strings
import Derived.Deep.RegionHeld3
import Derived.Deep.QuietTactic
import Derived.BigQuiet
namespace Go.Proofs.YtjdofndkdkeapaaGreatDoor
open Go.RowKit
set_option linter.unusedSimpArgs false
set_option linter.unusedVariables false

/-- The types whose blocks a printer's call may write: bytes, marks, numbers. -/
def PTs : List TypeId := [5, 96, 3]
/-- A printer's box. -/
def PBox (w : World) (b : Nat) (u bv mv pv : Value) (d m : Nat) : Prop := w.heap[b]? = some (.cells #[u, bv, mv, pv, .int .i64 d, .map (some m)] 55 (0, 0))
/-- What each kind's way is. -/
def waysL : List (Nat × Value) := [(1, .func (.func 41) #[] #[]), (2, .func (.func 42) #[] #[]), (3, .func (.func 43) #[] #[]), (4, .func (.func 44) #[] #[]), (5, .func (.func 45) #[] #[]), (6, .func (.func 46) #[] #[]), (7, .func (.func 47) #[] #[]), (8, .func (.func 48) #[] #[]), (9, .func (.func 49) #[] #[]), (10, .func (.func 50) #[] #[]), (11, .func (.func 51) #[] #[]), (12, .func (.func 52) #[] #[]), (20, .func (.func 53) #[] #[]), (21, .func (.func 54) #[] #[]), (22, .func (.func 44) #[] #[]), (23, .func (.func 55) #[] #[]), (24, .func (.func 56) #[] #[]), (25, .func (.func 57) #[] #[]), (26, .func (.func 58) #[] #[]), (27, .func (.func 59) #[] #[]), (28, .func (.func 60) #[] #[]), (29, .func (.func 61) #[] #[])]
/-- A printer: the text so far, the number of marks, the path, the depth, its ways. -/
structure PrtSt (w : World) (B b : Nat) (u bv mv pv : Value) (s : Bytes) (nm : Nat) (path : List Int) (d m : Nat) : Prop where
  le : B ≤ b
  box : PBox w b u bv mv pv d m
  own : u = .pointer none ∨ u = .pointer (some ⟨b, 0, none⟩)
  bytes : w.ownsRow B 5 1 bv s.length (Lib.byteCells s)
  marks : ∃ ms, w.ownsRow B 96 3 mv nm ms
  path : w.ownsRow B 3 1 pv path.length (path.map (Value.int .i64))
  map : MapIs w m waysL
def Prt (w : World) (B b : Nat) (s : Bytes) (nm : Nat) (path : List Int) (d m : Nat) : Prop := ∃ u bv mv pv, PrtSt w B b u bv mv pv s nm path d m

theorem PBox.cells {w : World} {b : Nat} {u bv mv pv : Value} {d m : Nat} (h : PBox w b u bv mv pv d m) : w.cell? ⟨b, 0, none⟩ = some u ∧ w.cell? ⟨b, 1, none⟩ = some bv ∧ w.cell? ⟨b, 2, none⟩ = some mv ∧ w.cell? ⟨b, 3, none⟩ = some pv ∧ w.cell? ⟨b, 4, none⟩ = some (.int .i64 d) ∧ w.cell? ⟨b, 5, none⟩ = some (.map (some m)) := by
  have hc := fun j => cell_of_row w b j _ 55 (0, 0) h
  exact ⟨by rw [hc]; rfl, by rw [hc]; rfl, by rw [hc]; rfl, by rw [hc]; rfl, by rw [hc]; rfl, by rw [hc]; rfl⟩
theorem PBox.soft {w : World} {b : Nat} {u bv mv pv : Value} {d m : Nat} (h : PBox w b u bv mv pv d m) (j : Nat) : w.frozen? ⟨b, j, none⟩ = false := Lib.frozen_of_heap h j
theorem PBox.lt {w : World} {b : Nat} {u bv mv pv : Value} {d m : Nat} (h : PBox w b u bv mv pv d m) : b < w.heap.size := (Array.getElem?_eq_some_iff.1 h).1
/-- Another number of a block's cell, written. -/
theorem own_other {w : World} {B b : Nat} {e : TypeId} {size : Nat} {v : Value} {n : Nat} {xs : List Value} {u bv mv pv : Value} {d m : Nat} (h : w.ownsRow B e size v n xs) (hb : PBox w b u bv mv pv d m) (he : 55 ≠ e) (j : Nat) (x : Value) : (w.setCell ⟨b, j, none⟩ x).ownsRow B e size v n xs := by
  refine own_set h ?_ x
  intro hv
  rcases h.2 with ⟨e', _⟩ | ⟨g, cap, cur, e', _, hh, _⟩
  · rw [e'] at hv; cases hv
  · rw [e'] at hv
    simp only [Value.ownBlock, Option.some.injEq] at hv
    subst hv
    unfold PBox at hb
    rw [hh] at hb
    injection hb with hb
    injection hb with _ ht
    exact he ht.symm
theorem PrtSt.lt {w : World} {B b : Nat} {u bv mv pv : Value} {s : Bytes} {nm : Nat} {path : List Int} {d m : Nat} (h : PrtSt w B b u bv mv pv s nm path d m) : b < w.heap.size := h.box.lt
theorem MapIs.setCell {w : World} {m : Nat} {l : List (Nat × Value)} (h : MapIs w m l) {b : Nat} {cs : Array Value} {T : TypeId} {fr : Nat × Nat} (hb : w.heap[b]? = some (.cells cs T fr)) (j : Nat) (x : Value) : MapIs (w.setCell ⟨b, j, none⟩ x) m l := by
  obtain ⟨es, clock, hm, e⟩ := h
  refine ⟨es, clock, ?_, e⟩
  rw [Below.heap_setCell _ _ _ _ (fun e => by subst e; rw [hm] at hb; cases hb)]
  exact hm
/-- A cell of the box, written: the new box. -/
theorem PrtSt.set {w : World} {B b : Nat} {u bv mv pv : Value} {s : Bytes} {nm : Nat} {path : List Int} {d m : Nat} (h : PrtSt w B b u bv mv pv s nm path d m) (j : Nat) (x : Value) :
    (∃ ms, (w.setCell ⟨b, j, none⟩ x).ownsRow B 96 3 mv nm ms) ∧ (w.setCell ⟨b, j, none⟩ x).ownsRow B 5 1 bv s.length (Lib.byteCells s) ∧ (w.setCell ⟨b, j, none⟩ x).ownsRow B 3 1 pv path.length (path.map (Value.int .i64)) ∧ MapIs (w.setCell ⟨b, j, none⟩ x) m waysL ∧
    (w.setCell ⟨b, j, none⟩ x).heap[b]? = some (.cells (#[u, bv, mv, pv, .int .i64 d, .map (some m)].setIfInBounds j x) 55 (0, 0)) := by
  obtain ⟨ms, hms⟩ := h.marks
  have hl := h.map
  have hb := h.box
  refine ⟨⟨ms, own_other hms hb (by decide) j x⟩, own_other h.bytes hb (by decide) j x, own_other h.path hb (by decide) j x, hl.setCell hb j x, ?_⟩
  unfold PBox at hb
  simp [World.setCell, Array.getElem?_modify, hb]
theorem liesB : liesAt Tryz.prog Tryz.prog.depth 55 (6 / Tryz.prog.cellsOf 55) 0 51 1 = true := by kernel_rfl
theorem sizeB : (Tryz.prog.info? 51).map (·.size) = some 2 := by kernel_rfl
set_option maxHeartbeats 1000000 in
set_option maxRecDepth 100000 in
theorem p_copycheck {w : World} {B b : Nat} {u bv mv pv : Value} {s : Bytes} {nm : Nat} {path : List Int} {d m : Nat} (h : PrtSt w B b u bv mv pv s nm path d m) :
    Calls Tryz.prog 105 #[.pointer (some ⟨b, 0, none⟩)] w (fun e w' => e = .returned (.tuple #[]) ∧ PrtSt w' B b (.pointer (some ⟨b, 0, none⟩)) bv mv pv s nm path d m ∧ Fr PTs B b w w') := by
  obtain ⟨j, hj, hjs⟩ := Option.map_eq_some_iff.1 sizeB
  have H := Lib.hid h
  have c0 := h.box.cells.1
  have f0 := h.box.soft 0
  have hsh : w.shape? b = some (55, 6) := by
    have hb := h.box
    unfold PBox at hb
    simp [World.shape?, hb]
  rcases h.own with rfl | rfl
  · clear h
    go_enter Tryz.func105, Tryz.ntmps105
    go_wp2
    rw [Lib.run_to_unsafe w ⟨b, 0, none⟩ Tryz.underlying48 Tryz.underlying171 hj (by rw [hjs]; decide) hsh (Nat.zero_lt_succ 5)]
    simp only [Result.andThen]
    rw [Oper.upon_value]
    go_wp2
    rw [run_callFunc_extern Tryz.func117 (by kernel_rfl) (by kernel_rfl) (by kernel_rfl) (e := Extern.AbiNoEscape.same) (by kernel_rfl)]
    rw [Lib.run_noEscape]
    simp only [Result.andThen]
    rw [Oper.upon_value]
    go_wp2
    rw [Lib.run_from_unsafe w ⟨b, 0, none⟩ Tryz.underlying171 Tryz.underlying48 hj hsh liesB]
    simp only [Result.andThen]
    rw [Oper.upon_value]
    go_wp2
    go_end0
    obtain ⟨q1, q2, q3, q4, q5⟩ := H.out.set 0 (.pointer (some ⟨b, 0, none⟩))
    exact ⟨rfl, ⟨H.out.le, q5, .inr rfl, q2, q1, q3, q4⟩, (Fr.refl _ _ _ _).setBox H.out.le _ _⟩
  · clear h
    go_enter Tryz.func105, Tryz.ntmps105
    go_wp2
    rw [Lib.run_neq_ptr_same w _ Tryz.underlying48 hj]
    go_wp2
    go_end0
    exact ⟨rfl, H.out, Fr.refl _ _ _ _⟩
theorem own_blocks {w : World} {B : Nat} {e : TypeId} {size : Nat} {v : Value} {n : Nat} {xs : List Value} {B' : Nat} {e' : TypeId} {size' : Nat} {v' : Value} {n' : Nat} {xs' : List Value} (h : w.ownsRow B e size v n xs) (h' : w.ownsRow B' e' size' v' n' xs') (hne : e ≠ e') {k : Nat} (hk : v.ownBlock = some k) (hk' : v'.ownBlock = some k) : False := by
  rcases h.2 with ⟨e1, _⟩ | ⟨g, cap, cur, e1, _, hh, _⟩
  · rw [e1] at hk; cases hk
  · rcases h'.2 with ⟨e2, _⟩ | ⟨g', cap', cur', e2, _, hh', _⟩
    · rw [e2] at hk'; cases hk'
    · rw [e1] at hk
      rw [e2] at hk'
      simp only [Value.ownBlock, Option.some.injEq] at hk hk'
      rw [hk] at hh
      rw [hk', hh] at hh'
      injection hh' with hh'
      injection hh' with _ ht
      exact hne ht
/-- Another row grows: this one stands. -/
theorem own_grown {w w2 : World} {B : Nat} {e : TypeId} {size : Nat} {v : Value} {n : Nat} {xs : List Value} {B' : Nat} {e' : TypeId} {size' : Nat} {v' : Value} {n' : Nat} {xs' : List Value} (h : w.ownsRow B e size v n xs) (h' : w.ownsRow B' e' size' v' n' xs') (hne : e ≠ e') (hg : w.grownBy w2 v'.ownBlock) : w2.ownsRow B e size v n xs := by
  refine ⟨h.1, ?_⟩
  rcases h.2 with hn | ⟨g, cap, cur, hv, hb, hh, r⟩
  · exact .inl hn
  · refine .inr ⟨g, cap, cur, hv, hb, ?_, r⟩
    rw [hg.block g (Array.getElem?_eq_some_iff.1 hh).1 ?_, hh]
    intro e0
    exact own_blocks h h' hne (k := g) (by rw [hv]; rfl) e0.symm
theorem own_not_block {w : World} {B : Nat} {e : TypeId} {size : Nat} {v : Value} {n : Nat} {xs : List Value} (h : w.ownsRow B e size v n xs) {k : Nat} (hk : ¬ SoftAt [e] w k) : some k ≠ v.ownBlock := by
  intro e0
  rcases h.2 with ⟨e1, _⟩ | ⟨g, cap, cur, e1, _, hh, _⟩
  · rw [e1] at e0; cases e0
  · rw [e1] at e0
    simp only [Value.ownBlock, Option.some.injEq] at e0
    subst e0
    exact hk ⟨_, _, _, hh, by simp⟩
theorem PBox.grown {w w2 : World} {b : Nat} {u bv mv pv : Value} {d m : Nat} (hb : PBox w b u bv mv pv d m) {B : Nat} {e : TypeId} {size : Nat} {v : Value} {n : Nat} {xs : List Value} (ho : w.ownsRow B e size v n xs) (he : 55 ≠ e) (hg : w.grownBy w2 v.ownBlock) : PBox w2 b u bv mv pv d m := by
  unfold PBox at hb ⊢
  rw [hg.block b (Array.getElem?_eq_some_iff.1 hb).1 (own_not_block ho ?_), hb]
  rintro ⟨cs, T, fr, h1, h2⟩
  rw [hb] at h1
  injection h1 with h1
  injection h1 with _ ht
  simp only [List.mem_singleton] at h2
  exact he (ht.trans h2)
theorem MapIs.grown {w w2 : World} {m : Nat} {l : List (Nat × Value)} (h : MapIs w m l) {B : Nat} {e : TypeId} {size : Nat} {v : Value} {n : Nat} {xs : List Value} (ho : w.ownsRow B e size v n xs) (hg : w.grownBy w2 v.ownBlock) : MapIs w2 m l := by
  refine h.kept hg (own_not_block ho ?_)
  obtain ⟨es, clock, hb, _⟩ := h
  rintro ⟨cs, T, fr, h1, h2⟩
  rw [hb] at h1
  cases h1
/-- The world in which more lies. -/
theorem PrtSt.below {w w' : World} {B b : Nat} {u bv mv pv : Value} {s : Bytes} {nm : Nat} {path : List Int} {d m : Nat} (h : PrtSt w B b u bv mv pv s nm path d m) (hb : Below w.heap.size w w') : PrtSt w' B b u bv mv pv s nm path d m := by
  obtain ⟨ms, hms⟩ := h.marks
  refine ⟨h.le, ?_, h.own, own_below h.bytes hb (Nat.le_refl _), ⟨ms, own_below hms hb (Nat.le_refl _)⟩, own_below h.path hb (Nat.le_refl _), h.map.below hb⟩
  have hx := h.box
  unfold PBox at hx ⊢
  rw [hb.block b h.lt, hx]
theorem Prt.below {w w' : World} {B b : Nat} {s : Bytes} {nm : Nat} {path : List Int} {d m : Nat} (h : Prt w B b s nm path d m) (hb : Below w.heap.size w w') : Prt w' B b s nm path d m := by
  obtain ⟨u, bv, mv, pv, h⟩ := h
  exact ⟨u, bv, mv, pv, h.below hb⟩
theorem PrtSt.base {w : World} {B b : Nat} {u bv mv pv : Value} {s : Bytes} {nm : Nat} {path : List Int} {d m : Nat} (h : PrtSt w B b u bv mv pv s nm path d m) : B ≤ w.heap.size := Nat.le_trans h.le (Nat.le_of_lt h.lt)
theorem Prt.base {w : World} {B b : Nat} {s : Bytes} {nm : Nat} {path : List Int} {d m : Nat} (h : Prt w B b s nm path d m) : B ≤ w.heap.size := by
  obtain ⟨u, bv, mv, pv, h⟩ := h
  exact h.base
/-- The buffer, grown. -/
theorem PrtSt.put_bytes {w w2 : World} {B b : Nat} {u bv mv pv : Value} {s : Bytes} {nm : Nat} {path : List Int} {d m : Nat} (h : PrtSt w B b u bv mv pv s nm path d m) (hg : w.grownBy w2 bv.ownBlock) {v' : Value} {s' : Bytes} (ho : w2.ownsRow B 5 1 v' s'.length (Lib.byteCells s')) :
    PrtSt (w2.setCell ⟨b, 1, none⟩ v') B b u v' mv pv s' nm path d m ∧ Fr PTs B b w (w2.setCell ⟨b, 1, none⟩ v') ∧ PBox w2 b u bv mv pv d m := by
  obtain ⟨ms, hms⟩ := h.marks
  have hb2 := h.box.grown h.bytes (by decide) hg
  refine ⟨⟨h.le, ?_, h.own, own_other ho hb2 (by decide) 1 v', ⟨ms, own_other (own_grown hms h.bytes (by decide) hg) hb2 (by decide) 1 v'⟩, own_other (own_grown h.path h.bytes (by decide) hg) hb2 (by decide) 1 v', (h.map.grown h.bytes hg).setCell hb2 1 v'⟩, ((Fr.refl _ _ _ _).grown h.base h.bytes (by decide) hg).setBox h.le 1 v', hb2⟩
  have hb3 := hb2
  unfold PBox at hb3 ⊢
  simp [World.setCell, Array.getElem?_modify, hb3]
theorem PrtSt.put_marks {w w2 : World} {B b : Nat} {u bv mv pv : Value} {s : Bytes} {nm : Nat} {path : List Int} {d m : Nat} {ms : List Value} (h : PrtSt w B b u bv mv pv s nm path d m) (hms : w.ownsRow B 96 3 mv nm ms) (hg : w.grownBy w2 mv.ownBlock) {v' : Value} {nm' : Nat} {ms' : List Value} (ho : w2.ownsRow B 96 3 v' nm' ms') :
    PrtSt (w2.setCell ⟨b, 2, none⟩ v') B b u bv v' pv s nm' path d m ∧ Fr PTs B b w (w2.setCell ⟨b, 2, none⟩ v') ∧ PBox w2 b u bv mv pv d m := by
  have hb2 := h.box.grown hms (by decide) hg
  refine ⟨⟨h.le, ?_, h.own, own_other (own_grown h.bytes hms (by decide) hg) hb2 (by decide) 2 v', ⟨ms', own_other ho hb2 (by decide) 2 v'⟩, own_other (own_grown h.path hms (by decide) hg) hb2 (by decide) 2 v', (h.map.grown hms hg).setCell hb2 2 v'⟩, ((Fr.refl _ _ _ _).grown h.base hms (by decide) hg).setBox h.le 2 v', hb2⟩
  have hb3 := hb2
  unfold PBox at hb3 ⊢
  simp [World.setCell, Array.getElem?_modify, hb3]
theorem PrtSt.put_path {w w2 : World} {B b : Nat} {u bv mv pv : Value} {s : Bytes} {nm : Nat} {path : List Int} {d m : Nat} (h : PrtSt w B b u bv mv pv s nm path d m) (hg : w.grownBy w2 pv.ownBlock) {v' : Value} {path' : List Int} (ho : w2.ownsRow B 3 1 v' path'.length (path'.map (Value.int .i64))) :
    PrtSt (w2.setCell ⟨b, 3, none⟩ v') B b u bv mv v' s nm path' d m ∧ Fr PTs B b w (w2.setCell ⟨b, 3, none⟩ v') ∧ PBox w2 b u bv mv pv d m := by
  obtain ⟨ms, hms⟩ := h.marks
  have hb2 := h.box.grown h.path (by decide) hg
  refine ⟨⟨h.le, ?_, h.own, own_other (own_grown h.bytes h.path (by decide) hg) hb2 (by decide) 3 v', ⟨ms, own_other (own_grown hms h.path (by decide) hg) hb2 (by decide) 3 v'⟩, own_other ho hb2 (by decide) 3 v', (h.map.grown h.path hg).setCell hb2 3 v'⟩, ((Fr.refl _ _ _ _).grown h.base h.path (by decide) hg).setBox h.le 3 v', hb2⟩
  have hb3 := hb2
  unfold PBox at hb3 ⊢
  simp [World.setCell, Array.getElem?_modify, hb3]
theorem PrtSt.put_deep {w : World} {B b : Nat} {u bv mv pv : Value} {s : Bytes} {nm : Nat} {path : List Int} {d m : Nat} (h : PrtSt w B b u bv mv pv s nm path d m) (d' : Nat) :
    PrtSt (w.setCell ⟨b, 4, none⟩ (.int .i64 d')) B b u bv mv pv s nm path d' m ∧ Fr PTs B b w (w.setCell ⟨b, 4, none⟩ (.int .i64 d')) := by
  obtain ⟨q1, q2, q3, q4, q5⟩ := h.set 4 (.int .i64 d')
  exact ⟨⟨h.le, q5, h.own, q2, q1, q3, q4⟩, (Fr.refl _ _ _ _).setBox h.le _ _⟩
/-- The path, cut by one. -/
theorem PrtSt.cut_path {w : World} {B b : Nat} {u bv mv : Value} {A : Option Addr} {n c : Nat} {s : Bytes} {nm : Nat} {path : List Int} {i : Int} {d m : Nat} (h : PrtSt w B b u bv mv (.slice A n c) s nm (path ++ [i]) d m) :
    PrtSt (w.setCell ⟨b, 3, none⟩ (.slice A path.length c)) B b u bv mv (.slice A path.length c) s nm path d m ∧ Fr PTs B b w (w.setCell ⟨b, 3, none⟩ (.slice A path.length c)) := by
  have hp : w.ownsRow B 3 1 (.slice A path.length c) path.length (path.map (Value.int .i64)) := by
    have h0 := h.path
    refine ⟨by simp, .inr ?_⟩
    rcases h0.2 with ⟨e1, e2⟩ | ⟨g, cap, cur, hv, hb, hh, k1, k2, k3, k4⟩
    · simp at e2
    · injection hv with v1 v2 v3
      subst v1 v3
      simp only [List.length_append, List.length_singleton] at k1 k4
      refine ⟨g, c, cur, rfl, hb, hh, by omega, k2, k3, ?_⟩
      rw [Nat.mul_one] at k4
      rw [Nat.mul_one, show path.length = min path.length (path.length + 1) from by omega, ← List.take_take, k4, List.map_append, List.take_append_of_le_length (by simp)]
      exact List.take_of_length_le (by simp)
  obtain ⟨q1, q2, q3, q4, q5⟩ := h.set 3 (.slice A path.length c)
  exact ⟨⟨h.le, q5, h.own, q2, q1, own_other hp h.box (by decide) 3 _, q4⟩, (Fr.refl _ _ _ _).setBox h.le _ _⟩
end Go.Proofs.YtjdofndkdkeapaaGreatDoor
